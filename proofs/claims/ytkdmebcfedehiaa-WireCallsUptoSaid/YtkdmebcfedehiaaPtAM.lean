/- Helpers and contracts of the proofs over this seat: AskN. Each states what a function of the program answers, or is plain Lean; its conditions stand in each statement. -/
import Derived.Test.YtkdmebcfedehiaaPtAA
import Derived.Test.YtkdmebcfedehiaaPtAB
import Derived.Test.YtkdmebcfedehiaaPtAC
import Derived.Test.YtkdmebcfedehiaaPtAD
import Derived.Test.YtkdmebcfedehiaaPtAE
import Derived.Test.YtkdmebcfedehiaaPtAF
import Derived.Test.YtkdmebcfedehiaaPtAG
import Derived.Test.YtkdmebcfedehiaaPtAH
import Derived.Test.YtkdmebcfedehiaaPtAI
import Derived.Test.YtkdmebcfedehiaaPtAJ
import Derived.Test.YtkdmebcfedehiaaPtAK
import Derived.Test.YtkdmebcfedehiaaPtAL
set_option linter.unusedVariables false
/- strongroomlaw20.ask: every call. Printed by gens/wireask.py. -/
namespace Go.Proofs.Ytkdmebcfedehiaa
open Go.RowKit
def oLAskN0 : Oper := { dst := none, op := Op.store 52 (Operand.tmp 151) (Operand.tmp 149), type := 0, pos := "law.go:76", after := #[{ on := 10, ground := Ground.data }, { on := 8, ground := Ground.data }, { on := 8, ground := Ground.chain }, { on := 0, ground := Ground.phase }, { on := 1, ground := Ground.phase }, { on := 2, ground := Ground.phase }, { on := 3, ground := Ground.phase }, { on := 4, ground := Ground.phase }, { on := 5, ground := Ground.phase }, { on := 6, ground := Ground.phase }, { on := 7, ground := Ground.phase }, { on := 8, ground := Ground.phase }], guard := none }
def oLAskN1 : Oper := { dst := none, op := Op.store 52 (Operand.tmp 162) (Operand.tmp 160), type := 0, pos := "law.go:77", after := #[{ on := 10, ground := Ground.data }, { on := 8, ground := Ground.data }, { on := 8, ground := Ground.chain }, { on := 0, ground := Ground.phase }, { on := 1, ground := Ground.phase }, { on := 2, ground := Ground.phase }, { on := 3, ground := Ground.phase }, { on := 4, ground := Ground.phase }, { on := 5, ground := Ground.phase }, { on := 6, ground := Ground.phase }, { on := 7, ground := Ground.phase }, { on := 8, ground := Ground.phase }], guard := none }
def oLAskN2 : Oper := { dst := none, op := Op.store 52 (Operand.tmp 237) (Operand.tmp 235), type := 0, pos := "law.go:88", after := #[{ on := 10, ground := Ground.data }, { on := 8, ground := Ground.data }, { on := 8, ground := Ground.chain }, { on := 0, ground := Ground.phase }, { on := 1, ground := Ground.phase }, { on := 2, ground := Ground.phase }, { on := 3, ground := Ground.phase }, { on := 4, ground := Ground.phase }, { on := 5, ground := Ground.phase }, { on := 6, ground := Ground.phase }, { on := 7, ground := Ground.phase }, { on := 8, ground := Ground.phase }], guard := none }
def oLAskN3 : Oper := { dst := none, op := Op.store 52 (Operand.tmp 248) (Operand.tmp 246), type := 0, pos := "law.go:89", after := #[{ on := 10, ground := Ground.data }, { on := 8, ground := Ground.data }, { on := 8, ground := Ground.chain }, { on := 0, ground := Ground.phase }, { on := 1, ground := Ground.phase }, { on := 2, ground := Ground.phase }, { on := 3, ground := Ground.phase }, { on := 4, ground := Ground.phase }, { on := 5, ground := Ground.phase }, { on := 6, ground := Ground.phase }, { on := 7, ground := Ground.phase }, { on := 8, ground := Ground.phase }], guard := none }
def oLAskN4 : Oper := { dst := none, op := Op.store 53 (Operand.tmp 259) (Operand.tmp 257), type := 0, pos := "law.go:90", after := #[{ on := 10, ground := Ground.data }, { on := 8, ground := Ground.data }, { on := 8, ground := Ground.chain }, { on := 0, ground := Ground.phase }, { on := 1, ground := Ground.phase }, { on := 2, ground := Ground.phase }, { on := 3, ground := Ground.phase }, { on := 4, ground := Ground.phase }, { on := 5, ground := Ground.phase }, { on := 6, ground := Ground.phase }, { on := 7, ground := Ground.phase }, { on := 8, ground := Ground.phase }], guard := none }
def oLAskN5 : Oper := { dst := none, op := Op.store 53 (Operand.tmp 270) (Operand.tmp 268), type := 0, pos := "law.go:91", after := #[{ on := 10, ground := Ground.data }, { on := 8, ground := Ground.data }, { on := 8, ground := Ground.chain }, { on := 0, ground := Ground.phase }, { on := 1, ground := Ground.phase }, { on := 2, ground := Ground.phase }, { on := 3, ground := Ground.phase }, { on := 4, ground := Ground.phase }, { on := 5, ground := Ground.phase }, { on := 6, ground := Ground.phase }, { on := 7, ground := Ground.phase }, { on := 8, ground := Ground.phase }], guard := none }
def oLAskN6 : Oper := { dst := some 12, op := Op.assign (Operand.tmp 89), type := 4, pos := "law.go:94", after := #[{ on := 8, ground := Ground.data }, { on := 7, ground := Ground.chain }, { on := 0, ground := Ground.phase }, { on := 1, ground := Ground.phase }, { on := 2, ground := Ground.phase }, { on := 3, ground := Ground.phase }, { on := 4, ground := Ground.phase }, { on := 5, ground := Ground.phase }, { on := 6, ground := Ground.phase }, { on := 7, ground := Ground.phase }, { on := 8, ground := Ground.phase }], guard := none }

set_option maxRecDepth 100000 in
set_option maxHeartbeats 40000000 in
theorem ask_n (bk base : Nat) (bs : List (List UInt8)) (is : List (List Int)) (call : Int) (q : Rq) (aq : Option Addr) (nq cq : Nat) (K : Int) (k : Nat) (an : Option Addr) (n cn : Nat) (ab : Option Addr) (m cb : Nat) (ns : List Int) (bt : List UInt8) (ad : Option Addr) (nd cd : Nat) (ld : List UInt8) (w : World)
    (hB : Book w bk base bs is) (hbk : bk < base) (hbw : base ≤ w.heap.size) (hbs : bs.length ≤ 4000000) (his : is.length ≤ 4000000)
    (hx : q.ix.length = 16) (hkq : q.kind < 256) (hok : LeaseOk q.who q.till) (hq : ∀ W, Ch (fun x => bk ≤ x) w W → BLies W aq q.bytes) (hnq : q.bytes.length = nq) (hnq1 : nq ≤ 2000000)
    (hK : K = (k : Int)) (hk : k < 256) (hns : ∀ W, Ch (fun x => bk ≤ x) w W → Lies W an (IV ns)) (hbt : ∀ W, Ch (fun x => bk ≤ x) w W → BLies W ab bt) (hn : ns.length = n) (hm : bt.length = m) (hn1 : n ≤ 2000000) (hm1 : m ≤ 2000000)
    (hd : ∀ W, Ch (fun x => bk ≤ x) w W → BLies W ad ld) (hnd : ld.length = nd) (hnd1 : nd ≤ 2000000) (hcd : nd ≤ cd) :
    Calls Try.prog 17 #[.pointer (some ⟨bk, 0, none⟩), .agg (opC call q (.slice aq nq cq) K (.slice an n cn) (.slice ab m cb) (.slice ad nd cd))] w fun e w' => AskP w bk base bs is e w' := by
  obtain ⟨ir, zr, hir, hirz, hirs, hz⟩ := info_req
  subst hz
  obtain ⟨ip, zp, hip, hipz, hips, hz⟩ := info_rep
  subst hz
  obtain ⟨a0, nn, c0, L0l, a1, c1, L1l, a2, mm, c2, M0l, a3, c3, M1l, k1, k2, k3, k4, k5, k6, k7⟩ := hB
  have hnn : nn ≤ 4000000 := by have h1 := k2.len; have h2 := SOwn.len k2.outer; omega
  have hmm : mm ≤ 4000000 := by have h1 := k4.len; have h2 := Ints.SOwn.len k4.outer; omega
  have HNL := Lib.hid (show nn = bs.length ∧ mm = is.length from ⟨by have h1 := k2.len; have h2 := SOwn.len k2.outer; omega, by have h1 := k4.len; have h2 := Ints.SOwn.len k4.outer; omega⟩)
  have RB := Lib.hid k1
  have L0 := Lib.hid k2
  have L1 := Lib.hid k3
  have M0 := Lib.hid k4
  have M1 := Lib.hid k5
  have ND := Lib.hid k6
  have NI := Lib.hid k7
  have HX := Lib.hid hx
  have HOK := Lib.hid hok
  have HAQ := Lib.hid hq
  have HNQ := Lib.hid hnq
  have HNS := Lib.hid hns
  have HBT := Lib.hid hbt
  have HN := Lib.hid hn
  have HM := Lib.hid hm
  have HD := Lib.hid hd
  have HND := Lib.hid hnd
  have HBW := Lib.hid hbw
  have HBK := Lib.hid hbk
  have HKK := Lib.hid hK
  have HKB := Lib.hid hk
  have HKQ := Lib.hid hkq
  have HCD := Lib.hid hcd
  have HC := Lib.hid (Ch.refl (fun x => bk ≤ x) w)
  clear k1 k2 k3 k4 k5 k6 k7 hx hok hq hnq hns hbt hn hm hd hnd hK hk hkq hbs his hbk hbw hcd
  go_enter Try.func17, Try.ntmps17
  go_upto_region 1 with (refine wpList_boxed rfl rfl (opC call q (.slice aq nq cq) K (.slice an n cn) (.slice ab m cb) (.slice ad nd cd)) rfl ?_; intro wb hs g hr; have GB := Lib.hid g; have RO := Lib.hid (show Row wb w.heap.size 59 (opC call q (.slice aq nq cq) K (.slice an n cn) (.slice ab m cb) (.slice ad nd cd)) from hr); clear hs g hr)
  have g := GB.out
  replace RB := Lib.hid (RB.out.grown g)
  replace L0 := Lib.hid (L0.out.grown g)
  replace L1 := Lib.hid (L1.out.grown g)
  replace M0 := Lib.hid (M0.out.grown g)
  replace M1 := Lib.hid (M1.out.grown g)
  replace HC := Lib.hid (HC.out.then g)
  obtain ⟨bo, hbo⟩ : ∃ bo, bo = w.heap.size := ⟨_, rfl⟩
  rw [← hbo] at RO ⊢
  have HBO := Lib.hid (show bk < bo ∧ bo < wb.heap.size from ⟨by have h1 := HBW.out; have h2 := HBK.out; omega, RO.out.lt⟩)
  clear hbo g
  obtain ⟨lo, hlo⟩ : ∃ lo, lo = wb.heap.size := ⟨_, rfl⟩
  have HLO := Lib.hid hlo
  clear hlo
  have OFL0 := Lib.hid (LIs.offs L0.out (X := fun x => lo ≤ x) (fun _ h => by have := HLO.out; omega))
  have OFL1 := Lib.hid (LIs.offs L1.out (X := fun x => lo ≤ x) (fun _ h => by have := HLO.out; omega))
  have OFM0 := Lib.hid (LIsI.offs M0.out (X := fun x => lo ≤ x) (fun _ h => by have := HLO.out; omega))
  have OFM1 := Lib.hid (LIsI.offs M1.out (X := fun x => lo ≤ x) (fun _ h => by have := HLO.out; omega))
  have x := op_byt RO.out HX.out
  go_wp2_with fail
  refine (lent_n aq cq nq q.bytes _ (HAQ.out _ HC.out) HNQ.out (by omega)).mono ?_
  rintro e wQ ⟨gQ, capQ, rfl, ho, g⟩
  have hccQ : nq + 70 ≤ capQ := (Own.cap ho).1
  have YQ : Hid (wb.heap.size ≤ gQ ∧ gQ < wQ.heap.size) := Lib.hid (by obtain ⟨g', e, h1, h2⟩ := Own.block ho (by omega); injection e with e; injection e with e; subst e; exact ⟨h1, h2⟩)
  have ZQ := Lib.hid g.size
  clear x
  replace RB := Lib.hid (RB.out.grown g)
  replace L0 := Lib.hid (L0.out.grown g)
  replace L1 := Lib.hid (L1.out.grown g)
  replace M0 := Lib.hid (M0.out.grown g)
  replace M1 := Lib.hid (M1.out.grown g)
  replace RO := Lib.hid (RO.out.grown g)
  replace HC := Lib.hid (HC.out.then g)
  have OQ := Lib.hid ho
  clear ho g
  have x := op_cell RO.out HX.out 2
  simp at x
  go_wp2_with fail
  refine (lent_n ab cb m bt _ (HBT.out _ HC.out) HM.out (by omega)).mono ?_
  rintro e wR ⟨gR, capR, rfl, ho, g⟩
  have hccR : m + 70 ≤ capR := (Own.cap ho).1
  have YR : Hid (wQ.heap.size ≤ gR ∧ gR < wR.heap.size) := Lib.hid (by obtain ⟨g', e, h1, h2⟩ := Own.block ho (by omega); injection e with e; injection e with e; subst e; exact ⟨h1, h2⟩)
  have ZR := Lib.hid g.size
  clear x
  replace RB := Lib.hid (RB.out.grown g)
  replace L0 := Lib.hid (L0.out.grown g)
  replace L1 := Lib.hid (L1.out.grown g)
  replace M0 := Lib.hid (M0.out.grown g)
  replace M1 := Lib.hid (M1.out.grown g)
  replace RO := Lib.hid (RO.out.grown g)
  replace OQ := Lib.hid (BOwn.grown OQ.out g)
  replace HC := Lib.hid (HC.out.then g)
  have OR := Lib.hid ho
  clear ho g
  have x := op_cell RO.out HX.out 1
  simp at x
  go_wp2_with fail
  refine (Ints.lent_n an cn n ns _ (Ints.ILies.of (HNS.out _ HC.out)) HN.out (by omega)).mono ?_
  rintro e wN ⟨gN, capN, rfl, ho, g⟩
  have hccN : n + 70 ≤ capN := (Own.cap ho).1
  have YN : Hid (wR.heap.size ≤ gN ∧ gN < wN.heap.size) := Lib.hid (by obtain ⟨g', e, h1, h2⟩ := Own.block ho (by omega); injection e with e; injection e with e; subst e; exact ⟨h1, h2⟩)
  have ZN := Lib.hid g.size
  clear x
  replace RB := Lib.hid (RB.out.grown g)
  replace L0 := Lib.hid (L0.out.grown g)
  replace L1 := Lib.hid (L1.out.grown g)
  replace M0 := Lib.hid (M0.out.grown g)
  replace M1 := Lib.hid (M1.out.grown g)
  replace RO := Lib.hid (RO.out.grown g)
  replace OQ := Lib.hid (BOwn.grown OQ.out g)
  replace OR := Lib.hid (BOwn.grown OR.out g)
  replace HC := Lib.hid (HC.out.then g)
  have ON := Lib.hid ho
  clear ho g
  have x := op_cell RO.out HX.out 3
  simp at x
  go_wp2_with fail
  refine (lent_n ad cd nd ld _ (HD.out _ HC.out) HND.out (by omega)).mono ?_
  rintro e wD ⟨gD, capD, rfl, ho, g⟩
  have hccD : nd + 70 ≤ capD := (Own.cap ho).1
  have YD : Hid (wN.heap.size ≤ gD ∧ gD < wD.heap.size) := Lib.hid (by obtain ⟨g', e, h1, h2⟩ := Own.block ho (by omega); injection e with e; injection e with e; subst e; exact ⟨h1, h2⟩)
  have ZD := Lib.hid g.size
  clear x
  replace RB := Lib.hid (RB.out.grown g)
  replace L0 := Lib.hid (L0.out.grown g)
  replace L1 := Lib.hid (L1.out.grown g)
  replace M0 := Lib.hid (M0.out.grown g)
  replace M1 := Lib.hid (M1.out.grown g)
  replace RO := Lib.hid (RO.out.grown g)
  replace OQ := Lib.hid (BOwn.grown OQ.out g)
  replace OR := Lib.hid (BOwn.grown OR.out g)
  replace ON := Lib.hid (Own.grownNone ON.out g)
  replace HC := Lib.hid (HC.out.then g)
  have OD := Lib.hid ho
  clear ho g
  obtain ⟨hi, hhi⟩ : ∃ hi, hi = wD.heap.size := ⟨_, rfl⟩
  have HHI := Lib.hid hhi
  clear hhi
  have HYY := Lib.hid (show (lo ≤ gQ ∧ gQ < hi) ∧ (lo ≤ gR ∧ gR < hi) ∧ (lo ≤ gN ∧ gN < hi) ∧ (lo ≤ gD ∧ gD < hi) ∧ gQ < gR ∧ gR < gN ∧ gN < gD from by have h1 := YQ.out; have h2 := YR.out; have h3 := YN.out; have h4 := YD.out; have h5 := HLO.out; have h6 := HHI.out; have z1 := ZQ.out; have z2 := ZR.out; have z3 := ZN.out; have z4 := ZD.out; omega)
  replace OFL0 := Lib.hid (show Offs (fun x => lo ≤ x ∧ x < hi) _ _ _ from ⟨fun x h k => OFL0.out.1 x h k.1, fun i hi x h k => OFL0.out.2 i hi x h k.1⟩)
  replace OFL1 := Lib.hid (show Offs (fun x => lo ≤ x ∧ x < hi) _ _ _ from ⟨fun x h k => OFL1.out.1 x h k.1, fun i hi x h k => OFL1.out.2 i hi x h k.1⟩)
  replace OFM0 := Lib.hid (show Offs (fun x => lo ≤ x ∧ x < hi) _ _ _ from ⟨fun x h k => OFM0.out.1 x h k.1, fun i hi x h k => OFM0.out.2 i hi x h k.1⟩)
  replace OFM1 := Lib.hid (show Offs (fun x => lo ≤ x ∧ x < hi) _ _ _ from ⟨fun x h k => OFM1.out.1 x h k.1, fun i hi x h k => OFM1.out.2 i hi x h k.1⟩)
  go_upto_region 6 with (first
    | (refine wpList_load_mid rfl 43 _ rfl bo 1 rfl _ _ (op_req RO.out HX.out) Try.underlying43 rfl (by rw [size_req, show (rqC q (.slice aq nq cq)).toList.length = 23 by rw [Array.length_toList]; exact rq_len q _ HX.out]) ?_)
    | (refine wpList_fresh rfl rfl rfl rfl rfl hir hirz hirs (rqC q (.slice aq nq cq)) rfl rfl (by rw [rq_len q _ HX.out]; rfl) (rq_one _ _ _ _) ?_; intro v1 hs g hr; have GV1 := Lib.hid g; have RQ1 := Lib.hid (show Row v1 wD.heap.size 43 (rqC q (.slice aq nq cq)) from hr); clear hs g hr))
  have g := GV1.out
  replace RB := Lib.hid (RB.out.grown g)
  replace L0 := Lib.hid (L0.out.grown g)
  replace L1 := Lib.hid (L1.out.grown g)
  replace M0 := Lib.hid (M0.out.grown g)
  replace M1 := Lib.hid (M1.out.grown g)
  replace RO := Lib.hid (RO.out.grown g)
  replace OQ := Lib.hid (BOwn.grown OQ.out g)
  replace OR := Lib.hid (BOwn.grown OR.out g)
  replace ON := Lib.hid (Own.grownNone ON.out g)
  replace OD := Lib.hid (BOwn.grown OD.out g)
  replace HC := Lib.hid (HC.out.then g)
  obtain ⟨bq, hbq⟩ : ∃ bq, bq = wD.heap.size := ⟨_, rfl⟩
  rw [← hbq] at RQ1 ⊢
  have HBQ := Lib.hid (show hi ≤ bq ∧ bq < v1.heap.size ∧ bo < bq from ⟨by have := HHI.out; omega, RQ1.out.lt, by have h1 := HBO.out; have h2 := YQ.out; have z1 := ZQ.out; have z2 := ZR.out; have z3 := ZN.out; have z4 := ZD.out; omega⟩)
  clear hbq g GV1
  have x := op_byt RO.out HX.out
  have d := rq_cell RQ1.out HX.out 5
  have f := Row.frozen RQ1.out 22
  simp at d
  go_upto_region 7 with (refine wpList_valp rfl (run_pre_opA _ _ (.tmp 51) (.tmp 55) rfl (some ⟨gQ, 0, none⟩) (nq + 70) capQ nq rfl rfl (by omega)) ?_)
  obtain ⟨v2, hv⟩ : ∃ v2, v2 = v1.setCell ⟨bq, 22, none⟩ (.slice (some ⟨gQ, 0, none⟩) nq capQ) := ⟨_, rfl⟩
  rw [← hv]
  have g : v1.grownBy v2 (some bq) := hv ▸ grownBy_setCell _ _ _ _
  have RQ2 := Lib.hid (show Row v2 bq 43 (rqC q (.slice (some ⟨gQ, 0, none⟩) nq capQ)) from by
    have h := Row.setc RQ1.out 22 (.slice (some ⟨gQ, 0, none⟩) nq capQ)
    rw [show 22 = 17 + 5 from rfl, rq_set _ _ HX.out] at h
    rw [hv]
    exact h)
  clear hv x d f
  replace RB := Lib.hid (RB.out.grownNe g (by have h1 := HBO.out; have h2 := HBQ.out; omega))
  replace L0 := Lib.hid (rowL_lis L0.out RQ1.out g (by decide) (by decide))
  replace L1 := Lib.hid (rowL_lis L1.out RQ1.out g (by decide) (by decide))
  replace M0 := Lib.hid (rowL_lisI M0.out RQ1.out g (by decide) (by decide))
  replace M1 := Lib.hid (rowL_lisI M1.out RQ1.out g (by decide) (by decide))
  replace RO := Lib.hid (RO.out.grownNe g (by have h1 := HBO.out; have h2 := HBQ.out; omega))
  replace OQ := Lib.hid (show BOwn _ _ _ _ _ _ from Own.grownNe OQ.out g (fun g' h0 e e2 => by injection e2 with e2; subst e2; exact row_in RQ1.out OQ.out (by decide) ⟨h0, e⟩))
  replace OR := Lib.hid (show BOwn _ _ _ _ _ _ from Own.grownNe OR.out g (fun g' h0 e e2 => by injection e2 with e2; subst e2; exact row_in RQ1.out OR.out (by decide) ⟨h0, e⟩))
  replace ON := Lib.hid (Own.grownNe ON.out g (fun g' h0 e e2 => by injection e2 with e2; subst e2; exact row_in RQ1.out ON.out (by decide) ⟨h0, e⟩))
  replace OD := Lib.hid (show BOwn _ _ _ _ _ _ from Own.grownNe OD.out g (fun g' h0 e e2 => by injection e2 with e2; subst e2; exact row_in RQ1.out OD.out (by decide) ⟨h0, e⟩))
  replace HC := Lib.hid (HC.out.trans (Ch.ofSome (S := fun x => bk ≤ x) g (by have h1 := HBO.out; have h2 := HBQ.out; omega)) (fun _ _ h => h))
  have GS2 := Lib.hid g.size
  clear g RQ1
  go_upto_region 8 with (first
    | (refine wpList_load_mid rfl 26 _ rfl bo 24 rfl _ _ (op_rep RO.out HX.out) Try.underlying26 rfl (by rw [size_rep]; rfl) ?_)
    | (refine wpList_fresh rfl rfl rfl rfl rfl hip hipz hips #[.int .u8 K, .slice an n cn, .slice ab m cb] rfl rfl rfl (by simp [Value.oneCell']) ?_; intro v3 hs g hr; have GV3 := Lib.hid g; have RR1 := Lib.hid (show Row v3 v2.heap.size 26 #[.int .u8 K, .slice an n cn, .slice ab m cb] from hr); clear hs g hr))
  have g := GV3.out
  replace RB := Lib.hid (RB.out.grown g)
  replace L0 := Lib.hid (L0.out.grown g)
  replace L1 := Lib.hid (L1.out.grown g)
  replace M0 := Lib.hid (M0.out.grown g)
  replace M1 := Lib.hid (M1.out.grown g)
  replace RO := Lib.hid (RO.out.grown g)
  replace OQ := Lib.hid (BOwn.grown OQ.out g)
  replace OR := Lib.hid (BOwn.grown OR.out g)
  replace ON := Lib.hid (Own.grownNone ON.out g)
  replace OD := Lib.hid (BOwn.grown OD.out g)
  replace RQ2 := Lib.hid (RQ2.out.grown g)
  replace HC := Lib.hid (HC.out.then g)
  obtain ⟨br, hbr⟩ : ∃ br, br = v2.heap.size := ⟨_, rfl⟩
  rw [← hbr] at RR1 ⊢
  have HBR := Lib.hid (show bq < br ∧ br < v3.heap.size from ⟨by have h1 := RQ2.out.lt; have h2 := GV3.out.size; rw [hbr]; have h3 := HBQ.out; exact Nat.lt_of_lt_of_le h3.2.1 GS2.out, RR1.out.lt⟩)
  clear hbr g GV3
  have x := op_cell RO.out HX.out 2
  have d := Row.cell RR1.out 2
  have f := Row.frozen RR1.out 2
  simp at x d
  go_upto_region 9 with (refine wpList_valp rfl (run_pre_opA _ _ (.tmp 60) (.tmp 64) rfl (some ⟨gR, 0, none⟩) (m + 70) capR m rfl rfl (by omega)) ?_)
  obtain ⟨v4, hv⟩ : ∃ v4, v4 = v3.setCell ⟨br, 2, none⟩ (.slice (some ⟨gR, 0, none⟩) m capR) := ⟨_, rfl⟩
  rw [← hv]
  have g : v3.grownBy v4 (some br) := hv ▸ grownBy_setCell _ _ _ _
  have RR2 := Lib.hid (show Row v4 br 26 #[.int .u8 K, .slice an n cn, .slice (some ⟨gR, 0, none⟩) m capR] from hv ▸ Row.setc RR1.out 2 _)
  clear hv x d f
  replace RB := Lib.hid (RB.out.grownNe g (by have h1 := HBO.out; have h2 := HBQ.out; have h3 := HBR.out; omega))
  replace L0 := Lib.hid (rowL_lis L0.out RR1.out g (by decide) (by decide))
  replace L1 := Lib.hid (rowL_lis L1.out RR1.out g (by decide) (by decide))
  replace M0 := Lib.hid (rowL_lisI M0.out RR1.out g (by decide) (by decide))
  replace M1 := Lib.hid (rowL_lisI M1.out RR1.out g (by decide) (by decide))
  replace RO := Lib.hid (RO.out.grownNe g (by have h1 := HBO.out; have h2 := HBQ.out; have h3 := HBR.out; omega))
  replace OQ := Lib.hid (show BOwn _ _ _ _ _ _ from Own.grownNe OQ.out g (fun g' h0 e e2 => by injection e2 with e2; subst e2; exact row_in RR1.out OQ.out (by decide) ⟨h0, e⟩))
  replace OR := Lib.hid (show BOwn _ _ _ _ _ _ from Own.grownNe OR.out g (fun g' h0 e e2 => by injection e2 with e2; subst e2; exact row_in RR1.out OR.out (by decide) ⟨h0, e⟩))
  replace ON := Lib.hid (Own.grownNe ON.out g (fun g' h0 e e2 => by injection e2 with e2; subst e2; exact row_in RR1.out ON.out (by decide) ⟨h0, e⟩))
  replace OD := Lib.hid (show BOwn _ _ _ _ _ _ from Own.grownNe OD.out g (fun g' h0 e e2 => by injection e2 with e2; subst e2; exact row_in RR1.out OD.out (by decide) ⟨h0, e⟩))
  replace RQ2 := Lib.hid (RQ2.out.grownNe g (by have h1 := HBO.out; have h2 := HBQ.out; have h3 := HBR.out; omega))
  replace HC := Lib.hid (HC.out.trans (Ch.ofSome (S := fun x => bk ≤ x) g (by have h1 := HBO.out; have h2 := HBQ.out; have h3 := HBR.out; omega)) (fun _ _ h => h))
  clear g RR1
  have x := op_cell RO.out HX.out 1
  have d := Row.cell RR2.out 1
  have f := Row.frozen RR2.out 1
  simp at x d
  go_upto_region 10 with (refine wpList_valp rfl (run_pre_opI _ _ (.tmp 67) (.tmp 71) rfl (some ⟨gN, 0, none⟩) (n + 70) capN n rfl rfl (by omega)) ?_)
  obtain ⟨v5, hv⟩ : ∃ v5, v5 = v4.setCell ⟨br, 1, none⟩ (.slice (some ⟨gN, 0, none⟩) n capN) := ⟨_, rfl⟩
  rw [← hv]
  have g : v4.grownBy v5 (some br) := hv ▸ grownBy_setCell _ _ _ _
  have RR3 := Lib.hid (show Row v5 br 26 #[.int .u8 K, .slice (some ⟨gN, 0, none⟩) n capN, .slice (some ⟨gR, 0, none⟩) m capR] from hv ▸ Row.setc RR2.out 1 _)
  clear hv x d f
  replace RB := Lib.hid (RB.out.grownNe g (by have h1 := HBO.out; have h2 := HBQ.out; have h3 := HBR.out; omega))
  replace L0 := Lib.hid (rowL_lis L0.out RR2.out g (by decide) (by decide))
  replace L1 := Lib.hid (rowL_lis L1.out RR2.out g (by decide) (by decide))
  replace M0 := Lib.hid (rowL_lisI M0.out RR2.out g (by decide) (by decide))
  replace M1 := Lib.hid (rowL_lisI M1.out RR2.out g (by decide) (by decide))
  replace RO := Lib.hid (RO.out.grownNe g (by have h1 := HBO.out; have h2 := HBQ.out; have h3 := HBR.out; omega))
  replace OQ := Lib.hid (show BOwn _ _ _ _ _ _ from Own.grownNe OQ.out g (fun g' h0 e e2 => by injection e2 with e2; subst e2; exact row_in RR2.out OQ.out (by decide) ⟨h0, e⟩))
  replace OR := Lib.hid (show BOwn _ _ _ _ _ _ from Own.grownNe OR.out g (fun g' h0 e e2 => by injection e2 with e2; subst e2; exact row_in RR2.out OR.out (by decide) ⟨h0, e⟩))
  replace ON := Lib.hid (Own.grownNe ON.out g (fun g' h0 e e2 => by injection e2 with e2; subst e2; exact row_in RR2.out ON.out (by decide) ⟨h0, e⟩))
  replace OD := Lib.hid (show BOwn _ _ _ _ _ _ from Own.grownNe OD.out g (fun g' h0 e e2 => by injection e2 with e2; subst e2; exact row_in RR2.out OD.out (by decide) ⟨h0, e⟩))
  replace RQ2 := Lib.hid (RQ2.out.grownNe g (by have h1 := HBO.out; have h2 := HBQ.out; have h3 := HBR.out; omega))
  replace HC := Lib.hid (HC.out.trans (Ch.ofSome (S := fun x => bk ≤ x) g (by have h1 := HBO.out; have h2 := HBQ.out; have h3 := HBR.out; omega)) (fun _ _ h => h))
  clear g RR2
  have x := op_cell RO.out HX.out 3
  simp at x
  go_upto_region 11 with (refine wpList_valp rfl (run_pre_opA _ _ (.tmp 74) (.tmp 77) rfl (some ⟨gD, 0, none⟩) (nd + 70) capD nd rfl rfl (by omega)) ?_)
  clear x
  have HIV := Lib.hid (show hi ≤ v5.heap.size ∧ base ≤ v5.heap.size from ⟨by have h1 := RR3.out.lt; have h2 := HBR.out; have h3 := HBQ.out; omega, Nat.le_trans HBW.out HC.out.size⟩)
  have LQ := Lib.hid (fun (W : World) (h : BOwn W wb.heap.size (some ⟨gQ, 0, none⟩) (nq + 70) capQ (lent q.bytes)) => (show BLies W (some ⟨gQ, 0, none⟩) q.bytes from by have h := (BOwn.lies h).take nq; rwa [lent_take _ _ HNQ.out] at h))
  have LR := Lib.hid (fun (W : World) (b : Nat) (h : BOwn W b (some ⟨gR, 0, none⟩) (m + 70) capR (lent bt)) => (show BLies W (some ⟨gR, 0, none⟩) bt from by have h := (BOwn.lies h).take m; rwa [lent_take _ _ HM.out] at h))
  have LD := Lib.hid (fun (W : World) (b : Nat) (h : BOwn W b (some ⟨gD, 0, none⟩) (nd + 70) capD (lent ld)) => (show BLies W (some ⟨gD, 0, none⟩) ld from by have h := (BOwn.lies h).take nd; rwa [lent_take _ _ HND.out] at h))
  have LN := Lib.hid (fun (W : World) (b : Nat) (h : Ints.IOw W b (some ⟨gN, 0, none⟩) (n + 70) capN (Ints.lent ns)) => (show Lies W (some ⟨gN, 0, none⟩) (IV ns) from by have h := Ints.ILies.lies (ints_take (Ints.IOw.lies h) n); rwa [Ints.lent_take _ _ HN.out] at h))
  go_upto_region 12 with fail
  have x := op_call RO.out
  by_cases hcall : call = 0
  · have e0 : (call == 0) = true := by rw [beq_iff_eq]; omega
    have e1 : (call == 1) = false := by rw [beq_eq_false_iff_ne]; omega
    have e2 : (call == 2) = false := by rw [beq_eq_false_iff_ne]; omega
    have e3 : (call == 3) = false := by rw [beq_eq_false_iff_ne]; omega
    have HSO := Lib.hid (show bk < lo ∧ lo ≤ wQ.heap.size ∧ lo ≤ wR.heap.size ∧ lo ≤ wN.heap.size ∧ lo ≤ wb.heap.size from by have h1 := HBO.out; have h2 := HLO.out; have z1 := ZQ.out; have z2 := ZR.out; have z3 := ZN.out; omega)
    have HSV := Lib.hid (Nat.le_refl v5.heap.size)
    obtain ⟨E, hE⟩ : ∃ E, E = putQE q := ⟨_, rfl⟩
    obtain ⟨PC, hPC⟩ : ∃ PC, PC = putQL q := ⟨_, rfl⟩
    have HPL := Lib.hid (show PC.length ≤ 50000000 by rw [hPC]; exact putQL_len q HX.out nq HNQ.out (by omega))
    have hEE : (E == E) = true := by rw [beq_iff_eq]
    have HE := Lib.hid hE
    have HPC := Lib.hid hPC
    clear hE hPC hcall
    go_upto_region 15 with fail
    have L0p := Lib.hid L0.out
    go_wp2_with (refine wpList_load_row rfl 43 _ rfl bq rfl 43 (rqC q (.slice (some ⟨gQ, 0, none⟩) nq capQ)) (0, 0) _ RQ2.out Try.underlying43 rfl (by rw [size_req]; exact congrArg some (rq_len (q) _ HX.out).symm) ?_)
    refine (putReq_n q (some ⟨gQ, 0, none⟩) nq capQ v5 HX.out HKQ.out (LQ.out _ OQ.out) HNQ.out HOK.out (by unfold maxLen; omega)).mono ?_
    rintro e z1 ⟨ap, np, cp, rfl, ho, g⟩
    rw [← HE.out]
    rw [← HPC.out] at ho
    clear x
    replace RB := Lib.hid (RB.out.grown g)
    replace L0 := Lib.hid (L0.out.grown g)
    replace L1 := Lib.hid (L1.out.grown g)
    replace M0 := Lib.hid (M0.out.grown g)
    replace M1 := Lib.hid (M1.out.grown g)
    replace RO := Lib.hid (RO.out.grown g)
    replace OQ := Lib.hid (BOwn.grown OQ.out g)
    replace OR := Lib.hid (BOwn.grown OR.out g)
    replace ON := Lib.hid (Own.grownNone ON.out g)
    replace OD := Lib.hid (BOwn.grown OD.out g)
    replace RQ2 := Lib.hid (RQ2.out.grown g)
    replace RR3 := Lib.hid (RR3.out.grown g)
    replace HC := Lib.hid (HC.out.then g)
    have P0 := Lib.hid ho
    have GZ1 := Lib.hid (show v5.heap.size ≤ z1.heap.size from g.size)
    clear ho g
    have L1p := Lib.hid L1.out
    go_wp2_with (refine wpList_load_mid rfl 43 _ rfl bo 1 rfl _ _ (op_req RO.out HX.out) Try.underlying43 rfl (by rw [size_req, show (rqC q (.slice aq nq cq)).toList.length = 23 by rw [Array.length_toList]; exact rq_len q _ HX.out]) ?_)
    refine (refPutQ_n q aq nq cq z1 HX.out HKQ.out (HAQ.out _ HC.out) HNQ.out HOK.out (by unfold maxLen; omega)).mono ?_
    rintro e z2 ⟨ar, nr, cr, rfl, ho, g⟩
    rw [← HE.out]
    rw [← HPC.out] at ho
    replace RB := Lib.hid (RB.out.grown g)
    replace L0 := Lib.hid (L0.out.grown g)
    replace L1 := Lib.hid (L1.out.grown g)
    replace M0 := Lib.hid (M0.out.grown g)
    replace M1 := Lib.hid (M1.out.grown g)
    replace RO := Lib.hid (RO.out.grown g)
    replace OQ := Lib.hid (BOwn.grown OQ.out g)
    replace OR := Lib.hid (BOwn.grown OR.out g)
    replace ON := Lib.hid (Own.grownNone ON.out g)
    replace OD := Lib.hid (BOwn.grown OD.out g)
    replace RQ2 := Lib.hid (RQ2.out.grown g)
    replace RR3 := Lib.hid (RR3.out.grown g)
    replace P0 := Lib.hid (BOwn.grown P0.out g)
    replace HC := Lib.hid (HC.out.then g)
    have P1 := Lib.hid ho
    have HSV2 := Lib.hid (Nat.le_trans GZ1.out g.size)
    clear ho g HSV
    have HSV := HSV2
    clear HSV2
    have HRF := Lib.hid (Nat.le_refl v5.heap.size)
    have b0 := Row.cell RB.out 0
    simp at b0
    go_upto_region 18 with (at_builtin; refine wpList_push elS rfl (.tmp 107) (.tmp 109) rfl rfl L0.out.outer (.slice ap np cp) rfl rfl (by unfold maxLen; omega) (by omega) (Nat.le_trans HBW.out HC.out.size) ?_; intro gy1 cy1 u9 ho hgr; have HO9 := Lib.hid ho; have HGR := Lib.hid hgr; have RBx := Lib.hid (RB.out.ch hgr.ch (row_in RB.out L0.out.outer (by decide))); have y := Row.cell RBx.out 0; have f := Row.frozen RBx.out 0; simp at y; clear ho hgr)
    obtain ⟨y1, hw⟩ : ∃ y1, y1 = u9.setCell ⟨bk, 0, none⟩ (.slice (some ⟨gy1, 0, none⟩) (nn + 1) cy1) := ⟨_, rfl⟩
    rw [← hw]
    have g9 : u9.grownBy y1 (some bk) := hw ▸ grownBy_setCell _ _ _ _
    have Ry1 := Lib.hid (hw ▸ Row.setc RBx.out 0 (.slice (some ⟨gy1, 0, none⟩) (nn + 1) cy1))
    have Oy1 := Lib.hid (Own.ch HO9.out (Ch.ofSome (S := fun x => x = bk) g9 rfl) (fun h0 g e h => by have h1 := (Own.inn HO9.out (g := g) ⟨h0, e⟩).1; have h2 := HBK.out; omega))
    have Cy1 := Lib.hid (show Ch (fun x => In a0 c0 x ∨ x = bk) z2 y1 from (HGR.out.ch.mono (fun _ _ h => .inl h)).trans (Ch.ofSome (S := fun x => In a0 c0 x ∨ x = bk) g9 (.inr rfl)) (fun _ _ h => h))
    have Iy1 := Lib.hid (show ∀ x, In (some ⟨gy1, 0, none⟩) cy1 x → In a0 c0 x ∨ z2.heap.size ≤ x from fun x hx => HGR.out.inn hx)
    clear hw g9 y f HO9 HGR RBx
    have OND := Lib.hid (show ∀ x, In a1 c1 x → In a0 c0 x → False from fun x hx hy => ND.out x hy hx)
    have HNX := Lib.hid (show ∀ x, In (some ⟨gy1, 0, none⟩) cy1 x → In a0 c0 x ∨ ¬ (lo ≤ x ∧ x < hi) from fun x hx => (Iy1.out x hx).imp id (fun h k => by have h1 := HIV.out.1; have h2 : v5.heap.size ≤ z2.heap.size := HSV.out; omega))
    have HNM := Lib.hid (show ∀ x, In (some ⟨gy1, 0, none⟩) cy1 x → In a0 c0 x ∨ z2.heap.size ≤ x from Iy1.out)
    have NLP := Lib.hid (LIs.pushed L0p.out L0.out HIV.out.2 (s := ⟨ap, np, cp⟩) P0.out Oy1.out Cy1.out HBK.out)
    have OFN := Lib.hid (Offs.push OFL0.out (s := ⟨ap, np, cp⟩) HNX.out (fun x hx k => by have h1 := (Own.inn P0.out hx).1; have h2 := HIV.out.1; have h3 : v5.heap.size ≤ v5.heap.size := HRF.out; omega))
    replace ND := Lib.hid (show ∀ x, In (some ⟨gy1, 0, none⟩) cy1 x → In a1 c1 x → False from fun x hx hy => (HNM.out x hx).elim (fun h => ND.out x h hy) (fun h => by have := (Own.inn L1.out.outer hy).2; omega))
    replace L1 := Lib.hid (LIs.chN L1.out L0.out.outer Cy1.out OND.out HBK.out)
    replace M0 := Lib.hid (LIsI.chT M0.out L0.out.outer Cy1.out HBK.out)
    replace M1 := Lib.hid (LIsI.chT M1.out L0.out.outer Cy1.out HBK.out)
    replace RO := Lib.hid (Row.chT RO.out L0.out.outer Cy1.out (by decide) (by have h1 := HBO.out; have h2 := HBQ.out; have h3 := HBR.out; omega))
    replace OQ := Lib.hid (show BOwn _ _ _ _ _ _ from Own.chT OQ.out L0.out.outer Cy1.out (by decide) (by have h1 := HBO.out; have h2 := HSO.out; have h3 := HIV.out; have h4 := GZ1.out; have h5 := HBK.out; omega))
    replace OR := Lib.hid (show BOwn _ _ _ _ _ _ from Own.chT OR.out L0.out.outer Cy1.out (by decide) (by have h1 := HBO.out; have h2 := HSO.out; have h3 := HIV.out; have h4 := GZ1.out; have h5 := HBK.out; omega))
    replace ON := Lib.hid (Own.chT ON.out L0.out.outer Cy1.out (by decide) (by have h1 := HBO.out; have h2 := HSO.out; have h3 := HIV.out; have h4 := GZ1.out; have h5 := HBK.out; omega))
    replace OD := Lib.hid (show BOwn _ _ _ _ _ _ from Own.chT OD.out L0.out.outer Cy1.out (by decide) (by have h1 := HBO.out; have h2 := HSO.out; have h3 := HIV.out; have h4 := GZ1.out; have h5 := HBK.out; omega))
    replace RQ2 := Lib.hid (Row.chT RQ2.out L0.out.outer Cy1.out (by decide) (by have h1 := HBO.out; have h2 := HBQ.out; have h3 := HBR.out; omega))
    replace RR3 := Lib.hid (Row.chT RR3.out L0.out.outer Cy1.out (by decide) (by have h1 := HBO.out; have h2 := HBQ.out; have h3 := HBR.out; omega))
    replace P0 := Lib.hid (show BOwn _ _ _ _ _ _ from Own.chT P0.out L0.out.outer Cy1.out (by decide) (by have h1 := HBO.out; have h2 := HSO.out; have h3 := HIV.out; have h4 := GZ1.out; have h5 := HBK.out; omega))
    replace P1 := Lib.hid (show BOwn _ _ _ _ _ _ from Own.chT P1.out L0.out.outer Cy1.out (by decide) (by have h1 := HBO.out; have h2 := HSO.out; have h3 := HIV.out; have h4 := GZ1.out; have h5 := HBK.out; omega))
    replace HC := Lib.hid (HC.out.trans (Cy1.out.mono (T := fun x => bk ≤ x) (fun x _ h => by rcases h with h | h; have h1 := (Own.inn L0.out.outer h).1; have h2 := HBK.out; omega; omega)) (fun _ _ h => h))
    have HSV2 := Lib.hid (Nat.le_trans HSV.out Cy1.out.size)
    clear HSV
    have HSV := HSV2
    clear HSV2
    clear L0 OFL0 RB
    have L0 := NLP
    have OFL0 := OFN
    have RB := Lib.hid (show Row y1 bk 55 #[.slice (some ⟨gy1, 0, none⟩) (nn + 1) cy1, .slice a1 nn c1, .slice a2 mm c2, .slice a3 mm c3] from Ry1.out)
    clear NLP OFN HNX HNM OND Ry1 Oy1 Cy1 Iy1
    have b1 := Row.cell RB.out 1
    simp at b1
    go_upto_region 19 with (at_builtin; refine wpList_push elS rfl (.tmp 117) (.tmp 119) rfl rfl L1.out.outer (.slice ar nr cr) rfl rfl (by unfold maxLen; omega) (by omega) (Nat.le_trans HBW.out HC.out.size) ?_; intro gy2 cy2 u9 ho hgr; have HO9 := Lib.hid ho; have HGR := Lib.hid hgr; have RBx := Lib.hid (RB.out.ch hgr.ch (row_in RB.out L1.out.outer (by decide))); have y := Row.cell RBx.out 1; have f := Row.frozen RBx.out 1; simp at y; clear ho hgr)
    obtain ⟨y2, hw⟩ : ∃ y2, y2 = u9.setCell ⟨bk, 1, none⟩ (.slice (some ⟨gy2, 0, none⟩) (nn + 1) cy2) := ⟨_, rfl⟩
    rw [← hw]
    have g9 : u9.grownBy y2 (some bk) := hw ▸ grownBy_setCell _ _ _ _
    have Ry2 := Lib.hid (hw ▸ Row.setc RBx.out 1 (.slice (some ⟨gy2, 0, none⟩) (nn + 1) cy2))
    have Oy2 := Lib.hid (Own.ch HO9.out (Ch.ofSome (S := fun x => x = bk) g9 rfl) (fun h0 g e h => by have h1 := (Own.inn HO9.out (g := g) ⟨h0, e⟩).1; have h2 := HBK.out; omega))
    have Cy2 := Lib.hid (show Ch (fun x => In a1 c1 x ∨ x = bk) y1 y2 from (HGR.out.ch.mono (fun _ _ h => .inl h)).trans (Ch.ofSome (S := fun x => In a1 c1 x ∨ x = bk) g9 (.inr rfl)) (fun _ _ h => h))
    have Iy2 := Lib.hid (show ∀ x, In (some ⟨gy2, 0, none⟩) cy2 x → In a1 c1 x ∨ y1.heap.size ≤ x from fun x hx => HGR.out.inn hx)
    clear hw g9 y f HO9 HGR RBx
    have OND := Lib.hid (show ∀ x, In (some ⟨gy1, 0, none⟩) cy1 x → In a1 c1 x → False from ND.out)
    have HNX := Lib.hid (show ∀ x, In (some ⟨gy2, 0, none⟩) cy2 x → In a1 c1 x ∨ ¬ (lo ≤ x ∧ x < hi) from fun x hx => (Iy2.out x hx).imp id (fun h k => by have h1 := HIV.out.1; have h2 : v5.heap.size ≤ y1.heap.size := HSV.out; omega))
    have HNM := Lib.hid (show ∀ x, In (some ⟨gy2, 0, none⟩) cy2 x → In a1 c1 x ∨ y1.heap.size ≤ x from Iy2.out)
    have NLP := Lib.hid (LIs.pushed L1p.out L1.out (Nat.le_trans HIV.out.2 GZ1.out) (s := ⟨ar, nr, cr⟩) P1.out Oy2.out Cy2.out HBK.out)
    have OFN := Lib.hid (Offs.push OFL1.out (s := ⟨ar, nr, cr⟩) HNX.out (fun x hx k => by have h1 := (Own.inn P1.out hx).1; have h2 := HIV.out.1; have h3 : v5.heap.size ≤ z1.heap.size := GZ1.out; omega))
    replace ND := Lib.hid (fun x hx hy => (HNM.out x hy).elim (fun h => ND.out x hx h) (fun h => by have := (Own.inn L0.out.outer hx).2; omega))
    replace L0 := Lib.hid (LIs.chN L0.out L1.out.outer Cy2.out OND.out HBK.out)
    replace M0 := Lib.hid (LIsI.chT M0.out L1.out.outer Cy2.out HBK.out)
    replace M1 := Lib.hid (LIsI.chT M1.out L1.out.outer Cy2.out HBK.out)
    replace RO := Lib.hid (Row.chT RO.out L1.out.outer Cy2.out (by decide) (by have h1 := HBO.out; have h2 := HBQ.out; have h3 := HBR.out; omega))
    replace OQ := Lib.hid (show BOwn _ _ _ _ _ _ from Own.chT OQ.out L1.out.outer Cy2.out (by decide) (by have h1 := HBO.out; have h2 := HSO.out; have h3 := HIV.out; have h4 := GZ1.out; have h5 := HBK.out; omega))
    replace OR := Lib.hid (show BOwn _ _ _ _ _ _ from Own.chT OR.out L1.out.outer Cy2.out (by decide) (by have h1 := HBO.out; have h2 := HSO.out; have h3 := HIV.out; have h4 := GZ1.out; have h5 := HBK.out; omega))
    replace ON := Lib.hid (Own.chT ON.out L1.out.outer Cy2.out (by decide) (by have h1 := HBO.out; have h2 := HSO.out; have h3 := HIV.out; have h4 := GZ1.out; have h5 := HBK.out; omega))
    replace OD := Lib.hid (show BOwn _ _ _ _ _ _ from Own.chT OD.out L1.out.outer Cy2.out (by decide) (by have h1 := HBO.out; have h2 := HSO.out; have h3 := HIV.out; have h4 := GZ1.out; have h5 := HBK.out; omega))
    replace RQ2 := Lib.hid (Row.chT RQ2.out L1.out.outer Cy2.out (by decide) (by have h1 := HBO.out; have h2 := HBQ.out; have h3 := HBR.out; omega))
    replace RR3 := Lib.hid (Row.chT RR3.out L1.out.outer Cy2.out (by decide) (by have h1 := HBO.out; have h2 := HBQ.out; have h3 := HBR.out; omega))
    replace P0 := Lib.hid (show BOwn _ _ _ _ _ _ from Own.chT P0.out L1.out.outer Cy2.out (by decide) (by have h1 := HBO.out; have h2 := HSO.out; have h3 := HIV.out; have h4 := GZ1.out; have h5 := HBK.out; omega))
    replace P1 := Lib.hid (show BOwn _ _ _ _ _ _ from Own.chT P1.out L1.out.outer Cy2.out (by decide) (by have h1 := HBO.out; have h2 := HSO.out; have h3 := HIV.out; have h4 := GZ1.out; have h5 := HBK.out; omega))
    replace HC := Lib.hid (HC.out.trans (Cy2.out.mono (T := fun x => bk ≤ x) (fun x _ h => by rcases h with h | h; have h1 := (Own.inn L1.out.outer h).1; have h2 := HBK.out; omega; omega)) (fun _ _ h => h))
    have HSV2 := Lib.hid (Nat.le_trans HSV.out Cy2.out.size)
    clear HSV
    have HSV := HSV2
    clear HSV2
    clear L1 OFL1 RB
    have L1 := NLP
    have OFL1 := OFN
    have RB := Lib.hid (show Row y2 bk 55 #[.slice (some ⟨gy1, 0, none⟩) (nn + 1) cy1, .slice (some ⟨gy2, 0, none⟩) (nn + 1) cy2, .slice a2 mm c2, .slice a3 mm c3] from Ry2.out)
    clear NLP OFN HNX HNM OND Ry2 Oy2 Cy2 Iy2
    clear P0 P1 b0 b1 L0p L1p
    go_upto_region 40 with fail
    have x0 := op_byt RO.out HX.out
    have x1 := op_cell RO.out HX.out 1
    have x2 := op_cell RO.out HX.out 2
    have x3 := op_cell RO.out HX.out 3
    simp at x1 x2 x3
    go_wp2_with fail
    refine (kept_yes (some ⟨gQ, 0, none⟩) aq capQ cq nq (nq + 70) q.bytes _ (BOwn.lies OQ.out) (HAQ.out _ HC.out) HNQ.out rfl (by omega)).mono ?_
    rintro e e0 ⟨rfl, g⟩
    clear x0 x1 x2 x3
    replace RB := Lib.hid (RB.out.grown g)
    replace L0 := Lib.hid (L0.out.grown g)
    replace L1 := Lib.hid (L1.out.grown g)
    replace M0 := Lib.hid (M0.out.grown g)
    replace M1 := Lib.hid (M1.out.grown g)
    replace RO := Lib.hid (RO.out.grown g)
    replace OQ := Lib.hid (BOwn.grown OQ.out g)
    replace OR := Lib.hid (BOwn.grown OR.out g)
    replace ON := Lib.hid (Own.grownNone ON.out g)
    replace OD := Lib.hid (BOwn.grown OD.out g)
    replace RQ2 := Lib.hid (RQ2.out.grown g)
    replace RR3 := Lib.hid (RR3.out.grown g)
    replace HC := Lib.hid (HC.out.then g)
    clear g
    have x0 := op_byt RO.out HX.out
    have x1 := op_cell RO.out HX.out 1
    have x2 := op_cell RO.out HX.out 2
    have x3 := op_cell RO.out HX.out 3
    simp at x1 x2 x3
    go_wp2_with fail
    refine (kept_yes (some ⟨gR, 0, none⟩) ab capR cb m (m + 70) bt _ (BOwn.lies OR.out) (HBT.out _ HC.out) HM.out rfl (by omega)).mono ?_
    rintro e e1 ⟨rfl, g⟩
    clear x0 x1 x2 x3
    replace RB := Lib.hid (RB.out.grown g)
    replace L0 := Lib.hid (L0.out.grown g)
    replace L1 := Lib.hid (L1.out.grown g)
    replace M0 := Lib.hid (M0.out.grown g)
    replace M1 := Lib.hid (M1.out.grown g)
    replace RO := Lib.hid (RO.out.grown g)
    replace OQ := Lib.hid (BOwn.grown OQ.out g)
    replace OR := Lib.hid (BOwn.grown OR.out g)
    replace ON := Lib.hid (Own.grownNone ON.out g)
    replace OD := Lib.hid (BOwn.grown OD.out g)
    replace RQ2 := Lib.hid (RQ2.out.grown g)
    replace RR3 := Lib.hid (RR3.out.grown g)
    replace HC := Lib.hid (HC.out.then g)
    clear g
    have x0 := op_byt RO.out HX.out
    have x1 := op_cell RO.out HX.out 1
    have x2 := op_cell RO.out HX.out 2
    have x3 := op_cell RO.out HX.out 3
    simp at x1 x2 x3
    go_wp2_with fail
    refine (Ints.kept_yes (some ⟨gN, 0, none⟩) an capN cn n (n + 70) ns _ (Ints.IOw.lies ON.out) (Ints.ILies.of (HNS.out _ HC.out)) HN.out rfl (by omega)).mono ?_
    rintro e e2 ⟨rfl, g⟩
    clear x0 x1 x2 x3
    replace RB := Lib.hid (RB.out.grown g)
    replace L0 := Lib.hid (L0.out.grown g)
    replace L1 := Lib.hid (L1.out.grown g)
    replace M0 := Lib.hid (M0.out.grown g)
    replace M1 := Lib.hid (M1.out.grown g)
    replace RO := Lib.hid (RO.out.grown g)
    replace OQ := Lib.hid (BOwn.grown OQ.out g)
    replace OR := Lib.hid (BOwn.grown OR.out g)
    replace ON := Lib.hid (Own.grownNone ON.out g)
    replace OD := Lib.hid (BOwn.grown OD.out g)
    replace RQ2 := Lib.hid (RQ2.out.grown g)
    replace RR3 := Lib.hid (RR3.out.grown g)
    replace HC := Lib.hid (HC.out.then g)
    clear g
    have x0 := op_byt RO.out HX.out
    have x1 := op_cell RO.out HX.out 1
    have x2 := op_cell RO.out HX.out 2
    have x3 := op_cell RO.out HX.out 3
    simp at x1 x2 x3
    go_wp2_with fail
    refine (kept_yes (some ⟨gD, 0, none⟩) ad capD cd nd (nd + 70) ld _ (BOwn.lies OD.out) (HD.out _ HC.out) HND.out rfl (by omega)).mono ?_
    rintro e e3 ⟨rfl, g⟩
    clear x0 x1 x2 x3
    replace RB := Lib.hid (RB.out.grown g)
    replace L0 := Lib.hid (L0.out.grown g)
    replace L1 := Lib.hid (L1.out.grown g)
    replace M0 := Lib.hid (M0.out.grown g)
    replace M1 := Lib.hid (M1.out.grown g)
    replace RO := Lib.hid (RO.out.grown g)
    replace OQ := Lib.hid (BOwn.grown OQ.out g)
    replace OR := Lib.hid (BOwn.grown OR.out g)
    replace ON := Lib.hid (Own.grownNone ON.out g)
    replace OD := Lib.hid (BOwn.grown OD.out g)
    replace RQ2 := Lib.hid (RQ2.out.grown g)
    replace RR3 := Lib.hid (RR3.out.grown g)
    replace HC := Lib.hid (HC.out.then g)
    clear g
    have x0 := op_byt RO.out HX.out
    have x1 := op_cell RO.out HX.out 1
    have x2 := op_cell RO.out HX.out 2
    have x3 := op_cell RO.out HX.out 3
    simp at x1 x2 x3
    clear x0 x1 x2 x3
    go_wp2_with fail
    refine (over_n _ gQ _ _ _ _ OQ.out (by omega)).mono ?_
    rintro e o0 ⟨rfl, ho, g⟩
    clear ho
    replace RB := Lib.hid (RB.out.grownNe g (by have h1 := HYY.out; have h2 := HBO.out; have h3 := HLO.out; omega))
    replace L0 := Lib.hid (LIs.chX L0.out OFL0.out g (by have h1 := HYY.out; show lo ≤ _ ∧ _ < hi; omega))
    replace L1 := Lib.hid (LIs.chX L1.out OFL1.out g (by have h1 := HYY.out; show lo ≤ _ ∧ _ < hi; omega))
    replace M0 := Lib.hid (LIsI.chX M0.out OFM0.out g (by have h1 := HYY.out; show lo ≤ _ ∧ _ < hi; omega))
    replace M1 := Lib.hid (LIsI.chX M1.out OFM1.out g (by have h1 := HYY.out; show lo ≤ _ ∧ _ < hi; omega))
    replace OR := Lib.hid (show BOwn _ _ _ _ _ _ from Own.grownNe OR.out g (fun g' h0 e e2 => by injection e with e; injection e with e; injection e2 with e2; have h1 := HYY.out; omega))
    replace ON := Lib.hid (Own.grownNe ON.out g (fun g' h0 e e2 => by injection e with e; injection e with e; injection e2 with e2; have h1 := HYY.out; omega))
    replace OD := Lib.hid (show BOwn _ _ _ _ _ _ from Own.grownNe OD.out g (fun g' h0 e e2 => by injection e with e; injection e with e; injection e2 with e2; have h1 := HYY.out; omega))
    replace HC := Lib.hid (HC.out.trans (Ch.ofSome (S := fun x => bk ≤ x) g (by have h1 := HYY.out; have h2 := HBO.out; have h3 := HLO.out; omega)) (fun _ _ h => h))
    clear g
    go_wp2_with fail
    refine (over_n _ gR _ _ _ _ OR.out (by omega)).mono ?_
    rintro e o1 ⟨rfl, ho, g⟩
    clear ho
    replace RB := Lib.hid (RB.out.grownNe g (by have h1 := HYY.out; have h2 := HBO.out; have h3 := HLO.out; omega))
    replace L0 := Lib.hid (LIs.chX L0.out OFL0.out g (by have h1 := HYY.out; show lo ≤ _ ∧ _ < hi; omega))
    replace L1 := Lib.hid (LIs.chX L1.out OFL1.out g (by have h1 := HYY.out; show lo ≤ _ ∧ _ < hi; omega))
    replace M0 := Lib.hid (LIsI.chX M0.out OFM0.out g (by have h1 := HYY.out; show lo ≤ _ ∧ _ < hi; omega))
    replace M1 := Lib.hid (LIsI.chX M1.out OFM1.out g (by have h1 := HYY.out; show lo ≤ _ ∧ _ < hi; omega))
    replace ON := Lib.hid (Own.grownNe ON.out g (fun g' h0 e e2 => by injection e with e; injection e with e; injection e2 with e2; have h1 := HYY.out; omega))
    replace OD := Lib.hid (show BOwn _ _ _ _ _ _ from Own.grownNe OD.out g (fun g' h0 e e2 => by injection e with e; injection e with e; injection e2 with e2; have h1 := HYY.out; omega))
    replace HC := Lib.hid (HC.out.trans (Ch.ofSome (S := fun x => bk ≤ x) g (by have h1 := HYY.out; have h2 := HBO.out; have h3 := HLO.out; omega)) (fun _ _ h => h))
    clear g
    go_wp2_with fail
    refine (Ints.over_n _ gN _ _ _ _ ON.out (by omega)).mono ?_
    rintro e o2 ⟨rfl, ho, g⟩
    clear ho
    replace RB := Lib.hid (RB.out.grownNe g (by have h1 := HYY.out; have h2 := HBO.out; have h3 := HLO.out; omega))
    replace L0 := Lib.hid (LIs.chX L0.out OFL0.out g (by have h1 := HYY.out; show lo ≤ _ ∧ _ < hi; omega))
    replace L1 := Lib.hid (LIs.chX L1.out OFL1.out g (by have h1 := HYY.out; show lo ≤ _ ∧ _ < hi; omega))
    replace M0 := Lib.hid (LIsI.chX M0.out OFM0.out g (by have h1 := HYY.out; show lo ≤ _ ∧ _ < hi; omega))
    replace M1 := Lib.hid (LIsI.chX M1.out OFM1.out g (by have h1 := HYY.out; show lo ≤ _ ∧ _ < hi; omega))
    replace OD := Lib.hid (show BOwn _ _ _ _ _ _ from Own.grownNe OD.out g (fun g' h0 e e2 => by injection e with e; injection e with e; injection e2 with e2; have h1 := HYY.out; omega))
    replace HC := Lib.hid (HC.out.trans (Ch.ofSome (S := fun x => bk ≤ x) g (by have h1 := HYY.out; have h2 := HBO.out; have h3 := HLO.out; omega)) (fun _ _ h => h))
    clear g
    go_wp2_with fail
    refine (over_n _ gD _ _ _ _ OD.out (by omega)).mono ?_
    rintro e o3 ⟨rfl, ho, g⟩
    clear ho
    replace RB := Lib.hid (RB.out.grownNe g (by have h1 := HYY.out; have h2 := HBO.out; have h3 := HLO.out; omega))
    replace L0 := Lib.hid (LIs.chX L0.out OFL0.out g (by have h1 := HYY.out; show lo ≤ _ ∧ _ < hi; omega))
    replace L1 := Lib.hid (LIs.chX L1.out OFL1.out g (by have h1 := HYY.out; show lo ≤ _ ∧ _ < hi; omega))
    replace M0 := Lib.hid (LIsI.chX M0.out OFM0.out g (by have h1 := HYY.out; show lo ≤ _ ∧ _ < hi; omega))
    replace M1 := Lib.hid (LIsI.chX M1.out OFM1.out g (by have h1 := HYY.out; show lo ≤ _ ∧ _ < hi; omega))
    replace HC := Lib.hid (HC.out.trans (Ch.ofSome (S := fun x => bk ≤ x) g (by have h1 := HYY.out; have h2 := HBO.out; have h3 := HLO.out; omega)) (fun _ _ h => h))
    clear g
    go_wp2_with fail
    go_ret
    refine ⟨rfl, bs ++ [PC], is, ⟨_, _, _, _, _, _, _, _, _, _, _, _, _, _, RB.out, L0.out, L1.out, M0.out, M1.out, ND.out, NI.out⟩, by simp, by omega, fun x hx => (List.mem_append.1 hx).imp id (fun h => by rw [List.mem_singleton.1 h]; exact HPL.out), fun x hx => .inl hx, HC.out⟩
  have N0 := Lib.hid hcall
  clear hcall
  by_cases hcall : call = 1
  · have e0 : (call == 0) = false := by rw [beq_eq_false_iff_ne]; omega
    have e1 : (call == 1) = true := by rw [beq_iff_eq]; omega
    have e2 : (call == 2) = false := by rw [beq_eq_false_iff_ne]; omega
    have e3 : (call == 3) = false := by rw [beq_eq_false_iff_ne]; omega
    have HSO := Lib.hid (show bk < lo ∧ lo ≤ wQ.heap.size ∧ lo ≤ wR.heap.size ∧ lo ≤ wN.heap.size ∧ lo ≤ wb.heap.size from by have h1 := HBO.out; have h2 := HLO.out; have z1 := ZQ.out; have z2 := ZR.out; have z3 := ZN.out; omega)
    have HSV := Lib.hid (Nat.le_refl v5.heap.size)
    obtain ⟨Q1, hQ1⟩ : ∃ Q1, Q1 = rqOf (decQ ld) := ⟨_, rfl⟩
    obtain ⟨A1, hA1⟩ : ∃ A1 : Int, A1 = ((atOf (decQ ld) : Nat) : Int) := ⟨_, rfl⟩
    obtain ⟨E1, hE1⟩ : ∃ E1, E1 = erOf 200 (decQ ld) := ⟨_, rfl⟩
    have HX1 := Lib.hid (show Q1.ix.length = 16 by rw [hQ1]; exact (decQ_facts ld).1)
    have HOK1 := Lib.hid (show LeaseOk Q1.who Q1.till by rw [hQ1]; exact (decQ_facts ld).2.1)
    have HPL := Lib.hid (show Q1.bytes.length ≤ 50000000 by rw [hQ1]; have h1 := (decQ_facts ld).2.2; have h2 := HND.out; omega)
    have hAA : (A1 == A1) = true := by rw [beq_iff_eq]
    have hEE : (E1 == E1) = true := by rw [beq_iff_eq]
    have HQ1 := Lib.hid hQ1
    have HA1 := Lib.hid hA1
    have HE1 := Lib.hid hE1
    clear hQ1 hA1 hE1 hcall
    go_upto_region 21 with fail
    have L0p := Lib.hid L0.out
    go_wp2_with fail
    refine (request_n (some ⟨gD, 0, none⟩) nd capD ld v5 (LD.out _ _ OD.out) HND.out (by omega) (by omega)).mono ?_
    rintro e z1 ⟨ap, np, cp, rfl, ho, g⟩
    rw [← HQ1.out] at ho ⊢
    rw [← HA1.out, ← HE1.out]
    clear x
    replace RB := Lib.hid (RB.out.grown g)
    replace L0 := Lib.hid (L0.out.grown g)
    replace L1 := Lib.hid (L1.out.grown g)
    replace M0 := Lib.hid (M0.out.grown g)
    replace M1 := Lib.hid (M1.out.grown g)
    replace RO := Lib.hid (RO.out.grown g)
    replace OQ := Lib.hid (BOwn.grown OQ.out g)
    replace OR := Lib.hid (BOwn.grown OR.out g)
    replace ON := Lib.hid (Own.grownNone ON.out g)
    replace OD := Lib.hid (BOwn.grown OD.out g)
    replace RQ2 := Lib.hid (RQ2.out.grown g)
    replace RR3 := Lib.hid (RR3.out.grown g)
    replace HC := Lib.hid (HC.out.then g)
    have P0 := Lib.hid ho
    have GZ0 := Lib.hid (show v5.heap.size ≤ z1.heap.size from g.size)
    clear ho g
    go_upto_region 22 with ((with_reducible show wpList _ _ _ ({ dst := some 17, op := _, type := _, pos := _, after := _, guard := _ } :: _) _ _); refine wpList_fresh rfl rfl rfl rfl rfl hir hirz hirs (rqC Q1 (.slice ap np cp)) rfl rfl (by rw [rq_len Q1 _ HX1.out]; rfl) (rq_one _ _ _ _) ?_; intro z2 hs g hr; have GF := Lib.hid g; have RA := Lib.hid (show Row z2 z1.heap.size 43 (rqC Q1 (.slice ap np cp)) from hr); clear hs g hr)
    have g := GF.out
    replace RB := Lib.hid (RB.out.grown g)
    replace L0 := Lib.hid (L0.out.grown g)
    replace L1 := Lib.hid (L1.out.grown g)
    replace M0 := Lib.hid (M0.out.grown g)
    replace M1 := Lib.hid (M1.out.grown g)
    replace RO := Lib.hid (RO.out.grown g)
    replace OQ := Lib.hid (BOwn.grown OQ.out g)
    replace OR := Lib.hid (BOwn.grown OR.out g)
    replace ON := Lib.hid (Own.grownNone ON.out g)
    replace OD := Lib.hid (BOwn.grown OD.out g)
    replace RQ2 := Lib.hid (RQ2.out.grown g)
    replace RR3 := Lib.hid (RR3.out.grown g)
    replace P0 := Lib.hid (BOwn.grown P0.out g)
    replace HC := Lib.hid (HC.out.then g)
    obtain ⟨bRA, hbRA⟩ : ∃ bRA, bRA = z1.heap.size := ⟨_, rfl⟩
    rw [← hbRA] at RA ⊢
    have HBRA := Lib.hid (show v5.heap.size ≤ bRA from by rw [hbRA]; exact GZ0.out)
    have Gz2 := Lib.hid g.size
    clear hbRA g GF
    have GZ1 := Lib.hid (Nat.le_trans GZ0.out Gz2.out)
    have L1p := Lib.hid L1.out
    have x := op_cell RO.out HX.out 3
    simp at x
    go_wp2_with fail
    refine (refReq_n ad nd cd ld z2 (HD.out _ HC.out) HND.out HCD.out (by omega)).mono ?_
    rintro e z3 ⟨ar, nr, cr, rfl, ho, g⟩
    rw [← HQ1.out] at ho ⊢
    rw [← HA1.out, ← HE1.out]
    clear x
    replace RB := Lib.hid (RB.out.grown g)
    replace L0 := Lib.hid (L0.out.grown g)
    replace L1 := Lib.hid (L1.out.grown g)
    replace M0 := Lib.hid (M0.out.grown g)
    replace M1 := Lib.hid (M1.out.grown g)
    replace RO := Lib.hid (RO.out.grown g)
    replace OQ := Lib.hid (BOwn.grown OQ.out g)
    replace OR := Lib.hid (BOwn.grown OR.out g)
    replace ON := Lib.hid (Own.grownNone ON.out g)
    replace OD := Lib.hid (BOwn.grown OD.out g)
    replace RQ2 := Lib.hid (RQ2.out.grown g)
    replace RR3 := Lib.hid (RR3.out.grown g)
    replace P0 := Lib.hid (BOwn.grown P0.out g)
    replace RA := Lib.hid (RA.out.grown g)
    replace HC := Lib.hid (HC.out.then g)
    have P1 := Lib.hid ho
    have GZ2 := Lib.hid (Nat.le_trans GZ1.out g.size)
    clear ho g
    go_upto_region 23 with ((with_reducible show wpList _ _ _ ({ dst := some 20, op := _, type := _, pos := _, after := _, guard := _ } :: _) _ _); refine wpList_fresh rfl rfl rfl rfl rfl hir hirz hirs (rqC Q1 (.slice ar nr cr)) rfl rfl (by rw [rq_len Q1 _ HX1.out]; rfl) (rq_one _ _ _ _) ?_; intro z4 hs g hr; have GF := Lib.hid g; have RF := Lib.hid (show Row z4 z3.heap.size 43 (rqC Q1 (.slice ar nr cr)) from hr); clear hs g hr)
    have g := GF.out
    replace RB := Lib.hid (RB.out.grown g)
    replace L0 := Lib.hid (L0.out.grown g)
    replace L1 := Lib.hid (L1.out.grown g)
    replace M0 := Lib.hid (M0.out.grown g)
    replace M1 := Lib.hid (M1.out.grown g)
    replace RO := Lib.hid (RO.out.grown g)
    replace OQ := Lib.hid (BOwn.grown OQ.out g)
    replace OR := Lib.hid (BOwn.grown OR.out g)
    replace ON := Lib.hid (Own.grownNone ON.out g)
    replace OD := Lib.hid (BOwn.grown OD.out g)
    replace RQ2 := Lib.hid (RQ2.out.grown g)
    replace RR3 := Lib.hid (RR3.out.grown g)
    replace P0 := Lib.hid (BOwn.grown P0.out g)
    replace RA := Lib.hid (RA.out.grown g)
    replace P1 := Lib.hid (BOwn.grown P1.out g)
    replace HC := Lib.hid (HC.out.then g)
    obtain ⟨bRF, hbRF⟩ : ∃ bRF, bRF = z3.heap.size := ⟨_, rfl⟩
    rw [← hbRF] at RF ⊢
    have HBRF := Lib.hid (show v5.heap.size ≤ bRF from by rw [hbRF]; exact GZ2.out)
    have Gz4 := Lib.hid g.size
    clear hbRF g GF
    have HSV2 := Lib.hid (Nat.le_trans GZ2.out Gz4.out)
    clear HSV
    have HSV := HSV2
    clear HSV2
    have HRF := Lib.hid (Nat.le_refl v5.heap.size)
    go_upto_region 23 with fail
    refine wp_normal ?_
    have HBZ := Lib.hid (show base ≤ z4.heap.size from Nat.le_trans HBW.out HC.out.size)
    have OUT := Lib.hid L0.out.outer
    refine wp_regionX (AppS z4 base 24 a0 nn c0 (L0l.map Sl.val)) 11 (by kernel_rfl) ⟨Ch.ofNone (grownBy_drewN z4 1 none) _, Own.grownNone OUT.out (grownBy_drewN z4 1 none)⟩ ?_
    refine wpX_take 0 (v := .pointer (some ⟨bk, 0, none⟩)) (oi := { dst := some 141, op := Op.move (Operand.tmp 0), type := 57, pos := "law.go:76", after := #[], guard := none }) (oL := oLAskN0) (clo_app _ _ _ _ _ _ _) rfl rfl rfl (by kernel_rfl) (by kernel_rfl) (by kernel_rfl) (by kernel_rfl) (by kernel_rfl) (fun _ _ _ h => by cases h.1) (YG.val (by rfl) (fun _ _ => by go_simp)) ?_
    simp only [Act.put, List.setIfInBounds_toArray, List.set_cons_zero, List.set_cons_succ]
    refine wpX_take 1 (v := .pointer (some ⟨bk, 0, none⟩)) (oi := { dst := some 142, op := Op.move (Operand.tmp 0), type := 57, pos := "law.go:76", after := #[], guard := none }) (oL := oLAskN0) (clo_app _ _ _ _ _ _ _) rfl rfl rfl (by kernel_rfl) (by kernel_rfl) (by kernel_rfl) (by kernel_rfl) (by kernel_rfl) (fun _ _ _ h => by cases h.1) (YG.val (by rfl) (fun _ _ => by go_simp)) ?_
    simp only [Act.put, List.setIfInBounds_toArray, List.set_cons_zero, List.set_cons_succ]
    refine wpX_take 2 (v := .pointer (some ⟨bk, 0, none⟩)) (oi := { dst := some 143, op := Op.nilCheck (Operand.tmp 142), type := 0, pos := "law.go:76", after := #[{ on := 1, ground := Ground.data }], guard := none }) (oL := oLAskN0) (clo_app _ _ _ _ _ _ _) rfl rfl rfl (by kernel_rfl) (by kernel_rfl) (by kernel_rfl) (by kernel_rfl) (by kernel_rfl) (fun _ _ _ h => by cases h.1) (YG.val (by rfl) (fun _ _ => by go_simp)) ?_
    simp only [Act.put, List.setIfInBounds_toArray, List.set_cons_zero, List.set_cons_succ]
    refine wpX_take 3 (v := .pointer (some ⟨bk, 0, none⟩)) (oi := { dst := some 144, op := Op.fieldAddr 55 (Operand.tmp 143) 0, type := 0, pos := "law.go:76", after := #[{ on := 2, ground := Ground.data }], guard := none }) (oL := oLAskN0) (clo_app _ _ _ _ _ _ _) rfl rfl rfl (by kernel_rfl) (by kernel_rfl) (by kernel_rfl) (by kernel_rfl) (by kernel_rfl) (fun _ _ _ h => by cases h.1) (YG.val (by rfl) (fun _ _ => by go_simp)) ?_
    simp only [Act.put, List.setIfInBounds_toArray, List.set_cons_zero, List.set_cons_succ]
    refine wpX_take 4 (v := .slice a0 nn c0) (oi := { dst := some 145, op := Op.load 52 (Operand.tmp 144), type := 52, pos := "law.go:76", after := #[{ on := 3, ground := Ground.data }], guard := none }) (oL := oLAskN0) (clo_app _ _ _ _ _ _ _) rfl rfl rfl (by kernel_rfl) (by kernel_rfl) (by kernel_rfl) (by kernel_rfl) (by kernel_rfl) (fun _ _ _ h => by cases h.1) (YG.val (by rfl) (fun u hu => by have c := Row.cell (RB.out.ch hu.1 (row_in RB.out OUT.out (by decide))) 0; simp at c; go_simp)) ?_
    simp only [Act.put, List.setIfInBounds_toArray, List.set_cons_zero, List.set_cons_succ]
    refine wpX_take 5 (v := .pointer (some ⟨bRA, 22, none⟩)) (oi := { dst := some 146, op := Op.fieldAddr 43 (Operand.tmp 17) 6, type := 0, pos := "law.go:76", after := #[], guard := none }) (oL := oLAskN0) (clo_app _ _ _ _ _ _ _) rfl rfl rfl (by kernel_rfl) (by kernel_rfl) (by kernel_rfl) (by kernel_rfl) (by kernel_rfl) (fun _ _ _ h => by cases h.1) (YG.val (by rfl) (fun _ _ => by go_simp)) ?_
    simp only [Act.put, List.setIfInBounds_toArray, List.set_cons_zero, List.set_cons_succ]
    refine wpX_take 6 (v := .slice ap np cp) (oi := { dst := some 147, op := Op.load 24 (Operand.tmp 146), type := 24, pos := "law.go:76", after := #[{ on := 5, ground := Ground.data }], guard := none }) (oL := oLAskN0) (clo_app _ _ _ _ _ _ _) rfl rfl rfl (by kernel_rfl) (by kernel_rfl) (by kernel_rfl) (by kernel_rfl) (by kernel_rfl) (fun _ _ _ h => by cases h.1) (YG.val (by rfl) (fun u hu => by have c := rq_cell (RA.out.ch hu.1 (row_in RA.out OUT.out (by decide))) HX1.out 5; simp at c; go_simp)) ?_
    simp only [Act.put, List.setIfInBounds_toArray, List.set_cons_zero, List.set_cons_succ]
    refine wpX_step 7 (o := { dst := some 148, op := Op.buildSlice 52 1 #[(0, Operand.tmp 147)], type := 52, pos := "law.go:76", after := #[{ on := 6, ground := Ground.data }], guard := none }) rfl rfl (by kernel_rfl) (by rfl) (fun u2 hS2 K hK => ?_)
    have HKK := Lib.hid hK
    have HS2 := Lib.hid hS2
    clear hK hS2
    have ha2 := World.grownBy_alloc u2 (.cells #[.slice ap np cp] 24) none
    refine wp_val_op (v := .slice (some ⟨u2.heap.size, 0, none⟩) 1 1) (w1 := u2.alloc (.cells #[.slice ap np cp] 24)) (by go_simp) ?_
    have hrw2 : Row (u2.alloc (.cells #[.slice ap np cp] 24)) u2.heap.size 24 #[.slice ap np cp] := heap_alloc_new u2 _
    refine HKK.out (fun u => AppS z4 base 24 a0 nn c0 (L0l.map Sl.val) u ∧ Row u u2.heap.size 24 #[.slice ap np cp]) _ _ ⟨clo_app _ _ _ _ _ _ _ _ _ HS2.out ha2, hrw2⟩ (fun u h => h.1) (clo_and (clo_app _ _ _ _ _ _ _) (clo_row _ _ _)) ?_
    simp only [Act.put, List.setIfInBounds_toArray, List.set_cons_zero, List.set_cons_succ]
    clear ha2 hrw2
    have hu26 : z4.heap.size ≤ u2.heap.size := HS2.out.1.size
    refine wpX_step 8 (o := { dst := some 149, op := Op.call { callee := Callee.builtin Builtin.append, args := #[Operand.tmp 145, Operand.tmp 148], argTypes := #[52, 52] }, type := 52, pos := "law.go:76", after := #[{ on := 4, ground := Ground.data }, { on := 7, ground := Ground.data }], guard := none }) rfl rfl (by kernel_rfl) (by rfl) (fun u3 hS3 K3 hK3 => ?_)
    have HK3 := Lib.hid hK3
    have HS3 := Lib.hid hS3
    clear hK3 hS3
    have hnews : ∀ j u, ([.slice ap np cp] : List Value)[j]? = some u → u3.cell? ((⟨u2.heap.size, 0, none⟩ : Addr).add j) = some u := by
      intro j u hu
      have h2 : ((⟨u2.heap.size, 0, none⟩ : Addr).add j) = ⟨u2.heap.size, j, none⟩ := by unfold Addr.add; split <;> simp_all
      rw [h2, Row.cell HS3.out.2]
      simpa using hu
    have hzb : base ≤ u3.heap.size := by
      have h1 := HBZ.out
      have h2 := HS3.out.1.1.size
      omega
    have hFn : ¬ In a0 c0 u2.heap.size := fun h => by
      have := (Own.inn OUT.out h).2
      omega
    obtain ⟨gy1, cy1, w8, hrun, hown8, hgr8⟩ := run_app (P := Try.prog) (ty := 52) u3 elS HS3.out.1.2 ⟨u2.heap.size, 0, none⟩ 1 1 [.slice ap np cp] rfl hnews (by simp [Value.oneCell']) (by unfold maxLen; omega) (by omega) hzb (fun _ _ _ => trivial) (by omega)
    refine wp_val_op (v := .slice (some ⟨gy1, 0, none⟩) (nn + 1) cy1) (w1 := w8) (run_app_op u3 w8 _ (.tmp 145) (.tmp 148) rfl _ hrun) ?_
    refine HK3.out (fun u => (AppS z4 base 24 a0 nn c0 (L0l.map Sl.val) u ∧ Row u u2.heap.size 24 #[.slice ap np cp]) ∧ w8.grownBy u none) _ _ ⟨⟨⟨HS3.out.1.1.trans hgr8.ch (fun _ _ h => h), own_behind HS3.out.1.2 hown8 hgr8⟩, Row.ch HS3.out.2 hgr8.ch hFn⟩, World.grownBy.refl _ _⟩ (fun u h => h.1) (clo_and (clo_and (clo_app _ _ _ _ _ _ _) (clo_row _ _ _)) (clo_grown _)) ?_
    simp only [Act.put, List.setIfInBounds_toArray, List.set_cons_zero, List.set_cons_succ]
    refine wpX_take 9 (v := .pointer (some ⟨bk, 0, none⟩)) (oi := { dst := some 150, op := Op.nilCheck (Operand.tmp 141), type := 0, pos := "law.go:76", after := #[{ on := 0, ground := Ground.data }, { on := 0, ground := Ground.phase }, { on := 1, ground := Ground.phase }, { on := 2, ground := Ground.phase }, { on := 3, ground := Ground.phase }, { on := 4, ground := Ground.phase }, { on := 5, ground := Ground.phase }, { on := 6, ground := Ground.phase }, { on := 7, ground := Ground.phase }, { on := 8, ground := Ground.phase }], guard := none }) (oL := oLAskN0) (clo_and (clo_and (clo_app _ _ _ _ _ _ _) (clo_row _ _ _)) (clo_grown _)) rfl rfl rfl (by kernel_rfl) (by kernel_rfl) (by kernel_rfl) (by kernel_rfl) (by kernel_rfl) (fun _ _ _ h => by cases h.1) (YG.val (by rfl) (fun _ _ => by go_simp)) ?_
    simp only [Act.put, List.setIfInBounds_toArray, List.set_cons_zero, List.set_cons_succ]
    refine wpX_take 10 (v := .pointer (some ⟨bk, 0, none⟩)) (oi := { dst := some 151, op := Op.fieldAddr 55 (Operand.tmp 150) 0, type := 0, pos := "law.go:76", after := #[{ on := 9, ground := Ground.data }, { on := 0, ground := Ground.phase }, { on := 1, ground := Ground.phase }, { on := 2, ground := Ground.phase }, { on := 3, ground := Ground.phase }, { on := 4, ground := Ground.phase }, { on := 5, ground := Ground.phase }, { on := 6, ground := Ground.phase }, { on := 7, ground := Ground.phase }, { on := 8, ground := Ground.phase }], guard := none }) (oL := oLAskN0) (clo_and (clo_and (clo_app _ _ _ _ _ _ _) (clo_row _ _ _)) (clo_grown _)) rfl rfl rfl (by kernel_rfl) (by kernel_rfl) (by kernel_rfl) (by kernel_rfl) (by kernel_rfl) (fun _ _ _ h => by cases h.1) (YG.val (by rfl) (fun _ _ => by go_simp)) ?_
    simp only [Act.put, List.setIfInBounds_toArray, List.set_cons_zero, List.set_cons_succ]
    refine wpX_last (oL := { dst := none, op := Op.store 52 (Operand.tmp 151) (Operand.tmp 149), type := 0, pos := "law.go:76", after := #[{ on := 10, ground := Ground.data }, { on := 8, ground := Ground.data }, { on := 8, ground := Ground.chain }, { on := 0, ground := Ground.phase }, { on := 1, ground := Ground.phase }, { on := 2, ground := Ground.phase }, { on := 3, ground := Ground.phase }, { on := 4, ground := Ground.phase }, { on := 5, ground := Ground.phase }, { on := 6, ground := Ground.phase }, { on := 7, ground := Ground.phase }, { on := 8, ground := Ground.phase }], guard := none }) rfl (by kernel_rfl) (by kernel_rfl) (by rfl) (fun u4 hS4 K4 hK4 => ?_)
    have hrow4 := RB.out.ch hS4.1.1.1 (row_in RB.out OUT.out (by decide))
    have hc4 := Row.cell hrow4 0
    have hf4 := Row.frozen hrow4 0
    simp at hc4
    refine wp_skip_op (w1 := u4.setCell ⟨bk, 0, none⟩ (.slice (some ⟨gy1, 0, none⟩) (nn + 1) cy1)) (by go_simp) (hK4 _ _ ?_)
    simp only [Act.put]
    obtain ⟨y1, hw9⟩ : ∃ y1, y1 = u4.setCell ⟨bk, 0, none⟩ (.slice (some ⟨gy1, 0, none⟩) (nn + 1) cy1) := ⟨_, rfl⟩
    rw [← hw9]
    have hg9 : u4.grownBy y1 (some bk) := hw9 ▸ grownBy_setCell _ _ _ _
    have Ry1 := Lib.hid (show Row y1 bk 55 #[.slice (some ⟨gy1, 0, none⟩) (nn + 1) cy1, .slice a1 nn c1, .slice a2 mm c2, .slice a3 mm c3] from hw9 ▸ Row.setc hrow4 0 _)
    have hown4 : Own u4 base 24 1 (some ⟨gy1, 0, none⟩) (nn + 1) cy1 (L0l.map Sl.val ++ [.slice ap np cp]) := Own.grownNone hown8 hS4.2
    have hnb := row_in hrow4 hown4 (by decide)
    have Oy1 := Lib.hid (Own.ch hown4 (Ch.ofSome (S := fun x => x = bk) hg9 rfl) (fun h0 g e h => by subst h; exact hnb ⟨h0, e⟩))
    have Cy1 := Lib.hid (show Ch (fun x => In a0 c0 x ∨ x = bk) z4 y1 from (hS4.1.1.1.mono (fun _ _ h => .inl h)).trans (Ch.ofSome (S := fun x => In a0 c0 x ∨ x = bk) hg9 (.inr rfl)) (fun _ _ h => h))
    have Iy1 := Lib.hid (show ∀ x, In (some ⟨gy1, 0, none⟩) cy1 x → In a0 c0 x ∨ z4.heap.size ≤ x from fun x hx => (hgr8.inn hx).imp id (fun h => Nat.le_trans (show z4.heap.size ≤ u3.heap.size from HS3.out.1.1.size) h))
    clear HKK HS2 HK3 HS3 hnews hzb hFn hrun hown8 hgr8 hS4 hK4 hrow4 hc4 hf4 hw9 hg9 hown4 hnb hu26
    refine ⟨by first | rfl | trivial, ?_⟩
    clear OUT HBZ
    have OND := Lib.hid (show ∀ x, In a1 c1 x → In a0 c0 x → False from fun x hx hy => ND.out x hy hx)
    have HNX := Lib.hid (show ∀ x, In (some ⟨gy1, 0, none⟩) cy1 x → In a0 c0 x ∨ ¬ (lo ≤ x ∧ x < hi) from fun x hx => (Iy1.out x hx).imp id (fun h k => by have h1 := HIV.out.1; have h2 : v5.heap.size ≤ z4.heap.size := HSV.out; omega))
    have HNM := Lib.hid (show ∀ x, In (some ⟨gy1, 0, none⟩) cy1 x → In a0 c0 x ∨ z4.heap.size ≤ x from Iy1.out)
    have NLP := Lib.hid (LIs.pushed L0p.out L0.out HIV.out.2 (s := ⟨ap, np, cp⟩) P0.out Oy1.out Cy1.out HBK.out)
    have OFN := Lib.hid (Offs.push OFL0.out (s := ⟨ap, np, cp⟩) HNX.out (fun x hx k => by have h1 := (Own.inn P0.out hx).1; have h2 := HIV.out.1; have h3 : v5.heap.size ≤ v5.heap.size := HRF.out; omega))
    replace ND := Lib.hid (show ∀ x, In (some ⟨gy1, 0, none⟩) cy1 x → In a1 c1 x → False from fun x hx hy => (HNM.out x hx).elim (fun h => ND.out x h hy) (fun h => by have := (Own.inn L1.out.outer hy).2; omega))
    replace L1 := Lib.hid (LIs.chN L1.out L0.out.outer Cy1.out OND.out HBK.out)
    replace M0 := Lib.hid (LIsI.chT M0.out L0.out.outer Cy1.out HBK.out)
    replace M1 := Lib.hid (LIsI.chT M1.out L0.out.outer Cy1.out HBK.out)
    replace RO := Lib.hid (Row.chT RO.out L0.out.outer Cy1.out (by decide) (by have h1 := HBO.out; have h2 := HBQ.out; have h3 := HBR.out; have h6 := HBRA.out; have h7 := HBRF.out; have h8 := HIV.out; have h9 := HSO.out; have h10 := HYY.out; omega))
    replace OQ := Lib.hid (show BOwn _ _ _ _ _ _ from Own.chT OQ.out L0.out.outer Cy1.out (by decide) (by have h1 := HBO.out; have h2 := HSO.out; have h3 := HIV.out; have h4 := GZ1.out; have h5 := HBK.out; omega))
    replace OR := Lib.hid (show BOwn _ _ _ _ _ _ from Own.chT OR.out L0.out.outer Cy1.out (by decide) (by have h1 := HBO.out; have h2 := HSO.out; have h3 := HIV.out; have h4 := GZ1.out; have h5 := HBK.out; omega))
    replace ON := Lib.hid (Own.chT ON.out L0.out.outer Cy1.out (by decide) (by have h1 := HBO.out; have h2 := HSO.out; have h3 := HIV.out; have h4 := GZ1.out; have h5 := HBK.out; omega))
    replace OD := Lib.hid (show BOwn _ _ _ _ _ _ from Own.chT OD.out L0.out.outer Cy1.out (by decide) (by have h1 := HBO.out; have h2 := HSO.out; have h3 := HIV.out; have h4 := GZ1.out; have h5 := HBK.out; omega))
    replace RQ2 := Lib.hid (Row.chT RQ2.out L0.out.outer Cy1.out (by decide) (by have h1 := HBO.out; have h2 := HBQ.out; have h3 := HBR.out; have h6 := HBRA.out; have h7 := HBRF.out; have h8 := HIV.out; have h9 := HSO.out; have h10 := HYY.out; omega))
    replace RR3 := Lib.hid (Row.chT RR3.out L0.out.outer Cy1.out (by decide) (by have h1 := HBO.out; have h2 := HBQ.out; have h3 := HBR.out; have h6 := HBRA.out; have h7 := HBRF.out; have h8 := HIV.out; have h9 := HSO.out; have h10 := HYY.out; omega))
    replace P0 := Lib.hid (show BOwn _ _ _ _ _ _ from Own.chT P0.out L0.out.outer Cy1.out (by decide) (by have h1 := HBO.out; have h2 := HSO.out; have h3 := HIV.out; have h4 := GZ1.out; have h5 := HBK.out; omega))
    replace RA := Lib.hid (Row.chT RA.out L0.out.outer Cy1.out (by decide) (by have h1 := HBO.out; have h2 := HBQ.out; have h3 := HBR.out; have h6 := HBRA.out; have h7 := HBRF.out; have h8 := HIV.out; have h9 := HSO.out; have h10 := HYY.out; omega))
    replace P1 := Lib.hid (show BOwn _ _ _ _ _ _ from Own.chT P1.out L0.out.outer Cy1.out (by decide) (by have h1 := HBO.out; have h2 := HSO.out; have h3 := HIV.out; have h4 := GZ1.out; have h5 := HBK.out; omega))
    replace RF := Lib.hid (Row.chT RF.out L0.out.outer Cy1.out (by decide) (by have h1 := HBO.out; have h2 := HBQ.out; have h3 := HBR.out; have h6 := HBRA.out; have h7 := HBRF.out; have h8 := HIV.out; have h9 := HSO.out; have h10 := HYY.out; omega))
    replace HC := Lib.hid (HC.out.trans (Cy1.out.mono (T := fun x => bk ≤ x) (fun x _ h => by rcases h with h | h; have h1 := (Own.inn L0.out.outer h).1; have h2 := HBK.out; omega; omega)) (fun _ _ h => h))
    have HSV2 := Lib.hid (Nat.le_trans HSV.out Cy1.out.size)
    clear HSV
    have HSV := HSV2
    clear HSV2
    clear L0 OFL0 RB
    have L0 := NLP
    have OFL0 := OFN
    have RB := Lib.hid (show Row y1 bk 55 #[.slice (some ⟨gy1, 0, none⟩) (nn + 1) cy1, .slice a1 nn c1, .slice a2 mm c2, .slice a3 mm c3] from Ry1.out)
    clear NLP OFN HNX HNM OND Ry1 Oy1 Cy1 Iy1
    go_upto_region 24 with fail
    refine wp_normal ?_
    have HBZ := Lib.hid (show base ≤ y1.heap.size from Nat.le_trans HBW.out HC.out.size)
    have OUT := Lib.hid L1.out.outer
    refine wp_regionX (AppS y1 base 24 a1 nn c1 (L1l.map Sl.val)) 11 (by kernel_rfl) ⟨Ch.ofNone (grownBy_drewN y1 1 none) _, Own.grownNone OUT.out (grownBy_drewN y1 1 none)⟩ ?_
    refine wpX_take 0 (v := .pointer (some ⟨bk, 0, none⟩)) (oi := { dst := some 152, op := Op.move (Operand.tmp 0), type := 57, pos := "law.go:77", after := #[], guard := none }) (oL := oLAskN1) (clo_app _ _ _ _ _ _ _) rfl rfl rfl (by kernel_rfl) (by kernel_rfl) (by kernel_rfl) (by kernel_rfl) (by kernel_rfl) (fun _ _ _ h => by cases h.1) (YG.val (by rfl) (fun _ _ => by go_simp)) ?_
    simp only [Act.put, List.setIfInBounds_toArray, List.set_cons_zero, List.set_cons_succ]
    refine wpX_take 1 (v := .pointer (some ⟨bk, 0, none⟩)) (oi := { dst := some 153, op := Op.move (Operand.tmp 0), type := 57, pos := "law.go:77", after := #[], guard := none }) (oL := oLAskN1) (clo_app _ _ _ _ _ _ _) rfl rfl rfl (by kernel_rfl) (by kernel_rfl) (by kernel_rfl) (by kernel_rfl) (by kernel_rfl) (fun _ _ _ h => by cases h.1) (YG.val (by rfl) (fun _ _ => by go_simp)) ?_
    simp only [Act.put, List.setIfInBounds_toArray, List.set_cons_zero, List.set_cons_succ]
    refine wpX_take 2 (v := .pointer (some ⟨bk, 0, none⟩)) (oi := { dst := some 154, op := Op.nilCheck (Operand.tmp 153), type := 0, pos := "law.go:77", after := #[{ on := 1, ground := Ground.data }], guard := none }) (oL := oLAskN1) (clo_app _ _ _ _ _ _ _) rfl rfl rfl (by kernel_rfl) (by kernel_rfl) (by kernel_rfl) (by kernel_rfl) (by kernel_rfl) (fun _ _ _ h => by cases h.1) (YG.val (by rfl) (fun _ _ => by go_simp)) ?_
    simp only [Act.put, List.setIfInBounds_toArray, List.set_cons_zero, List.set_cons_succ]
    refine wpX_take 3 (v := .pointer (some ⟨bk, 1, none⟩)) (oi := { dst := some 155, op := Op.fieldAddr 55 (Operand.tmp 154) 1, type := 0, pos := "law.go:77", after := #[{ on := 2, ground := Ground.data }], guard := none }) (oL := oLAskN1) (clo_app _ _ _ _ _ _ _) rfl rfl rfl (by kernel_rfl) (by kernel_rfl) (by kernel_rfl) (by kernel_rfl) (by kernel_rfl) (fun _ _ _ h => by cases h.1) (YG.val (by rfl) (fun _ _ => by go_simp)) ?_
    simp only [Act.put, List.setIfInBounds_toArray, List.set_cons_zero, List.set_cons_succ]
    refine wpX_take 4 (v := .slice a1 nn c1) (oi := { dst := some 156, op := Op.load 52 (Operand.tmp 155), type := 52, pos := "law.go:77", after := #[{ on := 3, ground := Ground.data }], guard := none }) (oL := oLAskN1) (clo_app _ _ _ _ _ _ _) rfl rfl rfl (by kernel_rfl) (by kernel_rfl) (by kernel_rfl) (by kernel_rfl) (by kernel_rfl) (fun _ _ _ h => by cases h.1) (YG.val (by rfl) (fun u hu => by have c := Row.cell (RB.out.ch hu.1 (row_in RB.out OUT.out (by decide))) 1; simp at c; go_simp)) ?_
    simp only [Act.put, List.setIfInBounds_toArray, List.set_cons_zero, List.set_cons_succ]
    refine wpX_take 5 (v := .pointer (some ⟨bRF, 22, none⟩)) (oi := { dst := some 157, op := Op.fieldAddr 43 (Operand.tmp 20) 6, type := 0, pos := "law.go:77", after := #[], guard := none }) (oL := oLAskN1) (clo_app _ _ _ _ _ _ _) rfl rfl rfl (by kernel_rfl) (by kernel_rfl) (by kernel_rfl) (by kernel_rfl) (by kernel_rfl) (fun _ _ _ h => by cases h.1) (YG.val (by rfl) (fun _ _ => by go_simp)) ?_
    simp only [Act.put, List.setIfInBounds_toArray, List.set_cons_zero, List.set_cons_succ]
    refine wpX_take 6 (v := .slice ar nr cr) (oi := { dst := some 158, op := Op.load 24 (Operand.tmp 157), type := 24, pos := "law.go:77", after := #[{ on := 5, ground := Ground.data }], guard := none }) (oL := oLAskN1) (clo_app _ _ _ _ _ _ _) rfl rfl rfl (by kernel_rfl) (by kernel_rfl) (by kernel_rfl) (by kernel_rfl) (by kernel_rfl) (fun _ _ _ h => by cases h.1) (YG.val (by rfl) (fun u hu => by have c := rq_cell (RF.out.ch hu.1 (row_in RF.out OUT.out (by decide))) HX1.out 5; simp at c; go_simp)) ?_
    simp only [Act.put, List.setIfInBounds_toArray, List.set_cons_zero, List.set_cons_succ]
    refine wpX_step 7 (o := { dst := some 159, op := Op.buildSlice 52 1 #[(0, Operand.tmp 158)], type := 52, pos := "law.go:77", after := #[{ on := 6, ground := Ground.data }], guard := none }) rfl rfl (by kernel_rfl) (by rfl) (fun u2 hS2 K hK => ?_)
    have HKK := Lib.hid hK
    have HS2 := Lib.hid hS2
    clear hK hS2
    have ha2 := World.grownBy_alloc u2 (.cells #[.slice ar nr cr] 24) none
    refine wp_val_op (v := .slice (some ⟨u2.heap.size, 0, none⟩) 1 1) (w1 := u2.alloc (.cells #[.slice ar nr cr] 24)) (by go_simp) ?_
    have hrw2 : Row (u2.alloc (.cells #[.slice ar nr cr] 24)) u2.heap.size 24 #[.slice ar nr cr] := heap_alloc_new u2 _
    refine HKK.out (fun u => AppS y1 base 24 a1 nn c1 (L1l.map Sl.val) u ∧ Row u u2.heap.size 24 #[.slice ar nr cr]) _ _ ⟨clo_app _ _ _ _ _ _ _ _ _ HS2.out ha2, hrw2⟩ (fun u h => h.1) (clo_and (clo_app _ _ _ _ _ _ _) (clo_row _ _ _)) ?_
    simp only [Act.put, List.setIfInBounds_toArray, List.set_cons_zero, List.set_cons_succ]
    clear ha2 hrw2
    have hu26 : y1.heap.size ≤ u2.heap.size := HS2.out.1.size
    refine wpX_step 8 (o := { dst := some 160, op := Op.call { callee := Callee.builtin Builtin.append, args := #[Operand.tmp 156, Operand.tmp 159], argTypes := #[52, 52] }, type := 52, pos := "law.go:77", after := #[{ on := 4, ground := Ground.data }, { on := 7, ground := Ground.data }], guard := none }) rfl rfl (by kernel_rfl) (by rfl) (fun u3 hS3 K3 hK3 => ?_)
    have HK3 := Lib.hid hK3
    have HS3 := Lib.hid hS3
    clear hK3 hS3
    have hnews : ∀ j u, ([.slice ar nr cr] : List Value)[j]? = some u → u3.cell? ((⟨u2.heap.size, 0, none⟩ : Addr).add j) = some u := by
      intro j u hu
      have h2 : ((⟨u2.heap.size, 0, none⟩ : Addr).add j) = ⟨u2.heap.size, j, none⟩ := by unfold Addr.add; split <;> simp_all
      rw [h2, Row.cell HS3.out.2]
      simpa using hu
    have hzb : base ≤ u3.heap.size := by
      have h1 := HBZ.out
      have h2 := HS3.out.1.1.size
      omega
    have hFn : ¬ In a1 c1 u2.heap.size := fun h => by
      have := (Own.inn OUT.out h).2
      omega
    obtain ⟨gy2, cy2, w8, hrun, hown8, hgr8⟩ := run_app (P := Try.prog) (ty := 52) u3 elS HS3.out.1.2 ⟨u2.heap.size, 0, none⟩ 1 1 [.slice ar nr cr] rfl hnews (by simp [Value.oneCell']) (by unfold maxLen; omega) (by omega) hzb (fun _ _ _ => trivial) (by omega)
    refine wp_val_op (v := .slice (some ⟨gy2, 0, none⟩) (nn + 1) cy2) (w1 := w8) (run_app_op u3 w8 _ (.tmp 156) (.tmp 159) rfl _ hrun) ?_
    refine HK3.out (fun u => (AppS y1 base 24 a1 nn c1 (L1l.map Sl.val) u ∧ Row u u2.heap.size 24 #[.slice ar nr cr]) ∧ w8.grownBy u none) _ _ ⟨⟨⟨HS3.out.1.1.trans hgr8.ch (fun _ _ h => h), own_behind HS3.out.1.2 hown8 hgr8⟩, Row.ch HS3.out.2 hgr8.ch hFn⟩, World.grownBy.refl _ _⟩ (fun u h => h.1) (clo_and (clo_and (clo_app _ _ _ _ _ _ _) (clo_row _ _ _)) (clo_grown _)) ?_
    simp only [Act.put, List.setIfInBounds_toArray, List.set_cons_zero, List.set_cons_succ]
    refine wpX_take 9 (v := .pointer (some ⟨bk, 0, none⟩)) (oi := { dst := some 161, op := Op.nilCheck (Operand.tmp 152), type := 0, pos := "law.go:77", after := #[{ on := 0, ground := Ground.data }, { on := 0, ground := Ground.phase }, { on := 1, ground := Ground.phase }, { on := 2, ground := Ground.phase }, { on := 3, ground := Ground.phase }, { on := 4, ground := Ground.phase }, { on := 5, ground := Ground.phase }, { on := 6, ground := Ground.phase }, { on := 7, ground := Ground.phase }, { on := 8, ground := Ground.phase }], guard := none }) (oL := oLAskN1) (clo_and (clo_and (clo_app _ _ _ _ _ _ _) (clo_row _ _ _)) (clo_grown _)) rfl rfl rfl (by kernel_rfl) (by kernel_rfl) (by kernel_rfl) (by kernel_rfl) (by kernel_rfl) (fun _ _ _ h => by cases h.1) (YG.val (by rfl) (fun _ _ => by go_simp)) ?_
    simp only [Act.put, List.setIfInBounds_toArray, List.set_cons_zero, List.set_cons_succ]
    refine wpX_take 10 (v := .pointer (some ⟨bk, 1, none⟩)) (oi := { dst := some 162, op := Op.fieldAddr 55 (Operand.tmp 161) 1, type := 0, pos := "law.go:77", after := #[{ on := 9, ground := Ground.data }, { on := 0, ground := Ground.phase }, { on := 1, ground := Ground.phase }, { on := 2, ground := Ground.phase }, { on := 3, ground := Ground.phase }, { on := 4, ground := Ground.phase }, { on := 5, ground := Ground.phase }, { on := 6, ground := Ground.phase }, { on := 7, ground := Ground.phase }, { on := 8, ground := Ground.phase }], guard := none }) (oL := oLAskN1) (clo_and (clo_and (clo_app _ _ _ _ _ _ _) (clo_row _ _ _)) (clo_grown _)) rfl rfl rfl (by kernel_rfl) (by kernel_rfl) (by kernel_rfl) (by kernel_rfl) (by kernel_rfl) (fun _ _ _ h => by cases h.1) (YG.val (by rfl) (fun _ _ => by go_simp)) ?_
    simp only [Act.put, List.setIfInBounds_toArray, List.set_cons_zero, List.set_cons_succ]
    refine wpX_last (oL := { dst := none, op := Op.store 52 (Operand.tmp 162) (Operand.tmp 160), type := 0, pos := "law.go:77", after := #[{ on := 10, ground := Ground.data }, { on := 8, ground := Ground.data }, { on := 8, ground := Ground.chain }, { on := 0, ground := Ground.phase }, { on := 1, ground := Ground.phase }, { on := 2, ground := Ground.phase }, { on := 3, ground := Ground.phase }, { on := 4, ground := Ground.phase }, { on := 5, ground := Ground.phase }, { on := 6, ground := Ground.phase }, { on := 7, ground := Ground.phase }, { on := 8, ground := Ground.phase }], guard := none }) rfl (by kernel_rfl) (by kernel_rfl) (by rfl) (fun u4 hS4 K4 hK4 => ?_)
    have hrow4 := RB.out.ch hS4.1.1.1 (row_in RB.out OUT.out (by decide))
    have hc4 := Row.cell hrow4 1
    have hf4 := Row.frozen hrow4 1
    simp at hc4
    refine wp_skip_op (w1 := u4.setCell ⟨bk, 1, none⟩ (.slice (some ⟨gy2, 0, none⟩) (nn + 1) cy2)) (by go_simp) (hK4 _ _ ?_)
    simp only [Act.put]
    obtain ⟨y2, hw9⟩ : ∃ y2, y2 = u4.setCell ⟨bk, 1, none⟩ (.slice (some ⟨gy2, 0, none⟩) (nn + 1) cy2) := ⟨_, rfl⟩
    rw [← hw9]
    have hg9 : u4.grownBy y2 (some bk) := hw9 ▸ grownBy_setCell _ _ _ _
    have Ry2 := Lib.hid (show Row y2 bk 55 #[.slice (some ⟨gy1, 0, none⟩) (nn + 1) cy1, .slice (some ⟨gy2, 0, none⟩) (nn + 1) cy2, .slice a2 mm c2, .slice a3 mm c3] from hw9 ▸ Row.setc hrow4 1 _)
    have hown4 : Own u4 base 24 1 (some ⟨gy2, 0, none⟩) (nn + 1) cy2 (L1l.map Sl.val ++ [.slice ar nr cr]) := Own.grownNone hown8 hS4.2
    have hnb := row_in hrow4 hown4 (by decide)
    have Oy2 := Lib.hid (Own.ch hown4 (Ch.ofSome (S := fun x => x = bk) hg9 rfl) (fun h0 g e h => by subst h; exact hnb ⟨h0, e⟩))
    have Cy2 := Lib.hid (show Ch (fun x => In a1 c1 x ∨ x = bk) y1 y2 from (hS4.1.1.1.mono (fun _ _ h => .inl h)).trans (Ch.ofSome (S := fun x => In a1 c1 x ∨ x = bk) hg9 (.inr rfl)) (fun _ _ h => h))
    have Iy2 := Lib.hid (show ∀ x, In (some ⟨gy2, 0, none⟩) cy2 x → In a1 c1 x ∨ y1.heap.size ≤ x from fun x hx => (hgr8.inn hx).imp id (fun h => Nat.le_trans (show y1.heap.size ≤ u3.heap.size from HS3.out.1.1.size) h))
    clear HKK HS2 HK3 HS3 hnews hzb hFn hrun hown8 hgr8 hS4 hK4 hrow4 hc4 hf4 hw9 hg9 hown4 hnb hu26
    refine ⟨by first | rfl | trivial, ?_⟩
    clear OUT HBZ
    have OND := Lib.hid (show ∀ x, In (some ⟨gy1, 0, none⟩) cy1 x → In a1 c1 x → False from ND.out)
    have HNX := Lib.hid (show ∀ x, In (some ⟨gy2, 0, none⟩) cy2 x → In a1 c1 x ∨ ¬ (lo ≤ x ∧ x < hi) from fun x hx => (Iy2.out x hx).imp id (fun h k => by have h1 := HIV.out.1; have h2 : v5.heap.size ≤ y1.heap.size := HSV.out; omega))
    have HNM := Lib.hid (show ∀ x, In (some ⟨gy2, 0, none⟩) cy2 x → In a1 c1 x ∨ y1.heap.size ≤ x from Iy2.out)
    have NLP := Lib.hid (LIs.pushed L1p.out L1.out (Nat.le_trans HIV.out.2 GZ1.out) (s := ⟨ar, nr, cr⟩) P1.out Oy2.out Cy2.out HBK.out)
    have OFN := Lib.hid (Offs.push OFL1.out (s := ⟨ar, nr, cr⟩) HNX.out (fun x hx k => by have h1 := (Own.inn P1.out hx).1; have h2 := HIV.out.1; have h3 : v5.heap.size ≤ z2.heap.size := GZ1.out; omega))
    replace ND := Lib.hid (fun x hx hy => (HNM.out x hy).elim (fun h => ND.out x hx h) (fun h => by have := (Own.inn L0.out.outer hx).2; omega))
    replace L0 := Lib.hid (LIs.chN L0.out L1.out.outer Cy2.out OND.out HBK.out)
    replace M0 := Lib.hid (LIsI.chT M0.out L1.out.outer Cy2.out HBK.out)
    replace M1 := Lib.hid (LIsI.chT M1.out L1.out.outer Cy2.out HBK.out)
    replace RO := Lib.hid (Row.chT RO.out L1.out.outer Cy2.out (by decide) (by have h1 := HBO.out; have h2 := HBQ.out; have h3 := HBR.out; have h6 := HBRA.out; have h7 := HBRF.out; have h8 := HIV.out; have h9 := HSO.out; have h10 := HYY.out; omega))
    replace OQ := Lib.hid (show BOwn _ _ _ _ _ _ from Own.chT OQ.out L1.out.outer Cy2.out (by decide) (by have h1 := HBO.out; have h2 := HSO.out; have h3 := HIV.out; have h4 := GZ1.out; have h5 := HBK.out; omega))
    replace OR := Lib.hid (show BOwn _ _ _ _ _ _ from Own.chT OR.out L1.out.outer Cy2.out (by decide) (by have h1 := HBO.out; have h2 := HSO.out; have h3 := HIV.out; have h4 := GZ1.out; have h5 := HBK.out; omega))
    replace ON := Lib.hid (Own.chT ON.out L1.out.outer Cy2.out (by decide) (by have h1 := HBO.out; have h2 := HSO.out; have h3 := HIV.out; have h4 := GZ1.out; have h5 := HBK.out; omega))
    replace OD := Lib.hid (show BOwn _ _ _ _ _ _ from Own.chT OD.out L1.out.outer Cy2.out (by decide) (by have h1 := HBO.out; have h2 := HSO.out; have h3 := HIV.out; have h4 := GZ1.out; have h5 := HBK.out; omega))
    replace RQ2 := Lib.hid (Row.chT RQ2.out L1.out.outer Cy2.out (by decide) (by have h1 := HBO.out; have h2 := HBQ.out; have h3 := HBR.out; have h6 := HBRA.out; have h7 := HBRF.out; have h8 := HIV.out; have h9 := HSO.out; have h10 := HYY.out; omega))
    replace RR3 := Lib.hid (Row.chT RR3.out L1.out.outer Cy2.out (by decide) (by have h1 := HBO.out; have h2 := HBQ.out; have h3 := HBR.out; have h6 := HBRA.out; have h7 := HBRF.out; have h8 := HIV.out; have h9 := HSO.out; have h10 := HYY.out; omega))
    replace P0 := Lib.hid (show BOwn _ _ _ _ _ _ from Own.chT P0.out L1.out.outer Cy2.out (by decide) (by have h1 := HBO.out; have h2 := HSO.out; have h3 := HIV.out; have h4 := GZ1.out; have h5 := HBK.out; omega))
    replace RA := Lib.hid (Row.chT RA.out L1.out.outer Cy2.out (by decide) (by have h1 := HBO.out; have h2 := HBQ.out; have h3 := HBR.out; have h6 := HBRA.out; have h7 := HBRF.out; have h8 := HIV.out; have h9 := HSO.out; have h10 := HYY.out; omega))
    replace P1 := Lib.hid (show BOwn _ _ _ _ _ _ from Own.chT P1.out L1.out.outer Cy2.out (by decide) (by have h1 := HBO.out; have h2 := HSO.out; have h3 := HIV.out; have h4 := GZ1.out; have h5 := HBK.out; omega))
    replace RF := Lib.hid (Row.chT RF.out L1.out.outer Cy2.out (by decide) (by have h1 := HBO.out; have h2 := HBQ.out; have h3 := HBR.out; have h6 := HBRA.out; have h7 := HBRF.out; have h8 := HIV.out; have h9 := HSO.out; have h10 := HYY.out; omega))
    replace HC := Lib.hid (HC.out.trans (Cy2.out.mono (T := fun x => bk ≤ x) (fun x _ h => by rcases h with h | h; have h1 := (Own.inn L1.out.outer h).1; have h2 := HBK.out; omega; omega)) (fun _ _ h => h))
    have HSV2 := Lib.hid (Nat.le_trans HSV.out Cy2.out.size)
    clear HSV
    have HSV := HSV2
    clear HSV2
    clear L1 OFL1 RB
    have L1 := NLP
    have OFL1 := OFN
    have RB := Lib.hid (show Row y2 bk 55 #[.slice (some ⟨gy1, 0, none⟩) (nn + 1) cy1, .slice (some ⟨gy2, 0, none⟩) (nn + 1) cy2, .slice a2 mm c2, .slice a3 mm c3] from Ry2.out)
    clear NLP OFN HNX HNM OND Ry2 Oy2 Cy2 Iy2
    have hnp : Q1.bytes.length = np := BOwn.len P0.out
    have hnr : Q1.bytes.length = nr := BOwn.len P1.out
    have HNP := Lib.hid hnp
    have HNR := Lib.hid hnr
    clear hnp hnr
    go_wp2_with (first
      | ((with_reducible show wpList _ _ _ ({ dst := some 172, op := _, type := _, pos := _, after := _, guard := _ } :: _) _ _); refine wpList_load_rowW (by kernel_rfl) 43 _ rfl bRA rfl 43 (rqC Q1 (.slice ap np cp)) (0, 0) _ RA.out Try.underlying43 rfl (by rw [size_req]; exact congrArg some (rq_len Q1 _ HX1.out).symm) ?_)
      | ((with_reducible show wpList _ _ _ ({ dst := some 173, op := _, type := _, pos := _, after := _, guard := _ } :: _) _ _); refine wpList_load_rowW (by kernel_rfl) 43 _ rfl bRF rfl 43 (rqC Q1 (.slice ar nr cr)) (0, 0) _ RF.out Try.underlying43 rfl (by rw [size_req]; exact congrArg some (rq_len Q1 _ HX1.out).symm) ?_))
    refine (sameReq_yes Q1 ap ar np nr cp cr _ HX1.out (BOwn.lies P0.out) (BOwn.lies P1.out) HNP.out HNR.out (by have h1 := HNP.out; have h2 := HPL.out; unfold maxLen; omega) HOK1.out).mono ?_
    rintro e z9 ⟨rfl, g⟩
    replace RB := Lib.hid (RB.out.grown g)
    replace L0 := Lib.hid (L0.out.grown g)
    replace L1 := Lib.hid (L1.out.grown g)
    replace M0 := Lib.hid (M0.out.grown g)
    replace M1 := Lib.hid (M1.out.grown g)
    replace RO := Lib.hid (RO.out.grown g)
    replace OQ := Lib.hid (BOwn.grown OQ.out g)
    replace OR := Lib.hid (BOwn.grown OR.out g)
    replace ON := Lib.hid (Own.grownNone ON.out g)
    replace OD := Lib.hid (BOwn.grown OD.out g)
    replace RQ2 := Lib.hid (RQ2.out.grown g)
    replace RR3 := Lib.hid (RR3.out.grown g)
    replace P0 := Lib.hid (BOwn.grown P0.out g)
    replace RA := Lib.hid (RA.out.grown g)
    replace P1 := Lib.hid (BOwn.grown P1.out g)
    replace RF := Lib.hid (RF.out.grown g)
    replace HC := Lib.hid (HC.out.then g)
    clear g P0 P1 RA RF L0p L1p
    go_upto_region 40 with fail
    have x0 := op_byt RO.out HX.out
    have x1 := op_cell RO.out HX.out 1
    have x2 := op_cell RO.out HX.out 2
    have x3 := op_cell RO.out HX.out 3
    simp at x1 x2 x3
    go_wp2_with fail
    refine (kept_yes (some ⟨gQ, 0, none⟩) aq capQ cq nq (nq + 70) q.bytes _ (BOwn.lies OQ.out) (HAQ.out _ HC.out) HNQ.out rfl (by omega)).mono ?_
    rintro e e0 ⟨rfl, g⟩
    clear x0 x1 x2 x3
    replace RB := Lib.hid (RB.out.grown g)
    replace L0 := Lib.hid (L0.out.grown g)
    replace L1 := Lib.hid (L1.out.grown g)
    replace M0 := Lib.hid (M0.out.grown g)
    replace M1 := Lib.hid (M1.out.grown g)
    replace RO := Lib.hid (RO.out.grown g)
    replace OQ := Lib.hid (BOwn.grown OQ.out g)
    replace OR := Lib.hid (BOwn.grown OR.out g)
    replace ON := Lib.hid (Own.grownNone ON.out g)
    replace OD := Lib.hid (BOwn.grown OD.out g)
    replace RQ2 := Lib.hid (RQ2.out.grown g)
    replace RR3 := Lib.hid (RR3.out.grown g)
    replace HC := Lib.hid (HC.out.then g)
    clear g
    have x0 := op_byt RO.out HX.out
    have x1 := op_cell RO.out HX.out 1
    have x2 := op_cell RO.out HX.out 2
    have x3 := op_cell RO.out HX.out 3
    simp at x1 x2 x3
    go_wp2_with fail
    refine (kept_yes (some ⟨gR, 0, none⟩) ab capR cb m (m + 70) bt _ (BOwn.lies OR.out) (HBT.out _ HC.out) HM.out rfl (by omega)).mono ?_
    rintro e e1 ⟨rfl, g⟩
    clear x0 x1 x2 x3
    replace RB := Lib.hid (RB.out.grown g)
    replace L0 := Lib.hid (L0.out.grown g)
    replace L1 := Lib.hid (L1.out.grown g)
    replace M0 := Lib.hid (M0.out.grown g)
    replace M1 := Lib.hid (M1.out.grown g)
    replace RO := Lib.hid (RO.out.grown g)
    replace OQ := Lib.hid (BOwn.grown OQ.out g)
    replace OR := Lib.hid (BOwn.grown OR.out g)
    replace ON := Lib.hid (Own.grownNone ON.out g)
    replace OD := Lib.hid (BOwn.grown OD.out g)
    replace RQ2 := Lib.hid (RQ2.out.grown g)
    replace RR3 := Lib.hid (RR3.out.grown g)
    replace HC := Lib.hid (HC.out.then g)
    clear g
    have x0 := op_byt RO.out HX.out
    have x1 := op_cell RO.out HX.out 1
    have x2 := op_cell RO.out HX.out 2
    have x3 := op_cell RO.out HX.out 3
    simp at x1 x2 x3
    go_wp2_with fail
    refine (Ints.kept_yes (some ⟨gN, 0, none⟩) an capN cn n (n + 70) ns _ (Ints.IOw.lies ON.out) (Ints.ILies.of (HNS.out _ HC.out)) HN.out rfl (by omega)).mono ?_
    rintro e e2 ⟨rfl, g⟩
    clear x0 x1 x2 x3
    replace RB := Lib.hid (RB.out.grown g)
    replace L0 := Lib.hid (L0.out.grown g)
    replace L1 := Lib.hid (L1.out.grown g)
    replace M0 := Lib.hid (M0.out.grown g)
    replace M1 := Lib.hid (M1.out.grown g)
    replace RO := Lib.hid (RO.out.grown g)
    replace OQ := Lib.hid (BOwn.grown OQ.out g)
    replace OR := Lib.hid (BOwn.grown OR.out g)
    replace ON := Lib.hid (Own.grownNone ON.out g)
    replace OD := Lib.hid (BOwn.grown OD.out g)
    replace RQ2 := Lib.hid (RQ2.out.grown g)
    replace RR3 := Lib.hid (RR3.out.grown g)
    replace HC := Lib.hid (HC.out.then g)
    clear g
    have x0 := op_byt RO.out HX.out
    have x1 := op_cell RO.out HX.out 1
    have x2 := op_cell RO.out HX.out 2
    have x3 := op_cell RO.out HX.out 3
    simp at x1 x2 x3
    go_wp2_with fail
    refine (kept_yes (some ⟨gD, 0, none⟩) ad capD cd nd (nd + 70) ld _ (BOwn.lies OD.out) (HD.out _ HC.out) HND.out rfl (by omega)).mono ?_
    rintro e e3 ⟨rfl, g⟩
    clear x0 x1 x2 x3
    replace RB := Lib.hid (RB.out.grown g)
    replace L0 := Lib.hid (L0.out.grown g)
    replace L1 := Lib.hid (L1.out.grown g)
    replace M0 := Lib.hid (M0.out.grown g)
    replace M1 := Lib.hid (M1.out.grown g)
    replace RO := Lib.hid (RO.out.grown g)
    replace OQ := Lib.hid (BOwn.grown OQ.out g)
    replace OR := Lib.hid (BOwn.grown OR.out g)
    replace ON := Lib.hid (Own.grownNone ON.out g)
    replace OD := Lib.hid (BOwn.grown OD.out g)
    replace RQ2 := Lib.hid (RQ2.out.grown g)
    replace RR3 := Lib.hid (RR3.out.grown g)
    replace HC := Lib.hid (HC.out.then g)
    clear g
    have x0 := op_byt RO.out HX.out
    have x1 := op_cell RO.out HX.out 1
    have x2 := op_cell RO.out HX.out 2
    have x3 := op_cell RO.out HX.out 3
    simp at x1 x2 x3
    clear x0 x1 x2 x3
    go_wp2_with fail
    refine (over_n _ gQ _ _ _ _ OQ.out (by omega)).mono ?_
    rintro e o0 ⟨rfl, ho, g⟩
    clear ho
    replace RB := Lib.hid (RB.out.grownNe g (by have h1 := HYY.out; have h2 := HBO.out; have h3 := HLO.out; omega))
    replace L0 := Lib.hid (LIs.chX L0.out OFL0.out g (by have h1 := HYY.out; show lo ≤ _ ∧ _ < hi; omega))
    replace L1 := Lib.hid (LIs.chX L1.out OFL1.out g (by have h1 := HYY.out; show lo ≤ _ ∧ _ < hi; omega))
    replace M0 := Lib.hid (LIsI.chX M0.out OFM0.out g (by have h1 := HYY.out; show lo ≤ _ ∧ _ < hi; omega))
    replace M1 := Lib.hid (LIsI.chX M1.out OFM1.out g (by have h1 := HYY.out; show lo ≤ _ ∧ _ < hi; omega))
    replace OR := Lib.hid (show BOwn _ _ _ _ _ _ from Own.grownNe OR.out g (fun g' h0 e e2 => by injection e with e; injection e with e; injection e2 with e2; have h1 := HYY.out; omega))
    replace ON := Lib.hid (Own.grownNe ON.out g (fun g' h0 e e2 => by injection e with e; injection e with e; injection e2 with e2; have h1 := HYY.out; omega))
    replace OD := Lib.hid (show BOwn _ _ _ _ _ _ from Own.grownNe OD.out g (fun g' h0 e e2 => by injection e with e; injection e with e; injection e2 with e2; have h1 := HYY.out; omega))
    replace HC := Lib.hid (HC.out.trans (Ch.ofSome (S := fun x => bk ≤ x) g (by have h1 := HYY.out; have h2 := HBO.out; have h3 := HLO.out; omega)) (fun _ _ h => h))
    clear g
    go_wp2_with fail
    refine (over_n _ gR _ _ _ _ OR.out (by omega)).mono ?_
    rintro e o1 ⟨rfl, ho, g⟩
    clear ho
    replace RB := Lib.hid (RB.out.grownNe g (by have h1 := HYY.out; have h2 := HBO.out; have h3 := HLO.out; omega))
    replace L0 := Lib.hid (LIs.chX L0.out OFL0.out g (by have h1 := HYY.out; show lo ≤ _ ∧ _ < hi; omega))
    replace L1 := Lib.hid (LIs.chX L1.out OFL1.out g (by have h1 := HYY.out; show lo ≤ _ ∧ _ < hi; omega))
    replace M0 := Lib.hid (LIsI.chX M0.out OFM0.out g (by have h1 := HYY.out; show lo ≤ _ ∧ _ < hi; omega))
    replace M1 := Lib.hid (LIsI.chX M1.out OFM1.out g (by have h1 := HYY.out; show lo ≤ _ ∧ _ < hi; omega))
    replace ON := Lib.hid (Own.grownNe ON.out g (fun g' h0 e e2 => by injection e with e; injection e with e; injection e2 with e2; have h1 := HYY.out; omega))
    replace OD := Lib.hid (show BOwn _ _ _ _ _ _ from Own.grownNe OD.out g (fun g' h0 e e2 => by injection e with e; injection e with e; injection e2 with e2; have h1 := HYY.out; omega))
    replace HC := Lib.hid (HC.out.trans (Ch.ofSome (S := fun x => bk ≤ x) g (by have h1 := HYY.out; have h2 := HBO.out; have h3 := HLO.out; omega)) (fun _ _ h => h))
    clear g
    go_wp2_with fail
    refine (Ints.over_n _ gN _ _ _ _ ON.out (by omega)).mono ?_
    rintro e o2 ⟨rfl, ho, g⟩
    clear ho
    replace RB := Lib.hid (RB.out.grownNe g (by have h1 := HYY.out; have h2 := HBO.out; have h3 := HLO.out; omega))
    replace L0 := Lib.hid (LIs.chX L0.out OFL0.out g (by have h1 := HYY.out; show lo ≤ _ ∧ _ < hi; omega))
    replace L1 := Lib.hid (LIs.chX L1.out OFL1.out g (by have h1 := HYY.out; show lo ≤ _ ∧ _ < hi; omega))
    replace M0 := Lib.hid (LIsI.chX M0.out OFM0.out g (by have h1 := HYY.out; show lo ≤ _ ∧ _ < hi; omega))
    replace M1 := Lib.hid (LIsI.chX M1.out OFM1.out g (by have h1 := HYY.out; show lo ≤ _ ∧ _ < hi; omega))
    replace OD := Lib.hid (show BOwn _ _ _ _ _ _ from Own.grownNe OD.out g (fun g' h0 e e2 => by injection e with e; injection e with e; injection e2 with e2; have h1 := HYY.out; omega))
    replace HC := Lib.hid (HC.out.trans (Ch.ofSome (S := fun x => bk ≤ x) g (by have h1 := HYY.out; have h2 := HBO.out; have h3 := HLO.out; omega)) (fun _ _ h => h))
    clear g
    go_wp2_with fail
    refine (over_n _ gD _ _ _ _ OD.out (by omega)).mono ?_
    rintro e o3 ⟨rfl, ho, g⟩
    clear ho
    replace RB := Lib.hid (RB.out.grownNe g (by have h1 := HYY.out; have h2 := HBO.out; have h3 := HLO.out; omega))
    replace L0 := Lib.hid (LIs.chX L0.out OFL0.out g (by have h1 := HYY.out; show lo ≤ _ ∧ _ < hi; omega))
    replace L1 := Lib.hid (LIs.chX L1.out OFL1.out g (by have h1 := HYY.out; show lo ≤ _ ∧ _ < hi; omega))
    replace M0 := Lib.hid (LIsI.chX M0.out OFM0.out g (by have h1 := HYY.out; show lo ≤ _ ∧ _ < hi; omega))
    replace M1 := Lib.hid (LIsI.chX M1.out OFM1.out g (by have h1 := HYY.out; show lo ≤ _ ∧ _ < hi; omega))
    replace HC := Lib.hid (HC.out.trans (Ch.ofSome (S := fun x => bk ≤ x) g (by have h1 := HYY.out; have h2 := HBO.out; have h3 := HLO.out; omega)) (fun _ _ h => h))
    clear g
    go_wp2_with fail
    go_ret
    refine ⟨rfl, bs ++ [Q1.bytes], is, ⟨_, _, _, _, _, _, _, _, _, _, _, _, _, _, RB.out, L0.out, L1.out, M0.out, M1.out, ND.out, NI.out⟩, by simp, by omega, fun x hx => (List.mem_append.1 hx).imp id (fun h => by rw [List.mem_singleton.1 h]; exact HPL.out), fun x hx => .inl hx, HC.out⟩
  have N1 := Lib.hid hcall
  clear hcall
  by_cases hcall : call = 2
  · have e0 : (call == 0) = false := by rw [beq_eq_false_iff_ne]; omega
    have e1 : (call == 1) = false := by rw [beq_eq_false_iff_ne]; omega
    have e2 : (call == 2) = true := by rw [beq_iff_eq]; omega
    have e3 : (call == 3) = false := by rw [beq_eq_false_iff_ne]; omega
    have HSO := Lib.hid (show bk < lo ∧ lo ≤ wQ.heap.size ∧ lo ≤ wR.heap.size ∧ lo ≤ wN.heap.size ∧ lo ≤ wb.heap.size from by have h1 := HBO.out; have h2 := HLO.out; have z1 := ZQ.out; have z2 := ZR.out; have z3 := ZN.out; omega)
    have HSV := Lib.hid (Nat.le_refl v5.heap.size)
    obtain ⟨E, hE⟩ : ∃ E, E = putE ⟨k, ns, bt⟩ := ⟨_, rfl⟩
    obtain ⟨PC, hPC⟩ : ∃ PC, PC = putL ⟨k, ns, bt⟩ := ⟨_, rfl⟩
    have HPL := Lib.hid (show PC.length ≤ 50000000 by rw [hPC]; exact putL_len ⟨k, ns, bt⟩ n m HN.out HM.out (by omega))
    have hEE : (E == E) = true := by rw [beq_iff_eq]
    have HE := Lib.hid hE
    have HPC := Lib.hid hPC
    clear hE hPC hcall
    go_upto_region 27 with fail
    have L0p := Lib.hid L0.out
    go_wp2_with (refine wpList_load_row rfl 26 _ rfl br rfl 26 #[.int .u8 K, .slice (some ⟨gN, 0, none⟩) n capN, .slice (some ⟨gR, 0, none⟩) m capR] (0, 0) _ RR3.out Try.underlying26 rfl (by rw [size_rep]; rfl) ?_)
    refine (putReply_n K k n capN m capR (some ⟨gN, 0, none⟩) (some ⟨gR, 0, none⟩) ns bt v5 HKK.out HKB.out (LN.out _ _ ON.out) (LR.out _ _ OR.out) HN.out HM.out (by unfold maxLen; omega) (by unfold maxLen; omega)).mono ?_
    rintro e z1 ⟨ap, np, cp, rfl, ho, g⟩
    rw [← HE.out]
    rw [← HPC.out] at ho
    clear x
    replace RB := Lib.hid (RB.out.grown g)
    replace L0 := Lib.hid (L0.out.grown g)
    replace L1 := Lib.hid (L1.out.grown g)
    replace M0 := Lib.hid (M0.out.grown g)
    replace M1 := Lib.hid (M1.out.grown g)
    replace RO := Lib.hid (RO.out.grown g)
    replace OQ := Lib.hid (BOwn.grown OQ.out g)
    replace OR := Lib.hid (BOwn.grown OR.out g)
    replace ON := Lib.hid (Own.grownNone ON.out g)
    replace OD := Lib.hid (BOwn.grown OD.out g)
    replace RQ2 := Lib.hid (RQ2.out.grown g)
    replace RR3 := Lib.hid (RR3.out.grown g)
    replace HC := Lib.hid (HC.out.then g)
    have P0 := Lib.hid ho
    have GZ1 := Lib.hid (show v5.heap.size ≤ z1.heap.size from g.size)
    clear ho g
    have L1p := Lib.hid L1.out
    go_wp2_with (refine wpList_load_mid rfl 26 _ rfl bo 24 rfl _ _ (op_rep RO.out HX.out) Try.underlying26 rfl (by rw [size_rep]; rfl) ?_)
    refine (refPutR_n K k n cn m cb an ab ns bt z1 HKK.out HKB.out (HNS.out _ HC.out) (HBT.out _ HC.out) HN.out HM.out (by unfold maxLen; omega) (by unfold maxLen; omega)).mono ?_
    rintro e z2 ⟨ar, nr, cr, rfl, ho, g⟩
    rw [← HE.out]
    rw [← HPC.out] at ho
    replace RB := Lib.hid (RB.out.grown g)
    replace L0 := Lib.hid (L0.out.grown g)
    replace L1 := Lib.hid (L1.out.grown g)
    replace M0 := Lib.hid (M0.out.grown g)
    replace M1 := Lib.hid (M1.out.grown g)
    replace RO := Lib.hid (RO.out.grown g)
    replace OQ := Lib.hid (BOwn.grown OQ.out g)
    replace OR := Lib.hid (BOwn.grown OR.out g)
    replace ON := Lib.hid (Own.grownNone ON.out g)
    replace OD := Lib.hid (BOwn.grown OD.out g)
    replace RQ2 := Lib.hid (RQ2.out.grown g)
    replace RR3 := Lib.hid (RR3.out.grown g)
    replace P0 := Lib.hid (BOwn.grown P0.out g)
    replace HC := Lib.hid (HC.out.then g)
    have P1 := Lib.hid ho
    have HSV2 := Lib.hid (Nat.le_trans GZ1.out g.size)
    clear ho g HSV
    have HSV := HSV2
    clear HSV2
    have HRF := Lib.hid (Nat.le_refl v5.heap.size)
    have b0 := Row.cell RB.out 0
    simp at b0
    go_upto_region 30 with (at_builtin; refine wpList_push elS rfl (.tmp 193) (.tmp 195) rfl rfl L0.out.outer (.slice ap np cp) rfl rfl (by unfold maxLen; omega) (by omega) (Nat.le_trans HBW.out HC.out.size) ?_; intro gy1 cy1 u9 ho hgr; have HO9 := Lib.hid ho; have HGR := Lib.hid hgr; have RBx := Lib.hid (RB.out.ch hgr.ch (row_in RB.out L0.out.outer (by decide))); have y := Row.cell RBx.out 0; have f := Row.frozen RBx.out 0; simp at y; clear ho hgr)
    obtain ⟨y1, hw⟩ : ∃ y1, y1 = u9.setCell ⟨bk, 0, none⟩ (.slice (some ⟨gy1, 0, none⟩) (nn + 1) cy1) := ⟨_, rfl⟩
    rw [← hw]
    have g9 : u9.grownBy y1 (some bk) := hw ▸ grownBy_setCell _ _ _ _
    have Ry1 := Lib.hid (hw ▸ Row.setc RBx.out 0 (.slice (some ⟨gy1, 0, none⟩) (nn + 1) cy1))
    have Oy1 := Lib.hid (Own.ch HO9.out (Ch.ofSome (S := fun x => x = bk) g9 rfl) (fun h0 g e h => by have h1 := (Own.inn HO9.out (g := g) ⟨h0, e⟩).1; have h2 := HBK.out; omega))
    have Cy1 := Lib.hid (show Ch (fun x => In a0 c0 x ∨ x = bk) z2 y1 from (HGR.out.ch.mono (fun _ _ h => .inl h)).trans (Ch.ofSome (S := fun x => In a0 c0 x ∨ x = bk) g9 (.inr rfl)) (fun _ _ h => h))
    have Iy1 := Lib.hid (show ∀ x, In (some ⟨gy1, 0, none⟩) cy1 x → In a0 c0 x ∨ z2.heap.size ≤ x from fun x hx => HGR.out.inn hx)
    clear hw g9 y f HO9 HGR RBx
    have OND := Lib.hid (show ∀ x, In a1 c1 x → In a0 c0 x → False from fun x hx hy => ND.out x hy hx)
    have HNX := Lib.hid (show ∀ x, In (some ⟨gy1, 0, none⟩) cy1 x → In a0 c0 x ∨ ¬ (lo ≤ x ∧ x < hi) from fun x hx => (Iy1.out x hx).imp id (fun h k => by have h1 := HIV.out.1; have h2 : v5.heap.size ≤ z2.heap.size := HSV.out; omega))
    have HNM := Lib.hid (show ∀ x, In (some ⟨gy1, 0, none⟩) cy1 x → In a0 c0 x ∨ z2.heap.size ≤ x from Iy1.out)
    have NLP := Lib.hid (LIs.pushed L0p.out L0.out HIV.out.2 (s := ⟨ap, np, cp⟩) P0.out Oy1.out Cy1.out HBK.out)
    have OFN := Lib.hid (Offs.push OFL0.out (s := ⟨ap, np, cp⟩) HNX.out (fun x hx k => by have h1 := (Own.inn P0.out hx).1; have h2 := HIV.out.1; have h3 : v5.heap.size ≤ v5.heap.size := HRF.out; omega))
    replace ND := Lib.hid (show ∀ x, In (some ⟨gy1, 0, none⟩) cy1 x → In a1 c1 x → False from fun x hx hy => (HNM.out x hx).elim (fun h => ND.out x h hy) (fun h => by have := (Own.inn L1.out.outer hy).2; omega))
    replace L1 := Lib.hid (LIs.chN L1.out L0.out.outer Cy1.out OND.out HBK.out)
    replace M0 := Lib.hid (LIsI.chT M0.out L0.out.outer Cy1.out HBK.out)
    replace M1 := Lib.hid (LIsI.chT M1.out L0.out.outer Cy1.out HBK.out)
    replace RO := Lib.hid (Row.chT RO.out L0.out.outer Cy1.out (by decide) (by have h1 := HBO.out; have h2 := HBQ.out; have h3 := HBR.out; omega))
    replace OQ := Lib.hid (show BOwn _ _ _ _ _ _ from Own.chT OQ.out L0.out.outer Cy1.out (by decide) (by have h1 := HBO.out; have h2 := HSO.out; have h3 := HIV.out; have h4 := GZ1.out; have h5 := HBK.out; omega))
    replace OR := Lib.hid (show BOwn _ _ _ _ _ _ from Own.chT OR.out L0.out.outer Cy1.out (by decide) (by have h1 := HBO.out; have h2 := HSO.out; have h3 := HIV.out; have h4 := GZ1.out; have h5 := HBK.out; omega))
    replace ON := Lib.hid (Own.chT ON.out L0.out.outer Cy1.out (by decide) (by have h1 := HBO.out; have h2 := HSO.out; have h3 := HIV.out; have h4 := GZ1.out; have h5 := HBK.out; omega))
    replace OD := Lib.hid (show BOwn _ _ _ _ _ _ from Own.chT OD.out L0.out.outer Cy1.out (by decide) (by have h1 := HBO.out; have h2 := HSO.out; have h3 := HIV.out; have h4 := GZ1.out; have h5 := HBK.out; omega))
    replace RQ2 := Lib.hid (Row.chT RQ2.out L0.out.outer Cy1.out (by decide) (by have h1 := HBO.out; have h2 := HBQ.out; have h3 := HBR.out; omega))
    replace RR3 := Lib.hid (Row.chT RR3.out L0.out.outer Cy1.out (by decide) (by have h1 := HBO.out; have h2 := HBQ.out; have h3 := HBR.out; omega))
    replace P0 := Lib.hid (show BOwn _ _ _ _ _ _ from Own.chT P0.out L0.out.outer Cy1.out (by decide) (by have h1 := HBO.out; have h2 := HSO.out; have h3 := HIV.out; have h4 := GZ1.out; have h5 := HBK.out; omega))
    replace P1 := Lib.hid (show BOwn _ _ _ _ _ _ from Own.chT P1.out L0.out.outer Cy1.out (by decide) (by have h1 := HBO.out; have h2 := HSO.out; have h3 := HIV.out; have h4 := GZ1.out; have h5 := HBK.out; omega))
    replace HC := Lib.hid (HC.out.trans (Cy1.out.mono (T := fun x => bk ≤ x) (fun x _ h => by rcases h with h | h; have h1 := (Own.inn L0.out.outer h).1; have h2 := HBK.out; omega; omega)) (fun _ _ h => h))
    have HSV2 := Lib.hid (Nat.le_trans HSV.out Cy1.out.size)
    clear HSV
    have HSV := HSV2
    clear HSV2
    clear L0 OFL0 RB
    have L0 := NLP
    have OFL0 := OFN
    have RB := Lib.hid (show Row y1 bk 55 #[.slice (some ⟨gy1, 0, none⟩) (nn + 1) cy1, .slice a1 nn c1, .slice a2 mm c2, .slice a3 mm c3] from Ry1.out)
    clear NLP OFN HNX HNM OND Ry1 Oy1 Cy1 Iy1
    have b1 := Row.cell RB.out 1
    simp at b1
    go_upto_region 31 with (at_builtin; refine wpList_push elS rfl (.tmp 203) (.tmp 205) rfl rfl L1.out.outer (.slice ar nr cr) rfl rfl (by unfold maxLen; omega) (by omega) (Nat.le_trans HBW.out HC.out.size) ?_; intro gy2 cy2 u9 ho hgr; have HO9 := Lib.hid ho; have HGR := Lib.hid hgr; have RBx := Lib.hid (RB.out.ch hgr.ch (row_in RB.out L1.out.outer (by decide))); have y := Row.cell RBx.out 1; have f := Row.frozen RBx.out 1; simp at y; clear ho hgr)
    obtain ⟨y2, hw⟩ : ∃ y2, y2 = u9.setCell ⟨bk, 1, none⟩ (.slice (some ⟨gy2, 0, none⟩) (nn + 1) cy2) := ⟨_, rfl⟩
    rw [← hw]
    have g9 : u9.grownBy y2 (some bk) := hw ▸ grownBy_setCell _ _ _ _
    have Ry2 := Lib.hid (hw ▸ Row.setc RBx.out 1 (.slice (some ⟨gy2, 0, none⟩) (nn + 1) cy2))
    have Oy2 := Lib.hid (Own.ch HO9.out (Ch.ofSome (S := fun x => x = bk) g9 rfl) (fun h0 g e h => by have h1 := (Own.inn HO9.out (g := g) ⟨h0, e⟩).1; have h2 := HBK.out; omega))
    have Cy2 := Lib.hid (show Ch (fun x => In a1 c1 x ∨ x = bk) y1 y2 from (HGR.out.ch.mono (fun _ _ h => .inl h)).trans (Ch.ofSome (S := fun x => In a1 c1 x ∨ x = bk) g9 (.inr rfl)) (fun _ _ h => h))
    have Iy2 := Lib.hid (show ∀ x, In (some ⟨gy2, 0, none⟩) cy2 x → In a1 c1 x ∨ y1.heap.size ≤ x from fun x hx => HGR.out.inn hx)
    clear hw g9 y f HO9 HGR RBx
    have OND := Lib.hid (show ∀ x, In (some ⟨gy1, 0, none⟩) cy1 x → In a1 c1 x → False from ND.out)
    have HNX := Lib.hid (show ∀ x, In (some ⟨gy2, 0, none⟩) cy2 x → In a1 c1 x ∨ ¬ (lo ≤ x ∧ x < hi) from fun x hx => (Iy2.out x hx).imp id (fun h k => by have h1 := HIV.out.1; have h2 : v5.heap.size ≤ y1.heap.size := HSV.out; omega))
    have HNM := Lib.hid (show ∀ x, In (some ⟨gy2, 0, none⟩) cy2 x → In a1 c1 x ∨ y1.heap.size ≤ x from Iy2.out)
    have NLP := Lib.hid (LIs.pushed L1p.out L1.out (Nat.le_trans HIV.out.2 GZ1.out) (s := ⟨ar, nr, cr⟩) P1.out Oy2.out Cy2.out HBK.out)
    have OFN := Lib.hid (Offs.push OFL1.out (s := ⟨ar, nr, cr⟩) HNX.out (fun x hx k => by have h1 := (Own.inn P1.out hx).1; have h2 := HIV.out.1; have h3 : v5.heap.size ≤ z1.heap.size := GZ1.out; omega))
    replace ND := Lib.hid (fun x hx hy => (HNM.out x hy).elim (fun h => ND.out x hx h) (fun h => by have := (Own.inn L0.out.outer hx).2; omega))
    replace L0 := Lib.hid (LIs.chN L0.out L1.out.outer Cy2.out OND.out HBK.out)
    replace M0 := Lib.hid (LIsI.chT M0.out L1.out.outer Cy2.out HBK.out)
    replace M1 := Lib.hid (LIsI.chT M1.out L1.out.outer Cy2.out HBK.out)
    replace RO := Lib.hid (Row.chT RO.out L1.out.outer Cy2.out (by decide) (by have h1 := HBO.out; have h2 := HBQ.out; have h3 := HBR.out; omega))
    replace OQ := Lib.hid (show BOwn _ _ _ _ _ _ from Own.chT OQ.out L1.out.outer Cy2.out (by decide) (by have h1 := HBO.out; have h2 := HSO.out; have h3 := HIV.out; have h4 := GZ1.out; have h5 := HBK.out; omega))
    replace OR := Lib.hid (show BOwn _ _ _ _ _ _ from Own.chT OR.out L1.out.outer Cy2.out (by decide) (by have h1 := HBO.out; have h2 := HSO.out; have h3 := HIV.out; have h4 := GZ1.out; have h5 := HBK.out; omega))
    replace ON := Lib.hid (Own.chT ON.out L1.out.outer Cy2.out (by decide) (by have h1 := HBO.out; have h2 := HSO.out; have h3 := HIV.out; have h4 := GZ1.out; have h5 := HBK.out; omega))
    replace OD := Lib.hid (show BOwn _ _ _ _ _ _ from Own.chT OD.out L1.out.outer Cy2.out (by decide) (by have h1 := HBO.out; have h2 := HSO.out; have h3 := HIV.out; have h4 := GZ1.out; have h5 := HBK.out; omega))
    replace RQ2 := Lib.hid (Row.chT RQ2.out L1.out.outer Cy2.out (by decide) (by have h1 := HBO.out; have h2 := HBQ.out; have h3 := HBR.out; omega))
    replace RR3 := Lib.hid (Row.chT RR3.out L1.out.outer Cy2.out (by decide) (by have h1 := HBO.out; have h2 := HBQ.out; have h3 := HBR.out; omega))
    replace P0 := Lib.hid (show BOwn _ _ _ _ _ _ from Own.chT P0.out L1.out.outer Cy2.out (by decide) (by have h1 := HBO.out; have h2 := HSO.out; have h3 := HIV.out; have h4 := GZ1.out; have h5 := HBK.out; omega))
    replace P1 := Lib.hid (show BOwn _ _ _ _ _ _ from Own.chT P1.out L1.out.outer Cy2.out (by decide) (by have h1 := HBO.out; have h2 := HSO.out; have h3 := HIV.out; have h4 := GZ1.out; have h5 := HBK.out; omega))
    replace HC := Lib.hid (HC.out.trans (Cy2.out.mono (T := fun x => bk ≤ x) (fun x _ h => by rcases h with h | h; have h1 := (Own.inn L1.out.outer h).1; have h2 := HBK.out; omega; omega)) (fun _ _ h => h))
    have HSV2 := Lib.hid (Nat.le_trans HSV.out Cy2.out.size)
    clear HSV
    have HSV := HSV2
    clear HSV2
    clear L1 OFL1 RB
    have L1 := NLP
    have OFL1 := OFN
    have RB := Lib.hid (show Row y2 bk 55 #[.slice (some ⟨gy1, 0, none⟩) (nn + 1) cy1, .slice (some ⟨gy2, 0, none⟩) (nn + 1) cy2, .slice a2 mm c2, .slice a3 mm c3] from Ry2.out)
    clear NLP OFN HNX HNM OND Ry2 Oy2 Cy2 Iy2
    clear P0 P1 b0 b1 L0p L1p
    go_upto_region 40 with fail
    have x0 := op_byt RO.out HX.out
    have x1 := op_cell RO.out HX.out 1
    have x2 := op_cell RO.out HX.out 2
    have x3 := op_cell RO.out HX.out 3
    simp at x1 x2 x3
    go_wp2_with fail
    refine (kept_yes (some ⟨gQ, 0, none⟩) aq capQ cq nq (nq + 70) q.bytes _ (BOwn.lies OQ.out) (HAQ.out _ HC.out) HNQ.out rfl (by omega)).mono ?_
    rintro e e0 ⟨rfl, g⟩
    clear x0 x1 x2 x3
    replace RB := Lib.hid (RB.out.grown g)
    replace L0 := Lib.hid (L0.out.grown g)
    replace L1 := Lib.hid (L1.out.grown g)
    replace M0 := Lib.hid (M0.out.grown g)
    replace M1 := Lib.hid (M1.out.grown g)
    replace RO := Lib.hid (RO.out.grown g)
    replace OQ := Lib.hid (BOwn.grown OQ.out g)
    replace OR := Lib.hid (BOwn.grown OR.out g)
    replace ON := Lib.hid (Own.grownNone ON.out g)
    replace OD := Lib.hid (BOwn.grown OD.out g)
    replace RQ2 := Lib.hid (RQ2.out.grown g)
    replace RR3 := Lib.hid (RR3.out.grown g)
    replace HC := Lib.hid (HC.out.then g)
    clear g
    have x0 := op_byt RO.out HX.out
    have x1 := op_cell RO.out HX.out 1
    have x2 := op_cell RO.out HX.out 2
    have x3 := op_cell RO.out HX.out 3
    simp at x1 x2 x3
    go_wp2_with fail
    refine (kept_yes (some ⟨gR, 0, none⟩) ab capR cb m (m + 70) bt _ (BOwn.lies OR.out) (HBT.out _ HC.out) HM.out rfl (by omega)).mono ?_
    rintro e e1 ⟨rfl, g⟩
    clear x0 x1 x2 x3
    replace RB := Lib.hid (RB.out.grown g)
    replace L0 := Lib.hid (L0.out.grown g)
    replace L1 := Lib.hid (L1.out.grown g)
    replace M0 := Lib.hid (M0.out.grown g)
    replace M1 := Lib.hid (M1.out.grown g)
    replace RO := Lib.hid (RO.out.grown g)
    replace OQ := Lib.hid (BOwn.grown OQ.out g)
    replace OR := Lib.hid (BOwn.grown OR.out g)
    replace ON := Lib.hid (Own.grownNone ON.out g)
    replace OD := Lib.hid (BOwn.grown OD.out g)
    replace RQ2 := Lib.hid (RQ2.out.grown g)
    replace RR3 := Lib.hid (RR3.out.grown g)
    replace HC := Lib.hid (HC.out.then g)
    clear g
    have x0 := op_byt RO.out HX.out
    have x1 := op_cell RO.out HX.out 1
    have x2 := op_cell RO.out HX.out 2
    have x3 := op_cell RO.out HX.out 3
    simp at x1 x2 x3
    go_wp2_with fail
    refine (Ints.kept_yes (some ⟨gN, 0, none⟩) an capN cn n (n + 70) ns _ (Ints.IOw.lies ON.out) (Ints.ILies.of (HNS.out _ HC.out)) HN.out rfl (by omega)).mono ?_
    rintro e e2 ⟨rfl, g⟩
    clear x0 x1 x2 x3
    replace RB := Lib.hid (RB.out.grown g)
    replace L0 := Lib.hid (L0.out.grown g)
    replace L1 := Lib.hid (L1.out.grown g)
    replace M0 := Lib.hid (M0.out.grown g)
    replace M1 := Lib.hid (M1.out.grown g)
    replace RO := Lib.hid (RO.out.grown g)
    replace OQ := Lib.hid (BOwn.grown OQ.out g)
    replace OR := Lib.hid (BOwn.grown OR.out g)
    replace ON := Lib.hid (Own.grownNone ON.out g)
    replace OD := Lib.hid (BOwn.grown OD.out g)
    replace RQ2 := Lib.hid (RQ2.out.grown g)
    replace RR3 := Lib.hid (RR3.out.grown g)
    replace HC := Lib.hid (HC.out.then g)
    clear g
    have x0 := op_byt RO.out HX.out
    have x1 := op_cell RO.out HX.out 1
    have x2 := op_cell RO.out HX.out 2
    have x3 := op_cell RO.out HX.out 3
    simp at x1 x2 x3
    go_wp2_with fail
    refine (kept_yes (some ⟨gD, 0, none⟩) ad capD cd nd (nd + 70) ld _ (BOwn.lies OD.out) (HD.out _ HC.out) HND.out rfl (by omega)).mono ?_
    rintro e e3 ⟨rfl, g⟩
    clear x0 x1 x2 x3
    replace RB := Lib.hid (RB.out.grown g)
    replace L0 := Lib.hid (L0.out.grown g)
    replace L1 := Lib.hid (L1.out.grown g)
    replace M0 := Lib.hid (M0.out.grown g)
    replace M1 := Lib.hid (M1.out.grown g)
    replace RO := Lib.hid (RO.out.grown g)
    replace OQ := Lib.hid (BOwn.grown OQ.out g)
    replace OR := Lib.hid (BOwn.grown OR.out g)
    replace ON := Lib.hid (Own.grownNone ON.out g)
    replace OD := Lib.hid (BOwn.grown OD.out g)
    replace RQ2 := Lib.hid (RQ2.out.grown g)
    replace RR3 := Lib.hid (RR3.out.grown g)
    replace HC := Lib.hid (HC.out.then g)
    clear g
    have x0 := op_byt RO.out HX.out
    have x1 := op_cell RO.out HX.out 1
    have x2 := op_cell RO.out HX.out 2
    have x3 := op_cell RO.out HX.out 3
    simp at x1 x2 x3
    clear x0 x1 x2 x3
    go_wp2_with fail
    refine (over_n _ gQ _ _ _ _ OQ.out (by omega)).mono ?_
    rintro e o0 ⟨rfl, ho, g⟩
    clear ho
    replace RB := Lib.hid (RB.out.grownNe g (by have h1 := HYY.out; have h2 := HBO.out; have h3 := HLO.out; omega))
    replace L0 := Lib.hid (LIs.chX L0.out OFL0.out g (by have h1 := HYY.out; show lo ≤ _ ∧ _ < hi; omega))
    replace L1 := Lib.hid (LIs.chX L1.out OFL1.out g (by have h1 := HYY.out; show lo ≤ _ ∧ _ < hi; omega))
    replace M0 := Lib.hid (LIsI.chX M0.out OFM0.out g (by have h1 := HYY.out; show lo ≤ _ ∧ _ < hi; omega))
    replace M1 := Lib.hid (LIsI.chX M1.out OFM1.out g (by have h1 := HYY.out; show lo ≤ _ ∧ _ < hi; omega))
    replace OR := Lib.hid (show BOwn _ _ _ _ _ _ from Own.grownNe OR.out g (fun g' h0 e e2 => by injection e with e; injection e with e; injection e2 with e2; have h1 := HYY.out; omega))
    replace ON := Lib.hid (Own.grownNe ON.out g (fun g' h0 e e2 => by injection e with e; injection e with e; injection e2 with e2; have h1 := HYY.out; omega))
    replace OD := Lib.hid (show BOwn _ _ _ _ _ _ from Own.grownNe OD.out g (fun g' h0 e e2 => by injection e with e; injection e with e; injection e2 with e2; have h1 := HYY.out; omega))
    replace HC := Lib.hid (HC.out.trans (Ch.ofSome (S := fun x => bk ≤ x) g (by have h1 := HYY.out; have h2 := HBO.out; have h3 := HLO.out; omega)) (fun _ _ h => h))
    clear g
    go_wp2_with fail
    refine (over_n _ gR _ _ _ _ OR.out (by omega)).mono ?_
    rintro e o1 ⟨rfl, ho, g⟩
    clear ho
    replace RB := Lib.hid (RB.out.grownNe g (by have h1 := HYY.out; have h2 := HBO.out; have h3 := HLO.out; omega))
    replace L0 := Lib.hid (LIs.chX L0.out OFL0.out g (by have h1 := HYY.out; show lo ≤ _ ∧ _ < hi; omega))
    replace L1 := Lib.hid (LIs.chX L1.out OFL1.out g (by have h1 := HYY.out; show lo ≤ _ ∧ _ < hi; omega))
    replace M0 := Lib.hid (LIsI.chX M0.out OFM0.out g (by have h1 := HYY.out; show lo ≤ _ ∧ _ < hi; omega))
    replace M1 := Lib.hid (LIsI.chX M1.out OFM1.out g (by have h1 := HYY.out; show lo ≤ _ ∧ _ < hi; omega))
    replace ON := Lib.hid (Own.grownNe ON.out g (fun g' h0 e e2 => by injection e with e; injection e with e; injection e2 with e2; have h1 := HYY.out; omega))
    replace OD := Lib.hid (show BOwn _ _ _ _ _ _ from Own.grownNe OD.out g (fun g' h0 e e2 => by injection e with e; injection e with e; injection e2 with e2; have h1 := HYY.out; omega))
    replace HC := Lib.hid (HC.out.trans (Ch.ofSome (S := fun x => bk ≤ x) g (by have h1 := HYY.out; have h2 := HBO.out; have h3 := HLO.out; omega)) (fun _ _ h => h))
    clear g
    go_wp2_with fail
    refine (Ints.over_n _ gN _ _ _ _ ON.out (by omega)).mono ?_
    rintro e o2 ⟨rfl, ho, g⟩
    clear ho
    replace RB := Lib.hid (RB.out.grownNe g (by have h1 := HYY.out; have h2 := HBO.out; have h3 := HLO.out; omega))
    replace L0 := Lib.hid (LIs.chX L0.out OFL0.out g (by have h1 := HYY.out; show lo ≤ _ ∧ _ < hi; omega))
    replace L1 := Lib.hid (LIs.chX L1.out OFL1.out g (by have h1 := HYY.out; show lo ≤ _ ∧ _ < hi; omega))
    replace M0 := Lib.hid (LIsI.chX M0.out OFM0.out g (by have h1 := HYY.out; show lo ≤ _ ∧ _ < hi; omega))
    replace M1 := Lib.hid (LIsI.chX M1.out OFM1.out g (by have h1 := HYY.out; show lo ≤ _ ∧ _ < hi; omega))
    replace OD := Lib.hid (show BOwn _ _ _ _ _ _ from Own.grownNe OD.out g (fun g' h0 e e2 => by injection e with e; injection e with e; injection e2 with e2; have h1 := HYY.out; omega))
    replace HC := Lib.hid (HC.out.trans (Ch.ofSome (S := fun x => bk ≤ x) g (by have h1 := HYY.out; have h2 := HBO.out; have h3 := HLO.out; omega)) (fun _ _ h => h))
    clear g
    go_wp2_with fail
    refine (over_n _ gD _ _ _ _ OD.out (by omega)).mono ?_
    rintro e o3 ⟨rfl, ho, g⟩
    clear ho
    replace RB := Lib.hid (RB.out.grownNe g (by have h1 := HYY.out; have h2 := HBO.out; have h3 := HLO.out; omega))
    replace L0 := Lib.hid (LIs.chX L0.out OFL0.out g (by have h1 := HYY.out; show lo ≤ _ ∧ _ < hi; omega))
    replace L1 := Lib.hid (LIs.chX L1.out OFL1.out g (by have h1 := HYY.out; show lo ≤ _ ∧ _ < hi; omega))
    replace M0 := Lib.hid (LIsI.chX M0.out OFM0.out g (by have h1 := HYY.out; show lo ≤ _ ∧ _ < hi; omega))
    replace M1 := Lib.hid (LIsI.chX M1.out OFM1.out g (by have h1 := HYY.out; show lo ≤ _ ∧ _ < hi; omega))
    replace HC := Lib.hid (HC.out.trans (Ch.ofSome (S := fun x => bk ≤ x) g (by have h1 := HYY.out; have h2 := HBO.out; have h3 := HLO.out; omega)) (fun _ _ h => h))
    clear g
    go_wp2_with fail
    go_ret
    refine ⟨rfl, bs ++ [PC], is, ⟨_, _, _, _, _, _, _, _, _, _, _, _, _, _, RB.out, L0.out, L1.out, M0.out, M1.out, ND.out, NI.out⟩, by simp, by omega, fun x hx => (List.mem_append.1 hx).imp id (fun h => by rw [List.mem_singleton.1 h]; exact HPL.out), fun x hx => .inl hx, HC.out⟩
  have N2 := Lib.hid hcall
  clear hcall
  by_cases hcall : call = 3
  · have e0 : (call == 0) = false := by rw [beq_eq_false_iff_ne]; omega
    have e1 : (call == 1) = false := by rw [beq_eq_false_iff_ne]; omega
    have e2 : (call == 2) = false := by rw [beq_eq_false_iff_ne]; omega
    have e3 : (call == 3) = true := by rw [beq_iff_eq]; omega
    have HSO := Lib.hid (show bk < lo ∧ lo ≤ wQ.heap.size ∧ lo ≤ wR.heap.size ∧ lo ≤ wN.heap.size ∧ lo ≤ wb.heap.size from by have h1 := HBO.out; have h2 := HLO.out; have z1 := ZQ.out; have z2 := ZR.out; have z3 := ZN.out; omega)
    have HSV := Lib.hid (Nat.le_refl v5.heap.size)
    obtain ⟨Q1, hQ1⟩ : ∃ Q1, Q1 = rpOf (decR ld) := ⟨_, rfl⟩
    obtain ⟨K1, hK1⟩ : ∃ K1 : Int, K1 = ((rpOf (decR ld)).kind : Int) := ⟨_, rfl⟩
    obtain ⟨A1, hA1⟩ : ∃ A1 : Int, A1 = ((atOf (decR ld) : Nat) : Int) := ⟨_, rfl⟩
    obtain ⟨E1, hE1⟩ : ∃ E1, E1 = erOf 201 (decR ld) := ⟨_, rfl⟩
    have HPL := Lib.hid (show Q1.nums.length ≤ 255 ∧ Q1.bytes.length ≤ 131072 by rw [hQ1]; exact decR_facts ld)
    have hAA : (A1 == A1) = true := by rw [beq_iff_eq]
    have hEE : (E1 == E1) = true := by rw [beq_iff_eq]
    have HQ1 := Lib.hid hQ1
    have HK1 := Lib.hid hK1
    have HA1 := Lib.hid hA1
    have HE1 := Lib.hid hE1
    clear hQ1 hA1 hE1 hK1 hcall
    go_upto_region 33 with fail
    have L0p := Lib.hid L0.out
    have M0p := Lib.hid M0.out
    go_wp2_with fail
    refine (reply_n (some ⟨gD, 0, none⟩) nd capD ld v5 (LD.out _ _ OD.out) HND.out (by omega) (by omega)).mono ?_
    rintro e z1 ⟨ai, ni, ci, ap, np, cp, rfl, hi2, ho, g⟩
    rw [← HQ1.out] at ho hi2
    rw [← HK1.out, ← HA1.out, ← HE1.out]
    clear x
    replace RB := Lib.hid (RB.out.grown g)
    replace L0 := Lib.hid (L0.out.grown g)
    replace L1 := Lib.hid (L1.out.grown g)
    replace M0 := Lib.hid (M0.out.grown g)
    replace M1 := Lib.hid (M1.out.grown g)
    replace RO := Lib.hid (RO.out.grown g)
    replace OQ := Lib.hid (BOwn.grown OQ.out g)
    replace OR := Lib.hid (BOwn.grown OR.out g)
    replace ON := Lib.hid (Own.grownNone ON.out g)
    replace OD := Lib.hid (BOwn.grown OD.out g)
    replace RQ2 := Lib.hid (RQ2.out.grown g)
    replace RR3 := Lib.hid (RR3.out.grown g)
    replace HC := Lib.hid (HC.out.then g)
    have P0 := Lib.hid ho
    have N0 := Lib.hid hi2
    have GZ0 := Lib.hid (show v5.heap.size ≤ z1.heap.size from g.size)
    clear ho hi2 g
    go_upto_region 34 with ((with_reducible show wpList _ _ _ ({ dst := some 27, op := _, type := _, pos := _, after := _, guard := _ } :: _) _ _); refine wpList_fresh rfl rfl rfl rfl rfl hip hipz hips #[.int .u8 K1, .slice ai ni ci, .slice ap np cp] rfl rfl rfl (by simp [Value.oneCell']) ?_; intro z2 hs g hr; have GF := Lib.hid g; have RA := Lib.hid (show Row z2 z1.heap.size 26 #[.int .u8 K1, .slice ai ni ci, .slice ap np cp] from hr); clear hs g hr)
    have g := GF.out
    replace RB := Lib.hid (RB.out.grown g)
    replace L0 := Lib.hid (L0.out.grown g)
    replace L1 := Lib.hid (L1.out.grown g)
    replace M0 := Lib.hid (M0.out.grown g)
    replace M1 := Lib.hid (M1.out.grown g)
    replace RO := Lib.hid (RO.out.grown g)
    replace OQ := Lib.hid (BOwn.grown OQ.out g)
    replace OR := Lib.hid (BOwn.grown OR.out g)
    replace ON := Lib.hid (Own.grownNone ON.out g)
    replace OD := Lib.hid (BOwn.grown OD.out g)
    replace RQ2 := Lib.hid (RQ2.out.grown g)
    replace RR3 := Lib.hid (RR3.out.grown g)
    replace P0 := Lib.hid (BOwn.grown P0.out g)
    replace N0 := Lib.hid (Own.grownNone N0.out g)
    replace HC := Lib.hid (HC.out.then g)
    obtain ⟨bRA, hbRA⟩ : ∃ bRA, bRA = z1.heap.size := ⟨_, rfl⟩
    rw [← hbRA] at RA ⊢
    have HBRA := Lib.hid (show v5.heap.size ≤ bRA from by rw [hbRA]; exact GZ0.out)
    have Gz2 := Lib.hid g.size
    clear hbRA g GF
    have GZ1 := Lib.hid (Nat.le_trans GZ0.out Gz2.out)
    have L1p := Lib.hid L1.out
    have M1p := Lib.hid M1.out
    have x := op_cell RO.out HX.out 3
    simp at x
    go_wp2_with fail
    refine (refRep_n ad nd cd ld z2 (HD.out _ HC.out) HND.out HCD.out (by omega)).mono ?_
    rintro e z3 ⟨aj, nj, cj, ar, nr, cr, rfl, hi2, ho, g⟩
    rw [← HQ1.out] at ho hi2
    rw [← HK1.out, ← HA1.out, ← HE1.out]
    clear x
    replace RB := Lib.hid (RB.out.grown g)
    replace L0 := Lib.hid (L0.out.grown g)
    replace L1 := Lib.hid (L1.out.grown g)
    replace M0 := Lib.hid (M0.out.grown g)
    replace M1 := Lib.hid (M1.out.grown g)
    replace RO := Lib.hid (RO.out.grown g)
    replace OQ := Lib.hid (BOwn.grown OQ.out g)
    replace OR := Lib.hid (BOwn.grown OR.out g)
    replace ON := Lib.hid (Own.grownNone ON.out g)
    replace OD := Lib.hid (BOwn.grown OD.out g)
    replace RQ2 := Lib.hid (RQ2.out.grown g)
    replace RR3 := Lib.hid (RR3.out.grown g)
    replace P0 := Lib.hid (BOwn.grown P0.out g)
    replace N0 := Lib.hid (Own.grownNone N0.out g)
    replace RA := Lib.hid (RA.out.grown g)
    replace HC := Lib.hid (HC.out.then g)
    have P1 := Lib.hid ho
    have N1 := Lib.hid hi2
    have GZ2 := Lib.hid (Nat.le_trans GZ1.out g.size)
    clear ho hi2 g
    go_upto_region 35 with ((with_reducible show wpList _ _ _ ({ dst := some 30, op := _, type := _, pos := _, after := _, guard := _ } :: _) _ _); refine wpList_fresh rfl rfl rfl rfl rfl hip hipz hips #[.int .u8 K1, .slice aj nj cj, .slice ar nr cr] rfl rfl rfl (by simp [Value.oneCell']) ?_; intro z4 hs g hr; have GF := Lib.hid g; have RF := Lib.hid (show Row z4 z3.heap.size 26 #[.int .u8 K1, .slice aj nj cj, .slice ar nr cr] from hr); clear hs g hr)
    have g := GF.out
    replace RB := Lib.hid (RB.out.grown g)
    replace L0 := Lib.hid (L0.out.grown g)
    replace L1 := Lib.hid (L1.out.grown g)
    replace M0 := Lib.hid (M0.out.grown g)
    replace M1 := Lib.hid (M1.out.grown g)
    replace RO := Lib.hid (RO.out.grown g)
    replace OQ := Lib.hid (BOwn.grown OQ.out g)
    replace OR := Lib.hid (BOwn.grown OR.out g)
    replace ON := Lib.hid (Own.grownNone ON.out g)
    replace OD := Lib.hid (BOwn.grown OD.out g)
    replace RQ2 := Lib.hid (RQ2.out.grown g)
    replace RR3 := Lib.hid (RR3.out.grown g)
    replace P0 := Lib.hid (BOwn.grown P0.out g)
    replace N0 := Lib.hid (Own.grownNone N0.out g)
    replace RA := Lib.hid (RA.out.grown g)
    replace P1 := Lib.hid (BOwn.grown P1.out g)
    replace N1 := Lib.hid (Own.grownNone N1.out g)
    replace HC := Lib.hid (HC.out.then g)
    obtain ⟨bRF, hbRF⟩ : ∃ bRF, bRF = z3.heap.size := ⟨_, rfl⟩
    rw [← hbRF] at RF ⊢
    have HBRF := Lib.hid (show v5.heap.size ≤ bRF from by rw [hbRF]; exact GZ2.out)
    have Gz4 := Lib.hid g.size
    clear hbRF g GF
    have HSV2 := Lib.hid (Nat.le_trans GZ2.out Gz4.out)
    clear HSV
    have HSV := HSV2
    clear HSV2
    have HRF := Lib.hid (Nat.le_refl v5.heap.size)
    go_upto_region 35 with fail
    refine wp_normal ?_
    have HBZ := Lib.hid (show base ≤ z4.heap.size from Nat.le_trans HBW.out HC.out.size)
    have OUT := Lib.hid L0.out.outer
    refine wp_regionX (AppS z4 base 24 a0 nn c0 (L0l.map Sl.val)) 11 (by kernel_rfl) ⟨Ch.ofNone (grownBy_drewN z4 1 none) _, Own.grownNone OUT.out (grownBy_drewN z4 1 none)⟩ ?_
    refine wpX_take 0 (v := .pointer (some ⟨bk, 0, none⟩)) (oi := { dst := some 227, op := Op.move (Operand.tmp 0), type := 57, pos := "law.go:88", after := #[], guard := none }) (oL := oLAskN2) (clo_app _ _ _ _ _ _ _) rfl rfl rfl (by kernel_rfl) (by kernel_rfl) (by kernel_rfl) (by kernel_rfl) (by kernel_rfl) (fun _ _ _ h => by cases h.1) (YG.val (by rfl) (fun _ _ => by go_simp)) ?_
    simp only [Act.put, List.setIfInBounds_toArray, List.set_cons_zero, List.set_cons_succ]
    refine wpX_take 1 (v := .pointer (some ⟨bk, 0, none⟩)) (oi := { dst := some 228, op := Op.move (Operand.tmp 0), type := 57, pos := "law.go:88", after := #[], guard := none }) (oL := oLAskN2) (clo_app _ _ _ _ _ _ _) rfl rfl rfl (by kernel_rfl) (by kernel_rfl) (by kernel_rfl) (by kernel_rfl) (by kernel_rfl) (fun _ _ _ h => by cases h.1) (YG.val (by rfl) (fun _ _ => by go_simp)) ?_
    simp only [Act.put, List.setIfInBounds_toArray, List.set_cons_zero, List.set_cons_succ]
    refine wpX_take 2 (v := .pointer (some ⟨bk, 0, none⟩)) (oi := { dst := some 229, op := Op.nilCheck (Operand.tmp 228), type := 0, pos := "law.go:88", after := #[{ on := 1, ground := Ground.data }], guard := none }) (oL := oLAskN2) (clo_app _ _ _ _ _ _ _) rfl rfl rfl (by kernel_rfl) (by kernel_rfl) (by kernel_rfl) (by kernel_rfl) (by kernel_rfl) (fun _ _ _ h => by cases h.1) (YG.val (by rfl) (fun _ _ => by go_simp)) ?_
    simp only [Act.put, List.setIfInBounds_toArray, List.set_cons_zero, List.set_cons_succ]
    refine wpX_take 3 (v := .pointer (some ⟨bk, 0, none⟩)) (oi := { dst := some 230, op := Op.fieldAddr 55 (Operand.tmp 229) 0, type := 0, pos := "law.go:88", after := #[{ on := 2, ground := Ground.data }], guard := none }) (oL := oLAskN2) (clo_app _ _ _ _ _ _ _) rfl rfl rfl (by kernel_rfl) (by kernel_rfl) (by kernel_rfl) (by kernel_rfl) (by kernel_rfl) (fun _ _ _ h => by cases h.1) (YG.val (by rfl) (fun _ _ => by go_simp)) ?_
    simp only [Act.put, List.setIfInBounds_toArray, List.set_cons_zero, List.set_cons_succ]
    refine wpX_take 4 (v := .slice a0 nn c0) (oi := { dst := some 231, op := Op.load 52 (Operand.tmp 230), type := 52, pos := "law.go:88", after := #[{ on := 3, ground := Ground.data }], guard := none }) (oL := oLAskN2) (clo_app _ _ _ _ _ _ _) rfl rfl rfl (by kernel_rfl) (by kernel_rfl) (by kernel_rfl) (by kernel_rfl) (by kernel_rfl) (fun _ _ _ h => by cases h.1) (YG.val (by rfl) (fun u hu => by have c := Row.cell (RB.out.ch hu.1 (row_in RB.out OUT.out (by decide))) 0; simp at c; go_simp)) ?_
    simp only [Act.put, List.setIfInBounds_toArray, List.set_cons_zero, List.set_cons_succ]
    refine wpX_take 5 (v := .pointer (some ⟨bRA, 2, none⟩)) (oi := { dst := some 232, op := Op.fieldAddr 26 (Operand.tmp 27) 2, type := 0, pos := "law.go:88", after := #[], guard := none }) (oL := oLAskN2) (clo_app _ _ _ _ _ _ _) rfl rfl rfl (by kernel_rfl) (by kernel_rfl) (by kernel_rfl) (by kernel_rfl) (by kernel_rfl) (fun _ _ _ h => by cases h.1) (YG.val (by rfl) (fun _ _ => by go_simp)) ?_
    simp only [Act.put, List.setIfInBounds_toArray, List.set_cons_zero, List.set_cons_succ]
    refine wpX_take 6 (v := .slice ap np cp) (oi := { dst := some 233, op := Op.load 24 (Operand.tmp 232), type := 24, pos := "law.go:88", after := #[{ on := 5, ground := Ground.data }], guard := none }) (oL := oLAskN2) (clo_app _ _ _ _ _ _ _) rfl rfl rfl (by kernel_rfl) (by kernel_rfl) (by kernel_rfl) (by kernel_rfl) (by kernel_rfl) (fun _ _ _ h => by cases h.1) (YG.val (by rfl) (fun u hu => by have c := Row.cell (RA.out.ch hu.1 (row_in RA.out OUT.out (by decide))) 2; simp at c; go_simp)) ?_
    simp only [Act.put, List.setIfInBounds_toArray, List.set_cons_zero, List.set_cons_succ]
    refine wpX_step 7 (o := { dst := some 234, op := Op.buildSlice 52 1 #[(0, Operand.tmp 233)], type := 52, pos := "law.go:88", after := #[{ on := 6, ground := Ground.data }], guard := none }) rfl rfl (by kernel_rfl) (by rfl) (fun u2 hS2 K hK => ?_)
    have HKK := Lib.hid hK
    have HS2 := Lib.hid hS2
    clear hK hS2
    have ha2 := World.grownBy_alloc u2 (.cells #[.slice ap np cp] 24) none
    refine wp_val_op (v := .slice (some ⟨u2.heap.size, 0, none⟩) 1 1) (w1 := u2.alloc (.cells #[.slice ap np cp] 24)) (by go_simp) ?_
    have hrw2 : Row (u2.alloc (.cells #[.slice ap np cp] 24)) u2.heap.size 24 #[.slice ap np cp] := heap_alloc_new u2 _
    refine HKK.out (fun u => AppS z4 base 24 a0 nn c0 (L0l.map Sl.val) u ∧ Row u u2.heap.size 24 #[.slice ap np cp]) _ _ ⟨clo_app _ _ _ _ _ _ _ _ _ HS2.out ha2, hrw2⟩ (fun u h => h.1) (clo_and (clo_app _ _ _ _ _ _ _) (clo_row _ _ _)) ?_
    simp only [Act.put, List.setIfInBounds_toArray, List.set_cons_zero, List.set_cons_succ]
    clear ha2 hrw2
    have hu26 : z4.heap.size ≤ u2.heap.size := HS2.out.1.size
    refine wpX_step 8 (o := { dst := some 235, op := Op.call { callee := Callee.builtin Builtin.append, args := #[Operand.tmp 231, Operand.tmp 234], argTypes := #[52, 52] }, type := 52, pos := "law.go:88", after := #[{ on := 4, ground := Ground.data }, { on := 7, ground := Ground.data }], guard := none }) rfl rfl (by kernel_rfl) (by rfl) (fun u3 hS3 K3 hK3 => ?_)
    have HK3 := Lib.hid hK3
    have HS3 := Lib.hid hS3
    clear hK3 hS3
    have hnews : ∀ j u, ([.slice ap np cp] : List Value)[j]? = some u → u3.cell? ((⟨u2.heap.size, 0, none⟩ : Addr).add j) = some u := by
      intro j u hu
      have h2 : ((⟨u2.heap.size, 0, none⟩ : Addr).add j) = ⟨u2.heap.size, j, none⟩ := by unfold Addr.add; split <;> simp_all
      rw [h2, Row.cell HS3.out.2]
      simpa using hu
    have hzb : base ≤ u3.heap.size := by
      have h1 := HBZ.out
      have h2 := HS3.out.1.1.size
      omega
    have hFn : ¬ In a0 c0 u2.heap.size := fun h => by
      have := (Own.inn OUT.out h).2
      omega
    obtain ⟨gy1, cy1, w8, hrun, hown8, hgr8⟩ := run_app (P := Try.prog) (ty := 52) u3 elS HS3.out.1.2 ⟨u2.heap.size, 0, none⟩ 1 1 [.slice ap np cp] rfl hnews (by simp [Value.oneCell']) (by unfold maxLen; omega) (by omega) hzb (fun _ _ _ => trivial) (by omega)
    refine wp_val_op (v := .slice (some ⟨gy1, 0, none⟩) (nn + 1) cy1) (w1 := w8) (run_app_op u3 w8 _ (.tmp 231) (.tmp 234) rfl _ hrun) ?_
    refine HK3.out (fun u => (AppS z4 base 24 a0 nn c0 (L0l.map Sl.val) u ∧ Row u u2.heap.size 24 #[.slice ap np cp]) ∧ w8.grownBy u none) _ _ ⟨⟨⟨HS3.out.1.1.trans hgr8.ch (fun _ _ h => h), own_behind HS3.out.1.2 hown8 hgr8⟩, Row.ch HS3.out.2 hgr8.ch hFn⟩, World.grownBy.refl _ _⟩ (fun u h => h.1) (clo_and (clo_and (clo_app _ _ _ _ _ _ _) (clo_row _ _ _)) (clo_grown _)) ?_
    simp only [Act.put, List.setIfInBounds_toArray, List.set_cons_zero, List.set_cons_succ]
    refine wpX_take 9 (v := .pointer (some ⟨bk, 0, none⟩)) (oi := { dst := some 236, op := Op.nilCheck (Operand.tmp 227), type := 0, pos := "law.go:88", after := #[{ on := 0, ground := Ground.data }, { on := 0, ground := Ground.phase }, { on := 1, ground := Ground.phase }, { on := 2, ground := Ground.phase }, { on := 3, ground := Ground.phase }, { on := 4, ground := Ground.phase }, { on := 5, ground := Ground.phase }, { on := 6, ground := Ground.phase }, { on := 7, ground := Ground.phase }, { on := 8, ground := Ground.phase }], guard := none }) (oL := oLAskN2) (clo_and (clo_and (clo_app _ _ _ _ _ _ _) (clo_row _ _ _)) (clo_grown _)) rfl rfl rfl (by kernel_rfl) (by kernel_rfl) (by kernel_rfl) (by kernel_rfl) (by kernel_rfl) (fun _ _ _ h => by cases h.1) (YG.val (by rfl) (fun _ _ => by go_simp)) ?_
    simp only [Act.put, List.setIfInBounds_toArray, List.set_cons_zero, List.set_cons_succ]
    refine wpX_take 10 (v := .pointer (some ⟨bk, 0, none⟩)) (oi := { dst := some 237, op := Op.fieldAddr 55 (Operand.tmp 236) 0, type := 0, pos := "law.go:88", after := #[{ on := 9, ground := Ground.data }, { on := 0, ground := Ground.phase }, { on := 1, ground := Ground.phase }, { on := 2, ground := Ground.phase }, { on := 3, ground := Ground.phase }, { on := 4, ground := Ground.phase }, { on := 5, ground := Ground.phase }, { on := 6, ground := Ground.phase }, { on := 7, ground := Ground.phase }, { on := 8, ground := Ground.phase }], guard := none }) (oL := oLAskN2) (clo_and (clo_and (clo_app _ _ _ _ _ _ _) (clo_row _ _ _)) (clo_grown _)) rfl rfl rfl (by kernel_rfl) (by kernel_rfl) (by kernel_rfl) (by kernel_rfl) (by kernel_rfl) (fun _ _ _ h => by cases h.1) (YG.val (by rfl) (fun _ _ => by go_simp)) ?_
    simp only [Act.put, List.setIfInBounds_toArray, List.set_cons_zero, List.set_cons_succ]
    refine wpX_last (oL := { dst := none, op := Op.store 52 (Operand.tmp 237) (Operand.tmp 235), type := 0, pos := "law.go:88", after := #[{ on := 10, ground := Ground.data }, { on := 8, ground := Ground.data }, { on := 8, ground := Ground.chain }, { on := 0, ground := Ground.phase }, { on := 1, ground := Ground.phase }, { on := 2, ground := Ground.phase }, { on := 3, ground := Ground.phase }, { on := 4, ground := Ground.phase }, { on := 5, ground := Ground.phase }, { on := 6, ground := Ground.phase }, { on := 7, ground := Ground.phase }, { on := 8, ground := Ground.phase }], guard := none }) rfl (by kernel_rfl) (by kernel_rfl) (by rfl) (fun u4 hS4 K4 hK4 => ?_)
    have hrow4 := RB.out.ch hS4.1.1.1 (row_in RB.out OUT.out (by decide))
    have hc4 := Row.cell hrow4 0
    have hf4 := Row.frozen hrow4 0
    simp at hc4
    refine wp_skip_op (w1 := u4.setCell ⟨bk, 0, none⟩ (.slice (some ⟨gy1, 0, none⟩) (nn + 1) cy1)) (by go_simp) (hK4 _ _ ?_)
    simp only [Act.put]
    obtain ⟨y1, hw9⟩ : ∃ y1, y1 = u4.setCell ⟨bk, 0, none⟩ (.slice (some ⟨gy1, 0, none⟩) (nn + 1) cy1) := ⟨_, rfl⟩
    rw [← hw9]
    have hg9 : u4.grownBy y1 (some bk) := hw9 ▸ grownBy_setCell _ _ _ _
    have Ry1 := Lib.hid (show Row y1 bk 55 #[.slice (some ⟨gy1, 0, none⟩) (nn + 1) cy1, .slice a1 nn c1, .slice a2 mm c2, .slice a3 mm c3] from hw9 ▸ Row.setc hrow4 0 _)
    have hown4 : Own u4 base 24 1 (some ⟨gy1, 0, none⟩) (nn + 1) cy1 (L0l.map Sl.val ++ [.slice ap np cp]) := Own.grownNone hown8 hS4.2
    have hnb := row_in hrow4 hown4 (by decide)
    have Oy1 := Lib.hid (Own.ch hown4 (Ch.ofSome (S := fun x => x = bk) hg9 rfl) (fun h0 g e h => by subst h; exact hnb ⟨h0, e⟩))
    have Cy1 := Lib.hid (show Ch (fun x => In a0 c0 x ∨ x = bk) z4 y1 from (hS4.1.1.1.mono (fun _ _ h => .inl h)).trans (Ch.ofSome (S := fun x => In a0 c0 x ∨ x = bk) hg9 (.inr rfl)) (fun _ _ h => h))
    have Iy1 := Lib.hid (show ∀ x, In (some ⟨gy1, 0, none⟩) cy1 x → In a0 c0 x ∨ z4.heap.size ≤ x from fun x hx => (hgr8.inn hx).imp id (fun h => Nat.le_trans (show z4.heap.size ≤ u3.heap.size from HS3.out.1.1.size) h))
    clear HKK HS2 HK3 HS3 hnews hzb hFn hrun hown8 hgr8 hS4 hK4 hrow4 hc4 hf4 hw9 hg9 hown4 hnb hu26
    refine ⟨by first | rfl | trivial, ?_⟩
    clear OUT HBZ
    have OND := Lib.hid (show ∀ x, In a1 c1 x → In a0 c0 x → False from fun x hx hy => ND.out x hy hx)
    have HNX := Lib.hid (show ∀ x, In (some ⟨gy1, 0, none⟩) cy1 x → In a0 c0 x ∨ ¬ (lo ≤ x ∧ x < hi) from fun x hx => (Iy1.out x hx).imp id (fun h k => by have h1 := HIV.out.1; have h2 : v5.heap.size ≤ z4.heap.size := HSV.out; omega))
    have HNM := Lib.hid (show ∀ x, In (some ⟨gy1, 0, none⟩) cy1 x → In a0 c0 x ∨ z4.heap.size ≤ x from Iy1.out)
    have NLP := Lib.hid (LIs.pushed L0p.out L0.out HIV.out.2 (s := ⟨ap, np, cp⟩) P0.out Oy1.out Cy1.out HBK.out)
    have OFN := Lib.hid (Offs.push OFL0.out (s := ⟨ap, np, cp⟩) HNX.out (fun x hx k => by have h1 := (Own.inn P0.out hx).1; have h2 := HIV.out.1; have h3 : v5.heap.size ≤ v5.heap.size := HRF.out; omega))
    replace ND := Lib.hid (show ∀ x, In (some ⟨gy1, 0, none⟩) cy1 x → In a1 c1 x → False from fun x hx hy => (HNM.out x hx).elim (fun h => ND.out x h hy) (fun h => by have := (Own.inn L1.out.outer hy).2; omega))
    replace L1 := Lib.hid (LIs.chN L1.out L0.out.outer Cy1.out OND.out HBK.out)
    replace M0 := Lib.hid (LIsI.chT M0.out L0.out.outer Cy1.out HBK.out)
    replace M1 := Lib.hid (LIsI.chT M1.out L0.out.outer Cy1.out HBK.out)
    replace RO := Lib.hid (Row.chT RO.out L0.out.outer Cy1.out (by decide) (by have h1 := HBO.out; have h2 := HBQ.out; have h3 := HBR.out; have h6 := HBRA.out; have h7 := HBRF.out; have h8 := HIV.out; have h9 := HSO.out; have h10 := HYY.out; omega))
    replace OQ := Lib.hid (show BOwn _ _ _ _ _ _ from Own.chT OQ.out L0.out.outer Cy1.out (by decide) (by have h1 := HBO.out; have h2 := HSO.out; have h3 := HIV.out; have h4 := GZ1.out; have h5 := HBK.out; omega))
    replace OR := Lib.hid (show BOwn _ _ _ _ _ _ from Own.chT OR.out L0.out.outer Cy1.out (by decide) (by have h1 := HBO.out; have h2 := HSO.out; have h3 := HIV.out; have h4 := GZ1.out; have h5 := HBK.out; omega))
    replace ON := Lib.hid (Own.chT ON.out L0.out.outer Cy1.out (by decide) (by have h1 := HBO.out; have h2 := HSO.out; have h3 := HIV.out; have h4 := GZ1.out; have h5 := HBK.out; omega))
    replace OD := Lib.hid (show BOwn _ _ _ _ _ _ from Own.chT OD.out L0.out.outer Cy1.out (by decide) (by have h1 := HBO.out; have h2 := HSO.out; have h3 := HIV.out; have h4 := GZ1.out; have h5 := HBK.out; omega))
    replace RQ2 := Lib.hid (Row.chT RQ2.out L0.out.outer Cy1.out (by decide) (by have h1 := HBO.out; have h2 := HBQ.out; have h3 := HBR.out; have h6 := HBRA.out; have h7 := HBRF.out; have h8 := HIV.out; have h9 := HSO.out; have h10 := HYY.out; omega))
    replace RR3 := Lib.hid (Row.chT RR3.out L0.out.outer Cy1.out (by decide) (by have h1 := HBO.out; have h2 := HBQ.out; have h3 := HBR.out; have h6 := HBRA.out; have h7 := HBRF.out; have h8 := HIV.out; have h9 := HSO.out; have h10 := HYY.out; omega))
    replace P0 := Lib.hid (show BOwn _ _ _ _ _ _ from Own.chT P0.out L0.out.outer Cy1.out (by decide) (by have h1 := HBO.out; have h2 := HSO.out; have h3 := HIV.out; have h4 := GZ1.out; have h5 := HBK.out; omega))
    replace N0 := Lib.hid (Own.chT N0.out L0.out.outer Cy1.out (by decide) (by have h1 := HBO.out; have h2 := HSO.out; have h3 := HIV.out; have h4 := GZ1.out; have h5 := HBK.out; omega))
    replace RA := Lib.hid (Row.chT RA.out L0.out.outer Cy1.out (by decide) (by have h1 := HBO.out; have h2 := HBQ.out; have h3 := HBR.out; have h6 := HBRA.out; have h7 := HBRF.out; have h8 := HIV.out; have h9 := HSO.out; have h10 := HYY.out; omega))
    replace P1 := Lib.hid (show BOwn _ _ _ _ _ _ from Own.chT P1.out L0.out.outer Cy1.out (by decide) (by have h1 := HBO.out; have h2 := HSO.out; have h3 := HIV.out; have h4 := GZ1.out; have h5 := HBK.out; omega))
    replace N1 := Lib.hid (Own.chT N1.out L0.out.outer Cy1.out (by decide) (by have h1 := HBO.out; have h2 := HSO.out; have h3 := HIV.out; have h4 := GZ1.out; have h5 := HBK.out; omega))
    replace RF := Lib.hid (Row.chT RF.out L0.out.outer Cy1.out (by decide) (by have h1 := HBO.out; have h2 := HBQ.out; have h3 := HBR.out; have h6 := HBRA.out; have h7 := HBRF.out; have h8 := HIV.out; have h9 := HSO.out; have h10 := HYY.out; omega))
    replace HC := Lib.hid (HC.out.trans (Cy1.out.mono (T := fun x => bk ≤ x) (fun x _ h => by rcases h with h | h; have h1 := (Own.inn L0.out.outer h).1; have h2 := HBK.out; omega; omega)) (fun _ _ h => h))
    have HSV2 := Lib.hid (Nat.le_trans HSV.out Cy1.out.size)
    clear HSV
    have HSV := HSV2
    clear HSV2
    clear L0 OFL0 RB
    have L0 := NLP
    have OFL0 := OFN
    have RB := Lib.hid (show Row y1 bk 55 #[.slice (some ⟨gy1, 0, none⟩) (nn + 1) cy1, .slice a1 nn c1, .slice a2 mm c2, .slice a3 mm c3] from Ry1.out)
    clear NLP OFN HNX HNM OND Ry1 Oy1 Cy1 Iy1
    go_upto_region 36 with fail
    refine wp_normal ?_
    have HBZ := Lib.hid (show base ≤ y1.heap.size from Nat.le_trans HBW.out HC.out.size)
    have OUT := Lib.hid L1.out.outer
    refine wp_regionX (AppS y1 base 24 a1 nn c1 (L1l.map Sl.val)) 11 (by kernel_rfl) ⟨Ch.ofNone (grownBy_drewN y1 1 none) _, Own.grownNone OUT.out (grownBy_drewN y1 1 none)⟩ ?_
    refine wpX_take 0 (v := .pointer (some ⟨bk, 0, none⟩)) (oi := { dst := some 238, op := Op.move (Operand.tmp 0), type := 57, pos := "law.go:89", after := #[], guard := none }) (oL := oLAskN3) (clo_app _ _ _ _ _ _ _) rfl rfl rfl (by kernel_rfl) (by kernel_rfl) (by kernel_rfl) (by kernel_rfl) (by kernel_rfl) (fun _ _ _ h => by cases h.1) (YG.val (by rfl) (fun _ _ => by go_simp)) ?_
    simp only [Act.put, List.setIfInBounds_toArray, List.set_cons_zero, List.set_cons_succ]
    refine wpX_take 1 (v := .pointer (some ⟨bk, 0, none⟩)) (oi := { dst := some 239, op := Op.move (Operand.tmp 0), type := 57, pos := "law.go:89", after := #[], guard := none }) (oL := oLAskN3) (clo_app _ _ _ _ _ _ _) rfl rfl rfl (by kernel_rfl) (by kernel_rfl) (by kernel_rfl) (by kernel_rfl) (by kernel_rfl) (fun _ _ _ h => by cases h.1) (YG.val (by rfl) (fun _ _ => by go_simp)) ?_
    simp only [Act.put, List.setIfInBounds_toArray, List.set_cons_zero, List.set_cons_succ]
    refine wpX_take 2 (v := .pointer (some ⟨bk, 0, none⟩)) (oi := { dst := some 240, op := Op.nilCheck (Operand.tmp 239), type := 0, pos := "law.go:89", after := #[{ on := 1, ground := Ground.data }], guard := none }) (oL := oLAskN3) (clo_app _ _ _ _ _ _ _) rfl rfl rfl (by kernel_rfl) (by kernel_rfl) (by kernel_rfl) (by kernel_rfl) (by kernel_rfl) (fun _ _ _ h => by cases h.1) (YG.val (by rfl) (fun _ _ => by go_simp)) ?_
    simp only [Act.put, List.setIfInBounds_toArray, List.set_cons_zero, List.set_cons_succ]
    refine wpX_take 3 (v := .pointer (some ⟨bk, 1, none⟩)) (oi := { dst := some 241, op := Op.fieldAddr 55 (Operand.tmp 240) 1, type := 0, pos := "law.go:89", after := #[{ on := 2, ground := Ground.data }], guard := none }) (oL := oLAskN3) (clo_app _ _ _ _ _ _ _) rfl rfl rfl (by kernel_rfl) (by kernel_rfl) (by kernel_rfl) (by kernel_rfl) (by kernel_rfl) (fun _ _ _ h => by cases h.1) (YG.val (by rfl) (fun _ _ => by go_simp)) ?_
    simp only [Act.put, List.setIfInBounds_toArray, List.set_cons_zero, List.set_cons_succ]
    refine wpX_take 4 (v := .slice a1 nn c1) (oi := { dst := some 242, op := Op.load 52 (Operand.tmp 241), type := 52, pos := "law.go:89", after := #[{ on := 3, ground := Ground.data }], guard := none }) (oL := oLAskN3) (clo_app _ _ _ _ _ _ _) rfl rfl rfl (by kernel_rfl) (by kernel_rfl) (by kernel_rfl) (by kernel_rfl) (by kernel_rfl) (fun _ _ _ h => by cases h.1) (YG.val (by rfl) (fun u hu => by have c := Row.cell (RB.out.ch hu.1 (row_in RB.out OUT.out (by decide))) 1; simp at c; go_simp)) ?_
    simp only [Act.put, List.setIfInBounds_toArray, List.set_cons_zero, List.set_cons_succ]
    refine wpX_take 5 (v := .pointer (some ⟨bRF, 2, none⟩)) (oi := { dst := some 243, op := Op.fieldAddr 26 (Operand.tmp 30) 2, type := 0, pos := "law.go:89", after := #[], guard := none }) (oL := oLAskN3) (clo_app _ _ _ _ _ _ _) rfl rfl rfl (by kernel_rfl) (by kernel_rfl) (by kernel_rfl) (by kernel_rfl) (by kernel_rfl) (fun _ _ _ h => by cases h.1) (YG.val (by rfl) (fun _ _ => by go_simp)) ?_
    simp only [Act.put, List.setIfInBounds_toArray, List.set_cons_zero, List.set_cons_succ]
    refine wpX_take 6 (v := .slice ar nr cr) (oi := { dst := some 244, op := Op.load 24 (Operand.tmp 243), type := 24, pos := "law.go:89", after := #[{ on := 5, ground := Ground.data }], guard := none }) (oL := oLAskN3) (clo_app _ _ _ _ _ _ _) rfl rfl rfl (by kernel_rfl) (by kernel_rfl) (by kernel_rfl) (by kernel_rfl) (by kernel_rfl) (fun _ _ _ h => by cases h.1) (YG.val (by rfl) (fun u hu => by have c := Row.cell (RF.out.ch hu.1 (row_in RF.out OUT.out (by decide))) 2; simp at c; go_simp)) ?_
    simp only [Act.put, List.setIfInBounds_toArray, List.set_cons_zero, List.set_cons_succ]
    refine wpX_step 7 (o := { dst := some 245, op := Op.buildSlice 52 1 #[(0, Operand.tmp 244)], type := 52, pos := "law.go:89", after := #[{ on := 6, ground := Ground.data }], guard := none }) rfl rfl (by kernel_rfl) (by rfl) (fun u2 hS2 K hK => ?_)
    have HKK := Lib.hid hK
    have HS2 := Lib.hid hS2
    clear hK hS2
    have ha2 := World.grownBy_alloc u2 (.cells #[.slice ar nr cr] 24) none
    refine wp_val_op (v := .slice (some ⟨u2.heap.size, 0, none⟩) 1 1) (w1 := u2.alloc (.cells #[.slice ar nr cr] 24)) (by go_simp) ?_
    have hrw2 : Row (u2.alloc (.cells #[.slice ar nr cr] 24)) u2.heap.size 24 #[.slice ar nr cr] := heap_alloc_new u2 _
    refine HKK.out (fun u => AppS y1 base 24 a1 nn c1 (L1l.map Sl.val) u ∧ Row u u2.heap.size 24 #[.slice ar nr cr]) _ _ ⟨clo_app _ _ _ _ _ _ _ _ _ HS2.out ha2, hrw2⟩ (fun u h => h.1) (clo_and (clo_app _ _ _ _ _ _ _) (clo_row _ _ _)) ?_
    simp only [Act.put, List.setIfInBounds_toArray, List.set_cons_zero, List.set_cons_succ]
    clear ha2 hrw2
    have hu26 : y1.heap.size ≤ u2.heap.size := HS2.out.1.size
    refine wpX_step 8 (o := { dst := some 246, op := Op.call { callee := Callee.builtin Builtin.append, args := #[Operand.tmp 242, Operand.tmp 245], argTypes := #[52, 52] }, type := 52, pos := "law.go:89", after := #[{ on := 4, ground := Ground.data }, { on := 7, ground := Ground.data }], guard := none }) rfl rfl (by kernel_rfl) (by rfl) (fun u3 hS3 K3 hK3 => ?_)
    have HK3 := Lib.hid hK3
    have HS3 := Lib.hid hS3
    clear hK3 hS3
    have hnews : ∀ j u, ([.slice ar nr cr] : List Value)[j]? = some u → u3.cell? ((⟨u2.heap.size, 0, none⟩ : Addr).add j) = some u := by
      intro j u hu
      have h2 : ((⟨u2.heap.size, 0, none⟩ : Addr).add j) = ⟨u2.heap.size, j, none⟩ := by unfold Addr.add; split <;> simp_all
      rw [h2, Row.cell HS3.out.2]
      simpa using hu
    have hzb : base ≤ u3.heap.size := by
      have h1 := HBZ.out
      have h2 := HS3.out.1.1.size
      omega
    have hFn : ¬ In a1 c1 u2.heap.size := fun h => by
      have := (Own.inn OUT.out h).2
      omega
    obtain ⟨gy2, cy2, w8, hrun, hown8, hgr8⟩ := run_app (P := Try.prog) (ty := 52) u3 elS HS3.out.1.2 ⟨u2.heap.size, 0, none⟩ 1 1 [.slice ar nr cr] rfl hnews (by simp [Value.oneCell']) (by unfold maxLen; omega) (by omega) hzb (fun _ _ _ => trivial) (by omega)
    refine wp_val_op (v := .slice (some ⟨gy2, 0, none⟩) (nn + 1) cy2) (w1 := w8) (run_app_op u3 w8 _ (.tmp 242) (.tmp 245) rfl _ hrun) ?_
    refine HK3.out (fun u => (AppS y1 base 24 a1 nn c1 (L1l.map Sl.val) u ∧ Row u u2.heap.size 24 #[.slice ar nr cr]) ∧ w8.grownBy u none) _ _ ⟨⟨⟨HS3.out.1.1.trans hgr8.ch (fun _ _ h => h), own_behind HS3.out.1.2 hown8 hgr8⟩, Row.ch HS3.out.2 hgr8.ch hFn⟩, World.grownBy.refl _ _⟩ (fun u h => h.1) (clo_and (clo_and (clo_app _ _ _ _ _ _ _) (clo_row _ _ _)) (clo_grown _)) ?_
    simp only [Act.put, List.setIfInBounds_toArray, List.set_cons_zero, List.set_cons_succ]
    refine wpX_take 9 (v := .pointer (some ⟨bk, 0, none⟩)) (oi := { dst := some 247, op := Op.nilCheck (Operand.tmp 238), type := 0, pos := "law.go:89", after := #[{ on := 0, ground := Ground.data }, { on := 0, ground := Ground.phase }, { on := 1, ground := Ground.phase }, { on := 2, ground := Ground.phase }, { on := 3, ground := Ground.phase }, { on := 4, ground := Ground.phase }, { on := 5, ground := Ground.phase }, { on := 6, ground := Ground.phase }, { on := 7, ground := Ground.phase }, { on := 8, ground := Ground.phase }], guard := none }) (oL := oLAskN3) (clo_and (clo_and (clo_app _ _ _ _ _ _ _) (clo_row _ _ _)) (clo_grown _)) rfl rfl rfl (by kernel_rfl) (by kernel_rfl) (by kernel_rfl) (by kernel_rfl) (by kernel_rfl) (fun _ _ _ h => by cases h.1) (YG.val (by rfl) (fun _ _ => by go_simp)) ?_
    simp only [Act.put, List.setIfInBounds_toArray, List.set_cons_zero, List.set_cons_succ]
    refine wpX_take 10 (v := .pointer (some ⟨bk, 1, none⟩)) (oi := { dst := some 248, op := Op.fieldAddr 55 (Operand.tmp 247) 1, type := 0, pos := "law.go:89", after := #[{ on := 9, ground := Ground.data }, { on := 0, ground := Ground.phase }, { on := 1, ground := Ground.phase }, { on := 2, ground := Ground.phase }, { on := 3, ground := Ground.phase }, { on := 4, ground := Ground.phase }, { on := 5, ground := Ground.phase }, { on := 6, ground := Ground.phase }, { on := 7, ground := Ground.phase }, { on := 8, ground := Ground.phase }], guard := none }) (oL := oLAskN3) (clo_and (clo_and (clo_app _ _ _ _ _ _ _) (clo_row _ _ _)) (clo_grown _)) rfl rfl rfl (by kernel_rfl) (by kernel_rfl) (by kernel_rfl) (by kernel_rfl) (by kernel_rfl) (fun _ _ _ h => by cases h.1) (YG.val (by rfl) (fun _ _ => by go_simp)) ?_
    simp only [Act.put, List.setIfInBounds_toArray, List.set_cons_zero, List.set_cons_succ]
    refine wpX_last (oL := { dst := none, op := Op.store 52 (Operand.tmp 248) (Operand.tmp 246), type := 0, pos := "law.go:89", after := #[{ on := 10, ground := Ground.data }, { on := 8, ground := Ground.data }, { on := 8, ground := Ground.chain }, { on := 0, ground := Ground.phase }, { on := 1, ground := Ground.phase }, { on := 2, ground := Ground.phase }, { on := 3, ground := Ground.phase }, { on := 4, ground := Ground.phase }, { on := 5, ground := Ground.phase }, { on := 6, ground := Ground.phase }, { on := 7, ground := Ground.phase }, { on := 8, ground := Ground.phase }], guard := none }) rfl (by kernel_rfl) (by kernel_rfl) (by rfl) (fun u4 hS4 K4 hK4 => ?_)
    have hrow4 := RB.out.ch hS4.1.1.1 (row_in RB.out OUT.out (by decide))
    have hc4 := Row.cell hrow4 1
    have hf4 := Row.frozen hrow4 1
    simp at hc4
    refine wp_skip_op (w1 := u4.setCell ⟨bk, 1, none⟩ (.slice (some ⟨gy2, 0, none⟩) (nn + 1) cy2)) (by go_simp) (hK4 _ _ ?_)
    simp only [Act.put]
    obtain ⟨y2, hw9⟩ : ∃ y2, y2 = u4.setCell ⟨bk, 1, none⟩ (.slice (some ⟨gy2, 0, none⟩) (nn + 1) cy2) := ⟨_, rfl⟩
    rw [← hw9]
    have hg9 : u4.grownBy y2 (some bk) := hw9 ▸ grownBy_setCell _ _ _ _
    have Ry2 := Lib.hid (show Row y2 bk 55 #[.slice (some ⟨gy1, 0, none⟩) (nn + 1) cy1, .slice (some ⟨gy2, 0, none⟩) (nn + 1) cy2, .slice a2 mm c2, .slice a3 mm c3] from hw9 ▸ Row.setc hrow4 1 _)
    have hown4 : Own u4 base 24 1 (some ⟨gy2, 0, none⟩) (nn + 1) cy2 (L1l.map Sl.val ++ [.slice ar nr cr]) := Own.grownNone hown8 hS4.2
    have hnb := row_in hrow4 hown4 (by decide)
    have Oy2 := Lib.hid (Own.ch hown4 (Ch.ofSome (S := fun x => x = bk) hg9 rfl) (fun h0 g e h => by subst h; exact hnb ⟨h0, e⟩))
    have Cy2 := Lib.hid (show Ch (fun x => In a1 c1 x ∨ x = bk) y1 y2 from (hS4.1.1.1.mono (fun _ _ h => .inl h)).trans (Ch.ofSome (S := fun x => In a1 c1 x ∨ x = bk) hg9 (.inr rfl)) (fun _ _ h => h))
    have Iy2 := Lib.hid (show ∀ x, In (some ⟨gy2, 0, none⟩) cy2 x → In a1 c1 x ∨ y1.heap.size ≤ x from fun x hx => (hgr8.inn hx).imp id (fun h => Nat.le_trans (show y1.heap.size ≤ u3.heap.size from HS3.out.1.1.size) h))
    clear HKK HS2 HK3 HS3 hnews hzb hFn hrun hown8 hgr8 hS4 hK4 hrow4 hc4 hf4 hw9 hg9 hown4 hnb hu26
    refine ⟨by first | rfl | trivial, ?_⟩
    clear OUT HBZ
    have OND := Lib.hid (show ∀ x, In (some ⟨gy1, 0, none⟩) cy1 x → In a1 c1 x → False from ND.out)
    have HNX := Lib.hid (show ∀ x, In (some ⟨gy2, 0, none⟩) cy2 x → In a1 c1 x ∨ ¬ (lo ≤ x ∧ x < hi) from fun x hx => (Iy2.out x hx).imp id (fun h k => by have h1 := HIV.out.1; have h2 : v5.heap.size ≤ y1.heap.size := HSV.out; omega))
    have HNM := Lib.hid (show ∀ x, In (some ⟨gy2, 0, none⟩) cy2 x → In a1 c1 x ∨ y1.heap.size ≤ x from Iy2.out)
    have NLP := Lib.hid (LIs.pushed L1p.out L1.out (Nat.le_trans HIV.out.2 GZ1.out) (s := ⟨ar, nr, cr⟩) P1.out Oy2.out Cy2.out HBK.out)
    have OFN := Lib.hid (Offs.push OFL1.out (s := ⟨ar, nr, cr⟩) HNX.out (fun x hx k => by have h1 := (Own.inn P1.out hx).1; have h2 := HIV.out.1; have h3 : v5.heap.size ≤ z2.heap.size := GZ1.out; omega))
    replace ND := Lib.hid (fun x hx hy => (HNM.out x hy).elim (fun h => ND.out x hx h) (fun h => by have := (Own.inn L0.out.outer hx).2; omega))
    replace L0 := Lib.hid (LIs.chN L0.out L1.out.outer Cy2.out OND.out HBK.out)
    replace M0 := Lib.hid (LIsI.chT M0.out L1.out.outer Cy2.out HBK.out)
    replace M1 := Lib.hid (LIsI.chT M1.out L1.out.outer Cy2.out HBK.out)
    replace RO := Lib.hid (Row.chT RO.out L1.out.outer Cy2.out (by decide) (by have h1 := HBO.out; have h2 := HBQ.out; have h3 := HBR.out; have h6 := HBRA.out; have h7 := HBRF.out; have h8 := HIV.out; have h9 := HSO.out; have h10 := HYY.out; omega))
    replace OQ := Lib.hid (show BOwn _ _ _ _ _ _ from Own.chT OQ.out L1.out.outer Cy2.out (by decide) (by have h1 := HBO.out; have h2 := HSO.out; have h3 := HIV.out; have h4 := GZ1.out; have h5 := HBK.out; omega))
    replace OR := Lib.hid (show BOwn _ _ _ _ _ _ from Own.chT OR.out L1.out.outer Cy2.out (by decide) (by have h1 := HBO.out; have h2 := HSO.out; have h3 := HIV.out; have h4 := GZ1.out; have h5 := HBK.out; omega))
    replace ON := Lib.hid (Own.chT ON.out L1.out.outer Cy2.out (by decide) (by have h1 := HBO.out; have h2 := HSO.out; have h3 := HIV.out; have h4 := GZ1.out; have h5 := HBK.out; omega))
    replace OD := Lib.hid (show BOwn _ _ _ _ _ _ from Own.chT OD.out L1.out.outer Cy2.out (by decide) (by have h1 := HBO.out; have h2 := HSO.out; have h3 := HIV.out; have h4 := GZ1.out; have h5 := HBK.out; omega))
    replace RQ2 := Lib.hid (Row.chT RQ2.out L1.out.outer Cy2.out (by decide) (by have h1 := HBO.out; have h2 := HBQ.out; have h3 := HBR.out; have h6 := HBRA.out; have h7 := HBRF.out; have h8 := HIV.out; have h9 := HSO.out; have h10 := HYY.out; omega))
    replace RR3 := Lib.hid (Row.chT RR3.out L1.out.outer Cy2.out (by decide) (by have h1 := HBO.out; have h2 := HBQ.out; have h3 := HBR.out; have h6 := HBRA.out; have h7 := HBRF.out; have h8 := HIV.out; have h9 := HSO.out; have h10 := HYY.out; omega))
    replace P0 := Lib.hid (show BOwn _ _ _ _ _ _ from Own.chT P0.out L1.out.outer Cy2.out (by decide) (by have h1 := HBO.out; have h2 := HSO.out; have h3 := HIV.out; have h4 := GZ1.out; have h5 := HBK.out; omega))
    replace N0 := Lib.hid (Own.chT N0.out L1.out.outer Cy2.out (by decide) (by have h1 := HBO.out; have h2 := HSO.out; have h3 := HIV.out; have h4 := GZ1.out; have h5 := HBK.out; omega))
    replace RA := Lib.hid (Row.chT RA.out L1.out.outer Cy2.out (by decide) (by have h1 := HBO.out; have h2 := HBQ.out; have h3 := HBR.out; have h6 := HBRA.out; have h7 := HBRF.out; have h8 := HIV.out; have h9 := HSO.out; have h10 := HYY.out; omega))
    replace P1 := Lib.hid (show BOwn _ _ _ _ _ _ from Own.chT P1.out L1.out.outer Cy2.out (by decide) (by have h1 := HBO.out; have h2 := HSO.out; have h3 := HIV.out; have h4 := GZ1.out; have h5 := HBK.out; omega))
    replace N1 := Lib.hid (Own.chT N1.out L1.out.outer Cy2.out (by decide) (by have h1 := HBO.out; have h2 := HSO.out; have h3 := HIV.out; have h4 := GZ1.out; have h5 := HBK.out; omega))
    replace RF := Lib.hid (Row.chT RF.out L1.out.outer Cy2.out (by decide) (by have h1 := HBO.out; have h2 := HBQ.out; have h3 := HBR.out; have h6 := HBRA.out; have h7 := HBRF.out; have h8 := HIV.out; have h9 := HSO.out; have h10 := HYY.out; omega))
    replace HC := Lib.hid (HC.out.trans (Cy2.out.mono (T := fun x => bk ≤ x) (fun x _ h => by rcases h with h | h; have h1 := (Own.inn L1.out.outer h).1; have h2 := HBK.out; omega; omega)) (fun _ _ h => h))
    have HSV2 := Lib.hid (Nat.le_trans HSV.out Cy2.out.size)
    clear HSV
    have HSV := HSV2
    clear HSV2
    clear L1 OFL1 RB
    have L1 := NLP
    have OFL1 := OFN
    have RB := Lib.hid (show Row y2 bk 55 #[.slice (some ⟨gy1, 0, none⟩) (nn + 1) cy1, .slice (some ⟨gy2, 0, none⟩) (nn + 1) cy2, .slice a2 mm c2, .slice a3 mm c3] from Ry2.out)
    clear NLP OFN HNX HNM OND Ry2 Oy2 Cy2 Iy2
    go_upto_region 37 with fail
    refine wp_normal ?_
    have HBZ := Lib.hid (show base ≤ y2.heap.size from Nat.le_trans HBW.out HC.out.size)
    have OUT := Lib.hid M0.out.outer
    refine wp_regionX (AppS y2 base 23 a2 mm c2 (M0l.map Sl.val)) 11 (by kernel_rfl) ⟨Ch.ofNone (grownBy_drewN y2 1 none) _, Own.grownNone OUT.out (grownBy_drewN y2 1 none)⟩ ?_
    refine wpX_take 0 (v := .pointer (some ⟨bk, 0, none⟩)) (oi := { dst := some 249, op := Op.move (Operand.tmp 0), type := 57, pos := "law.go:90", after := #[], guard := none }) (oL := oLAskN4) (clo_app _ _ _ _ _ _ _) rfl rfl rfl (by kernel_rfl) (by kernel_rfl) (by kernel_rfl) (by kernel_rfl) (by kernel_rfl) (fun _ _ _ h => by cases h.1) (YG.val (by rfl) (fun _ _ => by go_simp)) ?_
    simp only [Act.put, List.setIfInBounds_toArray, List.set_cons_zero, List.set_cons_succ]
    refine wpX_take 1 (v := .pointer (some ⟨bk, 0, none⟩)) (oi := { dst := some 250, op := Op.move (Operand.tmp 0), type := 57, pos := "law.go:90", after := #[], guard := none }) (oL := oLAskN4) (clo_app _ _ _ _ _ _ _) rfl rfl rfl (by kernel_rfl) (by kernel_rfl) (by kernel_rfl) (by kernel_rfl) (by kernel_rfl) (fun _ _ _ h => by cases h.1) (YG.val (by rfl) (fun _ _ => by go_simp)) ?_
    simp only [Act.put, List.setIfInBounds_toArray, List.set_cons_zero, List.set_cons_succ]
    refine wpX_take 2 (v := .pointer (some ⟨bk, 0, none⟩)) (oi := { dst := some 251, op := Op.nilCheck (Operand.tmp 250), type := 0, pos := "law.go:90", after := #[{ on := 1, ground := Ground.data }], guard := none }) (oL := oLAskN4) (clo_app _ _ _ _ _ _ _) rfl rfl rfl (by kernel_rfl) (by kernel_rfl) (by kernel_rfl) (by kernel_rfl) (by kernel_rfl) (fun _ _ _ h => by cases h.1) (YG.val (by rfl) (fun _ _ => by go_simp)) ?_
    simp only [Act.put, List.setIfInBounds_toArray, List.set_cons_zero, List.set_cons_succ]
    refine wpX_take 3 (v := .pointer (some ⟨bk, 2, none⟩)) (oi := { dst := some 252, op := Op.fieldAddr 55 (Operand.tmp 251) 2, type := 0, pos := "law.go:90", after := #[{ on := 2, ground := Ground.data }], guard := none }) (oL := oLAskN4) (clo_app _ _ _ _ _ _ _) rfl rfl rfl (by kernel_rfl) (by kernel_rfl) (by kernel_rfl) (by kernel_rfl) (by kernel_rfl) (fun _ _ _ h => by cases h.1) (YG.val (by rfl) (fun _ _ => by go_simp)) ?_
    simp only [Act.put, List.setIfInBounds_toArray, List.set_cons_zero, List.set_cons_succ]
    refine wpX_take 4 (v := .slice a2 mm c2) (oi := { dst := some 253, op := Op.load 53 (Operand.tmp 252), type := 53, pos := "law.go:90", after := #[{ on := 3, ground := Ground.data }], guard := none }) (oL := oLAskN4) (clo_app _ _ _ _ _ _ _) rfl rfl rfl (by kernel_rfl) (by kernel_rfl) (by kernel_rfl) (by kernel_rfl) (by kernel_rfl) (fun _ _ _ h => by cases h.1) (YG.val (by rfl) (fun u hu => by have c := Row.cell (RB.out.ch hu.1 (row_in RB.out OUT.out (by decide))) 2; simp at c; go_simp)) ?_
    simp only [Act.put, List.setIfInBounds_toArray, List.set_cons_zero, List.set_cons_succ]
    refine wpX_take 5 (v := .pointer (some ⟨bRA, 1, none⟩)) (oi := { dst := some 254, op := Op.fieldAddr 26 (Operand.tmp 27) 1, type := 0, pos := "law.go:90", after := #[], guard := none }) (oL := oLAskN4) (clo_app _ _ _ _ _ _ _) rfl rfl rfl (by kernel_rfl) (by kernel_rfl) (by kernel_rfl) (by kernel_rfl) (by kernel_rfl) (fun _ _ _ h => by cases h.1) (YG.val (by rfl) (fun _ _ => by go_simp)) ?_
    simp only [Act.put, List.setIfInBounds_toArray, List.set_cons_zero, List.set_cons_succ]
    refine wpX_take 6 (v := .slice ai ni ci) (oi := { dst := some 255, op := Op.load 23 (Operand.tmp 254), type := 23, pos := "law.go:90", after := #[{ on := 5, ground := Ground.data }], guard := none }) (oL := oLAskN4) (clo_app _ _ _ _ _ _ _) rfl rfl rfl (by kernel_rfl) (by kernel_rfl) (by kernel_rfl) (by kernel_rfl) (by kernel_rfl) (fun _ _ _ h => by cases h.1) (YG.val (by rfl) (fun u hu => by have c := Row.cell (RA.out.ch hu.1 (row_in RA.out OUT.out (by decide))) 1; simp at c; go_simp)) ?_
    simp only [Act.put, List.setIfInBounds_toArray, List.set_cons_zero, List.set_cons_succ]
    refine wpX_step 7 (o := { dst := some 256, op := Op.buildSlice 53 1 #[(0, Operand.tmp 255)], type := 53, pos := "law.go:90", after := #[{ on := 6, ground := Ground.data }], guard := none }) rfl rfl (by kernel_rfl) (by rfl) (fun u2 hS2 K hK => ?_)
    have HKK := Lib.hid hK
    have HS2 := Lib.hid hS2
    clear hK hS2
    have ha2 := World.grownBy_alloc u2 (.cells #[.slice ai ni ci] 23) none
    refine wp_val_op (v := .slice (some ⟨u2.heap.size, 0, none⟩) 1 1) (w1 := u2.alloc (.cells #[.slice ai ni ci] 23)) (by go_simp) ?_
    have hrw2 : Row (u2.alloc (.cells #[.slice ai ni ci] 23)) u2.heap.size 23 #[.slice ai ni ci] := heap_alloc_new u2 _
    refine HKK.out (fun u => AppS y2 base 23 a2 mm c2 (M0l.map Sl.val) u ∧ Row u u2.heap.size 23 #[.slice ai ni ci]) _ _ ⟨clo_app _ _ _ _ _ _ _ _ _ HS2.out ha2, hrw2⟩ (fun u h => h.1) (clo_and (clo_app _ _ _ _ _ _ _) (clo_row _ _ _)) ?_
    simp only [Act.put, List.setIfInBounds_toArray, List.set_cons_zero, List.set_cons_succ]
    clear ha2 hrw2
    have hu26 : y2.heap.size ≤ u2.heap.size := HS2.out.1.size
    refine wpX_step 8 (o := { dst := some 257, op := Op.call { callee := Callee.builtin Builtin.append, args := #[Operand.tmp 253, Operand.tmp 256], argTypes := #[53, 53] }, type := 53, pos := "law.go:90", after := #[{ on := 4, ground := Ground.data }, { on := 7, ground := Ground.data }], guard := none }) rfl rfl (by kernel_rfl) (by rfl) (fun u3 hS3 K3 hK3 => ?_)
    have HK3 := Lib.hid hK3
    have HS3 := Lib.hid hS3
    clear hK3 hS3
    have hnews : ∀ j u, ([.slice ai ni ci] : List Value)[j]? = some u → u3.cell? ((⟨u2.heap.size, 0, none⟩ : Addr).add j) = some u := by
      intro j u hu
      have h2 : ((⟨u2.heap.size, 0, none⟩ : Addr).add j) = ⟨u2.heap.size, j, none⟩ := by unfold Addr.add; split <;> simp_all
      rw [h2, Row.cell HS3.out.2]
      simpa using hu
    have hzb : base ≤ u3.heap.size := by
      have h1 := HBZ.out
      have h2 := HS3.out.1.1.size
      omega
    have hFn : ¬ In a2 c2 u2.heap.size := fun h => by
      have := (Own.inn OUT.out h).2
      omega
    obtain ⟨gy3, cy3, w8, hrun, hown8, hgr8⟩ := run_app (P := Try.prog) (ty := 53) u3 Ints.elSI HS3.out.1.2 ⟨u2.heap.size, 0, none⟩ 1 1 [.slice ai ni ci] rfl hnews (by simp [Value.oneCell']) (by unfold maxLen; omega) (by omega) hzb (fun _ _ _ => trivial) (by omega)
    refine wp_val_op (v := .slice (some ⟨gy3, 0, none⟩) (mm + 1) cy3) (w1 := w8) (run_app_op u3 w8 _ (.tmp 253) (.tmp 256) rfl _ hrun) ?_
    refine HK3.out (fun u => (AppS y2 base 23 a2 mm c2 (M0l.map Sl.val) u ∧ Row u u2.heap.size 23 #[.slice ai ni ci]) ∧ w8.grownBy u none) _ _ ⟨⟨⟨HS3.out.1.1.trans hgr8.ch (fun _ _ h => h), own_behind HS3.out.1.2 hown8 hgr8⟩, Row.ch HS3.out.2 hgr8.ch hFn⟩, World.grownBy.refl _ _⟩ (fun u h => h.1) (clo_and (clo_and (clo_app _ _ _ _ _ _ _) (clo_row _ _ _)) (clo_grown _)) ?_
    simp only [Act.put, List.setIfInBounds_toArray, List.set_cons_zero, List.set_cons_succ]
    refine wpX_take 9 (v := .pointer (some ⟨bk, 0, none⟩)) (oi := { dst := some 258, op := Op.nilCheck (Operand.tmp 249), type := 0, pos := "law.go:90", after := #[{ on := 0, ground := Ground.data }, { on := 0, ground := Ground.phase }, { on := 1, ground := Ground.phase }, { on := 2, ground := Ground.phase }, { on := 3, ground := Ground.phase }, { on := 4, ground := Ground.phase }, { on := 5, ground := Ground.phase }, { on := 6, ground := Ground.phase }, { on := 7, ground := Ground.phase }, { on := 8, ground := Ground.phase }], guard := none }) (oL := oLAskN4) (clo_and (clo_and (clo_app _ _ _ _ _ _ _) (clo_row _ _ _)) (clo_grown _)) rfl rfl rfl (by kernel_rfl) (by kernel_rfl) (by kernel_rfl) (by kernel_rfl) (by kernel_rfl) (fun _ _ _ h => by cases h.1) (YG.val (by rfl) (fun _ _ => by go_simp)) ?_
    simp only [Act.put, List.setIfInBounds_toArray, List.set_cons_zero, List.set_cons_succ]
    refine wpX_take 10 (v := .pointer (some ⟨bk, 2, none⟩)) (oi := { dst := some 259, op := Op.fieldAddr 55 (Operand.tmp 258) 2, type := 0, pos := "law.go:90", after := #[{ on := 9, ground := Ground.data }, { on := 0, ground := Ground.phase }, { on := 1, ground := Ground.phase }, { on := 2, ground := Ground.phase }, { on := 3, ground := Ground.phase }, { on := 4, ground := Ground.phase }, { on := 5, ground := Ground.phase }, { on := 6, ground := Ground.phase }, { on := 7, ground := Ground.phase }, { on := 8, ground := Ground.phase }], guard := none }) (oL := oLAskN4) (clo_and (clo_and (clo_app _ _ _ _ _ _ _) (clo_row _ _ _)) (clo_grown _)) rfl rfl rfl (by kernel_rfl) (by kernel_rfl) (by kernel_rfl) (by kernel_rfl) (by kernel_rfl) (fun _ _ _ h => by cases h.1) (YG.val (by rfl) (fun _ _ => by go_simp)) ?_
    simp only [Act.put, List.setIfInBounds_toArray, List.set_cons_zero, List.set_cons_succ]
    refine wpX_last (oL := { dst := none, op := Op.store 53 (Operand.tmp 259) (Operand.tmp 257), type := 0, pos := "law.go:90", after := #[{ on := 10, ground := Ground.data }, { on := 8, ground := Ground.data }, { on := 8, ground := Ground.chain }, { on := 0, ground := Ground.phase }, { on := 1, ground := Ground.phase }, { on := 2, ground := Ground.phase }, { on := 3, ground := Ground.phase }, { on := 4, ground := Ground.phase }, { on := 5, ground := Ground.phase }, { on := 6, ground := Ground.phase }, { on := 7, ground := Ground.phase }, { on := 8, ground := Ground.phase }], guard := none }) rfl (by kernel_rfl) (by kernel_rfl) (by rfl) (fun u4 hS4 K4 hK4 => ?_)
    have hrow4 := RB.out.ch hS4.1.1.1 (row_in RB.out OUT.out (by decide))
    have hc4 := Row.cell hrow4 2
    have hf4 := Row.frozen hrow4 2
    simp at hc4
    refine wp_skip_op (w1 := u4.setCell ⟨bk, 2, none⟩ (.slice (some ⟨gy3, 0, none⟩) (mm + 1) cy3)) (by go_simp) (hK4 _ _ ?_)
    simp only [Act.put]
    obtain ⟨y3, hw9⟩ : ∃ y3, y3 = u4.setCell ⟨bk, 2, none⟩ (.slice (some ⟨gy3, 0, none⟩) (mm + 1) cy3) := ⟨_, rfl⟩
    rw [← hw9]
    have hg9 : u4.grownBy y3 (some bk) := hw9 ▸ grownBy_setCell _ _ _ _
    have Ry3 := Lib.hid (show Row y3 bk 55 #[.slice (some ⟨gy1, 0, none⟩) (nn + 1) cy1, .slice (some ⟨gy2, 0, none⟩) (nn + 1) cy2, .slice (some ⟨gy3, 0, none⟩) (mm + 1) cy3, .slice a3 mm c3] from hw9 ▸ Row.setc hrow4 2 _)
    have hown4 : Own u4 base 23 1 (some ⟨gy3, 0, none⟩) (mm + 1) cy3 (M0l.map Sl.val ++ [.slice ai ni ci]) := Own.grownNone hown8 hS4.2
    have hnb := row_in hrow4 hown4 (by decide)
    have Oy3 := Lib.hid (Own.ch hown4 (Ch.ofSome (S := fun x => x = bk) hg9 rfl) (fun h0 g e h => by subst h; exact hnb ⟨h0, e⟩))
    have Cy3 := Lib.hid (show Ch (fun x => In a2 c2 x ∨ x = bk) y2 y3 from (hS4.1.1.1.mono (fun _ _ h => .inl h)).trans (Ch.ofSome (S := fun x => In a2 c2 x ∨ x = bk) hg9 (.inr rfl)) (fun _ _ h => h))
    have Iy3 := Lib.hid (show ∀ x, In (some ⟨gy3, 0, none⟩) cy3 x → In a2 c2 x ∨ y2.heap.size ≤ x from fun x hx => (hgr8.inn hx).imp id (fun h => Nat.le_trans (show y2.heap.size ≤ u3.heap.size from HS3.out.1.1.size) h))
    clear HKK HS2 HK3 HS3 hnews hzb hFn hrun hown8 hgr8 hS4 hK4 hrow4 hc4 hf4 hw9 hg9 hown4 hnb hu26
    refine ⟨by first | rfl | trivial, ?_⟩
    clear OUT HBZ
    have OND := Lib.hid (show ∀ x, In a3 c3 x → In a2 c2 x → False from fun x hx hy => NI.out x hy hx)
    have HNX := Lib.hid (show ∀ x, In (some ⟨gy3, 0, none⟩) cy3 x → In a2 c2 x ∨ ¬ (lo ≤ x ∧ x < hi) from fun x hx => (Iy3.out x hx).imp id (fun h k => by have h1 := HIV.out.1; have h2 : v5.heap.size ≤ y2.heap.size := HSV.out; omega))
    have HNM := Lib.hid (show ∀ x, In (some ⟨gy3, 0, none⟩) cy3 x → In a2 c2 x ∨ y2.heap.size ≤ x from Iy3.out)
    have NLP := Lib.hid (LIsI.pushed M0p.out M0.out HIV.out.2 (s := ⟨ai, ni, ci⟩) N0.out Oy3.out Cy3.out HBK.out)
    have OFN := Lib.hid (Offs.push OFM0.out (s := ⟨ai, ni, ci⟩) HNX.out (fun x hx k => by have h1 := (Own.inn N0.out hx).1; have h2 := HIV.out.1; have h3 : v5.heap.size ≤ v5.heap.size := HRF.out; omega))
    replace NI := Lib.hid (show ∀ x, In (some ⟨gy3, 0, none⟩) cy3 x → In a3 c3 x → False from fun x hx hy => (HNM.out x hx).elim (fun h => NI.out x h hy) (fun h => by have := (Own.inn M1.out.outer hy).2; omega))
    replace L0 := Lib.hid (LIs.chT L0.out M0.out.outer Cy3.out HBK.out)
    replace L1 := Lib.hid (LIs.chT L1.out M0.out.outer Cy3.out HBK.out)
    replace M1 := Lib.hid (LIsI.chN M1.out M0.out.outer Cy3.out OND.out HBK.out)
    replace RO := Lib.hid (Row.chT RO.out M0.out.outer Cy3.out (by decide) (by have h1 := HBO.out; have h2 := HBQ.out; have h3 := HBR.out; have h6 := HBRA.out; have h7 := HBRF.out; have h8 := HIV.out; have h9 := HSO.out; have h10 := HYY.out; omega))
    replace OQ := Lib.hid (show BOwn _ _ _ _ _ _ from Own.chT OQ.out M0.out.outer Cy3.out (by decide) (by have h1 := HBO.out; have h2 := HSO.out; have h3 := HIV.out; have h4 := GZ1.out; have h5 := HBK.out; omega))
    replace OR := Lib.hid (show BOwn _ _ _ _ _ _ from Own.chT OR.out M0.out.outer Cy3.out (by decide) (by have h1 := HBO.out; have h2 := HSO.out; have h3 := HIV.out; have h4 := GZ1.out; have h5 := HBK.out; omega))
    replace ON := Lib.hid (Own.chT ON.out M0.out.outer Cy3.out (by decide) (by have h1 := HBO.out; have h2 := HSO.out; have h3 := HIV.out; have h4 := GZ1.out; have h5 := HBK.out; omega))
    replace OD := Lib.hid (show BOwn _ _ _ _ _ _ from Own.chT OD.out M0.out.outer Cy3.out (by decide) (by have h1 := HBO.out; have h2 := HSO.out; have h3 := HIV.out; have h4 := GZ1.out; have h5 := HBK.out; omega))
    replace RQ2 := Lib.hid (Row.chT RQ2.out M0.out.outer Cy3.out (by decide) (by have h1 := HBO.out; have h2 := HBQ.out; have h3 := HBR.out; have h6 := HBRA.out; have h7 := HBRF.out; have h8 := HIV.out; have h9 := HSO.out; have h10 := HYY.out; omega))
    replace RR3 := Lib.hid (Row.chT RR3.out M0.out.outer Cy3.out (by decide) (by have h1 := HBO.out; have h2 := HBQ.out; have h3 := HBR.out; have h6 := HBRA.out; have h7 := HBRF.out; have h8 := HIV.out; have h9 := HSO.out; have h10 := HYY.out; omega))
    replace P0 := Lib.hid (show BOwn _ _ _ _ _ _ from Own.chT P0.out M0.out.outer Cy3.out (by decide) (by have h1 := HBO.out; have h2 := HSO.out; have h3 := HIV.out; have h4 := GZ1.out; have h5 := HBK.out; omega))
    replace N0 := Lib.hid (Own.chT N0.out M0.out.outer Cy3.out (by decide) (by have h1 := HBO.out; have h2 := HSO.out; have h3 := HIV.out; have h4 := GZ1.out; have h5 := HBK.out; omega))
    replace RA := Lib.hid (Row.chT RA.out M0.out.outer Cy3.out (by decide) (by have h1 := HBO.out; have h2 := HBQ.out; have h3 := HBR.out; have h6 := HBRA.out; have h7 := HBRF.out; have h8 := HIV.out; have h9 := HSO.out; have h10 := HYY.out; omega))
    replace P1 := Lib.hid (show BOwn _ _ _ _ _ _ from Own.chT P1.out M0.out.outer Cy3.out (by decide) (by have h1 := HBO.out; have h2 := HSO.out; have h3 := HIV.out; have h4 := GZ1.out; have h5 := HBK.out; omega))
    replace N1 := Lib.hid (Own.chT N1.out M0.out.outer Cy3.out (by decide) (by have h1 := HBO.out; have h2 := HSO.out; have h3 := HIV.out; have h4 := GZ1.out; have h5 := HBK.out; omega))
    replace RF := Lib.hid (Row.chT RF.out M0.out.outer Cy3.out (by decide) (by have h1 := HBO.out; have h2 := HBQ.out; have h3 := HBR.out; have h6 := HBRA.out; have h7 := HBRF.out; have h8 := HIV.out; have h9 := HSO.out; have h10 := HYY.out; omega))
    replace HC := Lib.hid (HC.out.trans (Cy3.out.mono (T := fun x => bk ≤ x) (fun x _ h => by rcases h with h | h; have h1 := (Own.inn M0.out.outer h).1; have h2 := HBK.out; omega; omega)) (fun _ _ h => h))
    have HSV2 := Lib.hid (Nat.le_trans HSV.out Cy3.out.size)
    clear HSV
    have HSV := HSV2
    clear HSV2
    clear M0 OFM0 RB
    have M0 := NLP
    have OFM0 := OFN
    have RB := Lib.hid (show Row y3 bk 55 #[.slice (some ⟨gy1, 0, none⟩) (nn + 1) cy1, .slice (some ⟨gy2, 0, none⟩) (nn + 1) cy2, .slice (some ⟨gy3, 0, none⟩) (mm + 1) cy3, .slice a3 mm c3] from Ry3.out)
    clear NLP OFN HNX HNM OND Ry3 Oy3 Cy3 Iy3
    go_upto_region 38 with fail
    refine wp_normal ?_
    have HBZ := Lib.hid (show base ≤ y3.heap.size from Nat.le_trans HBW.out HC.out.size)
    have OUT := Lib.hid M1.out.outer
    refine wp_regionX (AppS y3 base 23 a3 mm c3 (M1l.map Sl.val)) 11 (by kernel_rfl) ⟨Ch.ofNone (grownBy_drewN y3 1 none) _, Own.grownNone OUT.out (grownBy_drewN y3 1 none)⟩ ?_
    refine wpX_take 0 (v := .pointer (some ⟨bk, 0, none⟩)) (oi := { dst := some 260, op := Op.move (Operand.tmp 0), type := 57, pos := "law.go:91", after := #[], guard := none }) (oL := oLAskN5) (clo_app _ _ _ _ _ _ _) rfl rfl rfl (by kernel_rfl) (by kernel_rfl) (by kernel_rfl) (by kernel_rfl) (by kernel_rfl) (fun _ _ _ h => by cases h.1) (YG.val (by rfl) (fun _ _ => by go_simp)) ?_
    simp only [Act.put, List.setIfInBounds_toArray, List.set_cons_zero, List.set_cons_succ]
    refine wpX_take 1 (v := .pointer (some ⟨bk, 0, none⟩)) (oi := { dst := some 261, op := Op.move (Operand.tmp 0), type := 57, pos := "law.go:91", after := #[], guard := none }) (oL := oLAskN5) (clo_app _ _ _ _ _ _ _) rfl rfl rfl (by kernel_rfl) (by kernel_rfl) (by kernel_rfl) (by kernel_rfl) (by kernel_rfl) (fun _ _ _ h => by cases h.1) (YG.val (by rfl) (fun _ _ => by go_simp)) ?_
    simp only [Act.put, List.setIfInBounds_toArray, List.set_cons_zero, List.set_cons_succ]
    refine wpX_take 2 (v := .pointer (some ⟨bk, 0, none⟩)) (oi := { dst := some 262, op := Op.nilCheck (Operand.tmp 261), type := 0, pos := "law.go:91", after := #[{ on := 1, ground := Ground.data }], guard := none }) (oL := oLAskN5) (clo_app _ _ _ _ _ _ _) rfl rfl rfl (by kernel_rfl) (by kernel_rfl) (by kernel_rfl) (by kernel_rfl) (by kernel_rfl) (fun _ _ _ h => by cases h.1) (YG.val (by rfl) (fun _ _ => by go_simp)) ?_
    simp only [Act.put, List.setIfInBounds_toArray, List.set_cons_zero, List.set_cons_succ]
    refine wpX_take 3 (v := .pointer (some ⟨bk, 3, none⟩)) (oi := { dst := some 263, op := Op.fieldAddr 55 (Operand.tmp 262) 3, type := 0, pos := "law.go:91", after := #[{ on := 2, ground := Ground.data }], guard := none }) (oL := oLAskN5) (clo_app _ _ _ _ _ _ _) rfl rfl rfl (by kernel_rfl) (by kernel_rfl) (by kernel_rfl) (by kernel_rfl) (by kernel_rfl) (fun _ _ _ h => by cases h.1) (YG.val (by rfl) (fun _ _ => by go_simp)) ?_
    simp only [Act.put, List.setIfInBounds_toArray, List.set_cons_zero, List.set_cons_succ]
    refine wpX_take 4 (v := .slice a3 mm c3) (oi := { dst := some 264, op := Op.load 53 (Operand.tmp 263), type := 53, pos := "law.go:91", after := #[{ on := 3, ground := Ground.data }], guard := none }) (oL := oLAskN5) (clo_app _ _ _ _ _ _ _) rfl rfl rfl (by kernel_rfl) (by kernel_rfl) (by kernel_rfl) (by kernel_rfl) (by kernel_rfl) (fun _ _ _ h => by cases h.1) (YG.val (by rfl) (fun u hu => by have c := Row.cell (RB.out.ch hu.1 (row_in RB.out OUT.out (by decide))) 3; simp at c; go_simp)) ?_
    simp only [Act.put, List.setIfInBounds_toArray, List.set_cons_zero, List.set_cons_succ]
    refine wpX_take 5 (v := .pointer (some ⟨bRF, 1, none⟩)) (oi := { dst := some 265, op := Op.fieldAddr 26 (Operand.tmp 30) 1, type := 0, pos := "law.go:91", after := #[], guard := none }) (oL := oLAskN5) (clo_app _ _ _ _ _ _ _) rfl rfl rfl (by kernel_rfl) (by kernel_rfl) (by kernel_rfl) (by kernel_rfl) (by kernel_rfl) (fun _ _ _ h => by cases h.1) (YG.val (by rfl) (fun _ _ => by go_simp)) ?_
    simp only [Act.put, List.setIfInBounds_toArray, List.set_cons_zero, List.set_cons_succ]
    refine wpX_take 6 (v := .slice aj nj cj) (oi := { dst := some 266, op := Op.load 23 (Operand.tmp 265), type := 23, pos := "law.go:91", after := #[{ on := 5, ground := Ground.data }], guard := none }) (oL := oLAskN5) (clo_app _ _ _ _ _ _ _) rfl rfl rfl (by kernel_rfl) (by kernel_rfl) (by kernel_rfl) (by kernel_rfl) (by kernel_rfl) (fun _ _ _ h => by cases h.1) (YG.val (by rfl) (fun u hu => by have c := Row.cell (RF.out.ch hu.1 (row_in RF.out OUT.out (by decide))) 1; simp at c; go_simp)) ?_
    simp only [Act.put, List.setIfInBounds_toArray, List.set_cons_zero, List.set_cons_succ]
    refine wpX_step 7 (o := { dst := some 267, op := Op.buildSlice 53 1 #[(0, Operand.tmp 266)], type := 53, pos := "law.go:91", after := #[{ on := 6, ground := Ground.data }], guard := none }) rfl rfl (by kernel_rfl) (by rfl) (fun u2 hS2 K hK => ?_)
    have HKK := Lib.hid hK
    have HS2 := Lib.hid hS2
    clear hK hS2
    have ha2 := World.grownBy_alloc u2 (.cells #[.slice aj nj cj] 23) none
    refine wp_val_op (v := .slice (some ⟨u2.heap.size, 0, none⟩) 1 1) (w1 := u2.alloc (.cells #[.slice aj nj cj] 23)) (by go_simp) ?_
    have hrw2 : Row (u2.alloc (.cells #[.slice aj nj cj] 23)) u2.heap.size 23 #[.slice aj nj cj] := heap_alloc_new u2 _
    refine HKK.out (fun u => AppS y3 base 23 a3 mm c3 (M1l.map Sl.val) u ∧ Row u u2.heap.size 23 #[.slice aj nj cj]) _ _ ⟨clo_app _ _ _ _ _ _ _ _ _ HS2.out ha2, hrw2⟩ (fun u h => h.1) (clo_and (clo_app _ _ _ _ _ _ _) (clo_row _ _ _)) ?_
    simp only [Act.put, List.setIfInBounds_toArray, List.set_cons_zero, List.set_cons_succ]
    clear ha2 hrw2
    have hu26 : y3.heap.size ≤ u2.heap.size := HS2.out.1.size
    refine wpX_step 8 (o := { dst := some 268, op := Op.call { callee := Callee.builtin Builtin.append, args := #[Operand.tmp 264, Operand.tmp 267], argTypes := #[53, 53] }, type := 53, pos := "law.go:91", after := #[{ on := 4, ground := Ground.data }, { on := 7, ground := Ground.data }], guard := none }) rfl rfl (by kernel_rfl) (by rfl) (fun u3 hS3 K3 hK3 => ?_)
    have HK3 := Lib.hid hK3
    have HS3 := Lib.hid hS3
    clear hK3 hS3
    have hnews : ∀ j u, ([.slice aj nj cj] : List Value)[j]? = some u → u3.cell? ((⟨u2.heap.size, 0, none⟩ : Addr).add j) = some u := by
      intro j u hu
      have h2 : ((⟨u2.heap.size, 0, none⟩ : Addr).add j) = ⟨u2.heap.size, j, none⟩ := by unfold Addr.add; split <;> simp_all
      rw [h2, Row.cell HS3.out.2]
      simpa using hu
    have hzb : base ≤ u3.heap.size := by
      have h1 := HBZ.out
      have h2 := HS3.out.1.1.size
      omega
    have hFn : ¬ In a3 c3 u2.heap.size := fun h => by
      have := (Own.inn OUT.out h).2
      omega
    obtain ⟨gy4, cy4, w8, hrun, hown8, hgr8⟩ := run_app (P := Try.prog) (ty := 53) u3 Ints.elSI HS3.out.1.2 ⟨u2.heap.size, 0, none⟩ 1 1 [.slice aj nj cj] rfl hnews (by simp [Value.oneCell']) (by unfold maxLen; omega) (by omega) hzb (fun _ _ _ => trivial) (by omega)
    refine wp_val_op (v := .slice (some ⟨gy4, 0, none⟩) (mm + 1) cy4) (w1 := w8) (run_app_op u3 w8 _ (.tmp 264) (.tmp 267) rfl _ hrun) ?_
    refine HK3.out (fun u => (AppS y3 base 23 a3 mm c3 (M1l.map Sl.val) u ∧ Row u u2.heap.size 23 #[.slice aj nj cj]) ∧ w8.grownBy u none) _ _ ⟨⟨⟨HS3.out.1.1.trans hgr8.ch (fun _ _ h => h), own_behind HS3.out.1.2 hown8 hgr8⟩, Row.ch HS3.out.2 hgr8.ch hFn⟩, World.grownBy.refl _ _⟩ (fun u h => h.1) (clo_and (clo_and (clo_app _ _ _ _ _ _ _) (clo_row _ _ _)) (clo_grown _)) ?_
    simp only [Act.put, List.setIfInBounds_toArray, List.set_cons_zero, List.set_cons_succ]
    refine wpX_take 9 (v := .pointer (some ⟨bk, 0, none⟩)) (oi := { dst := some 269, op := Op.nilCheck (Operand.tmp 260), type := 0, pos := "law.go:91", after := #[{ on := 0, ground := Ground.data }, { on := 0, ground := Ground.phase }, { on := 1, ground := Ground.phase }, { on := 2, ground := Ground.phase }, { on := 3, ground := Ground.phase }, { on := 4, ground := Ground.phase }, { on := 5, ground := Ground.phase }, { on := 6, ground := Ground.phase }, { on := 7, ground := Ground.phase }, { on := 8, ground := Ground.phase }], guard := none }) (oL := oLAskN5) (clo_and (clo_and (clo_app _ _ _ _ _ _ _) (clo_row _ _ _)) (clo_grown _)) rfl rfl rfl (by kernel_rfl) (by kernel_rfl) (by kernel_rfl) (by kernel_rfl) (by kernel_rfl) (fun _ _ _ h => by cases h.1) (YG.val (by rfl) (fun _ _ => by go_simp)) ?_
    simp only [Act.put, List.setIfInBounds_toArray, List.set_cons_zero, List.set_cons_succ]
    refine wpX_take 10 (v := .pointer (some ⟨bk, 3, none⟩)) (oi := { dst := some 270, op := Op.fieldAddr 55 (Operand.tmp 269) 3, type := 0, pos := "law.go:91", after := #[{ on := 9, ground := Ground.data }, { on := 0, ground := Ground.phase }, { on := 1, ground := Ground.phase }, { on := 2, ground := Ground.phase }, { on := 3, ground := Ground.phase }, { on := 4, ground := Ground.phase }, { on := 5, ground := Ground.phase }, { on := 6, ground := Ground.phase }, { on := 7, ground := Ground.phase }, { on := 8, ground := Ground.phase }], guard := none }) (oL := oLAskN5) (clo_and (clo_and (clo_app _ _ _ _ _ _ _) (clo_row _ _ _)) (clo_grown _)) rfl rfl rfl (by kernel_rfl) (by kernel_rfl) (by kernel_rfl) (by kernel_rfl) (by kernel_rfl) (fun _ _ _ h => by cases h.1) (YG.val (by rfl) (fun _ _ => by go_simp)) ?_
    simp only [Act.put, List.setIfInBounds_toArray, List.set_cons_zero, List.set_cons_succ]
    refine wpX_last (oL := { dst := none, op := Op.store 53 (Operand.tmp 270) (Operand.tmp 268), type := 0, pos := "law.go:91", after := #[{ on := 10, ground := Ground.data }, { on := 8, ground := Ground.data }, { on := 8, ground := Ground.chain }, { on := 0, ground := Ground.phase }, { on := 1, ground := Ground.phase }, { on := 2, ground := Ground.phase }, { on := 3, ground := Ground.phase }, { on := 4, ground := Ground.phase }, { on := 5, ground := Ground.phase }, { on := 6, ground := Ground.phase }, { on := 7, ground := Ground.phase }, { on := 8, ground := Ground.phase }], guard := none }) rfl (by kernel_rfl) (by kernel_rfl) (by rfl) (fun u4 hS4 K4 hK4 => ?_)
    have hrow4 := RB.out.ch hS4.1.1.1 (row_in RB.out OUT.out (by decide))
    have hc4 := Row.cell hrow4 3
    have hf4 := Row.frozen hrow4 3
    simp at hc4
    refine wp_skip_op (w1 := u4.setCell ⟨bk, 3, none⟩ (.slice (some ⟨gy4, 0, none⟩) (mm + 1) cy4)) (by go_simp) (hK4 _ _ ?_)
    simp only [Act.put]
    obtain ⟨y4, hw9⟩ : ∃ y4, y4 = u4.setCell ⟨bk, 3, none⟩ (.slice (some ⟨gy4, 0, none⟩) (mm + 1) cy4) := ⟨_, rfl⟩
    rw [← hw9]
    have hg9 : u4.grownBy y4 (some bk) := hw9 ▸ grownBy_setCell _ _ _ _
    have Ry4 := Lib.hid (show Row y4 bk 55 #[.slice (some ⟨gy1, 0, none⟩) (nn + 1) cy1, .slice (some ⟨gy2, 0, none⟩) (nn + 1) cy2, .slice (some ⟨gy3, 0, none⟩) (mm + 1) cy3, .slice (some ⟨gy4, 0, none⟩) (mm + 1) cy4] from hw9 ▸ Row.setc hrow4 3 _)
    have hown4 : Own u4 base 23 1 (some ⟨gy4, 0, none⟩) (mm + 1) cy4 (M1l.map Sl.val ++ [.slice aj nj cj]) := Own.grownNone hown8 hS4.2
    have hnb := row_in hrow4 hown4 (by decide)
    have Oy4 := Lib.hid (Own.ch hown4 (Ch.ofSome (S := fun x => x = bk) hg9 rfl) (fun h0 g e h => by subst h; exact hnb ⟨h0, e⟩))
    have Cy4 := Lib.hid (show Ch (fun x => In a3 c3 x ∨ x = bk) y3 y4 from (hS4.1.1.1.mono (fun _ _ h => .inl h)).trans (Ch.ofSome (S := fun x => In a3 c3 x ∨ x = bk) hg9 (.inr rfl)) (fun _ _ h => h))
    have Iy4 := Lib.hid (show ∀ x, In (some ⟨gy4, 0, none⟩) cy4 x → In a3 c3 x ∨ y3.heap.size ≤ x from fun x hx => (hgr8.inn hx).imp id (fun h => Nat.le_trans (show y3.heap.size ≤ u3.heap.size from HS3.out.1.1.size) h))
    clear HKK HS2 HK3 HS3 hnews hzb hFn hrun hown8 hgr8 hS4 hK4 hrow4 hc4 hf4 hw9 hg9 hown4 hnb hu26
    refine ⟨by first | rfl | trivial, ?_⟩
    clear OUT HBZ
    have OND := Lib.hid (show ∀ x, In (some ⟨gy3, 0, none⟩) cy3 x → In a3 c3 x → False from NI.out)
    have HNX := Lib.hid (show ∀ x, In (some ⟨gy4, 0, none⟩) cy4 x → In a3 c3 x ∨ ¬ (lo ≤ x ∧ x < hi) from fun x hx => (Iy4.out x hx).imp id (fun h k => by have h1 := HIV.out.1; have h2 : v5.heap.size ≤ y3.heap.size := HSV.out; omega))
    have HNM := Lib.hid (show ∀ x, In (some ⟨gy4, 0, none⟩) cy4 x → In a3 c3 x ∨ y3.heap.size ≤ x from Iy4.out)
    have NLP := Lib.hid (LIsI.pushed M1p.out M1.out (Nat.le_trans HIV.out.2 GZ1.out) (s := ⟨aj, nj, cj⟩) N1.out Oy4.out Cy4.out HBK.out)
    have OFN := Lib.hid (Offs.push OFM1.out (s := ⟨aj, nj, cj⟩) HNX.out (fun x hx k => by have h1 := (Own.inn N1.out hx).1; have h2 := HIV.out.1; have h3 : v5.heap.size ≤ z2.heap.size := GZ1.out; omega))
    replace NI := Lib.hid (fun x hx hy => (HNM.out x hy).elim (fun h => NI.out x hx h) (fun h => by have := (Own.inn M0.out.outer hx).2; omega))
    replace L0 := Lib.hid (LIs.chT L0.out M1.out.outer Cy4.out HBK.out)
    replace L1 := Lib.hid (LIs.chT L1.out M1.out.outer Cy4.out HBK.out)
    replace M0 := Lib.hid (LIsI.chN M0.out M1.out.outer Cy4.out OND.out HBK.out)
    replace RO := Lib.hid (Row.chT RO.out M1.out.outer Cy4.out (by decide) (by have h1 := HBO.out; have h2 := HBQ.out; have h3 := HBR.out; have h6 := HBRA.out; have h7 := HBRF.out; have h8 := HIV.out; have h9 := HSO.out; have h10 := HYY.out; omega))
    replace OQ := Lib.hid (show BOwn _ _ _ _ _ _ from Own.chT OQ.out M1.out.outer Cy4.out (by decide) (by have h1 := HBO.out; have h2 := HSO.out; have h3 := HIV.out; have h4 := GZ1.out; have h5 := HBK.out; omega))
    replace OR := Lib.hid (show BOwn _ _ _ _ _ _ from Own.chT OR.out M1.out.outer Cy4.out (by decide) (by have h1 := HBO.out; have h2 := HSO.out; have h3 := HIV.out; have h4 := GZ1.out; have h5 := HBK.out; omega))
    replace ON := Lib.hid (Own.chT ON.out M1.out.outer Cy4.out (by decide) (by have h1 := HBO.out; have h2 := HSO.out; have h3 := HIV.out; have h4 := GZ1.out; have h5 := HBK.out; omega))
    replace OD := Lib.hid (show BOwn _ _ _ _ _ _ from Own.chT OD.out M1.out.outer Cy4.out (by decide) (by have h1 := HBO.out; have h2 := HSO.out; have h3 := HIV.out; have h4 := GZ1.out; have h5 := HBK.out; omega))
    replace RQ2 := Lib.hid (Row.chT RQ2.out M1.out.outer Cy4.out (by decide) (by have h1 := HBO.out; have h2 := HBQ.out; have h3 := HBR.out; have h6 := HBRA.out; have h7 := HBRF.out; have h8 := HIV.out; have h9 := HSO.out; have h10 := HYY.out; omega))
    replace RR3 := Lib.hid (Row.chT RR3.out M1.out.outer Cy4.out (by decide) (by have h1 := HBO.out; have h2 := HBQ.out; have h3 := HBR.out; have h6 := HBRA.out; have h7 := HBRF.out; have h8 := HIV.out; have h9 := HSO.out; have h10 := HYY.out; omega))
    replace P0 := Lib.hid (show BOwn _ _ _ _ _ _ from Own.chT P0.out M1.out.outer Cy4.out (by decide) (by have h1 := HBO.out; have h2 := HSO.out; have h3 := HIV.out; have h4 := GZ1.out; have h5 := HBK.out; omega))
    replace N0 := Lib.hid (Own.chT N0.out M1.out.outer Cy4.out (by decide) (by have h1 := HBO.out; have h2 := HSO.out; have h3 := HIV.out; have h4 := GZ1.out; have h5 := HBK.out; omega))
    replace RA := Lib.hid (Row.chT RA.out M1.out.outer Cy4.out (by decide) (by have h1 := HBO.out; have h2 := HBQ.out; have h3 := HBR.out; have h6 := HBRA.out; have h7 := HBRF.out; have h8 := HIV.out; have h9 := HSO.out; have h10 := HYY.out; omega))
    replace P1 := Lib.hid (show BOwn _ _ _ _ _ _ from Own.chT P1.out M1.out.outer Cy4.out (by decide) (by have h1 := HBO.out; have h2 := HSO.out; have h3 := HIV.out; have h4 := GZ1.out; have h5 := HBK.out; omega))
    replace N1 := Lib.hid (Own.chT N1.out M1.out.outer Cy4.out (by decide) (by have h1 := HBO.out; have h2 := HSO.out; have h3 := HIV.out; have h4 := GZ1.out; have h5 := HBK.out; omega))
    replace RF := Lib.hid (Row.chT RF.out M1.out.outer Cy4.out (by decide) (by have h1 := HBO.out; have h2 := HBQ.out; have h3 := HBR.out; have h6 := HBRA.out; have h7 := HBRF.out; have h8 := HIV.out; have h9 := HSO.out; have h10 := HYY.out; omega))
    replace HC := Lib.hid (HC.out.trans (Cy4.out.mono (T := fun x => bk ≤ x) (fun x _ h => by rcases h with h | h; have h1 := (Own.inn M1.out.outer h).1; have h2 := HBK.out; omega; omega)) (fun _ _ h => h))
    have HSV2 := Lib.hid (Nat.le_trans HSV.out Cy4.out.size)
    clear HSV
    have HSV := HSV2
    clear HSV2
    clear M1 OFM1 RB
    have M1 := NLP
    have OFM1 := OFN
    have RB := Lib.hid (show Row y4 bk 55 #[.slice (some ⟨gy1, 0, none⟩) (nn + 1) cy1, .slice (some ⟨gy2, 0, none⟩) (nn + 1) cy2, .slice (some ⟨gy3, 0, none⟩) (mm + 1) cy3, .slice (some ⟨gy4, 0, none⟩) (mm + 1) cy4] from Ry4.out)
    clear NLP OFN HNX HNM OND Ry4 Oy4 Cy4 Iy4
    have hnp : Q1.bytes.length = np ∧ Q1.bytes.length = nr ∧ Q1.nums.length = ni ∧ Q1.nums.length = nj := ⟨BOwn.len P0.out, BOwn.len P1.out, IOwn.len N0.out, IOwn.len N1.out⟩
    have HNP := Lib.hid hnp
    clear hnp
    go_wp2_with (first
      | ((with_reducible show wpList _ _ _ ({ dst := some 280, op := _, type := _, pos := _, after := _, guard := _ } :: _) _ _); refine wpList_load_rowW (by kernel_rfl) 26 _ rfl bRA rfl 26 #[.int .u8 K1, .slice ai ni ci, .slice ap np cp] (0, 0) _ RA.out Try.underlying26 rfl (by rw [size_rep]; rfl) ?_)
      | ((with_reducible show wpList _ _ _ ({ dst := some 281, op := _, type := _, pos := _, after := _, guard := _ } :: _) _ _); refine wpList_load_rowW (by kernel_rfl) 26 _ rfl bRF rfl 26 #[.int .u8 K1, .slice aj nj cj, .slice ar nr cr] (0, 0) _ RF.out Try.underlying26 rfl (by rw [size_rep]; rfl) ?_))
    refine (sameReply_yes K1 ai aj ap ar ni nj ci cj np nr cp cr Q1.nums Q1.bytes _ (IOwn.lies N0.out) (IOwn.lies N1.out) (BOwn.lies P0.out) (BOwn.lies P1.out) HNP.out.2.2.1 HNP.out.2.2.2 HNP.out.1 HNP.out.2.1 (by have h1 := HNP.out; have h2 := HPL.out; unfold maxLen; omega) (by have h1 := HNP.out; have h2 := HPL.out; unfold maxLen; omega)).mono ?_
    rintro e z9 ⟨rfl, g⟩
    replace RB := Lib.hid (RB.out.grown g)
    replace L0 := Lib.hid (L0.out.grown g)
    replace L1 := Lib.hid (L1.out.grown g)
    replace M0 := Lib.hid (M0.out.grown g)
    replace M1 := Lib.hid (M1.out.grown g)
    replace RO := Lib.hid (RO.out.grown g)
    replace OQ := Lib.hid (BOwn.grown OQ.out g)
    replace OR := Lib.hid (BOwn.grown OR.out g)
    replace ON := Lib.hid (Own.grownNone ON.out g)
    replace OD := Lib.hid (BOwn.grown OD.out g)
    replace RQ2 := Lib.hid (RQ2.out.grown g)
    replace RR3 := Lib.hid (RR3.out.grown g)
    replace P0 := Lib.hid (BOwn.grown P0.out g)
    replace N0 := Lib.hid (Own.grownNone N0.out g)
    replace RA := Lib.hid (RA.out.grown g)
    replace P1 := Lib.hid (BOwn.grown P1.out g)
    replace N1 := Lib.hid (Own.grownNone N1.out g)
    replace RF := Lib.hid (RF.out.grown g)
    replace HC := Lib.hid (HC.out.then g)
    clear g P0 P1 N0 N1 RA RF L0p L1p M0p M1p
    go_upto_region 40 with fail
    have x0 := op_byt RO.out HX.out
    have x1 := op_cell RO.out HX.out 1
    have x2 := op_cell RO.out HX.out 2
    have x3 := op_cell RO.out HX.out 3
    simp at x1 x2 x3
    go_wp2_with fail
    refine (kept_yes (some ⟨gQ, 0, none⟩) aq capQ cq nq (nq + 70) q.bytes _ (BOwn.lies OQ.out) (HAQ.out _ HC.out) HNQ.out rfl (by omega)).mono ?_
    rintro e e0 ⟨rfl, g⟩
    clear x0 x1 x2 x3
    replace RB := Lib.hid (RB.out.grown g)
    replace L0 := Lib.hid (L0.out.grown g)
    replace L1 := Lib.hid (L1.out.grown g)
    replace M0 := Lib.hid (M0.out.grown g)
    replace M1 := Lib.hid (M1.out.grown g)
    replace RO := Lib.hid (RO.out.grown g)
    replace OQ := Lib.hid (BOwn.grown OQ.out g)
    replace OR := Lib.hid (BOwn.grown OR.out g)
    replace ON := Lib.hid (Own.grownNone ON.out g)
    replace OD := Lib.hid (BOwn.grown OD.out g)
    replace RQ2 := Lib.hid (RQ2.out.grown g)
    replace RR3 := Lib.hid (RR3.out.grown g)
    replace HC := Lib.hid (HC.out.then g)
    clear g
    have x0 := op_byt RO.out HX.out
    have x1 := op_cell RO.out HX.out 1
    have x2 := op_cell RO.out HX.out 2
    have x3 := op_cell RO.out HX.out 3
    simp at x1 x2 x3
    go_wp2_with fail
    refine (kept_yes (some ⟨gR, 0, none⟩) ab capR cb m (m + 70) bt _ (BOwn.lies OR.out) (HBT.out _ HC.out) HM.out rfl (by omega)).mono ?_
    rintro e e1 ⟨rfl, g⟩
    clear x0 x1 x2 x3
    replace RB := Lib.hid (RB.out.grown g)
    replace L0 := Lib.hid (L0.out.grown g)
    replace L1 := Lib.hid (L1.out.grown g)
    replace M0 := Lib.hid (M0.out.grown g)
    replace M1 := Lib.hid (M1.out.grown g)
    replace RO := Lib.hid (RO.out.grown g)
    replace OQ := Lib.hid (BOwn.grown OQ.out g)
    replace OR := Lib.hid (BOwn.grown OR.out g)
    replace ON := Lib.hid (Own.grownNone ON.out g)
    replace OD := Lib.hid (BOwn.grown OD.out g)
    replace RQ2 := Lib.hid (RQ2.out.grown g)
    replace RR3 := Lib.hid (RR3.out.grown g)
    replace HC := Lib.hid (HC.out.then g)
    clear g
    have x0 := op_byt RO.out HX.out
    have x1 := op_cell RO.out HX.out 1
    have x2 := op_cell RO.out HX.out 2
    have x3 := op_cell RO.out HX.out 3
    simp at x1 x2 x3
    go_wp2_with fail
    refine (Ints.kept_yes (some ⟨gN, 0, none⟩) an capN cn n (n + 70) ns _ (Ints.IOw.lies ON.out) (Ints.ILies.of (HNS.out _ HC.out)) HN.out rfl (by omega)).mono ?_
    rintro e e2 ⟨rfl, g⟩
    clear x0 x1 x2 x3
    replace RB := Lib.hid (RB.out.grown g)
    replace L0 := Lib.hid (L0.out.grown g)
    replace L1 := Lib.hid (L1.out.grown g)
    replace M0 := Lib.hid (M0.out.grown g)
    replace M1 := Lib.hid (M1.out.grown g)
    replace RO := Lib.hid (RO.out.grown g)
    replace OQ := Lib.hid (BOwn.grown OQ.out g)
    replace OR := Lib.hid (BOwn.grown OR.out g)
    replace ON := Lib.hid (Own.grownNone ON.out g)
    replace OD := Lib.hid (BOwn.grown OD.out g)
    replace RQ2 := Lib.hid (RQ2.out.grown g)
    replace RR3 := Lib.hid (RR3.out.grown g)
    replace HC := Lib.hid (HC.out.then g)
    clear g
    have x0 := op_byt RO.out HX.out
    have x1 := op_cell RO.out HX.out 1
    have x2 := op_cell RO.out HX.out 2
    have x3 := op_cell RO.out HX.out 3
    simp at x1 x2 x3
    go_wp2_with fail
    refine (kept_yes (some ⟨gD, 0, none⟩) ad capD cd nd (nd + 70) ld _ (BOwn.lies OD.out) (HD.out _ HC.out) HND.out rfl (by omega)).mono ?_
    rintro e e3 ⟨rfl, g⟩
    clear x0 x1 x2 x3
    replace RB := Lib.hid (RB.out.grown g)
    replace L0 := Lib.hid (L0.out.grown g)
    replace L1 := Lib.hid (L1.out.grown g)
    replace M0 := Lib.hid (M0.out.grown g)
    replace M1 := Lib.hid (M1.out.grown g)
    replace RO := Lib.hid (RO.out.grown g)
    replace OQ := Lib.hid (BOwn.grown OQ.out g)
    replace OR := Lib.hid (BOwn.grown OR.out g)
    replace ON := Lib.hid (Own.grownNone ON.out g)
    replace OD := Lib.hid (BOwn.grown OD.out g)
    replace RQ2 := Lib.hid (RQ2.out.grown g)
    replace RR3 := Lib.hid (RR3.out.grown g)
    replace HC := Lib.hid (HC.out.then g)
    clear g
    have x0 := op_byt RO.out HX.out
    have x1 := op_cell RO.out HX.out 1
    have x2 := op_cell RO.out HX.out 2
    have x3 := op_cell RO.out HX.out 3
    simp at x1 x2 x3
    clear x0 x1 x2 x3
    go_wp2_with fail
    refine (over_n _ gQ _ _ _ _ OQ.out (by omega)).mono ?_
    rintro e o0 ⟨rfl, ho, g⟩
    clear ho
    replace RB := Lib.hid (RB.out.grownNe g (by have h1 := HYY.out; have h2 := HBO.out; have h3 := HLO.out; omega))
    replace L0 := Lib.hid (LIs.chX L0.out OFL0.out g (by have h1 := HYY.out; show lo ≤ _ ∧ _ < hi; omega))
    replace L1 := Lib.hid (LIs.chX L1.out OFL1.out g (by have h1 := HYY.out; show lo ≤ _ ∧ _ < hi; omega))
    replace M0 := Lib.hid (LIsI.chX M0.out OFM0.out g (by have h1 := HYY.out; show lo ≤ _ ∧ _ < hi; omega))
    replace M1 := Lib.hid (LIsI.chX M1.out OFM1.out g (by have h1 := HYY.out; show lo ≤ _ ∧ _ < hi; omega))
    replace OR := Lib.hid (show BOwn _ _ _ _ _ _ from Own.grownNe OR.out g (fun g' h0 e e2 => by injection e with e; injection e with e; injection e2 with e2; have h1 := HYY.out; omega))
    replace ON := Lib.hid (Own.grownNe ON.out g (fun g' h0 e e2 => by injection e with e; injection e with e; injection e2 with e2; have h1 := HYY.out; omega))
    replace OD := Lib.hid (show BOwn _ _ _ _ _ _ from Own.grownNe OD.out g (fun g' h0 e e2 => by injection e with e; injection e with e; injection e2 with e2; have h1 := HYY.out; omega))
    replace HC := Lib.hid (HC.out.trans (Ch.ofSome (S := fun x => bk ≤ x) g (by have h1 := HYY.out; have h2 := HBO.out; have h3 := HLO.out; omega)) (fun _ _ h => h))
    clear g
    go_wp2_with fail
    refine (over_n _ gR _ _ _ _ OR.out (by omega)).mono ?_
    rintro e o1 ⟨rfl, ho, g⟩
    clear ho
    replace RB := Lib.hid (RB.out.grownNe g (by have h1 := HYY.out; have h2 := HBO.out; have h3 := HLO.out; omega))
    replace L0 := Lib.hid (LIs.chX L0.out OFL0.out g (by have h1 := HYY.out; show lo ≤ _ ∧ _ < hi; omega))
    replace L1 := Lib.hid (LIs.chX L1.out OFL1.out g (by have h1 := HYY.out; show lo ≤ _ ∧ _ < hi; omega))
    replace M0 := Lib.hid (LIsI.chX M0.out OFM0.out g (by have h1 := HYY.out; show lo ≤ _ ∧ _ < hi; omega))
    replace M1 := Lib.hid (LIsI.chX M1.out OFM1.out g (by have h1 := HYY.out; show lo ≤ _ ∧ _ < hi; omega))
    replace ON := Lib.hid (Own.grownNe ON.out g (fun g' h0 e e2 => by injection e with e; injection e with e; injection e2 with e2; have h1 := HYY.out; omega))
    replace OD := Lib.hid (show BOwn _ _ _ _ _ _ from Own.grownNe OD.out g (fun g' h0 e e2 => by injection e with e; injection e with e; injection e2 with e2; have h1 := HYY.out; omega))
    replace HC := Lib.hid (HC.out.trans (Ch.ofSome (S := fun x => bk ≤ x) g (by have h1 := HYY.out; have h2 := HBO.out; have h3 := HLO.out; omega)) (fun _ _ h => h))
    clear g
    go_wp2_with fail
    refine (Ints.over_n _ gN _ _ _ _ ON.out (by omega)).mono ?_
    rintro e o2 ⟨rfl, ho, g⟩
    clear ho
    replace RB := Lib.hid (RB.out.grownNe g (by have h1 := HYY.out; have h2 := HBO.out; have h3 := HLO.out; omega))
    replace L0 := Lib.hid (LIs.chX L0.out OFL0.out g (by have h1 := HYY.out; show lo ≤ _ ∧ _ < hi; omega))
    replace L1 := Lib.hid (LIs.chX L1.out OFL1.out g (by have h1 := HYY.out; show lo ≤ _ ∧ _ < hi; omega))
    replace M0 := Lib.hid (LIsI.chX M0.out OFM0.out g (by have h1 := HYY.out; show lo ≤ _ ∧ _ < hi; omega))
    replace M1 := Lib.hid (LIsI.chX M1.out OFM1.out g (by have h1 := HYY.out; show lo ≤ _ ∧ _ < hi; omega))
    replace OD := Lib.hid (show BOwn _ _ _ _ _ _ from Own.grownNe OD.out g (fun g' h0 e e2 => by injection e with e; injection e with e; injection e2 with e2; have h1 := HYY.out; omega))
    replace HC := Lib.hid (HC.out.trans (Ch.ofSome (S := fun x => bk ≤ x) g (by have h1 := HYY.out; have h2 := HBO.out; have h3 := HLO.out; omega)) (fun _ _ h => h))
    clear g
    go_wp2_with fail
    refine (over_n _ gD _ _ _ _ OD.out (by omega)).mono ?_
    rintro e o3 ⟨rfl, ho, g⟩
    clear ho
    replace RB := Lib.hid (RB.out.grownNe g (by have h1 := HYY.out; have h2 := HBO.out; have h3 := HLO.out; omega))
    replace L0 := Lib.hid (LIs.chX L0.out OFL0.out g (by have h1 := HYY.out; show lo ≤ _ ∧ _ < hi; omega))
    replace L1 := Lib.hid (LIs.chX L1.out OFL1.out g (by have h1 := HYY.out; show lo ≤ _ ∧ _ < hi; omega))
    replace M0 := Lib.hid (LIsI.chX M0.out OFM0.out g (by have h1 := HYY.out; show lo ≤ _ ∧ _ < hi; omega))
    replace M1 := Lib.hid (LIsI.chX M1.out OFM1.out g (by have h1 := HYY.out; show lo ≤ _ ∧ _ < hi; omega))
    replace HC := Lib.hid (HC.out.trans (Ch.ofSome (S := fun x => bk ≤ x) g (by have h1 := HYY.out; have h2 := HBO.out; have h3 := HLO.out; omega)) (fun _ _ h => h))
    clear g
    go_wp2_with fail
    go_ret
    refine ⟨rfl, bs ++ [Q1.bytes], is ++ [Q1.nums], ⟨_, _, _, _, _, _, _, _, _, _, _, _, _, _, RB.out, L0.out, L1.out, M0.out, M1.out, ND.out, NI.out⟩, by simp, by simp, fun x hx => (List.mem_append.1 hx).imp id (fun h => by rw [List.mem_singleton.1 h]; have := HPL.out; omega), fun x hx => (List.mem_append.1 hx).imp id (fun h => by rw [List.mem_singleton.1 h]; have := HPL.out; omega), HC.out⟩
  have N3 := Lib.hid hcall
  clear hcall
  have hcall : call ≠ 0 ∧ call ≠ 1 ∧ call ≠ 2 ∧ call ≠ 3 := ⟨N0.out, N1.out, N2.out, N3.out⟩
  clear N0 N1 N2 N3
  have e0 : (call == 0) = false := by rw [beq_eq_false_iff_ne]; omega
  have e1 : (call == 1) = false := by rw [beq_eq_false_iff_ne]; omega
  have e2 : (call == 2) = false := by rw [beq_eq_false_iff_ne]; omega
  have e3 : (call == 3) = false := by rw [beq_eq_false_iff_ne]; omega
  have HSO := Lib.hid (show bk < lo ∧ lo ≤ wQ.heap.size ∧ lo ≤ wR.heap.size ∧ lo ≤ wN.heap.size ∧ lo ≤ wb.heap.size from by have h1 := HBO.out; have h2 := HLO.out; have z1 := ZQ.out; have z2 := ZR.out; have z3 := ZN.out; omega)
  have HSVx := Lib.hid (Nat.le_refl v5.heap.size)
  obtain ⟨B, hB⟩ : ∃ B, B = fitsL q ⟨k, ns, bt⟩ := ⟨_, rfl⟩
  have HB := Lib.hid hB
  have HF1 := Lib.hid (show ∀ u, v5.grownBy u none → Calls Try.prog 40 #[.agg (rqC q (.slice (some ⟨gQ, 0, none⟩) nq capQ)), .agg #[.int .u8 K, .slice (some ⟨gN, 0, none⟩) n capN, .slice (some ⟨gR, 0, none⟩) m capR]] u fun e w' => e = .returned (.bool B) ∧ u.grownBy w' none from fun u hu => by
    rw [hB]
    exact wfits_n q (some ⟨gQ, 0, none⟩) nq capQ K k n capN m capR (some ⟨gN, 0, none⟩) (some ⟨gR, 0, none⟩) ns bt u HX.out HNQ.out HOK.out (by unfold maxLen; omega) HKK.out ((LN.out _ _ ON.out).grown hu) HN.out HM.out (by unfold maxLen; omega) (by unfold maxLen; omega))
  have HF2 := Lib.hid (show ∀ u, v5.grownBy u none → Calls Try.prog 41 #[.agg (rqC q (.slice aq nq cq)), .agg #[.int .u8 K, .slice an n cn, .slice ab m cb]] u fun e w' => e = .returned (.bool B) ∧ u.grownBy w' none from fun u hu => by
    rw [hB]
    exact rfits_n q aq nq cq K k n cn m cb an ab ns bt u HX.out HNQ.out HOK.out (by unfold maxLen; omega) HKK.out (HNS.out _ (HC.out.then hu)) HN.out HM.out (by unfold maxLen; omega) (by unfold maxLen; omega))
  clear hB hcall
  go_upto_region 13 with fail
  clear x
  refine wp_normal ?_
  refine wp_regionX (fun u => v5.grownBy u none) 9 (by kernel_rfl) (grownBy_drewN v5 1 none) ?_
  refine wpX_take 0 (v := .agg (rqC q (.slice (some ⟨gQ, 0, none⟩) nq capQ))) (oi := { dst := some 81, op := Op.load 43 (Operand.tmp 9), type := 43, pos := "law.go:94", after := #[], guard := none }) (oL := oLAskN6) (clo_grown _) rfl rfl rfl (by kernel_rfl) (by kernel_rfl) (by kernel_rfl) (by kernel_rfl) (by kernel_rfl) (fun _ _ _ h => by cases h.1) (YG.val (by rfl) (fun u hu => run_load_op u _ 43 (.tmp 9) rfl bq rfl 43 (rqC q (.slice (some ⟨gQ, 0, none⟩) nq capQ)) (RQ2.out.grown hu) Try.underlying43 rfl (by rw [size_req]; exact congrArg some (rq_len (q) _ HX.out).symm))) ?_
  simp only [Act.put, List.setIfInBounds_toArray, List.set_cons_zero, List.set_cons_succ]
  refine wpX_take 1 (v := .agg #[.int .u8 K, .slice (some ⟨gN, 0, none⟩) n capN, .slice (some ⟨gR, 0, none⟩) m capR]) (oi := { dst := some 82, op := Op.load 26 (Operand.tmp 10), type := 26, pos := "law.go:94", after := #[], guard := none }) (oL := oLAskN6) (clo_grown _) rfl rfl rfl (by kernel_rfl) (by kernel_rfl) (by kernel_rfl) (by kernel_rfl) (by kernel_rfl) (fun _ _ _ h => by cases h.1) (YG.val (by rfl) (fun u hu => run_load_op u _ 26 (.tmp 10) rfl br rfl 26 #[.int .u8 K, .slice (some ⟨gN, 0, none⟩) n capN, .slice (some ⟨gR, 0, none⟩) m capR] (RR3.out.grown hu) Try.underlying26 rfl (by rw [size_rep]; rfl))) ?_
  simp only [Act.put, List.setIfInBounds_toArray, List.set_cons_zero, List.set_cons_succ]
  refine wpX_take 3 (v := .pointer (some ⟨bo, 1, none⟩)) (oi := { dst := some 84, op := Op.fieldAddr 59 (Operand.tmp 3) 1, type := 0, pos := "law.go:94", after := #[], guard := none }) (oL := oLAskN6) (clo_grown _) rfl rfl rfl (by kernel_rfl) (by kernel_rfl) (by kernel_rfl) (by kernel_rfl) (by kernel_rfl) (fun _ _ _ h => by cases h.1) (YG.val (by rfl) (fun _ _ => by go_simp)) ?_
  simp only [Act.put, List.setIfInBounds_toArray, List.set_cons_zero, List.set_cons_succ]
  refine wpX_take 4 (v := .agg (rqC q (.slice aq nq cq))) (oi := { dst := some 85, op := Op.load 43 (Operand.tmp 84), type := 43, pos := "law.go:94", after := #[{ on := 3, ground := Ground.data }], guard := none }) (oL := oLAskN6) (clo_grown _) rfl rfl rfl (by kernel_rfl) (by kernel_rfl) (by kernel_rfl) (by kernel_rfl) (by kernel_rfl) (fun _ _ _ h => by cases h.1) (YG.val (by rfl) (fun u hu => run_loadmid u _ 43 (.tmp 84) rfl bo 1 rfl _ _ (op_req (RO.out.grown hu) HX.out) Try.underlying43 rfl (by rw [size_req]; simp [HX.out]))) ?_
  simp only [Act.put, List.setIfInBounds_toArray, List.set_cons_zero, List.set_cons_succ]
  refine wpX_take 5 (v := .pointer (some ⟨bo, 24, none⟩)) (oi := { dst := some 86, op := Op.fieldAddr 59 (Operand.tmp 3) 2, type := 0, pos := "law.go:94", after := #[], guard := none }) (oL := oLAskN6) (clo_grown _) rfl rfl rfl (by kernel_rfl) (by kernel_rfl) (by kernel_rfl) (by kernel_rfl) (by kernel_rfl) (fun _ _ _ h => by cases h.1) (YG.val (by rfl) (fun _ _ => by go_simp)) ?_
  simp only [Act.put, List.setIfInBounds_toArray, List.set_cons_zero, List.set_cons_succ]
  refine wpX_take 6 (v := .agg #[.int .u8 K, .slice an n cn, .slice ab m cb]) (oi := { dst := some 87, op := Op.load 26 (Operand.tmp 86), type := 26, pos := "law.go:94", after := #[{ on := 5, ground := Ground.data }], guard := none }) (oL := oLAskN6) (clo_grown _) rfl rfl rfl (by kernel_rfl) (by kernel_rfl) (by kernel_rfl) (by kernel_rfl) (by kernel_rfl) (fun _ _ _ h => by cases h.1) (YG.val (by rfl) (fun u hu => run_loadmid u _ 26 (.tmp 86) rfl bo 24 rfl _ _ (op_rep (RO.out.grown hu) HX.out) Try.underlying26 rfl (by rw [size_rep]; rfl))) ?_
  simp only [Act.put, List.setIfInBounds_toArray, List.set_cons_zero, List.set_cons_succ]
  refine wpX_step 2 (o := { dst := some 83, op := Op.call { callee := Callee.value (Operand.func 40), args := #[Operand.tmp 81, Operand.tmp 82], argTypes := #[43, 26] }, type := 4, pos := "law.go:94", after := #[{ on := 0, ground := Ground.data }, { on := 1, ground := Ground.data }], guard := none }) rfl rfl (by kernel_rfl) (by rfl) (fun u2 hS2 Kx hK => ?_)
  have HK := Lib.hid hK
  have HS := Lib.hid hS2
  clear hK hS2
  refine wp_call_op (f := 40) (args := #[.agg (rqC q (.slice (some ⟨gQ, 0, none⟩) nq capQ)), .agg #[.int .u8 K, .slice (some ⟨gN, 0, none⟩) n capN, .slice (some ⟨gR, 0, none⟩) m capR]]) (w1 := u2) (by go_simp) ((HF1.out u2 HS.out).mono ?_)
  rintro e z1 ⟨rfl, g⟩
  have Gz1 := Lib.hid (grownBy_trans HS.out g)
  have Zz1 := Lib.hid HS.out.size
  have ZA := Lib.hid HS.out.size
  refine ⟨_, rfl, HK.out (fun u => z1.grownBy u none) _ _ (World.grownBy.refl _ _) (fun u h => grownBy_trans Gz1.out h) (clo_grown z1) ?_⟩
  clear HK HS g
  simp only [Act.put, List.setIfInBounds_toArray, List.set_cons_zero, List.set_cons_succ]
  refine wpX_step 7 (o := { dst := some 88, op := Op.call { callee := Callee.value (Operand.func 41), args := #[Operand.tmp 85, Operand.tmp 87], argTypes := #[43, 26] }, type := 4, pos := "law.go:94", after := #[{ on := 4, ground := Ground.data }, { on := 6, ground := Ground.data }, { on := 2, ground := Ground.chain }], guard := none }) rfl rfl (by kernel_rfl) (by rfl) (fun u2 hS2 Kx hK => ?_)
  have HK := Lib.hid hK
  have HS := Lib.hid hS2
  clear hK hS2
  refine wp_call_op (f := 41) (args := #[.agg (rqC q (.slice aq nq cq)), .agg #[.int .u8 K, .slice an n cn, .slice ab m cb]]) (w1 := u2) (by go_simp) ((HF2.out u2 (grownBy_trans Gz1.out HS.out)).mono ?_)
  rintro e z2 ⟨rfl, g⟩
  have Gz2 := Lib.hid (grownBy_trans HS.out g)
  have Zz2 := Lib.hid HS.out.size
  have ZB := Lib.hid HS.out.size
  refine ⟨_, rfl, HK.out (fun u => z2.grownBy u none) _ _ (World.grownBy.refl _ _) (fun u h => grownBy_trans Gz2.out h) (clo_grown z2) ?_⟩
  clear HK HS g
  simp only [Act.put, List.setIfInBounds_toArray, List.set_cons_zero, List.set_cons_succ]
  refine wpX_take 8 (v := .bool true) (oi := { dst := some 89, op := Op.binOp BinOp.eql 4 (Operand.tmp 83) (Operand.tmp 88) 4, type := 4, pos := "law.go:94", after := #[{ on := 2, ground := Ground.data }, { on := 7, ground := Ground.data }], guard := none }) (oL := oLAskN6) (clo_grown _) rfl rfl rfl (by kernel_rfl) (by kernel_rfl) (by kernel_rfl) (by kernel_rfl) (by kernel_rfl) (fun _ _ _ h => by cases h.1) (YG.val (by rfl) (fun _ _ => by go_simp)) ?_
  simp only [Act.put, List.setIfInBounds_toArray, List.set_cons_zero, List.set_cons_succ]
  refine wpX_last (oL := { dst := some 12, op := Op.assign (Operand.tmp 89), type := 4, pos := "law.go:94", after := #[{ on := 8, ground := Ground.data }, { on := 7, ground := Ground.chain }, { on := 0, ground := Ground.phase }, { on := 1, ground := Ground.phase }, { on := 2, ground := Ground.phase }, { on := 3, ground := Ground.phase }, { on := 4, ground := Ground.phase }, { on := 5, ground := Ground.phase }, { on := 6, ground := Ground.phase }, { on := 7, ground := Ground.phase }, { on := 8, ground := Ground.phase }], guard := none }) rfl (by kernel_rfl) (by kernel_rfl) (by rfl) (fun u4 hS4 K4 hK4 => ?_)
  refine wp_val_op (v := .bool true) (w1 := u4) (by rfl) (hK4 _ _ ?_)
  simp only [Act.put, List.setIfInBounds_toArray, List.set_cons_zero, List.set_cons_succ]
  refine ⟨by first | rfl | trivial, ?_⟩
  obtain ⟨z3, hz3⟩ : ∃ z3, z3 = u4 := ⟨_, rfl⟩
  rw [← hz3] at hS4 ⊢
  have g : v5.grownBy z3 none := by first | exact grownBy_trans Gz2.out hS4 | exact grownBy_trans Gz1.out (grownBy_trans Gz2.out hS4)
  clear hS4 hK4 hz3
  replace RB := Lib.hid (RB.out.grown g)
  replace L0 := Lib.hid (L0.out.grown g)
  replace L1 := Lib.hid (L1.out.grown g)
  replace M0 := Lib.hid (M0.out.grown g)
  replace M1 := Lib.hid (M1.out.grown g)
  replace RO := Lib.hid (RO.out.grown g)
  replace OQ := Lib.hid (BOwn.grown OQ.out g)
  replace OR := Lib.hid (BOwn.grown OR.out g)
  replace ON := Lib.hid (Own.grownNone ON.out g)
  replace OD := Lib.hid (BOwn.grown OD.out g)
  replace RQ2 := Lib.hid (RQ2.out.grown g)
  replace RR3 := Lib.hid (RR3.out.grown g)
  replace HC := Lib.hid (HC.out.then g)
  clear g
  go_upto_region 40 with fail
  have x0 := op_byt RO.out HX.out
  have x1 := op_cell RO.out HX.out 1
  have x2 := op_cell RO.out HX.out 2
  have x3 := op_cell RO.out HX.out 3
  simp at x1 x2 x3
  go_wp2_with fail
  refine (kept_yes (some ⟨gQ, 0, none⟩) aq capQ cq nq (nq + 70) q.bytes _ (BOwn.lies OQ.out) (HAQ.out _ HC.out) HNQ.out rfl (by omega)).mono ?_
  rintro e e0 ⟨rfl, g⟩
  clear x0 x1 x2 x3
  replace RB := Lib.hid (RB.out.grown g)
  replace L0 := Lib.hid (L0.out.grown g)
  replace L1 := Lib.hid (L1.out.grown g)
  replace M0 := Lib.hid (M0.out.grown g)
  replace M1 := Lib.hid (M1.out.grown g)
  replace RO := Lib.hid (RO.out.grown g)
  replace OQ := Lib.hid (BOwn.grown OQ.out g)
  replace OR := Lib.hid (BOwn.grown OR.out g)
  replace ON := Lib.hid (Own.grownNone ON.out g)
  replace OD := Lib.hid (BOwn.grown OD.out g)
  replace RQ2 := Lib.hid (RQ2.out.grown g)
  replace RR3 := Lib.hid (RR3.out.grown g)
  replace HC := Lib.hid (HC.out.then g)
  clear g
  have x0 := op_byt RO.out HX.out
  have x1 := op_cell RO.out HX.out 1
  have x2 := op_cell RO.out HX.out 2
  have x3 := op_cell RO.out HX.out 3
  simp at x1 x2 x3
  go_wp2_with fail
  refine (kept_yes (some ⟨gR, 0, none⟩) ab capR cb m (m + 70) bt _ (BOwn.lies OR.out) (HBT.out _ HC.out) HM.out rfl (by omega)).mono ?_
  rintro e e1 ⟨rfl, g⟩
  clear x0 x1 x2 x3
  replace RB := Lib.hid (RB.out.grown g)
  replace L0 := Lib.hid (L0.out.grown g)
  replace L1 := Lib.hid (L1.out.grown g)
  replace M0 := Lib.hid (M0.out.grown g)
  replace M1 := Lib.hid (M1.out.grown g)
  replace RO := Lib.hid (RO.out.grown g)
  replace OQ := Lib.hid (BOwn.grown OQ.out g)
  replace OR := Lib.hid (BOwn.grown OR.out g)
  replace ON := Lib.hid (Own.grownNone ON.out g)
  replace OD := Lib.hid (BOwn.grown OD.out g)
  replace RQ2 := Lib.hid (RQ2.out.grown g)
  replace RR3 := Lib.hid (RR3.out.grown g)
  replace HC := Lib.hid (HC.out.then g)
  clear g
  have x0 := op_byt RO.out HX.out
  have x1 := op_cell RO.out HX.out 1
  have x2 := op_cell RO.out HX.out 2
  have x3 := op_cell RO.out HX.out 3
  simp at x1 x2 x3
  go_wp2_with fail
  refine (Ints.kept_yes (some ⟨gN, 0, none⟩) an capN cn n (n + 70) ns _ (Ints.IOw.lies ON.out) (Ints.ILies.of (HNS.out _ HC.out)) HN.out rfl (by omega)).mono ?_
  rintro e e2 ⟨rfl, g⟩
  clear x0 x1 x2 x3
  replace RB := Lib.hid (RB.out.grown g)
  replace L0 := Lib.hid (L0.out.grown g)
  replace L1 := Lib.hid (L1.out.grown g)
  replace M0 := Lib.hid (M0.out.grown g)
  replace M1 := Lib.hid (M1.out.grown g)
  replace RO := Lib.hid (RO.out.grown g)
  replace OQ := Lib.hid (BOwn.grown OQ.out g)
  replace OR := Lib.hid (BOwn.grown OR.out g)
  replace ON := Lib.hid (Own.grownNone ON.out g)
  replace OD := Lib.hid (BOwn.grown OD.out g)
  replace RQ2 := Lib.hid (RQ2.out.grown g)
  replace RR3 := Lib.hid (RR3.out.grown g)
  replace HC := Lib.hid (HC.out.then g)
  clear g
  have x0 := op_byt RO.out HX.out
  have x1 := op_cell RO.out HX.out 1
  have x2 := op_cell RO.out HX.out 2
  have x3 := op_cell RO.out HX.out 3
  simp at x1 x2 x3
  go_wp2_with fail
  refine (kept_yes (some ⟨gD, 0, none⟩) ad capD cd nd (nd + 70) ld _ (BOwn.lies OD.out) (HD.out _ HC.out) HND.out rfl (by omega)).mono ?_
  rintro e e3 ⟨rfl, g⟩
  clear x0 x1 x2 x3
  replace RB := Lib.hid (RB.out.grown g)
  replace L0 := Lib.hid (L0.out.grown g)
  replace L1 := Lib.hid (L1.out.grown g)
  replace M0 := Lib.hid (M0.out.grown g)
  replace M1 := Lib.hid (M1.out.grown g)
  replace RO := Lib.hid (RO.out.grown g)
  replace OQ := Lib.hid (BOwn.grown OQ.out g)
  replace OR := Lib.hid (BOwn.grown OR.out g)
  replace ON := Lib.hid (Own.grownNone ON.out g)
  replace OD := Lib.hid (BOwn.grown OD.out g)
  replace RQ2 := Lib.hid (RQ2.out.grown g)
  replace RR3 := Lib.hid (RR3.out.grown g)
  replace HC := Lib.hid (HC.out.then g)
  clear g
  have x0 := op_byt RO.out HX.out
  have x1 := op_cell RO.out HX.out 1
  have x2 := op_cell RO.out HX.out 2
  have x3 := op_cell RO.out HX.out 3
  simp at x1 x2 x3
  clear x0 x1 x2 x3
  go_wp2_with fail
  refine (over_n _ gQ _ _ _ _ OQ.out (by omega)).mono ?_
  rintro e o0 ⟨rfl, ho, g⟩
  clear ho
  replace RB := Lib.hid (RB.out.grownNe g (by have h1 := HYY.out; have h2 := HBO.out; have h3 := HLO.out; omega))
  replace L0 := Lib.hid (LIs.chX L0.out OFL0.out g (by have h1 := HYY.out; show lo ≤ _ ∧ _ < hi; omega))
  replace L1 := Lib.hid (LIs.chX L1.out OFL1.out g (by have h1 := HYY.out; show lo ≤ _ ∧ _ < hi; omega))
  replace M0 := Lib.hid (LIsI.chX M0.out OFM0.out g (by have h1 := HYY.out; show lo ≤ _ ∧ _ < hi; omega))
  replace M1 := Lib.hid (LIsI.chX M1.out OFM1.out g (by have h1 := HYY.out; show lo ≤ _ ∧ _ < hi; omega))
  replace OR := Lib.hid (show BOwn _ _ _ _ _ _ from Own.grownNe OR.out g (fun g' h0 e e2 => by injection e with e; injection e with e; injection e2 with e2; have h1 := HYY.out; omega))
  replace ON := Lib.hid (Own.grownNe ON.out g (fun g' h0 e e2 => by injection e with e; injection e with e; injection e2 with e2; have h1 := HYY.out; omega))
  replace OD := Lib.hid (show BOwn _ _ _ _ _ _ from Own.grownNe OD.out g (fun g' h0 e e2 => by injection e with e; injection e with e; injection e2 with e2; have h1 := HYY.out; omega))
  replace HC := Lib.hid (HC.out.trans (Ch.ofSome (S := fun x => bk ≤ x) g (by have h1 := HYY.out; have h2 := HBO.out; have h3 := HLO.out; omega)) (fun _ _ h => h))
  clear g
  go_wp2_with fail
  refine (over_n _ gR _ _ _ _ OR.out (by omega)).mono ?_
  rintro e o1 ⟨rfl, ho, g⟩
  clear ho
  replace RB := Lib.hid (RB.out.grownNe g (by have h1 := HYY.out; have h2 := HBO.out; have h3 := HLO.out; omega))
  replace L0 := Lib.hid (LIs.chX L0.out OFL0.out g (by have h1 := HYY.out; show lo ≤ _ ∧ _ < hi; omega))
  replace L1 := Lib.hid (LIs.chX L1.out OFL1.out g (by have h1 := HYY.out; show lo ≤ _ ∧ _ < hi; omega))
  replace M0 := Lib.hid (LIsI.chX M0.out OFM0.out g (by have h1 := HYY.out; show lo ≤ _ ∧ _ < hi; omega))
  replace M1 := Lib.hid (LIsI.chX M1.out OFM1.out g (by have h1 := HYY.out; show lo ≤ _ ∧ _ < hi; omega))
  replace ON := Lib.hid (Own.grownNe ON.out g (fun g' h0 e e2 => by injection e with e; injection e with e; injection e2 with e2; have h1 := HYY.out; omega))
  replace OD := Lib.hid (show BOwn _ _ _ _ _ _ from Own.grownNe OD.out g (fun g' h0 e e2 => by injection e with e; injection e with e; injection e2 with e2; have h1 := HYY.out; omega))
  replace HC := Lib.hid (HC.out.trans (Ch.ofSome (S := fun x => bk ≤ x) g (by have h1 := HYY.out; have h2 := HBO.out; have h3 := HLO.out; omega)) (fun _ _ h => h))
  clear g
  go_wp2_with fail
  refine (Ints.over_n _ gN _ _ _ _ ON.out (by omega)).mono ?_
  rintro e o2 ⟨rfl, ho, g⟩
  clear ho
  replace RB := Lib.hid (RB.out.grownNe g (by have h1 := HYY.out; have h2 := HBO.out; have h3 := HLO.out; omega))
  replace L0 := Lib.hid (LIs.chX L0.out OFL0.out g (by have h1 := HYY.out; show lo ≤ _ ∧ _ < hi; omega))
  replace L1 := Lib.hid (LIs.chX L1.out OFL1.out g (by have h1 := HYY.out; show lo ≤ _ ∧ _ < hi; omega))
  replace M0 := Lib.hid (LIsI.chX M0.out OFM0.out g (by have h1 := HYY.out; show lo ≤ _ ∧ _ < hi; omega))
  replace M1 := Lib.hid (LIsI.chX M1.out OFM1.out g (by have h1 := HYY.out; show lo ≤ _ ∧ _ < hi; omega))
  replace OD := Lib.hid (show BOwn _ _ _ _ _ _ from Own.grownNe OD.out g (fun g' h0 e e2 => by injection e with e; injection e with e; injection e2 with e2; have h1 := HYY.out; omega))
  replace HC := Lib.hid (HC.out.trans (Ch.ofSome (S := fun x => bk ≤ x) g (by have h1 := HYY.out; have h2 := HBO.out; have h3 := HLO.out; omega)) (fun _ _ h => h))
  clear g
  go_wp2_with fail
  refine (over_n _ gD _ _ _ _ OD.out (by omega)).mono ?_
  rintro e o3 ⟨rfl, ho, g⟩
  clear ho
  replace RB := Lib.hid (RB.out.grownNe g (by have h1 := HYY.out; have h2 := HBO.out; have h3 := HLO.out; omega))
  replace L0 := Lib.hid (LIs.chX L0.out OFL0.out g (by have h1 := HYY.out; show lo ≤ _ ∧ _ < hi; omega))
  replace L1 := Lib.hid (LIs.chX L1.out OFL1.out g (by have h1 := HYY.out; show lo ≤ _ ∧ _ < hi; omega))
  replace M0 := Lib.hid (LIsI.chX M0.out OFM0.out g (by have h1 := HYY.out; show lo ≤ _ ∧ _ < hi; omega))
  replace M1 := Lib.hid (LIsI.chX M1.out OFM1.out g (by have h1 := HYY.out; show lo ≤ _ ∧ _ < hi; omega))
  replace HC := Lib.hid (HC.out.trans (Ch.ofSome (S := fun x => bk ≤ x) g (by have h1 := HYY.out; have h2 := HBO.out; have h3 := HLO.out; omega)) (fun _ _ h => h))
  clear g
  go_wp2_with fail
  go_ret
  refine ⟨rfl, bs, is, ⟨_, _, _, _, _, _, _, _, _, _, _, _, _, _, RB.out, L0.out, L1.out, M0.out, M1.out, ND.out, NI.out⟩, by omega, by omega, fun x hx => .inl hx, fun x hx => .inl hx, HC.out⟩
end Go.Proofs.Ytkdmebcfedehiaa
