/- Helpers and contracts of the proofs over this seat: WireRefM, WireRefX, ReqRd, SameReq. Each states what a function of the program answers, or is plain Lean; its conditions stand in each statement. -/
import Derived.OpenShut
import Derived.Test.YtkdmebcfedehiaaPtAA
import Derived.Test.YtkdmebcfedehiaaPtAB
import Derived.Test.YtkdmebcfedehiaaPtAC
import Derived.Test.YtkdmebcfedehiaaPtAD
import Derived.Test.YtkdmebcfedehiaaPtAE
set_option linter.unusedVariables false
/- The document's May: may a request be? (strongroomref20). Printed by gens/wireref_m.py. -/
namespace Go.Proofs.Ytkdmebcfedehiaa
open Go.RowKit

theorem run_eql_leaseM (w : World) (ev : Operand → Value) {o : Oper} {ty : TypeId} (x y : Operand) (ho : o.op = .binOp .eql 41 x y ty) {a b c d : Int} (hx : ev x = .agg #[.int .u32 a, .int .i64 b]) (hy : ev y = .agg #[.int .u32 c, .int .i64 d]) (h : LeaseOk a b) (k : LeaseOk c d) :
    (execOp ev o).run Try.prog w = .ok (.value (.bool (decide (a = c ∧ b = d)))) w := by
  have e := (lease_eq h k w).1
  unfold leaseV at e
  unfold execOp
  simp only [ho, hx, hy]
  simp [run_eqGuard_agg w .eql 41 x y _ _ lease_guard, e]
theorem info_lease : ∃ i, Try.prog.info? 41 = some i ∧ i.zero = some (.agg #[.int .u32 0, .int .i64 0]) := ⟨(Try.prog.info? 41).getD default, by kernel_rfl, by kernel_rfl⟩
theorem info_ix : ∃ i, Try.prog.info? 38 = some i ∧ i.zero = some (.agg ((List.replicate 16 (0 : UInt8)).map bval).toArray) := ⟨(Try.prog.info? 38).getD default, by kernel_rfl, by kernel_rfl⟩
theorem run_build_lease0 (w : World) (ev : Operand → Value) {o : Oper} (hop : o.op = .build 41 #[]) : (execOp ev o).run Try.prog w = .ok (.value (.agg #[.int .u32 0, .int .i64 0])) w := by
  obtain ⟨i, hi, hz⟩ := info_lease
  unfold execOp
  simp only [hop]
  simp [Instr.build, run_underlying Try.underlying41, typeInfo, zeroValue, hi, hz, Instr.fill, Value.cells]
theorem run_build_ix0 (w : World) (ev : Operand → Value) {o : Oper} (hop : o.op = .build 38 #[]) : (execOp ev o).run Try.prog w = .ok (.value (.agg ((List.replicate 16 (0 : UInt8)).map bval).toArray)) w := by
  obtain ⟨i, hi, hz⟩ := info_ix
  obtain ⟨z, hzz⟩ : ∃ z, z = (List.replicate 16 (0 : UInt8)).map bval := ⟨_, rfl⟩
  rw [← hzz] at hz ⊢
  unfold execOp
  simp only [hop]
  simp [Instr.build, run_underlying Try.underlying38, typeInfo, zeroValue, hi, hz, Instr.fill, Value.cells]
/-- the request of which the kind and the index are struck -/
def strq (q : Rq) : Rq := { q with kind := 0, ix := List.replicate 16 0 }
theorem strq_ix (q : Rq) : (strq q).ix.length = 16 := by simp [strq]
theorem rqG_cell {w : World} {g : Nat} {q : Rq} {x0 x1 x2 x3 x4 x5 : Value} (h : Row w g 43 (rqG q x0 x1 x2 x3 x4 x5)) (hx : q.ix.length = 16) (j : Nat) : w.cell? ⟨g, 17 + j, none⟩ = ([x0, x1, x2, x3, x4, x5] : List Value)[j]? := by
  rw [Row.cell h, rqG_get _ _ _ _ _ _ _ hx]
theorem rqG_mid {w : World} {g : Nat} {q : Rq} {x0 x1 x2 x3 x4 x5 : Value} (h : Row w g 43 (rqG q x0 x1 x2 x3 x4 x5)) (hx : q.ix.length = 16) : w.rangeAt g 20 [x3, x4] := by
  intro j v hj
  have hj2 : j < 2 := by
    rcases Nat.lt_or_ge j 2 with h | h
    · exact h
    · rw [List.getElem?_eq_none (by simpa using h)] at hj; cases hj
  rw [show 20 + j = 17 + (3 + j) by omega, rqG_cell h hx, ← hj]
  match j, hj2 with
  | 0, _ => rfl
  | 1, _ => rfl
theorem rq_ix0 (q : Rq) (s : Value) (ix : List UInt8) (h : q.ix.length = 16) (h2 : ix.length = 16) : laidR (rqC q s) 1 (ix.map bval) = rqC { q with ix := ix } s := by
  have := laid_mid (ix.map bval) (q.ix.map bval) [.int .u8 (q.kind : Int)] [.int .i64 q.number, .int .i64 q.pos, .int .i64 q.len, .int .u32 (q.who : Int), .int .i64 q.till, s] (by simp [h, h2])
  exact this
theorem rq_there1 {w : World} {g : Nat} {q : Rq} {s : Value} (h : Row w g 43 (rqC q s)) (hx : q.ix.length = 16) : w.there g 1 16 := by
  intro j hj
  refine ⟨?_, Row.frozen h _⟩
  rw [Row.cell h]
  have hs : (rqC q s).size = 23 := by simp [rqC, hx]
  rw [Array.getElem?_eq_getElem (by omega)]
  rfl
/-- what is wanted of cells in a row of a request -/
theorem map_one (l : List UInt8) : ((l.map bval).toArray).all (·.oneCell') = true := all_oneCell_toArray (fun v hv => by obtain ⟨x, _, rfl⟩ := List.mem_map.1 hv; rfl)

set_option maxRecDepth 100000 in
set_option maxHeartbeats 4000000 in
theorem refMayQ_1 (q : Rq) (a : Option Addr) (n c : Nat) (w : World) (hx : q.ix.length = 16) (hn : q.bytes.length = n) (hok : LeaseOk q.who q.till) (hnm : n ≤ maxLen) (hk : q.kind = 1) :
    Calls Try.prog 60 #[.agg (rqC q (.slice a n c))] w fun e w' => e = .returned (.bool (decide (MayQ q))) ∧ w.grownBy w' none := by
  obtain ⟨ir, zr, hir, hirz, hirs, hz⟩ := info_req
  subst hz
  have HX := Lib.hid hx
  have HOK := Lib.hid hok
  have HN := Lib.hid hn
  have HNM := Lib.hid hnm
  clear hx hok hn hnm
  go_enter Try.func60, Try.ntmps60
  go_upto_region 1 with (refine wpList_boxed rfl rfl (rqC q (.slice a n c)) rfl ?_; intro w1 hs g hr; have G1 := Lib.hid g; have R1 := Lib.hid (show Row w1 w.heap.size 43 (rqC q (.slice a n c)) from hr); clear hs g hr)
  obtain ⟨b1, hb1⟩ : ∃ b1, b1 = w.heap.size := ⟨_, rfl⟩
  have HB1 := Lib.hid (show w.heap.size ≤ b1 ∧ b1 < w1.heap.size from ⟨by omega, by rw [hb1]; exact R1.out.lt⟩)
  rw [← hb1] at R1 ⊢
  clear hb1
  go_upto_region 2 with (first
    | (refine wpList_load_row rfl 43 _ rfl b1 rfl 43 (rqC q (.slice a n c)) (0, 0) _ R1.out Try.underlying43 rfl (by rw [size_req]; exact congrArg some (rq_len q _ HX.out).symm) ?_)
    | (refine wpList_fresh rfl rfl rfl rfl rfl hir hirz hirs (rqC q (.slice a n c)) rfl rfl (by rw [rq_len q _ HX.out]; rfl) (rq_one _ _ _ _) ?_; intro w2 hs g hr; have G2 := Lib.hid (grownBy_trans G1.out g); have R2 := Lib.hid (R1.out.grown g); have RB2 := Lib.hid (show Row w2 w1.heap.size 43 (rqC q (.slice a n c)) from hr); clear hs g hr))
  obtain ⟨b3, hb3⟩ : ∃ b3, b3 = w1.heap.size := ⟨_, rfl⟩
  have HB := Lib.hid (show w.heap.size ≤ b1 ∧ b1 < b3 from ⟨HB1.out.1, by rw [hb3]; exact HB1.out.2⟩)
  rw [← hb3] at RB2 ⊢
  clear hb3 R1 G1 HB1
  have k3 := rq_kind RB2.out
  have f3 := Row.frozen RB2.out 0
  go_upto_region 3 with fail
  obtain ⟨w3, h3⟩ : ∃ w3, w3 = w2.setCell ⟨b3, 0, none⟩ (.int .u8 0) := ⟨_, rfl⟩
  rw [← h3]
  have g3 : w2.grownBy w3 (some b3) := h3 ▸ grownBy_setCell _ _ _ _
  have RB3 := Lib.hid (show Row w3 b3 43 (rqC { q with kind := 0 } (.slice a n c)) from by
    have h := Row.setc RB2.out 0 (.int .u8 0)
    rw [h3]
    exact h)
  have R3 := Lib.hid (R2.out.grownNe g3 (by have := HB.out; omega))
  have G3 := Lib.hid (grownBy_old G2.out g3 (by have := HB.out; omega))
  clear h3 g3 k3 f3 R2 G2 RB2
  go_upto_region 4 with (first
    | (refine wpList_valp rfl (run_build_ix0 _ _ rfl) ?_)
    | (refine wpList_store_mid rfl 38 _ _ rfl b3 1 ((List.replicate 16 (0 : UInt8)).map bval).toArray rfl rfl (rq_there1 RB3.out HX.out) (by rw [size_ix]; rfl) (map_one _) ?_))
  obtain ⟨w5, h5⟩ : ∃ w5, w5 = w3.setCells b3 1 ((List.replicate 16 (0 : UInt8)).map bval) := ⟨_, rfl⟩
  rw [← h5]
  have g5 : w3.grownBy w5 (some b3) := h5 ▸ grownBy_setCellsR _ _ _ _
  have RB5 := Lib.hid (show Row w5 b3 43 (rqG (strq q) (.int .i64 q.number) (.int .i64 q.pos) (.int .i64 q.len) (.int .u32 (q.who : Int)) (.int .i64 q.till) (.slice a n c)) from by
    have h := Row.setcs b3 43 ((List.replicate 16 (0 : UInt8)).map bval) 1 w3 _ RB3.out
    rw [rq_ix0 { q with kind := 0 } _ _ HX.out (by simp)] at h
    rw [h5]
    exact h)
  have R5 := Lib.hid (R3.out.grownNe g5 (by have := HB.out; omega))
  have G5 := Lib.hid (grownBy_old G3.out g5 (by have := HB.out; omega))
  clear h5 g5 R3 G3 RB3
  have k0 := rq_kind R5.out
  obtain ⟨K, hK⟩ : ∃ K : Int, K = (q.kind : Int) := ⟨_, rfl⟩
  rw [← hK] at k0
  have kq1 : (K == 1) = true := by rw [beq_iff_eq]; omega
  have kq2 : (K == 2) = false := by rw [beq_eq_false_iff_ne]; omega
  have kq3 : (K == 3) = false := by rw [beq_eq_false_iff_ne]; omega
  have kq4 : (K == 4) = false := by rw [beq_eq_false_iff_ne]; omega
  have kq5 : (K == 5) = false := by rw [beq_eq_false_iff_ne]; omega
  have HKK := Lib.hid hK
  clear hK
  go_upto_region 25 with fail
  have d0 := rqG_cell RB5.out (strq_ix q) 0
  simp at d0
  have d1 := rqG_cell RB5.out (strq_ix q) 1
  simp at d1
  have d2 := rqG_cell RB5.out (strq_ix q) 2
  simp at d2
  have d3 := rqG_cell RB5.out (strq_ix q) 3
  simp at d3
  have d4 := rqG_cell RB5.out (strq_ix q) 4
  simp at d4
  have d5 := rqG_cell RB5.out (strq_ix q) 5
  simp at d5
  by_cases z0 : q.number = 0
  case neg =>
    have HD := Lib.hid (show decide (MayQ q) = false from decide_eq_false (fun h => by unfold MayQ at h; have := HN.out; omega))
    have f0 : (q.number == 0) = false := by rw [beq_eq_false_iff_ne]; exact z0
    have E := Lib.hid z0
    clear z0
    go_wp2_with fail
    go_ret
    exact ⟨ret_bool HD.out.symm, G5.out⟩
  have f0 : (q.number == 0) = true := by rw [beq_iff_eq]; exact z0
  have Ez0 := Lib.hid z0
  clear z0
  by_cases z1 : q.pos = 0
  case neg =>
    have HD := Lib.hid (show decide (MayQ q) = false from decide_eq_false (fun h => by unfold MayQ at h; have := HN.out; omega))
    have f1 : (q.pos == 0) = false := by rw [beq_eq_false_iff_ne]; exact z1
    have E := Lib.hid z1
    clear z1
    go_wp2_with fail
    go_ret
    exact ⟨ret_bool HD.out.symm, G5.out⟩
  have f1 : (q.pos == 0) = true := by rw [beq_iff_eq]; exact z1
  have Ez1 := Lib.hid z1
  clear z1
  by_cases z2 : q.len = 0
  case neg =>
    have HD := Lib.hid (show decide (MayQ q) = false from decide_eq_false (fun h => by unfold MayQ at h; have := HN.out; omega))
    have f2 : (q.len == 0) = false := by rw [beq_eq_false_iff_ne]; exact z2
    have E := Lib.hid z2
    clear z2
    go_wp2_with fail
    go_ret
    exact ⟨ret_bool HD.out.symm, G5.out⟩
  have f2 : (q.len == 0) = true := by rw [beq_iff_eq]; exact z2
  have Ez2 := Lib.hid z2
  clear z2
  by_cases z3 : ((q.who : Int) : Int) = 0 ∧ q.till = 0
  case neg =>
    have HD := Lib.hid (show decide (MayQ q) = false from decide_eq_false (fun h => by unfold MayQ at h; have := HN.out; omega))
    have f3 : decide (((q.who : Int) : Int) = 0 ∧ q.till = 0) = false := decide_eq_false z3
    have E := Lib.hid z3
    clear z3
    go_wp2_with (first
    | (with_reducible show wpList _ _ _ ({ dst := some 102, op := _, type := _, pos := _, after := _, guard := _ } :: _) _ _; refine wpList_load_midU (by kernel_rfl) 41 _ rfl b3 20 rfl _ _ (rqG_mid RB5.out (strq_ix q)) Try.underlying41 rfl (by rw [size_lease]; rfl) ?_)
    | (with_reducible show wpList _ _ _ ({ dst := some 103, op := _, type := _, pos := _, after := _, guard := _ } :: _) _ _; refine wpList_valU (by kernel_rfl) (run_build_lease0 _ _ rfl) ?_)
    | (with_reducible show wpList _ _ _ ({ dst := some 104, op := _, type := _, pos := _, after := _, guard := _ } :: _) _ _; refine wpList_valU (by kernel_rfl) (run_eql_leaseM _ _ (.tmp 102) (.tmp 103) rfl rfl rfl HOK.out (show LeaseOk 0 0 from by unfold LeaseOk; omega)) ?_; rw [f3]))
    go_ret
    exact ⟨ret_bool HD.out.symm, G5.out⟩
  have f3 : decide (((q.who : Int) : Int) = 0 ∧ q.till = 0) = true := decide_eq_true z3
  have Ez3 := Lib.hid z3
  clear z3
  by_cases z5 : n = 0
  case neg =>
    have HD := Lib.hid (show decide (MayQ q) = false from decide_eq_false (fun h => by unfold MayQ at h; have := HN.out; omega))
    have f5 : ((n : Int) == 0) = false := by rw [beq_eq_false_iff_ne]; omega
    have E := Lib.hid z5
    clear z5
    go_wp2_with (first
    | (with_reducible show wpList _ _ _ ({ dst := some 102, op := _, type := _, pos := _, after := _, guard := _ } :: _) _ _; refine wpList_load_midU (by kernel_rfl) 41 _ rfl b3 20 rfl _ _ (rqG_mid RB5.out (strq_ix q)) Try.underlying41 rfl (by rw [size_lease]; rfl) ?_)
    | (with_reducible show wpList _ _ _ ({ dst := some 103, op := _, type := _, pos := _, after := _, guard := _ } :: _) _ _; refine wpList_valU (by kernel_rfl) (run_build_lease0 _ _ rfl) ?_)
    | (with_reducible show wpList _ _ _ ({ dst := some 104, op := _, type := _, pos := _, after := _, guard := _ } :: _) _ _; refine wpList_valU (by kernel_rfl) (run_eql_leaseM _ _ (.tmp 102) (.tmp 103) rfl rfl rfl HOK.out (show LeaseOk 0 0 from by unfold LeaseOk; omega)) ?_; rw [f3]))
    go_ret
    exact ⟨ret_bool HD.out.symm, G5.out⟩
  have f5 : ((n : Int) == 0) = true := by rw [beq_iff_eq]; omega
  have Ez5 := Lib.hid z5
  clear z5
  have HD := Lib.hid (show decide (MayQ q) = true from decide_eq_true (by unfold MayQ; have := HN.out; have := Ez0.out; have := Ez1.out; have := Ez2.out; have := Ez3.out; have := Ez5.out; omega))
  go_wp2_with (first
    | (with_reducible show wpList _ _ _ ({ dst := some 102, op := _, type := _, pos := _, after := _, guard := _ } :: _) _ _; refine wpList_load_midU (by kernel_rfl) 41 _ rfl b3 20 rfl _ _ (rqG_mid RB5.out (strq_ix q)) Try.underlying41 rfl (by rw [size_lease]; rfl) ?_)
    | (with_reducible show wpList _ _ _ ({ dst := some 103, op := _, type := _, pos := _, after := _, guard := _ } :: _) _ _; refine wpList_valU (by kernel_rfl) (run_build_lease0 _ _ rfl) ?_)
    | (with_reducible show wpList _ _ _ ({ dst := some 104, op := _, type := _, pos := _, after := _, guard := _ } :: _) _ _; refine wpList_valU (by kernel_rfl) (run_eql_leaseM _ _ (.tmp 102) (.tmp 103) rfl rfl rfl HOK.out (show LeaseOk 0 0 from by unfold LeaseOk; omega)) ?_; rw [f3]))
  go_ret
  exact ⟨ret_bool HD.out.symm, G5.out⟩
set_option maxRecDepth 100000 in
set_option maxHeartbeats 4000000 in
theorem refMayQ_2 (q : Rq) (a : Option Addr) (n c : Nat) (w : World) (hx : q.ix.length = 16) (hn : q.bytes.length = n) (hok : LeaseOk q.who q.till) (hnm : n ≤ maxLen) (hk : q.kind = 2) :
    Calls Try.prog 60 #[.agg (rqC q (.slice a n c))] w fun e w' => e = .returned (.bool (decide (MayQ q))) ∧ w.grownBy w' none := by
  obtain ⟨ir, zr, hir, hirz, hirs, hz⟩ := info_req
  subst hz
  have HX := Lib.hid hx
  have HOK := Lib.hid hok
  have HN := Lib.hid hn
  have HNM := Lib.hid hnm
  clear hx hok hn hnm
  go_enter Try.func60, Try.ntmps60
  go_upto_region 1 with (refine wpList_boxed rfl rfl (rqC q (.slice a n c)) rfl ?_; intro w1 hs g hr; have G1 := Lib.hid g; have R1 := Lib.hid (show Row w1 w.heap.size 43 (rqC q (.slice a n c)) from hr); clear hs g hr)
  obtain ⟨b1, hb1⟩ : ∃ b1, b1 = w.heap.size := ⟨_, rfl⟩
  have HB1 := Lib.hid (show w.heap.size ≤ b1 ∧ b1 < w1.heap.size from ⟨by omega, by rw [hb1]; exact R1.out.lt⟩)
  rw [← hb1] at R1 ⊢
  clear hb1
  go_upto_region 2 with (first
    | (refine wpList_load_row rfl 43 _ rfl b1 rfl 43 (rqC q (.slice a n c)) (0, 0) _ R1.out Try.underlying43 rfl (by rw [size_req]; exact congrArg some (rq_len q _ HX.out).symm) ?_)
    | (refine wpList_fresh rfl rfl rfl rfl rfl hir hirz hirs (rqC q (.slice a n c)) rfl rfl (by rw [rq_len q _ HX.out]; rfl) (rq_one _ _ _ _) ?_; intro w2 hs g hr; have G2 := Lib.hid (grownBy_trans G1.out g); have R2 := Lib.hid (R1.out.grown g); have RB2 := Lib.hid (show Row w2 w1.heap.size 43 (rqC q (.slice a n c)) from hr); clear hs g hr))
  obtain ⟨b3, hb3⟩ : ∃ b3, b3 = w1.heap.size := ⟨_, rfl⟩
  have HB := Lib.hid (show w.heap.size ≤ b1 ∧ b1 < b3 from ⟨HB1.out.1, by rw [hb3]; exact HB1.out.2⟩)
  rw [← hb3] at RB2 ⊢
  clear hb3 R1 G1 HB1
  have k3 := rq_kind RB2.out
  have f3 := Row.frozen RB2.out 0
  go_upto_region 3 with fail
  obtain ⟨w3, h3⟩ : ∃ w3, w3 = w2.setCell ⟨b3, 0, none⟩ (.int .u8 0) := ⟨_, rfl⟩
  rw [← h3]
  have g3 : w2.grownBy w3 (some b3) := h3 ▸ grownBy_setCell _ _ _ _
  have RB3 := Lib.hid (show Row w3 b3 43 (rqC { q with kind := 0 } (.slice a n c)) from by
    have h := Row.setc RB2.out 0 (.int .u8 0)
    rw [h3]
    exact h)
  have R3 := Lib.hid (R2.out.grownNe g3 (by have := HB.out; omega))
  have G3 := Lib.hid (grownBy_old G2.out g3 (by have := HB.out; omega))
  clear h3 g3 k3 f3 R2 G2 RB2
  go_upto_region 4 with (first
    | (refine wpList_valp rfl (run_build_ix0 _ _ rfl) ?_)
    | (refine wpList_store_mid rfl 38 _ _ rfl b3 1 ((List.replicate 16 (0 : UInt8)).map bval).toArray rfl rfl (rq_there1 RB3.out HX.out) (by rw [size_ix]; rfl) (map_one _) ?_))
  obtain ⟨w5, h5⟩ : ∃ w5, w5 = w3.setCells b3 1 ((List.replicate 16 (0 : UInt8)).map bval) := ⟨_, rfl⟩
  rw [← h5]
  have g5 : w3.grownBy w5 (some b3) := h5 ▸ grownBy_setCellsR _ _ _ _
  have RB5 := Lib.hid (show Row w5 b3 43 (rqG (strq q) (.int .i64 q.number) (.int .i64 q.pos) (.int .i64 q.len) (.int .u32 (q.who : Int)) (.int .i64 q.till) (.slice a n c)) from by
    have h := Row.setcs b3 43 ((List.replicate 16 (0 : UInt8)).map bval) 1 w3 _ RB3.out
    rw [rq_ix0 { q with kind := 0 } _ _ HX.out (by simp)] at h
    rw [h5]
    exact h)
  have R5 := Lib.hid (R3.out.grownNe g5 (by have := HB.out; omega))
  have G5 := Lib.hid (grownBy_old G3.out g5 (by have := HB.out; omega))
  clear h5 g5 R3 G3 RB3
  have k0 := rq_kind R5.out
  obtain ⟨K, hK⟩ : ∃ K : Int, K = (q.kind : Int) := ⟨_, rfl⟩
  rw [← hK] at k0
  have kq1 : (K == 1) = false := by rw [beq_eq_false_iff_ne]; omega
  have kq2 : (K == 2) = true := by rw [beq_iff_eq]; omega
  have kq3 : (K == 3) = false := by rw [beq_eq_false_iff_ne]; omega
  have kq4 : (K == 4) = false := by rw [beq_eq_false_iff_ne]; omega
  have kq5 : (K == 5) = false := by rw [beq_eq_false_iff_ne]; omega
  have HKK := Lib.hid hK
  clear hK
  have x0 := rq_cell R5.out HX.out 0
  simp at x0
  have x1 := rq_cell R5.out HX.out 1
  simp at x1
  have x2 := rq_cell R5.out HX.out 2
  simp at x2
  have x3 := rq_cell R5.out HX.out 3
  simp at x3
  have x4 := rq_cell R5.out HX.out 4
  simp at x4
  have x5 := rq_cell R5.out HX.out 5
  simp at x5
  by_cases n1 : 0 ≤ q.number ∧ q.number < 255
  case neg =>
    have HD := Lib.hid (show decide (MayQ q) = false from decide_eq_false (fun h => by unfold MayQ at h; have := HN.out; omega))
    have eN : (decide (0 ≤ q.number) && decide (q.number < 255)) = false := by rw [Bool.eq_false_iff, ne_eq, Bool.and_eq_true, decide_eq_true_eq, decide_eq_true_eq]; exact n1
    have E := Lib.hid n1
    clear n1
    go_wp2_with (go_at_call 70; refine (refNum_n q.number _).mono ?_; rintro e w' ⟨rfl, rfl⟩; rw [eN])
    go_ret
    exact ⟨ret_bool HD.out.symm, G5.out⟩
  have eN : (decide (0 ≤ q.number) && decide (q.number < 255)) = true := by rw [Bool.and_eq_true, decide_eq_true_eq, decide_eq_true_eq]; exact n1
  have En1 := Lib.hid n1
  clear n1
  by_cases t1 : 0 ≤ q.till
  case neg =>
    have HD := Lib.hid (show decide (MayQ q) = false from decide_eq_false (fun h => by unfold MayQ at h; have := HN.out; omega))
    have eT : decide (q.till < 0) = true := decide_eq_true (by omega)
    have E := Lib.hid t1
    clear t1
    go_wp2_with (go_at_call 70; refine (refNum_n q.number _).mono ?_; rintro e w' ⟨rfl, rfl⟩; rw [eN])
    go_ret
    exact ⟨ret_bool HD.out.symm, G5.out⟩
  have eT : decide (q.till < 0) = false := decide_eq_false (by omega)
  have Et1 := Lib.hid t1
  clear t1
  by_cases t2 : q.till ≤ 1099511627776
  case neg =>
    have HD := Lib.hid (show decide (MayQ q) = false from decide_eq_false (fun h => by unfold MayQ at h; have := HN.out; omega))
    have eT2 : decide (1099511627776 < q.till) = true := decide_eq_true (by omega)
    have E := Lib.hid t2
    clear t2
    go_wp2_with (go_at_call 70; refine (refNum_n q.number _).mono ?_; rintro e w' ⟨rfl, rfl⟩; rw [eN])
    go_ret
    exact ⟨ret_bool HD.out.symm, G5.out⟩
  have eT2 : decide (1099511627776 < q.till) = false := decide_eq_false (by omega)
  have Et2 := Lib.hid t2
  clear t2
  by_cases m1 : n ≤ 33554432
  case neg =>
    have HD := Lib.hid (show decide (MayQ q) = false from decide_eq_false (fun h => by unfold MayQ at h; have := HN.out; omega))
    have eM : decide ((33554432 : Int) < (n : Int)) = true := decide_eq_true (by omega)
    have eM2 : decide (33554432 < n) = true := decide_eq_true (by omega)
    have E := Lib.hid m1
    clear m1
    go_wp2_with (go_at_call 70; refine (refNum_n q.number _).mono ?_; rintro e w' ⟨rfl, rfl⟩; rw [eN])
    go_ret
    exact ⟨ret_bool HD.out.symm, G5.out⟩
  have eM : decide ((33554432 : Int) < (n : Int)) = false := decide_eq_false (by omega)
  have eM2 : decide (33554432 < n) = false := decide_eq_false (by omega)
  have Em1 := Lib.hid m1
  clear m1
  go_upto_region 10 with (go_at_call 70; refine (refNum_n q.number _).mono ?_; rintro e w' ⟨rfl, rfl⟩; rw [eN])
  clear x0 x1 x2 x3 x4 x5
  have x := rqG_cell RB5.out (strq_ix q) 0
  have f := Row.frozen RB5.out 17
  simp at x
  go_upto_region 11 with fail
  obtain ⟨w6, h⟩ : ∃ w6, w6 = w5.setCell ⟨b3, 17, none⟩ (.int .i64 0) := ⟨_, rfl⟩
  rw [← h]
  have g : w5.grownBy w6 (some b3) := h ▸ grownBy_setCell _ _ _ _
  have RB6 := Lib.hid (show Row w6 b3 43 (rqG (strq q) (.int .i64 0) (.int .i64 q.pos) (.int .i64 q.len) (.int .u32 (q.who : Int)) (.int .i64 q.till) (.slice a n c)) from by
    have k := Row.setc RB5.out 17 (.int .i64 0)
    rw [show 17 = 17 + 0 from rfl, rqG_set _ _ _ _ _ _ _ (strq_ix q)] at k
    rw [h]
    exact k)
  have R6 := Lib.hid (R5.out.grownNe g (by have := HB.out; omega))
  have G6 := Lib.hid (grownBy_old G5.out g (by have := HB.out; omega))
  clear h g x f
  go_upto_region 12 with (first
    | (refine wpList_valp rfl (run_build_lease0 _ _ rfl) ?_)
    | (refine wpList_store_mid rfl 41 _ _ rfl b3 20 #[.int .u32 0, .int .i64 0] rfl rfl (rqG_there RB6.out (strq_ix q) 3 2 (by omega)) (by rw [size_lease]; rfl) (by simp [Value.oneCell']) ?_))
  obtain ⟨w7, h⟩ : ∃ w7, w7 = w6.setCells b3 20 [.int .u32 0, .int .i64 0] := ⟨_, rfl⟩
  rw [← h]
  have g : w6.grownBy w7 (some b3) := h ▸ grownBy_setCellsR _ _ _ _
  have RB7 := Lib.hid (show Row w7 b3 43 (rqG (strq q) (.int .i64 0) (.int .i64 q.pos) (.int .i64 q.len) (.int .u32 0) (.int .i64 0) (.slice a n c)) from by
    have k := Row.setcs b3 43 [.int .u32 0, .int .i64 0] 20 w6 _ RB6.out
    unfold laidR laidR laidR at k
    rw [show 20 = 17 + 3 from rfl, rqG_set _ _ _ _ _ _ _ (strq_ix q)] at k
    have k2 : Row _ b3 43 ((rqG (strq q) (.int .i64 0) (.int .i64 q.pos) (.int .i64 q.len) (.int .u32 0) (.int .i64 q.till) (.slice a n c)).setIfInBounds (17 + 4) (.int .i64 0)) := k
    rw [rqG_set _ _ _ _ _ _ _ (strq_ix q)] at k2
    rw [h]
    exact k2)
  have R7 := Lib.hid (R6.out.grownNe g (by have := HB.out; omega))
  have G7 := Lib.hid (grownBy_old G6.out g (by have := HB.out; omega))
  clear h g
  have x := rqG_cell RB7.out (strq_ix q) 5
  have f := Row.frozen RB7.out 22
  simp at x
  go_upto_region 25 with fail
  obtain ⟨w8, h⟩ : ∃ w8, w8 = w7.setCell ⟨b3, 22, none⟩ (.slice none 0 0) := ⟨_, rfl⟩
  rw [← h]
  have g : w7.grownBy w8 (some b3) := h ▸ grownBy_setCell _ _ _ _
  have RB8 := Lib.hid (show Row w8 b3 43 (rqG (strq q) (.int .i64 0) (.int .i64 q.pos) (.int .i64 q.len) (.int .u32 0) (.int .i64 0) (.slice none 0 0)) from by
    have k := Row.setc RB7.out 22 (.slice none 0 0)
    rw [show 22 = 17 + 5 from rfl, rqG_set _ _ _ _ _ _ _ (strq_ix q)] at k
    rw [h]
    exact k)
  have R8 := Lib.hid (R7.out.grownNe g (by have := HB.out; omega))
  have G8 := Lib.hid (grownBy_old G7.out g (by have := HB.out; omega))
  clear h g x f
  have d0 := rqG_cell RB8.out (strq_ix q) 0
  simp at d0
  have d1 := rqG_cell RB8.out (strq_ix q) 1
  simp at d1
  have d2 := rqG_cell RB8.out (strq_ix q) 2
  simp at d2
  have d3 := rqG_cell RB8.out (strq_ix q) 3
  simp at d3
  have d4 := rqG_cell RB8.out (strq_ix q) 4
  simp at d4
  have d5 := rqG_cell RB8.out (strq_ix q) 5
  simp at d5
  have f3 : decide ((0 : Int) = 0 ∧ (0 : Int) = 0) = true := rfl
  by_cases z1 : q.pos = 0
  case neg =>
    have HD := Lib.hid (show decide (MayQ q) = false from decide_eq_false (fun h => by unfold MayQ at h; have := HN.out; omega))
    have f1 : (q.pos == 0) = false := by rw [beq_eq_false_iff_ne]; exact z1
    have E := Lib.hid z1
    clear z1
    go_wp2_with (first
    | (with_reducible show wpList _ _ _ ({ dst := some 102, op := _, type := _, pos := _, after := _, guard := _ } :: _) _ _; refine wpList_load_midU (by kernel_rfl) 41 _ rfl b3 20 rfl _ _ (rqG_mid RB8.out (strq_ix q)) Try.underlying41 rfl (by rw [size_lease]; rfl) ?_)
    | (with_reducible show wpList _ _ _ ({ dst := some 103, op := _, type := _, pos := _, after := _, guard := _ } :: _) _ _; refine wpList_valU (by kernel_rfl) (run_build_lease0 _ _ rfl) ?_)
    | (with_reducible show wpList _ _ _ ({ dst := some 104, op := _, type := _, pos := _, after := _, guard := _ } :: _) _ _; refine wpList_valU (by kernel_rfl) (run_eql_leaseM _ _ (.tmp 102) (.tmp 103) rfl rfl rfl (show LeaseOk 0 0 from by unfold LeaseOk; omega) (show LeaseOk 0 0 from by unfold LeaseOk; omega)) ?_; rw [f3]))
    go_ret
    exact ⟨ret_bool HD.out.symm, G8.out⟩
  have f1 : (q.pos == 0) = true := by rw [beq_iff_eq]; exact z1
  have Ez1 := Lib.hid z1
  clear z1
  by_cases z2 : q.len = 0
  case neg =>
    have HD := Lib.hid (show decide (MayQ q) = false from decide_eq_false (fun h => by unfold MayQ at h; have := HN.out; omega))
    have f2 : (q.len == 0) = false := by rw [beq_eq_false_iff_ne]; exact z2
    have E := Lib.hid z2
    clear z2
    go_wp2_with (first
    | (with_reducible show wpList _ _ _ ({ dst := some 102, op := _, type := _, pos := _, after := _, guard := _ } :: _) _ _; refine wpList_load_midU (by kernel_rfl) 41 _ rfl b3 20 rfl _ _ (rqG_mid RB8.out (strq_ix q)) Try.underlying41 rfl (by rw [size_lease]; rfl) ?_)
    | (with_reducible show wpList _ _ _ ({ dst := some 103, op := _, type := _, pos := _, after := _, guard := _ } :: _) _ _; refine wpList_valU (by kernel_rfl) (run_build_lease0 _ _ rfl) ?_)
    | (with_reducible show wpList _ _ _ ({ dst := some 104, op := _, type := _, pos := _, after := _, guard := _ } :: _) _ _; refine wpList_valU (by kernel_rfl) (run_eql_leaseM _ _ (.tmp 102) (.tmp 103) rfl rfl rfl (show LeaseOk 0 0 from by unfold LeaseOk; omega) (show LeaseOk 0 0 from by unfold LeaseOk; omega)) ?_; rw [f3]))
    go_ret
    exact ⟨ret_bool HD.out.symm, G8.out⟩
  have f2 : (q.len == 0) = true := by rw [beq_iff_eq]; exact z2
  have Ez2 := Lib.hid z2
  clear z2
  have HD := Lib.hid (show decide (MayQ q) = true from decide_eq_true (by unfold MayQ; have := HN.out; have := En1.out; have := Et1.out; have := Et2.out; have := Em1.out; have := Ez1.out; have := Ez2.out; omega))
  go_wp2_with (first
    | (with_reducible show wpList _ _ _ ({ dst := some 102, op := _, type := _, pos := _, after := _, guard := _ } :: _) _ _; refine wpList_load_midU (by kernel_rfl) 41 _ rfl b3 20 rfl _ _ (rqG_mid RB8.out (strq_ix q)) Try.underlying41 rfl (by rw [size_lease]; rfl) ?_)
    | (with_reducible show wpList _ _ _ ({ dst := some 103, op := _, type := _, pos := _, after := _, guard := _ } :: _) _ _; refine wpList_valU (by kernel_rfl) (run_build_lease0 _ _ rfl) ?_)
    | (with_reducible show wpList _ _ _ ({ dst := some 104, op := _, type := _, pos := _, after := _, guard := _ } :: _) _ _; refine wpList_valU (by kernel_rfl) (run_eql_leaseM _ _ (.tmp 102) (.tmp 103) rfl rfl rfl (show LeaseOk 0 0 from by unfold LeaseOk; omega) (show LeaseOk 0 0 from by unfold LeaseOk; omega)) ?_; rw [f3]))
  go_ret
  exact ⟨ret_bool HD.out.symm, G8.out⟩
set_option maxRecDepth 100000 in
set_option maxHeartbeats 4000000 in
theorem refMayQ_3 (q : Rq) (a : Option Addr) (n c : Nat) (w : World) (hx : q.ix.length = 16) (hn : q.bytes.length = n) (hok : LeaseOk q.who q.till) (hnm : n ≤ maxLen) (hk : q.kind = 3) :
    Calls Try.prog 60 #[.agg (rqC q (.slice a n c))] w fun e w' => e = .returned (.bool (decide (MayQ q))) ∧ w.grownBy w' none := by
  obtain ⟨ir, zr, hir, hirz, hirs, hz⟩ := info_req
  subst hz
  have HX := Lib.hid hx
  have HOK := Lib.hid hok
  have HN := Lib.hid hn
  have HNM := Lib.hid hnm
  clear hx hok hn hnm
  go_enter Try.func60, Try.ntmps60
  go_upto_region 1 with (refine wpList_boxed rfl rfl (rqC q (.slice a n c)) rfl ?_; intro w1 hs g hr; have G1 := Lib.hid g; have R1 := Lib.hid (show Row w1 w.heap.size 43 (rqC q (.slice a n c)) from hr); clear hs g hr)
  obtain ⟨b1, hb1⟩ : ∃ b1, b1 = w.heap.size := ⟨_, rfl⟩
  have HB1 := Lib.hid (show w.heap.size ≤ b1 ∧ b1 < w1.heap.size from ⟨by omega, by rw [hb1]; exact R1.out.lt⟩)
  rw [← hb1] at R1 ⊢
  clear hb1
  go_upto_region 2 with (first
    | (refine wpList_load_row rfl 43 _ rfl b1 rfl 43 (rqC q (.slice a n c)) (0, 0) _ R1.out Try.underlying43 rfl (by rw [size_req]; exact congrArg some (rq_len q _ HX.out).symm) ?_)
    | (refine wpList_fresh rfl rfl rfl rfl rfl hir hirz hirs (rqC q (.slice a n c)) rfl rfl (by rw [rq_len q _ HX.out]; rfl) (rq_one _ _ _ _) ?_; intro w2 hs g hr; have G2 := Lib.hid (grownBy_trans G1.out g); have R2 := Lib.hid (R1.out.grown g); have RB2 := Lib.hid (show Row w2 w1.heap.size 43 (rqC q (.slice a n c)) from hr); clear hs g hr))
  obtain ⟨b3, hb3⟩ : ∃ b3, b3 = w1.heap.size := ⟨_, rfl⟩
  have HB := Lib.hid (show w.heap.size ≤ b1 ∧ b1 < b3 from ⟨HB1.out.1, by rw [hb3]; exact HB1.out.2⟩)
  rw [← hb3] at RB2 ⊢
  clear hb3 R1 G1 HB1
  have k3 := rq_kind RB2.out
  have f3 := Row.frozen RB2.out 0
  go_upto_region 3 with fail
  obtain ⟨w3, h3⟩ : ∃ w3, w3 = w2.setCell ⟨b3, 0, none⟩ (.int .u8 0) := ⟨_, rfl⟩
  rw [← h3]
  have g3 : w2.grownBy w3 (some b3) := h3 ▸ grownBy_setCell _ _ _ _
  have RB3 := Lib.hid (show Row w3 b3 43 (rqC { q with kind := 0 } (.slice a n c)) from by
    have h := Row.setc RB2.out 0 (.int .u8 0)
    rw [h3]
    exact h)
  have R3 := Lib.hid (R2.out.grownNe g3 (by have := HB.out; omega))
  have G3 := Lib.hid (grownBy_old G2.out g3 (by have := HB.out; omega))
  clear h3 g3 k3 f3 R2 G2 RB2
  go_upto_region 4 with (first
    | (refine wpList_valp rfl (run_build_ix0 _ _ rfl) ?_)
    | (refine wpList_store_mid rfl 38 _ _ rfl b3 1 ((List.replicate 16 (0 : UInt8)).map bval).toArray rfl rfl (rq_there1 RB3.out HX.out) (by rw [size_ix]; rfl) (map_one _) ?_))
  obtain ⟨w5, h5⟩ : ∃ w5, w5 = w3.setCells b3 1 ((List.replicate 16 (0 : UInt8)).map bval) := ⟨_, rfl⟩
  rw [← h5]
  have g5 : w3.grownBy w5 (some b3) := h5 ▸ grownBy_setCellsR _ _ _ _
  have RB5 := Lib.hid (show Row w5 b3 43 (rqG (strq q) (.int .i64 q.number) (.int .i64 q.pos) (.int .i64 q.len) (.int .u32 (q.who : Int)) (.int .i64 q.till) (.slice a n c)) from by
    have h := Row.setcs b3 43 ((List.replicate 16 (0 : UInt8)).map bval) 1 w3 _ RB3.out
    rw [rq_ix0 { q with kind := 0 } _ _ HX.out (by simp)] at h
    rw [h5]
    exact h)
  have R5 := Lib.hid (R3.out.grownNe g5 (by have := HB.out; omega))
  have G5 := Lib.hid (grownBy_old G3.out g5 (by have := HB.out; omega))
  clear h5 g5 R3 G3 RB3
  have k0 := rq_kind R5.out
  obtain ⟨K, hK⟩ : ∃ K : Int, K = (q.kind : Int) := ⟨_, rfl⟩
  rw [← hK] at k0
  have kq1 : (K == 1) = false := by rw [beq_eq_false_iff_ne]; omega
  have kq2 : (K == 2) = false := by rw [beq_eq_false_iff_ne]; omega
  have kq3 : (K == 3) = true := by rw [beq_iff_eq]; omega
  have kq4 : (K == 4) = false := by rw [beq_eq_false_iff_ne]; omega
  have kq5 : (K == 5) = false := by rw [beq_eq_false_iff_ne]; omega
  have HKK := Lib.hid hK
  clear hK
  have x0 := rq_cell R5.out HX.out 0
  simp at x0
  have x1 := rq_cell R5.out HX.out 1
  simp at x1
  have x2 := rq_cell R5.out HX.out 2
  simp at x2
  have x3 := rq_cell R5.out HX.out 3
  simp at x3
  have x4 := rq_cell R5.out HX.out 4
  simp at x4
  have x5 := rq_cell R5.out HX.out 5
  simp at x5
  by_cases n1 : 0 ≤ q.number ∧ q.number < 255
  case neg =>
    have HD := Lib.hid (show decide (MayQ q) = false from decide_eq_false (fun h => by unfold MayQ at h; have := HN.out; omega))
    have eN : (decide (0 ≤ q.number) && decide (q.number < 255)) = false := by rw [Bool.eq_false_iff, ne_eq, Bool.and_eq_true, decide_eq_true_eq, decide_eq_true_eq]; exact n1
    have E := Lib.hid n1
    clear n1
    go_wp2_with (go_at_call 70; refine (refNum_n q.number _).mono ?_; rintro e w' ⟨rfl, rfl⟩; rw [eN])
    go_ret
    exact ⟨ret_bool HD.out.symm, G5.out⟩
  have eN : (decide (0 ≤ q.number) && decide (q.number < 255)) = true := by rw [Bool.and_eq_true, decide_eq_true_eq, decide_eq_true_eq]; exact n1
  have En1 := Lib.hid n1
  clear n1
  by_cases p1 : 0 ≤ q.pos
  case neg =>
    have HD := Lib.hid (show decide (MayQ q) = false from decide_eq_false (fun h => by unfold MayQ at h; have := HN.out; omega))
    have eP : decide (q.pos < 0) = true := decide_eq_true (by omega)
    have E := Lib.hid p1
    clear p1
    go_wp2_with (go_at_call 70; refine (refNum_n q.number _).mono ?_; rintro e w' ⟨rfl, rfl⟩; rw [eN])
    go_ret
    exact ⟨ret_bool HD.out.symm, G5.out⟩
  have eP : decide (q.pos < 0) = false := decide_eq_false (by omega)
  have Ep1 := Lib.hid p1
  clear p1
  by_cases p2 : q.pos ≤ 33554432
  case neg =>
    have HD := Lib.hid (show decide (MayQ q) = false from decide_eq_false (fun h => by unfold MayQ at h; have := HN.out; omega))
    have eP2 : decide (33554432 < q.pos) = true := decide_eq_true (by omega)
    have E := Lib.hid p2
    clear p2
    go_wp2_with (go_at_call 70; refine (refNum_n q.number _).mono ?_; rintro e w' ⟨rfl, rfl⟩; rw [eN])
    go_ret
    exact ⟨ret_bool HD.out.symm, G5.out⟩
  have eP2 : decide (33554432 < q.pos) = false := decide_eq_false (by omega)
  have Ep2 := Lib.hid p2
  clear p2
  by_cases l1 : 1 ≤ q.len
  case neg =>
    have HD := Lib.hid (show decide (MayQ q) = false from decide_eq_false (fun h => by unfold MayQ at h; have := HN.out; omega))
    have eL : decide (q.len < 1) = true := decide_eq_true (by omega)
    have E := Lib.hid l1
    clear l1
    go_wp2_with (go_at_call 70; refine (refNum_n q.number _).mono ?_; rintro e w' ⟨rfl, rfl⟩; rw [eN])
    go_ret
    exact ⟨ret_bool HD.out.symm, G5.out⟩
  have eL : decide (q.len < 1) = false := decide_eq_false (by omega)
  have El1 := Lib.hid l1
  clear l1
  by_cases l2 : q.len ≤ 131072
  case neg =>
    have HD := Lib.hid (show decide (MayQ q) = false from decide_eq_false (fun h => by unfold MayQ at h; have := HN.out; omega))
    have eL2 : decide (131072 < q.len) = true := decide_eq_true (by omega)
    have E := Lib.hid l2
    clear l2
    go_wp2_with (go_at_call 70; refine (refNum_n q.number _).mono ?_; rintro e w' ⟨rfl, rfl⟩; rw [eN])
    go_ret
    exact ⟨ret_bool HD.out.symm, G5.out⟩
  have eL2 : decide (131072 < q.len) = false := decide_eq_false (by omega)
  have El2 := Lib.hid l2
  clear l2
  go_upto_region 16 with (go_at_call 70; refine (refNum_n q.number _).mono ?_; rintro e w' ⟨rfl, rfl⟩; rw [eN])
  clear x0 x1 x2 x3 x4 x5
  have x := rqG_cell RB5.out (strq_ix q) 0
  have f := Row.frozen RB5.out 17
  simp at x
  go_upto_region 17 with fail
  obtain ⟨w6, h⟩ : ∃ w6, w6 = w5.setCell ⟨b3, 17, none⟩ (.int .i64 0) := ⟨_, rfl⟩
  rw [← h]
  have g : w5.grownBy w6 (some b3) := h ▸ grownBy_setCell _ _ _ _
  have RB6 := Lib.hid (show Row w6 b3 43 (rqG (strq q) (.int .i64 0) (.int .i64 q.pos) (.int .i64 q.len) (.int .u32 (q.who : Int)) (.int .i64 q.till) (.slice a n c)) from by
    have k := Row.setc RB5.out 17 (.int .i64 0)
    rw [show 17 = 17 + 0 from rfl, rqG_set _ _ _ _ _ _ _ (strq_ix q)] at k
    rw [h]
    exact k)
  have R6 := Lib.hid (R5.out.grownNe g (by have := HB.out; omega))
  have G6 := Lib.hid (grownBy_old G5.out g (by have := HB.out; omega))
  clear h g x f
  have x := rqG_cell RB6.out (strq_ix q) 1
  have f := Row.frozen RB6.out 18
  simp at x
  go_upto_region 18 with fail
  obtain ⟨w7, h⟩ : ∃ w7, w7 = w6.setCell ⟨b3, 18, none⟩ (.int .i64 0) := ⟨_, rfl⟩
  rw [← h]
  have g : w6.grownBy w7 (some b3) := h ▸ grownBy_setCell _ _ _ _
  have RB7 := Lib.hid (show Row w7 b3 43 (rqG (strq q) (.int .i64 0) (.int .i64 0) (.int .i64 q.len) (.int .u32 (q.who : Int)) (.int .i64 q.till) (.slice a n c)) from by
    have k := Row.setc RB6.out 18 (.int .i64 0)
    rw [show 18 = 17 + 1 from rfl, rqG_set _ _ _ _ _ _ _ (strq_ix q)] at k
    rw [h]
    exact k)
  have R7 := Lib.hid (R6.out.grownNe g (by have := HB.out; omega))
  have G7 := Lib.hid (grownBy_old G6.out g (by have := HB.out; omega))
  clear h g x f
  have x := rqG_cell RB7.out (strq_ix q) 2
  have f := Row.frozen RB7.out 19
  simp at x
  go_upto_region 25 with fail
  obtain ⟨w8, h⟩ : ∃ w8, w8 = w7.setCell ⟨b3, 19, none⟩ (.int .i64 0) := ⟨_, rfl⟩
  rw [← h]
  have g : w7.grownBy w8 (some b3) := h ▸ grownBy_setCell _ _ _ _
  have RB8 := Lib.hid (show Row w8 b3 43 (rqG (strq q) (.int .i64 0) (.int .i64 0) (.int .i64 0) (.int .u32 (q.who : Int)) (.int .i64 q.till) (.slice a n c)) from by
    have k := Row.setc RB7.out 19 (.int .i64 0)
    rw [show 19 = 17 + 2 from rfl, rqG_set _ _ _ _ _ _ _ (strq_ix q)] at k
    rw [h]
    exact k)
  have R8 := Lib.hid (R7.out.grownNe g (by have := HB.out; omega))
  have G8 := Lib.hid (grownBy_old G7.out g (by have := HB.out; omega))
  clear h g x f
  have d0 := rqG_cell RB8.out (strq_ix q) 0
  simp at d0
  have d1 := rqG_cell RB8.out (strq_ix q) 1
  simp at d1
  have d2 := rqG_cell RB8.out (strq_ix q) 2
  simp at d2
  have d3 := rqG_cell RB8.out (strq_ix q) 3
  simp at d3
  have d4 := rqG_cell RB8.out (strq_ix q) 4
  simp at d4
  have d5 := rqG_cell RB8.out (strq_ix q) 5
  simp at d5
  by_cases z3 : ((q.who : Int) : Int) = 0 ∧ q.till = 0
  case neg =>
    have HD := Lib.hid (show decide (MayQ q) = false from decide_eq_false (fun h => by unfold MayQ at h; have := HN.out; omega))
    have f3 : decide (((q.who : Int) : Int) = 0 ∧ q.till = 0) = false := decide_eq_false z3
    have E := Lib.hid z3
    clear z3
    go_wp2_with (first
    | (with_reducible show wpList _ _ _ ({ dst := some 102, op := _, type := _, pos := _, after := _, guard := _ } :: _) _ _; refine wpList_load_midU (by kernel_rfl) 41 _ rfl b3 20 rfl _ _ (rqG_mid RB8.out (strq_ix q)) Try.underlying41 rfl (by rw [size_lease]; rfl) ?_)
    | (with_reducible show wpList _ _ _ ({ dst := some 103, op := _, type := _, pos := _, after := _, guard := _ } :: _) _ _; refine wpList_valU (by kernel_rfl) (run_build_lease0 _ _ rfl) ?_)
    | (with_reducible show wpList _ _ _ ({ dst := some 104, op := _, type := _, pos := _, after := _, guard := _ } :: _) _ _; refine wpList_valU (by kernel_rfl) (run_eql_leaseM _ _ (.tmp 102) (.tmp 103) rfl rfl rfl HOK.out (show LeaseOk 0 0 from by unfold LeaseOk; omega)) ?_; rw [f3]))
    go_ret
    exact ⟨ret_bool HD.out.symm, G8.out⟩
  have f3 : decide (((q.who : Int) : Int) = 0 ∧ q.till = 0) = true := decide_eq_true z3
  have Ez3 := Lib.hid z3
  clear z3
  by_cases z5 : n = 0
  case neg =>
    have HD := Lib.hid (show decide (MayQ q) = false from decide_eq_false (fun h => by unfold MayQ at h; have := HN.out; omega))
    have f5 : ((n : Int) == 0) = false := by rw [beq_eq_false_iff_ne]; omega
    have E := Lib.hid z5
    clear z5
    go_wp2_with (first
    | (with_reducible show wpList _ _ _ ({ dst := some 102, op := _, type := _, pos := _, after := _, guard := _ } :: _) _ _; refine wpList_load_midU (by kernel_rfl) 41 _ rfl b3 20 rfl _ _ (rqG_mid RB8.out (strq_ix q)) Try.underlying41 rfl (by rw [size_lease]; rfl) ?_)
    | (with_reducible show wpList _ _ _ ({ dst := some 103, op := _, type := _, pos := _, after := _, guard := _ } :: _) _ _; refine wpList_valU (by kernel_rfl) (run_build_lease0 _ _ rfl) ?_)
    | (with_reducible show wpList _ _ _ ({ dst := some 104, op := _, type := _, pos := _, after := _, guard := _ } :: _) _ _; refine wpList_valU (by kernel_rfl) (run_eql_leaseM _ _ (.tmp 102) (.tmp 103) rfl rfl rfl HOK.out (show LeaseOk 0 0 from by unfold LeaseOk; omega)) ?_; rw [f3]))
    go_ret
    exact ⟨ret_bool HD.out.symm, G8.out⟩
  have f5 : ((n : Int) == 0) = true := by rw [beq_iff_eq]; omega
  have Ez5 := Lib.hid z5
  clear z5
  have HD := Lib.hid (show decide (MayQ q) = true from decide_eq_true (by unfold MayQ; have := HN.out; have := En1.out; have := Ep1.out; have := Ep2.out; have := El1.out; have := El2.out; have := Ez3.out; have := Ez5.out; omega))
  go_wp2_with (first
    | (with_reducible show wpList _ _ _ ({ dst := some 102, op := _, type := _, pos := _, after := _, guard := _ } :: _) _ _; refine wpList_load_midU (by kernel_rfl) 41 _ rfl b3 20 rfl _ _ (rqG_mid RB8.out (strq_ix q)) Try.underlying41 rfl (by rw [size_lease]; rfl) ?_)
    | (with_reducible show wpList _ _ _ ({ dst := some 103, op := _, type := _, pos := _, after := _, guard := _ } :: _) _ _; refine wpList_valU (by kernel_rfl) (run_build_lease0 _ _ rfl) ?_)
    | (with_reducible show wpList _ _ _ ({ dst := some 104, op := _, type := _, pos := _, after := _, guard := _ } :: _) _ _; refine wpList_valU (by kernel_rfl) (run_eql_leaseM _ _ (.tmp 102) (.tmp 103) rfl rfl rfl HOK.out (show LeaseOk 0 0 from by unfold LeaseOk; omega)) ?_; rw [f3]))
  go_ret
  exact ⟨ret_bool HD.out.symm, G8.out⟩
set_option maxRecDepth 100000 in
set_option maxHeartbeats 4000000 in
theorem refMayQ_4 (q : Rq) (a : Option Addr) (n c : Nat) (w : World) (hx : q.ix.length = 16) (hn : q.bytes.length = n) (hok : LeaseOk q.who q.till) (hnm : n ≤ maxLen) (hk : q.kind = 4) :
    Calls Try.prog 60 #[.agg (rqC q (.slice a n c))] w fun e w' => e = .returned (.bool (decide (MayQ q))) ∧ w.grownBy w' none := by
  obtain ⟨ir, zr, hir, hirz, hirs, hz⟩ := info_req
  subst hz
  have HX := Lib.hid hx
  have HOK := Lib.hid hok
  have HN := Lib.hid hn
  have HNM := Lib.hid hnm
  clear hx hok hn hnm
  go_enter Try.func60, Try.ntmps60
  go_upto_region 1 with (refine wpList_boxed rfl rfl (rqC q (.slice a n c)) rfl ?_; intro w1 hs g hr; have G1 := Lib.hid g; have R1 := Lib.hid (show Row w1 w.heap.size 43 (rqC q (.slice a n c)) from hr); clear hs g hr)
  obtain ⟨b1, hb1⟩ : ∃ b1, b1 = w.heap.size := ⟨_, rfl⟩
  have HB1 := Lib.hid (show w.heap.size ≤ b1 ∧ b1 < w1.heap.size from ⟨by omega, by rw [hb1]; exact R1.out.lt⟩)
  rw [← hb1] at R1 ⊢
  clear hb1
  go_upto_region 2 with (first
    | (refine wpList_load_row rfl 43 _ rfl b1 rfl 43 (rqC q (.slice a n c)) (0, 0) _ R1.out Try.underlying43 rfl (by rw [size_req]; exact congrArg some (rq_len q _ HX.out).symm) ?_)
    | (refine wpList_fresh rfl rfl rfl rfl rfl hir hirz hirs (rqC q (.slice a n c)) rfl rfl (by rw [rq_len q _ HX.out]; rfl) (rq_one _ _ _ _) ?_; intro w2 hs g hr; have G2 := Lib.hid (grownBy_trans G1.out g); have R2 := Lib.hid (R1.out.grown g); have RB2 := Lib.hid (show Row w2 w1.heap.size 43 (rqC q (.slice a n c)) from hr); clear hs g hr))
  obtain ⟨b3, hb3⟩ : ∃ b3, b3 = w1.heap.size := ⟨_, rfl⟩
  have HB := Lib.hid (show w.heap.size ≤ b1 ∧ b1 < b3 from ⟨HB1.out.1, by rw [hb3]; exact HB1.out.2⟩)
  rw [← hb3] at RB2 ⊢
  clear hb3 R1 G1 HB1
  have k3 := rq_kind RB2.out
  have f3 := Row.frozen RB2.out 0
  go_upto_region 3 with fail
  obtain ⟨w3, h3⟩ : ∃ w3, w3 = w2.setCell ⟨b3, 0, none⟩ (.int .u8 0) := ⟨_, rfl⟩
  rw [← h3]
  have g3 : w2.grownBy w3 (some b3) := h3 ▸ grownBy_setCell _ _ _ _
  have RB3 := Lib.hid (show Row w3 b3 43 (rqC { q with kind := 0 } (.slice a n c)) from by
    have h := Row.setc RB2.out 0 (.int .u8 0)
    rw [h3]
    exact h)
  have R3 := Lib.hid (R2.out.grownNe g3 (by have := HB.out; omega))
  have G3 := Lib.hid (grownBy_old G2.out g3 (by have := HB.out; omega))
  clear h3 g3 k3 f3 R2 G2 RB2
  go_upto_region 4 with (first
    | (refine wpList_valp rfl (run_build_ix0 _ _ rfl) ?_)
    | (refine wpList_store_mid rfl 38 _ _ rfl b3 1 ((List.replicate 16 (0 : UInt8)).map bval).toArray rfl rfl (rq_there1 RB3.out HX.out) (by rw [size_ix]; rfl) (map_one _) ?_))
  obtain ⟨w5, h5⟩ : ∃ w5, w5 = w3.setCells b3 1 ((List.replicate 16 (0 : UInt8)).map bval) := ⟨_, rfl⟩
  rw [← h5]
  have g5 : w3.grownBy w5 (some b3) := h5 ▸ grownBy_setCellsR _ _ _ _
  have RB5 := Lib.hid (show Row w5 b3 43 (rqG (strq q) (.int .i64 q.number) (.int .i64 q.pos) (.int .i64 q.len) (.int .u32 (q.who : Int)) (.int .i64 q.till) (.slice a n c)) from by
    have h := Row.setcs b3 43 ((List.replicate 16 (0 : UInt8)).map bval) 1 w3 _ RB3.out
    rw [rq_ix0 { q with kind := 0 } _ _ HX.out (by simp)] at h
    rw [h5]
    exact h)
  have R5 := Lib.hid (R3.out.grownNe g5 (by have := HB.out; omega))
  have G5 := Lib.hid (grownBy_old G3.out g5 (by have := HB.out; omega))
  clear h5 g5 R3 G3 RB3
  have k0 := rq_kind R5.out
  obtain ⟨K, hK⟩ : ∃ K : Int, K = (q.kind : Int) := ⟨_, rfl⟩
  rw [← hK] at k0
  have kq1 : (K == 1) = false := by rw [beq_eq_false_iff_ne]; omega
  have kq2 : (K == 2) = false := by rw [beq_eq_false_iff_ne]; omega
  have kq3 : (K == 3) = false := by rw [beq_eq_false_iff_ne]; omega
  have kq4 : (K == 4) = true := by rw [beq_iff_eq]; omega
  have kq5 : (K == 5) = false := by rw [beq_eq_false_iff_ne]; omega
  have HKK := Lib.hid hK
  clear hK
  have x0 := rq_cell R5.out HX.out 0
  simp at x0
  have x1 := rq_cell R5.out HX.out 1
  simp at x1
  have x2 := rq_cell R5.out HX.out 2
  simp at x2
  have x3 := rq_cell R5.out HX.out 3
  simp at x3
  have x4 := rq_cell R5.out HX.out 4
  simp at x4
  have x5 := rq_cell R5.out HX.out 5
  simp at x5
  by_cases t1 : 0 ≤ q.till
  case neg =>
    have HD := Lib.hid (show decide (MayQ q) = false from decide_eq_false (fun h => by unfold MayQ at h; have := HN.out; omega))
    have eT : decide (q.till < 0) = true := decide_eq_true (by omega)
    have E := Lib.hid t1
    clear t1
    go_wp2_with fail
    go_ret
    exact ⟨ret_bool HD.out.symm, G5.out⟩
  have eT : decide (q.till < 0) = false := decide_eq_false (by omega)
  have Et1 := Lib.hid t1
  clear t1
  by_cases t2 : q.till ≤ 1099511627776
  case neg =>
    have HD := Lib.hid (show decide (MayQ q) = false from decide_eq_false (fun h => by unfold MayQ at h; have := HN.out; omega))
    have eT2 : decide (1099511627776 < q.till) = true := decide_eq_true (by omega)
    have E := Lib.hid t2
    clear t2
    go_wp2_with fail
    go_ret
    exact ⟨ret_bool HD.out.symm, G5.out⟩
  have eT2 : decide (1099511627776 < q.till) = false := decide_eq_false (by omega)
  have Et2 := Lib.hid t2
  clear t2
  go_upto_region 22 with fail
  clear x0 x1 x2 x3 x4 x5
  go_upto_region 25 with (first
    | (refine wpList_valp rfl (run_build_lease0 _ _ rfl) ?_)
    | (refine wpList_store_mid rfl 41 _ _ rfl b3 20 #[.int .u32 0, .int .i64 0] rfl rfl (rqG_there RB5.out (strq_ix q) 3 2 (by omega)) (by rw [size_lease]; rfl) (by simp [Value.oneCell']) ?_))
  obtain ⟨w6, h⟩ : ∃ w6, w6 = w5.setCells b3 20 [.int .u32 0, .int .i64 0] := ⟨_, rfl⟩
  rw [← h]
  have g : w5.grownBy w6 (some b3) := h ▸ grownBy_setCellsR _ _ _ _
  have RB6 := Lib.hid (show Row w6 b3 43 (rqG (strq q) (.int .i64 q.number) (.int .i64 q.pos) (.int .i64 q.len) (.int .u32 0) (.int .i64 0) (.slice a n c)) from by
    have k := Row.setcs b3 43 [.int .u32 0, .int .i64 0] 20 w5 _ RB5.out
    unfold laidR laidR laidR at k
    rw [show 20 = 17 + 3 from rfl, rqG_set _ _ _ _ _ _ _ (strq_ix q)] at k
    have k2 : Row _ b3 43 ((rqG (strq q) (.int .i64 q.number) (.int .i64 q.pos) (.int .i64 q.len) (.int .u32 0) (.int .i64 q.till) (.slice a n c)).setIfInBounds (17 + 4) (.int .i64 0)) := k
    rw [rqG_set _ _ _ _ _ _ _ (strq_ix q)] at k2
    rw [h]
    exact k2)
  have R6 := Lib.hid (R5.out.grownNe g (by have := HB.out; omega))
  have G6 := Lib.hid (grownBy_old G5.out g (by have := HB.out; omega))
  clear h g
  have d0 := rqG_cell RB6.out (strq_ix q) 0
  simp at d0
  have d1 := rqG_cell RB6.out (strq_ix q) 1
  simp at d1
  have d2 := rqG_cell RB6.out (strq_ix q) 2
  simp at d2
  have d3 := rqG_cell RB6.out (strq_ix q) 3
  simp at d3
  have d4 := rqG_cell RB6.out (strq_ix q) 4
  simp at d4
  have d5 := rqG_cell RB6.out (strq_ix q) 5
  simp at d5
  have f3 : decide ((0 : Int) = 0 ∧ (0 : Int) = 0) = true := rfl
  by_cases z0 : q.number = 0
  case neg =>
    have HD := Lib.hid (show decide (MayQ q) = false from decide_eq_false (fun h => by unfold MayQ at h; have := HN.out; omega))
    have f0 : (q.number == 0) = false := by rw [beq_eq_false_iff_ne]; exact z0
    have E := Lib.hid z0
    clear z0
    go_wp2_with (first
    | (with_reducible show wpList _ _ _ ({ dst := some 102, op := _, type := _, pos := _, after := _, guard := _ } :: _) _ _; refine wpList_load_midU (by kernel_rfl) 41 _ rfl b3 20 rfl _ _ (rqG_mid RB6.out (strq_ix q)) Try.underlying41 rfl (by rw [size_lease]; rfl) ?_)
    | (with_reducible show wpList _ _ _ ({ dst := some 103, op := _, type := _, pos := _, after := _, guard := _ } :: _) _ _; refine wpList_valU (by kernel_rfl) (run_build_lease0 _ _ rfl) ?_)
    | (with_reducible show wpList _ _ _ ({ dst := some 104, op := _, type := _, pos := _, after := _, guard := _ } :: _) _ _; refine wpList_valU (by kernel_rfl) (run_eql_leaseM _ _ (.tmp 102) (.tmp 103) rfl rfl rfl (show LeaseOk 0 0 from by unfold LeaseOk; omega) (show LeaseOk 0 0 from by unfold LeaseOk; omega)) ?_; rw [f3]))
    go_ret
    exact ⟨ret_bool HD.out.symm, G6.out⟩
  have f0 : (q.number == 0) = true := by rw [beq_iff_eq]; exact z0
  have Ez0 := Lib.hid z0
  clear z0
  by_cases z1 : q.pos = 0
  case neg =>
    have HD := Lib.hid (show decide (MayQ q) = false from decide_eq_false (fun h => by unfold MayQ at h; have := HN.out; omega))
    have f1 : (q.pos == 0) = false := by rw [beq_eq_false_iff_ne]; exact z1
    have E := Lib.hid z1
    clear z1
    go_wp2_with (first
    | (with_reducible show wpList _ _ _ ({ dst := some 102, op := _, type := _, pos := _, after := _, guard := _ } :: _) _ _; refine wpList_load_midU (by kernel_rfl) 41 _ rfl b3 20 rfl _ _ (rqG_mid RB6.out (strq_ix q)) Try.underlying41 rfl (by rw [size_lease]; rfl) ?_)
    | (with_reducible show wpList _ _ _ ({ dst := some 103, op := _, type := _, pos := _, after := _, guard := _ } :: _) _ _; refine wpList_valU (by kernel_rfl) (run_build_lease0 _ _ rfl) ?_)
    | (with_reducible show wpList _ _ _ ({ dst := some 104, op := _, type := _, pos := _, after := _, guard := _ } :: _) _ _; refine wpList_valU (by kernel_rfl) (run_eql_leaseM _ _ (.tmp 102) (.tmp 103) rfl rfl rfl (show LeaseOk 0 0 from by unfold LeaseOk; omega) (show LeaseOk 0 0 from by unfold LeaseOk; omega)) ?_; rw [f3]))
    go_ret
    exact ⟨ret_bool HD.out.symm, G6.out⟩
  have f1 : (q.pos == 0) = true := by rw [beq_iff_eq]; exact z1
  have Ez1 := Lib.hid z1
  clear z1
  by_cases z2 : q.len = 0
  case neg =>
    have HD := Lib.hid (show decide (MayQ q) = false from decide_eq_false (fun h => by unfold MayQ at h; have := HN.out; omega))
    have f2 : (q.len == 0) = false := by rw [beq_eq_false_iff_ne]; exact z2
    have E := Lib.hid z2
    clear z2
    go_wp2_with (first
    | (with_reducible show wpList _ _ _ ({ dst := some 102, op := _, type := _, pos := _, after := _, guard := _ } :: _) _ _; refine wpList_load_midU (by kernel_rfl) 41 _ rfl b3 20 rfl _ _ (rqG_mid RB6.out (strq_ix q)) Try.underlying41 rfl (by rw [size_lease]; rfl) ?_)
    | (with_reducible show wpList _ _ _ ({ dst := some 103, op := _, type := _, pos := _, after := _, guard := _ } :: _) _ _; refine wpList_valU (by kernel_rfl) (run_build_lease0 _ _ rfl) ?_)
    | (with_reducible show wpList _ _ _ ({ dst := some 104, op := _, type := _, pos := _, after := _, guard := _ } :: _) _ _; refine wpList_valU (by kernel_rfl) (run_eql_leaseM _ _ (.tmp 102) (.tmp 103) rfl rfl rfl (show LeaseOk 0 0 from by unfold LeaseOk; omega) (show LeaseOk 0 0 from by unfold LeaseOk; omega)) ?_; rw [f3]))
    go_ret
    exact ⟨ret_bool HD.out.symm, G6.out⟩
  have f2 : (q.len == 0) = true := by rw [beq_iff_eq]; exact z2
  have Ez2 := Lib.hid z2
  clear z2
  by_cases z5 : n = 0
  case neg =>
    have HD := Lib.hid (show decide (MayQ q) = false from decide_eq_false (fun h => by unfold MayQ at h; have := HN.out; omega))
    have f5 : ((n : Int) == 0) = false := by rw [beq_eq_false_iff_ne]; omega
    have E := Lib.hid z5
    clear z5
    go_wp2_with (first
    | (with_reducible show wpList _ _ _ ({ dst := some 102, op := _, type := _, pos := _, after := _, guard := _ } :: _) _ _; refine wpList_load_midU (by kernel_rfl) 41 _ rfl b3 20 rfl _ _ (rqG_mid RB6.out (strq_ix q)) Try.underlying41 rfl (by rw [size_lease]; rfl) ?_)
    | (with_reducible show wpList _ _ _ ({ dst := some 103, op := _, type := _, pos := _, after := _, guard := _ } :: _) _ _; refine wpList_valU (by kernel_rfl) (run_build_lease0 _ _ rfl) ?_)
    | (with_reducible show wpList _ _ _ ({ dst := some 104, op := _, type := _, pos := _, after := _, guard := _ } :: _) _ _; refine wpList_valU (by kernel_rfl) (run_eql_leaseM _ _ (.tmp 102) (.tmp 103) rfl rfl rfl (show LeaseOk 0 0 from by unfold LeaseOk; omega) (show LeaseOk 0 0 from by unfold LeaseOk; omega)) ?_; rw [f3]))
    go_ret
    exact ⟨ret_bool HD.out.symm, G6.out⟩
  have f5 : ((n : Int) == 0) = true := by rw [beq_iff_eq]; omega
  have Ez5 := Lib.hid z5
  clear z5
  have HD := Lib.hid (show decide (MayQ q) = true from decide_eq_true (by unfold MayQ; have := HN.out; have := Et1.out; have := Et2.out; have := Ez0.out; have := Ez1.out; have := Ez2.out; have := Ez5.out; omega))
  go_wp2_with (first
    | (with_reducible show wpList _ _ _ ({ dst := some 102, op := _, type := _, pos := _, after := _, guard := _ } :: _) _ _; refine wpList_load_midU (by kernel_rfl) 41 _ rfl b3 20 rfl _ _ (rqG_mid RB6.out (strq_ix q)) Try.underlying41 rfl (by rw [size_lease]; rfl) ?_)
    | (with_reducible show wpList _ _ _ ({ dst := some 103, op := _, type := _, pos := _, after := _, guard := _ } :: _) _ _; refine wpList_valU (by kernel_rfl) (run_build_lease0 _ _ rfl) ?_)
    | (with_reducible show wpList _ _ _ ({ dst := some 104, op := _, type := _, pos := _, after := _, guard := _ } :: _) _ _; refine wpList_valU (by kernel_rfl) (run_eql_leaseM _ _ (.tmp 102) (.tmp 103) rfl rfl rfl (show LeaseOk 0 0 from by unfold LeaseOk; omega) (show LeaseOk 0 0 from by unfold LeaseOk; omega)) ?_; rw [f3]))
  go_ret
  exact ⟨ret_bool HD.out.symm, G6.out⟩
set_option maxRecDepth 100000 in
set_option maxHeartbeats 4000000 in
theorem refMayQ_5 (q : Rq) (a : Option Addr) (n c : Nat) (w : World) (hx : q.ix.length = 16) (hn : q.bytes.length = n) (hok : LeaseOk q.who q.till) (hnm : n ≤ maxLen) (hk : q.kind = 5) :
    Calls Try.prog 60 #[.agg (rqC q (.slice a n c))] w fun e w' => e = .returned (.bool (decide (MayQ q))) ∧ w.grownBy w' none := by
  obtain ⟨ir, zr, hir, hirz, hirs, hz⟩ := info_req
  subst hz
  have HX := Lib.hid hx
  have HOK := Lib.hid hok
  have HN := Lib.hid hn
  have HNM := Lib.hid hnm
  clear hx hok hn hnm
  go_enter Try.func60, Try.ntmps60
  go_upto_region 1 with (refine wpList_boxed rfl rfl (rqC q (.slice a n c)) rfl ?_; intro w1 hs g hr; have G1 := Lib.hid g; have R1 := Lib.hid (show Row w1 w.heap.size 43 (rqC q (.slice a n c)) from hr); clear hs g hr)
  obtain ⟨b1, hb1⟩ : ∃ b1, b1 = w.heap.size := ⟨_, rfl⟩
  have HB1 := Lib.hid (show w.heap.size ≤ b1 ∧ b1 < w1.heap.size from ⟨by omega, by rw [hb1]; exact R1.out.lt⟩)
  rw [← hb1] at R1 ⊢
  clear hb1
  go_upto_region 2 with (first
    | (refine wpList_load_row rfl 43 _ rfl b1 rfl 43 (rqC q (.slice a n c)) (0, 0) _ R1.out Try.underlying43 rfl (by rw [size_req]; exact congrArg some (rq_len q _ HX.out).symm) ?_)
    | (refine wpList_fresh rfl rfl rfl rfl rfl hir hirz hirs (rqC q (.slice a n c)) rfl rfl (by rw [rq_len q _ HX.out]; rfl) (rq_one _ _ _ _) ?_; intro w2 hs g hr; have G2 := Lib.hid (grownBy_trans G1.out g); have R2 := Lib.hid (R1.out.grown g); have RB2 := Lib.hid (show Row w2 w1.heap.size 43 (rqC q (.slice a n c)) from hr); clear hs g hr))
  obtain ⟨b3, hb3⟩ : ∃ b3, b3 = w1.heap.size := ⟨_, rfl⟩
  have HB := Lib.hid (show w.heap.size ≤ b1 ∧ b1 < b3 from ⟨HB1.out.1, by rw [hb3]; exact HB1.out.2⟩)
  rw [← hb3] at RB2 ⊢
  clear hb3 R1 G1 HB1
  have k3 := rq_kind RB2.out
  have f3 := Row.frozen RB2.out 0
  go_upto_region 3 with fail
  obtain ⟨w3, h3⟩ : ∃ w3, w3 = w2.setCell ⟨b3, 0, none⟩ (.int .u8 0) := ⟨_, rfl⟩
  rw [← h3]
  have g3 : w2.grownBy w3 (some b3) := h3 ▸ grownBy_setCell _ _ _ _
  have RB3 := Lib.hid (show Row w3 b3 43 (rqC { q with kind := 0 } (.slice a n c)) from by
    have h := Row.setc RB2.out 0 (.int .u8 0)
    rw [h3]
    exact h)
  have R3 := Lib.hid (R2.out.grownNe g3 (by have := HB.out; omega))
  have G3 := Lib.hid (grownBy_old G2.out g3 (by have := HB.out; omega))
  clear h3 g3 k3 f3 R2 G2 RB2
  go_upto_region 4 with (first
    | (refine wpList_valp rfl (run_build_ix0 _ _ rfl) ?_)
    | (refine wpList_store_mid rfl 38 _ _ rfl b3 1 ((List.replicate 16 (0 : UInt8)).map bval).toArray rfl rfl (rq_there1 RB3.out HX.out) (by rw [size_ix]; rfl) (map_one _) ?_))
  obtain ⟨w5, h5⟩ : ∃ w5, w5 = w3.setCells b3 1 ((List.replicate 16 (0 : UInt8)).map bval) := ⟨_, rfl⟩
  rw [← h5]
  have g5 : w3.grownBy w5 (some b3) := h5 ▸ grownBy_setCellsR _ _ _ _
  have RB5 := Lib.hid (show Row w5 b3 43 (rqG (strq q) (.int .i64 q.number) (.int .i64 q.pos) (.int .i64 q.len) (.int .u32 (q.who : Int)) (.int .i64 q.till) (.slice a n c)) from by
    have h := Row.setcs b3 43 ((List.replicate 16 (0 : UInt8)).map bval) 1 w3 _ RB3.out
    rw [rq_ix0 { q with kind := 0 } _ _ HX.out (by simp)] at h
    rw [h5]
    exact h)
  have R5 := Lib.hid (R3.out.grownNe g5 (by have := HB.out; omega))
  have G5 := Lib.hid (grownBy_old G3.out g5 (by have := HB.out; omega))
  clear h5 g5 R3 G3 RB3
  have k0 := rq_kind R5.out
  obtain ⟨K, hK⟩ : ∃ K : Int, K = (q.kind : Int) := ⟨_, rfl⟩
  rw [← hK] at k0
  have kq1 : (K == 1) = false := by rw [beq_eq_false_iff_ne]; omega
  have kq2 : (K == 2) = false := by rw [beq_eq_false_iff_ne]; omega
  have kq3 : (K == 3) = false := by rw [beq_eq_false_iff_ne]; omega
  have kq4 : (K == 4) = false := by rw [beq_eq_false_iff_ne]; omega
  have kq5 : (K == 5) = true := by rw [beq_iff_eq]; omega
  have HKK := Lib.hid hK
  clear hK
  go_upto_region 24 with fail
  have x := rqG_cell RB5.out (strq_ix q) 3
  have f := Row.frozen RB5.out 20
  simp at x
  go_upto_region 25 with fail
  obtain ⟨w6, h⟩ : ∃ w6, w6 = w5.setCell ⟨b3, 20, none⟩ (.int .u32 0) := ⟨_, rfl⟩
  rw [← h]
  have g : w5.grownBy w6 (some b3) := h ▸ grownBy_setCell _ _ _ _
  have RB6 := Lib.hid (show Row w6 b3 43 (rqG (strq q) (.int .i64 q.number) (.int .i64 q.pos) (.int .i64 q.len) (.int .u32 0) (.int .i64 q.till) (.slice a n c)) from by
    have k := Row.setc RB5.out 20 (.int .u32 0)
    rw [show 20 = 17 + 3 from rfl, rqG_set _ _ _ _ _ _ _ (strq_ix q)] at k
    rw [h]
    exact k)
  have R6 := Lib.hid (R5.out.grownNe g (by have := HB.out; omega))
  have G6 := Lib.hid (grownBy_old G5.out g (by have := HB.out; omega))
  clear h g x f
  have d0 := rqG_cell RB6.out (strq_ix q) 0
  simp at d0
  have d1 := rqG_cell RB6.out (strq_ix q) 1
  simp at d1
  have d2 := rqG_cell RB6.out (strq_ix q) 2
  simp at d2
  have d3 := rqG_cell RB6.out (strq_ix q) 3
  simp at d3
  have d4 := rqG_cell RB6.out (strq_ix q) 4
  simp at d4
  have d5 := rqG_cell RB6.out (strq_ix q) 5
  simp at d5
  by_cases z0 : q.number = 0
  case neg =>
    have HD := Lib.hid (show decide (MayQ q) = false from decide_eq_false (fun h => by unfold MayQ at h; have := HN.out; omega))
    have f0 : (q.number == 0) = false := by rw [beq_eq_false_iff_ne]; exact z0
    have E := Lib.hid z0
    clear z0
    go_wp2_with fail
    go_ret
    exact ⟨ret_bool HD.out.symm, G6.out⟩
  have f0 : (q.number == 0) = true := by rw [beq_iff_eq]; exact z0
  have Ez0 := Lib.hid z0
  clear z0
  by_cases z1 : q.pos = 0
  case neg =>
    have HD := Lib.hid (show decide (MayQ q) = false from decide_eq_false (fun h => by unfold MayQ at h; have := HN.out; omega))
    have f1 : (q.pos == 0) = false := by rw [beq_eq_false_iff_ne]; exact z1
    have E := Lib.hid z1
    clear z1
    go_wp2_with fail
    go_ret
    exact ⟨ret_bool HD.out.symm, G6.out⟩
  have f1 : (q.pos == 0) = true := by rw [beq_iff_eq]; exact z1
  have Ez1 := Lib.hid z1
  clear z1
  by_cases z2 : q.len = 0
  case neg =>
    have HD := Lib.hid (show decide (MayQ q) = false from decide_eq_false (fun h => by unfold MayQ at h; have := HN.out; omega))
    have f2 : (q.len == 0) = false := by rw [beq_eq_false_iff_ne]; exact z2
    have E := Lib.hid z2
    clear z2
    go_wp2_with fail
    go_ret
    exact ⟨ret_bool HD.out.symm, G6.out⟩
  have f2 : (q.len == 0) = true := by rw [beq_iff_eq]; exact z2
  have Ez2 := Lib.hid z2
  clear z2
  by_cases z3 : ((0 : Int) : Int) = 0 ∧ q.till = 0
  case neg =>
    have HD := Lib.hid (show decide (MayQ q) = false from decide_eq_false (fun h => by unfold MayQ at h; have := HN.out; omega))
    have f3 : decide (((0 : Int) : Int) = 0 ∧ q.till = 0) = false := decide_eq_false z3
    have E := Lib.hid z3
    clear z3
    go_wp2_with (first
    | (with_reducible show wpList _ _ _ ({ dst := some 102, op := _, type := _, pos := _, after := _, guard := _ } :: _) _ _; refine wpList_load_midU (by kernel_rfl) 41 _ rfl b3 20 rfl _ _ (rqG_mid RB6.out (strq_ix q)) Try.underlying41 rfl (by rw [size_lease]; rfl) ?_)
    | (with_reducible show wpList _ _ _ ({ dst := some 103, op := _, type := _, pos := _, after := _, guard := _ } :: _) _ _; refine wpList_valU (by kernel_rfl) (run_build_lease0 _ _ rfl) ?_)
    | (with_reducible show wpList _ _ _ ({ dst := some 104, op := _, type := _, pos := _, after := _, guard := _ } :: _) _ _; refine wpList_valU (by kernel_rfl) (run_eql_leaseM _ _ (.tmp 102) (.tmp 103) rfl rfl rfl (show LeaseOk 0 q.till from by have := HOK.out; unfold LeaseOk at this ⊢; omega) (show LeaseOk 0 0 from by unfold LeaseOk; omega)) ?_; rw [f3]))
    go_ret
    exact ⟨ret_bool HD.out.symm, G6.out⟩
  have f3 : decide (((0 : Int) : Int) = 0 ∧ q.till = 0) = true := decide_eq_true z3
  have Ez3 := Lib.hid z3
  clear z3
  by_cases z5 : n = 0
  case neg =>
    have HD := Lib.hid (show decide (MayQ q) = false from decide_eq_false (fun h => by unfold MayQ at h; have := HN.out; omega))
    have f5 : ((n : Int) == 0) = false := by rw [beq_eq_false_iff_ne]; omega
    have E := Lib.hid z5
    clear z5
    go_wp2_with (first
    | (with_reducible show wpList _ _ _ ({ dst := some 102, op := _, type := _, pos := _, after := _, guard := _ } :: _) _ _; refine wpList_load_midU (by kernel_rfl) 41 _ rfl b3 20 rfl _ _ (rqG_mid RB6.out (strq_ix q)) Try.underlying41 rfl (by rw [size_lease]; rfl) ?_)
    | (with_reducible show wpList _ _ _ ({ dst := some 103, op := _, type := _, pos := _, after := _, guard := _ } :: _) _ _; refine wpList_valU (by kernel_rfl) (run_build_lease0 _ _ rfl) ?_)
    | (with_reducible show wpList _ _ _ ({ dst := some 104, op := _, type := _, pos := _, after := _, guard := _ } :: _) _ _; refine wpList_valU (by kernel_rfl) (run_eql_leaseM _ _ (.tmp 102) (.tmp 103) rfl rfl rfl (show LeaseOk 0 q.till from by have := HOK.out; unfold LeaseOk at this ⊢; omega) (show LeaseOk 0 0 from by unfold LeaseOk; omega)) ?_; rw [f3]))
    go_ret
    exact ⟨ret_bool HD.out.symm, G6.out⟩
  have f5 : ((n : Int) == 0) = true := by rw [beq_iff_eq]; omega
  have Ez5 := Lib.hid z5
  clear z5
  have HD := Lib.hid (show decide (MayQ q) = true from decide_eq_true (by unfold MayQ; have := HN.out; have := Ez0.out; have := Ez1.out; have := Ez2.out; have := Ez3.out; have := Ez5.out; omega))
  go_wp2_with (first
    | (with_reducible show wpList _ _ _ ({ dst := some 102, op := _, type := _, pos := _, after := _, guard := _ } :: _) _ _; refine wpList_load_midU (by kernel_rfl) 41 _ rfl b3 20 rfl _ _ (rqG_mid RB6.out (strq_ix q)) Try.underlying41 rfl (by rw [size_lease]; rfl) ?_)
    | (with_reducible show wpList _ _ _ ({ dst := some 103, op := _, type := _, pos := _, after := _, guard := _ } :: _) _ _; refine wpList_valU (by kernel_rfl) (run_build_lease0 _ _ rfl) ?_)
    | (with_reducible show wpList _ _ _ ({ dst := some 104, op := _, type := _, pos := _, after := _, guard := _ } :: _) _ _; refine wpList_valU (by kernel_rfl) (run_eql_leaseM _ _ (.tmp 102) (.tmp 103) rfl rfl rfl (show LeaseOk 0 q.till from by have := HOK.out; unfold LeaseOk at this ⊢; omega) (show LeaseOk 0 0 from by unfold LeaseOk; omega)) ?_; rw [f3]))
  go_ret
  exact ⟨ret_bool HD.out.symm, G6.out⟩
set_option maxRecDepth 100000 in
set_option maxHeartbeats 4000000 in
theorem refMayQ_0 (q : Rq) (a : Option Addr) (n c : Nat) (w : World) (hx : q.ix.length = 16) (hn : q.bytes.length = n) (hok : LeaseOk q.who q.till) (hnm : n ≤ maxLen) (h1 : q.kind ≠ 1) (h2 : q.kind ≠ 2) (h3 : q.kind ≠ 3) (h4 : q.kind ≠ 4) (h5 : q.kind ≠ 5) :
    Calls Try.prog 60 #[.agg (rqC q (.slice a n c))] w fun e w' => e = .returned (.bool (decide (MayQ q))) ∧ w.grownBy w' none := by
  obtain ⟨ir, zr, hir, hirz, hirs, hz⟩ := info_req
  subst hz
  have HX := Lib.hid hx
  have HOK := Lib.hid hok
  have HN := Lib.hid hn
  have HNM := Lib.hid hnm
  clear hx hok hn hnm
  go_enter Try.func60, Try.ntmps60
  go_upto_region 1 with (refine wpList_boxed rfl rfl (rqC q (.slice a n c)) rfl ?_; intro w1 hs g hr; have G1 := Lib.hid g; have R1 := Lib.hid (show Row w1 w.heap.size 43 (rqC q (.slice a n c)) from hr); clear hs g hr)
  obtain ⟨b1, hb1⟩ : ∃ b1, b1 = w.heap.size := ⟨_, rfl⟩
  have HB1 := Lib.hid (show w.heap.size ≤ b1 ∧ b1 < w1.heap.size from ⟨by omega, by rw [hb1]; exact R1.out.lt⟩)
  rw [← hb1] at R1 ⊢
  clear hb1
  go_upto_region 2 with (first
    | (refine wpList_load_row rfl 43 _ rfl b1 rfl 43 (rqC q (.slice a n c)) (0, 0) _ R1.out Try.underlying43 rfl (by rw [size_req]; exact congrArg some (rq_len q _ HX.out).symm) ?_)
    | (refine wpList_fresh rfl rfl rfl rfl rfl hir hirz hirs (rqC q (.slice a n c)) rfl rfl (by rw [rq_len q _ HX.out]; rfl) (rq_one _ _ _ _) ?_; intro w2 hs g hr; have G2 := Lib.hid (grownBy_trans G1.out g); have R2 := Lib.hid (R1.out.grown g); have RB2 := Lib.hid (show Row w2 w1.heap.size 43 (rqC q (.slice a n c)) from hr); clear hs g hr))
  obtain ⟨b3, hb3⟩ : ∃ b3, b3 = w1.heap.size := ⟨_, rfl⟩
  have HB := Lib.hid (show w.heap.size ≤ b1 ∧ b1 < b3 from ⟨HB1.out.1, by rw [hb3]; exact HB1.out.2⟩)
  rw [← hb3] at RB2 ⊢
  clear hb3 R1 G1 HB1
  have k3 := rq_kind RB2.out
  have f3 := Row.frozen RB2.out 0
  go_upto_region 3 with fail
  obtain ⟨w3, h3⟩ : ∃ w3, w3 = w2.setCell ⟨b3, 0, none⟩ (.int .u8 0) := ⟨_, rfl⟩
  rw [← h3]
  have g3 : w2.grownBy w3 (some b3) := h3 ▸ grownBy_setCell _ _ _ _
  have RB3 := Lib.hid (show Row w3 b3 43 (rqC { q with kind := 0 } (.slice a n c)) from by
    have h := Row.setc RB2.out 0 (.int .u8 0)
    rw [h3]
    exact h)
  have R3 := Lib.hid (R2.out.grownNe g3 (by have := HB.out; omega))
  have G3 := Lib.hid (grownBy_old G2.out g3 (by have := HB.out; omega))
  clear h3 g3 k3 f3 R2 G2 RB2
  go_upto_region 4 with (first
    | (refine wpList_valp rfl (run_build_ix0 _ _ rfl) ?_)
    | (refine wpList_store_mid rfl 38 _ _ rfl b3 1 ((List.replicate 16 (0 : UInt8)).map bval).toArray rfl rfl (rq_there1 RB3.out HX.out) (by rw [size_ix]; rfl) (map_one _) ?_))
  obtain ⟨w5, h5⟩ : ∃ w5, w5 = w3.setCells b3 1 ((List.replicate 16 (0 : UInt8)).map bval) := ⟨_, rfl⟩
  rw [← h5]
  have g5 : w3.grownBy w5 (some b3) := h5 ▸ grownBy_setCellsR _ _ _ _
  have RB5 := Lib.hid (show Row w5 b3 43 (rqG (strq q) (.int .i64 q.number) (.int .i64 q.pos) (.int .i64 q.len) (.int .u32 (q.who : Int)) (.int .i64 q.till) (.slice a n c)) from by
    have h := Row.setcs b3 43 ((List.replicate 16 (0 : UInt8)).map bval) 1 w3 _ RB3.out
    rw [rq_ix0 { q with kind := 0 } _ _ HX.out (by simp)] at h
    rw [h5]
    exact h)
  have R5 := Lib.hid (R3.out.grownNe g5 (by have := HB.out; omega))
  have G5 := Lib.hid (grownBy_old G3.out g5 (by have := HB.out; omega))
  clear h5 g5 R3 G3 RB3
  have k0 := rq_kind R5.out
  obtain ⟨K, hK⟩ : ∃ K : Int, K = (q.kind : Int) := ⟨_, rfl⟩
  rw [← hK] at k0
  have kq1 : (K == 1) = false := by rw [beq_eq_false_iff_ne]; omega
  have kq2 : (K == 2) = false := by rw [beq_eq_false_iff_ne]; omega
  have kq3 : (K == 3) = false := by rw [beq_eq_false_iff_ne]; omega
  have kq4 : (K == 4) = false := by rw [beq_eq_false_iff_ne]; omega
  have kq5 : (K == 5) = false := by rw [beq_eq_false_iff_ne]; omega
  have HD := Lib.hid (show decide (MayQ q) = false from decide_eq_false (fun h => by unfold MayQ at h; omega))
  clear hK h1 h2 h3 h4 h5
  go_wp2_with fail
  go_ret
  exact ⟨ret_bool HD.out.symm, G5.out⟩
theorem refMayQ_n (q : Rq) (a : Option Addr) (n c : Nat) (w : World) (hx : q.ix.length = 16) (hn : q.bytes.length = n) (hok : LeaseOk q.who q.till) (hnm : n ≤ maxLen) :
    Calls Try.prog 60 #[.agg (rqC q (.slice a n c))] w fun e w' => e = .returned (.bool (decide (MayQ q))) ∧ w.grownBy w' none := by
  by_cases h1 : q.kind = 1
  · exact refMayQ_1 q a n c w hx hn hok hnm h1
  by_cases h2 : q.kind = 2
  · exact refMayQ_2 q a n c w hx hn hok hnm h2
  by_cases h3 : q.kind = 3
  · exact refMayQ_3 q a n c w hx hn hok hnm h3
  by_cases h4 : q.kind = 4
  · exact refMayQ_4 q a n c w hx hn hok hnm h4
  by_cases h5 : q.kind = 5
  · exact refMayQ_5 q a n c w hx hn hok hnm h5
  exact refMayQ_0 q a n c w hx hn hok hnm h1 h2 h3 h4 h5
end Go.Proofs.Ytkdmebcfedehiaa
/- The document's Request of all bytes (strongroomref20): its head. Printed by gens/wireref_x.py. -/
namespace Go.Proofs.Ytkdmebcfedehiaa
open Go.RowKit

/-- the cells of no request -/
def zRq : Array Value := #[.int .u8 0, .int .u8 0, .int .u8 0, .int .u8 0, .int .u8 0, .int .u8 0, .int .u8 0, .int .u8 0, .int .u8 0, .int .u8 0, .int .u8 0, .int .u8 0, .int .u8 0, .int .u8 0, .int .u8 0, .int .u8 0, .int .u8 0, .int .i64 0, .int .i64 0, .int .i64 0, .int .u32 0, .int .i64 0, .slice none 0 0]
set_option maxRecDepth 100000 in
set_option maxHeartbeats 4000000 in
theorem run_build_req1 (w : World) (ev : Operand → Value) {o : Oper} (x : Operand) (hop : o.op = .build 43 #[(0, x)]) (k : Nat) (hx : ev x = .int .u8 (k : Int)) :
    (execOp ev o).run Try.prog w = .ok (.value (.agg (rqC ⟨k, List.replicate 16 0, 0, 0, 0, 0, 0, []⟩ (.slice none 0 0)))) w := by
  obtain ⟨ir, zr, hir, hirz, hirs, hz⟩ := info_req
  subst hz
  unfold execOp
  simp only [hop]
  simp [Instr.build, run_underlying Try.underlying43, typeInfo, zeroValue, hir, hirz, hx, rqC, bval, List.replicate]
  simp [Instr.fill, Value.cells]
theorem run_build_lease2 (w : World) (ev : Operand → Value) {o : Oper} (x y : Operand) (hop : o.op = .build 41 #[(0, x), (1, y)]) (u v : Int) (hx : ev x = .int .u32 u) (hy : ev y = .int .i64 v) :
    (execOp ev o).run Try.prog w = .ok (.value (.agg #[.int .u32 u, .int .i64 v])) w := by
  obtain ⟨i, hi, hz⟩ := info_lease
  unfold execOp
  simp only [hop]
  simp [Instr.build, run_underlying Try.underlying41, typeInfo, zeroValue, hi, hz, hx, hy]
  simp [Instr.fill, Value.cells]
/-- the first bytes of the index -/
def ixJ (l : List UInt8) (j : Nat) : List UInt8 := (seg l 1 16).take j ++ List.replicate (16 - j) 0
theorem ixJ_len {l : List UInt8} (h : 17 ≤ l.length) {j : Nat} (hj : j ≤ 16) : (ixJ l j).length = 16 := by
  unfold ixJ
  have := seg_len (b := l) (p := 1) (n := 16) (by omega)
  simp [this]
  omega
theorem ixJ_set {l : List UInt8} (h : 17 ≤ l.length) {j : Nat} (hj : j < 16) : (ixJ l j).set j (l.getD (1 + j) 0) = ixJ l (j + 1) := by
  have hs := seg_len (b := l) (p := 1) (n := 16) (by omega)
  have hjs : j < (seg l 1 16).length := by omega
  have e1 : (seg l 1 16)[j] = l.getD (1 + j) 0 := by
    rw [List.getD_eq_getElem?_getD, List.getElem?_eq_getElem (by omega)]
    simp [seg, Nat.add_comm]
  unfold ixJ
  rw [List.take_succ_eq_append_getElem hjs, e1, List.set_append_right _ _ (by simp [hs]; omega), List.append_assoc]
  congr 1
  have e2 : (List.take j (seg l 1 16)).length = j := by simp [hs]; omega
  rw [e2, Nat.sub_self]
  obtain ⟨m, hm⟩ : ∃ m, 16 - j = m + 1 := ⟨15 - j, by omega⟩
  rw [hm, show 16 - (j + 1) = m by omega, List.replicate_succ]
  rfl
theorem ixJ_all {l : List UInt8} (h : 17 ≤ l.length) : ixJ l 16 = seg l 1 16 := by
  have hs := seg_len (b := l) (p := 1) (n := 16) (by omega)
  unfold ixJ
  rw [List.take_of_length_le (by omega)]
  simp
theorem rq_ixset (q : Rq) (s : Value) (h : q.ix.length = 16) (j : Nat) (hj : j < 16) (x : UInt8) : (rqC q s).setIfInBounds (1 + j) (.int .u8 (x.toNat : Int)) = rqC { q with ix := q.ix.set j x } s := by
  unfold rqC
  rw [List.setIfInBounds_toArray, Nat.add_comm 1 j, List.set_cons_succ, List.set_append_left _ _ (by simp [h, hj]), List.map_set]
  rfl
theorem rq_ixcell {w : World} {g : Nat} {q : Rq} {s : Value} (h : Row w g 43 (rqC q s)) (hx : q.ix.length = 16) (j : Nat) (hj : j < 16) : ∃ v, w.cell? ⟨g, 1 + j, none⟩ = some v := by
  have hr := rq_ixr h j
  rw [List.getElem?_eq_getElem (by simp [hx, hj])] at hr
  exact ⟨_, hr _ rfl⟩
set_option maxRecDepth 100000 in
set_option maxHeartbeats 8000000 in
theorem refReq_empty (a : Option Addr) (n c : Nat) (l : List UInt8) (w : World) (hl : BLies w a l) (hn : l.length = n) (hc : n ≤ c) (hnm : n ≤ 140737488355000) (h0 : n = 0) :
    Calls Try.prog 37 #[.slice a n c] w fun e w' => ReqP w (decQ l) e w' := by
  subst h0
  have hd : decQ l = .error 0 := by unfold decQ; rw [if_pos (.inl (List.eq_nil_of_length_eq_zero hn))]
  rw [hd]
  clear hl hn hnm hd hc
  obtain ⟨ir, zr, hir, hirz, hirs, hz⟩ := info_req
  subst hz
  go_enter Try.func37, Try.ntmps37
  go_upto_region 1 with (refine wpList_made rfl rfl hir hirz ?_; intro w1 hs1 hg1 hr1; have HG1 := Lib.hid hg1; have HT1 := Lib.hid (show Row w1 w.heap.size 43 zRq from hr1); clear hs1 hg1 hr1)
  go_upto_region 2 with (refine wpList_made rfl rfl hir hirz ?_; intro w2 hs1 hg1 hr1; have HG2 := Lib.hid (grownBy_trans HG1.out hg1); have HT2 := Lib.hid (HT1.out.grown hg1); have HN2 := Lib.hid (show Row w2 w1.heap.size 43 zRq from hr1); clear hs1 hg1 hr1)
  obtain ⟨bn, hbn⟩ : ∃ bn, bn = w1.heap.size := ⟨_, rfl⟩
  have HBN := Lib.hid (show w.heap.size < bn ∧ bn < w2.heap.size from ⟨by rw [hbn]; exact HT1.out.lt, by rw [hbn]; exact HN2.out.lt⟩)
  rw [← hbn] at HN2 ⊢
  clear hbn HG1 HT1
  go_wp2_with (first | (refine wpList_load_row rfl 43 _ rfl bn rfl 43 zRq (0, 0) _ HN2.out Try.underlying43 rfl (by rw [size_req]; rfl) ?_) | (refine wpList_putrow rfl rfl w.heap.size rfl zRq rfl HT2.out (by rw [size_req]; rfl) rfl zreq_one ?_; intro W5 hg5 hr5; have HGz := Lib.hid hg5; have HRz := Lib.hid hr5; clear hg5 hr5))
  refine bodyPost_ret (results_ctt rfl _ _ w.heap.size 43 zRq (0, 0) _ _ _ rfl rfl rfl HRz.out Try.underlying43 rfl (by rw [size_req]; rfl)) rfl ?_
  exact reqP_err (0) _ (rfl) (grownBy_old HG2.out HGz.out (Nat.le_refl _))
set_option maxRecDepth 100000 in
set_option maxHeartbeats 8000000 in
theorem refReq_kind (a : Option Addr) (n c : Nat) (l : List UInt8) (w : World) (hl : BLies w a l) (hn : l.length = n) (hc : n ≤ c) (hnm : n ≤ 140737488355000) (b off : Nat) (ha : a = some ⟨b, off, none⟩) (h1 : 1 ≤ n) (k : Nat) (hK : (k : Int) = ((l.getD 0 0).toNat : Int)) (hk : headQ k = 0) :
    Calls Try.prog 37 #[.slice a n c] w fun e w' => ReqP w (decQ l) e w' := by
  have hd : decQ l = .error 0 := by unfold decQ; rw [if_pos (.inr (by rw [← show k = (l.getD 0 0).toNat by omega]; exact hk))]
  rw [hd]
  have hce : ∀ W, w.grownBy W none → ∀ k, k < n → W.cell? ⟨b, off + k, none⟩ = some (.int .u8 ((l.getD k 0).toNat : Int)) := fun W hW k hk => by
    obtain ⟨b', off', e, h⟩ := bytes_cells (hl.grown hW) (by omega)
    rw [ha] at e
    injection e with e
    injection e with e1 e2
    subst e1; subst e2
    exact h k (by omega)
  have HC := Lib.hid hce
  have h00 : ((n : Int) == 0) = false := by rw [beq_eq_false_iff_ne]; omega
  have hK0 : ∀ W, w.grownBy W none → W.cell? ⟨b, off, none⟩ = some (.int .u8 (k : Int)) := fun W hW => by rw [hK]; exact hce W hW 0 (by omega)
  have HK0 := Lib.hid hK0
  subst ha
  clear hce hK0
  have HHD := Lib.hid (fun W => (refHead_n k W).mono (R' := fun e w' => e = .returned (.int .i64 0) ∧ W = w') (fun e w' h => by rw [hk] at h; exact h))
  clear hl hn hnm hd hK hc
  obtain ⟨ir, zr, hir, hirz, hirs, hz⟩ := info_req
  subst hz
  go_enter Try.func37, Try.ntmps37
  go_upto_region 1 with (refine wpList_made rfl rfl hir hirz ?_; intro w1 hs1 hg1 hr1; have HG1 := Lib.hid hg1; have HT1 := Lib.hid (show Row w1 w.heap.size 43 zRq from hr1); clear hs1 hg1 hr1)
  go_upto_region 2 with (refine wpList_made rfl rfl hir hirz ?_; intro w2 hs1 hg1 hr1; have HG2 := Lib.hid (grownBy_trans HG1.out hg1); have HT2 := Lib.hid (HT1.out.grown hg1); have HN2 := Lib.hid (show Row w2 w1.heap.size 43 zRq from hr1); clear hs1 hg1 hr1)
  obtain ⟨bn, hbn⟩ : ∃ bn, bn = w1.heap.size := ⟨_, rfl⟩
  have HBN := Lib.hid (show w.heap.size < bn ∧ bn < w2.heap.size from ⟨by rw [hbn]; exact HT1.out.lt, by rw [hbn]; exact HN2.out.lt⟩)
  rw [← hbn] at HN2 ⊢
  clear hbn HG1 HT1
  have k0 := HK0.out w2 HG2.out
  go_wp2_with (first | (go_at_call 62; refine (HHD.out _).mono ?_; rintro e w' ⟨rfl, rfl⟩) | (refine wpList_load_row rfl 43 _ rfl bn rfl 43 zRq (0, 0) _ HN2.out Try.underlying43 rfl (by rw [size_req]; rfl) ?_) | (refine wpList_putrow rfl rfl w.heap.size rfl zRq rfl HT2.out (by rw [size_req]; rfl) rfl zreq_one ?_; intro W5 hg5 hr5; have HGz := Lib.hid hg5; have HRz := Lib.hid hr5; clear hg5 hr5))
  refine bodyPost_ret (results_ctt rfl _ _ w.heap.size 43 zRq (0, 0) _ _ _ rfl rfl rfl HRz.out Try.underlying43 rfl (by rw [size_req]; rfl)) rfl ?_
  exact reqP_err (0) _ (rfl) (grownBy_old HG2.out HGz.out (Nat.le_refl _))
end Go.Proofs.Ytkdmebcfedehiaa
/- Requests that came in. Printed by gens/reqrd.py. -/
namespace Go.Proofs.Ytkdmebcfedehiaa
open Go.ChangeShapes Go.WideShapes Go.ChangeAt Go.RowKit

theorem u32_of_wf {n : Int} (h : (Lit.int .u32 n).wf = true) : ∃ m : Nat, n = (m : Int) ∧ m < 4294967296 := by
  have h' : 0 ≤ n ∧ n ≤ 4294967295 := by simpa [Lit.wf, IntKind.min, IntKind.max, IntKind.signed, IntKind.bits] using h
  exact ⟨n.toNat, by omega, by omega⟩
section
variable {H : Type} {enc : TypeId × Value → H} {P : Program} {w : World} {base : Nat} {spare : Nat → Bool} {held : Bool}
theorem allb_listQ {cs : List Value} (h : ∀ v ∈ cs, ∃ b : UInt8, v = bval b) : ∃ l : List UInt8, cs = l.map bval := by
  induction cs with
  | nil => exact ⟨[], rfl⟩
  | cons v cs ih =>
    obtain ⟨b, rfl⟩ := h v (by simp)
    obtain ⟨l, rfl⟩ := ih (fun u hu => h u (by simp [hu]))
    exact ⟨b :: l, rfl⟩
theorem allb_oneQ {n : Nat} {t e : TypeId} {fuel : Nat} {cs : List Value} {x : DataW H × List MemPlace} (ht : P.underlying t = some (.array n e)) (he : P.underlying e = some (.int .u8)) (hce : P.cellsOf e = 1) (hC : P.cellsOf t = n)
    (h : DataW.trod enc P w base spare held fuel t cs = some x) : ∀ v ∈ cs, ∃ b : UInt8, v = bval b := by
  intro v hv
  obtain ⟨xs, m, _, _, hl, hxl, hi⟩ := DataW.trod_array ht h
  obtain ⟨i, hil, rfl⟩ := List.getElem_of_mem hv
  have h1 := hi i (by omega)
  rw [hce, Nat.mul_one, List.drop_eq_getElem_cons hil, List.getElem?_eq_getElem (by omega)] at h1
  have h2 : DataW.trod enc P w base spare held m e [cs[i]] = some (xs[i]'(by omega)) := h1
  obtain ⟨a, ea, _, wa⟩ := DataW.trod_int he h2
  obtain ⟨b, rfl⟩ := byte_of_wf wa
  injection ea with ea
  exact ⟨b, ea⟩
set_option maxRecDepth 100000 in
theorem lease_trod {fuel : Nat} {x y : Value} {z : DataW H × List MemPlace} (h : DataW.trod enc Try.prog w base spare held fuel 41 [x, y] = some z) : ∃ (m : Nat) (t : Int), x = .int .u32 (m : Int) ∧ y = .int .i64 t ∧ LeaseOk m t := by
  obtain ⟨xs, m, _, hx, _, hxl, hi⟩ := DataW.trod_struct Try.underlying41 h
  have h0 := hi 0 _ rfl
  have h1 := hi 1 _ rfl
  have hxl2 : xs.length = 2 := hxl
  match xs, hxl2 with
  | [y0, y1], _ =>
    have t0 : DataW.trod enc Try.prog w base spare held m 39 [x] = some (y0.1, y0.2) := h0
    have t1 : DataW.trod enc Try.prog w base spare held m 3 [y] = some (y1.1, y1.2) := h1
    obtain ⟨a, ea, _, wa⟩ := DataW.trod_int Try.underlying39 t0
    obtain ⟨b, eb, _, wb⟩ := DataW.trod_int Try.underlying3 t1
    injection ea with ea
    injection eb with eb
    obtain ⟨k, rfl, hk⟩ := u32_of_wf wa
    have hb := i64_of_wf wb
    exact ⟨k, b, ea, eb, by unfold LeaseOk; omega⟩
set_option maxRecDepth 100000 in
/-- a request's cells -/
theorem rd_req {fuel : Nat} {cs : List Value} {d : DataW H} {p : List MemPlace} (hl : cs.length = 23) (hf : DataW.trod enc Try.prog w base spare held fuel 43 cs = some (d, p)) :
    ∃ (q : Rq) (a : Option Addr) (n c : Nat), cs = (rqC q (.slice a n c)).toList ∧ q.kind < 256 ∧ q.ix.length = 16 ∧ BLies w a q.bytes ∧ q.bytes.length = n ∧ n ≤ c ∧ c ≤ maxLen ∧ LeaseOk q.who q.till ∧ n + 1 ≤ Rows.uptoBulk d := by
  obtain ⟨xs, m, _, hx, _, hxl, hi⟩ := DataW.trod_struct Try.underlying43 hf
  have h0 := hi 0 _ rfl
  have h1 := hi 1 _ rfl
  have h2 := hi 2 _ rfl
  have h3 := hi 3 _ rfl
  have h4 := hi 4 _ rfl
  have h5 := hi 5 _ rfl
  have h6 := hi 6 _ rfl
  have hxl7 : xs.length = 7 := hxl
  match cs, hl with
  | [v0, v1, v2, v3, v4, v5, v6, v7, v8, v9, v10, v11, v12, v13, v14, v15, v16, v17, v18, v19, v20, v21, v22], _ =>
    match xs, hxl7 with
    | [y0, y1, y2, y3, y4, y5, y6], _ =>
      have t0 : DataW.trod enc Try.prog w base spare held m 36 [v0] = some (y0.1, y0.2) := h0
      have t1 : DataW.trod enc Try.prog w base spare held m 38 [v1, v2, v3, v4, v5, v6, v7, v8, v9, v10, v11, v12, v13, v14, v15, v16] = some (y1.1, y1.2) := h1
      have t2 : DataW.trod enc Try.prog w base spare held m 3 [v17] = some (y2.1, y2.2) := h2
      have t3 : DataW.trod enc Try.prog w base spare held m 3 [v18] = some (y3.1, y3.2) := h3
      have t4 : DataW.trod enc Try.prog w base spare held m 3 [v19] = some (y4.1, y4.2) := h4
      have t5 : DataW.trod enc Try.prog w base spare held m 41 [v20, v21] = some (y5.1, y5.2) := h5
      have t6 : DataW.trod enc Try.prog w base spare held m 24 [v22] = some (y6.1, y6.2) := h6
      have b6 : Rows.uptoBulk y6.1 ≤ Rows.uptoBulk d := by
        injection hx with hx _
        rw [hx]
        simp only [Rows.uptoBulk]
        have := bulk_mem (l := [y0, y1, y2, y3, y4, y5, y6].map (·.1)) (d := y6.1) (by simp)
        omega
      obtain ⟨n0, e0, _, w0⟩ := DataW.trod_int Try.underlying36 t0
      injection e0 with e0 _
      obtain ⟨k, rfl⟩ := byte_of_wf w0
      obtain ⟨ix, hix⟩ := allb_listQ (allb_oneQ Try.underlying38 Try.underlying5 (by kernel_rfl) (by kernel_rfl) t1)
      obtain ⟨n2, e2, _, w2⟩ := DataW.trod_int Try.underlying3 t2
      obtain ⟨n3, e3, _, w3⟩ := DataW.trod_int Try.underlying3 t3
      obtain ⟨n4, e4, _, w4⟩ := DataW.trod_int Try.underlying3 t4
      injection e2 with e2 _
      injection e3 with e3 _
      injection e4 with e4 _
      obtain ⟨who, til, e5, e5', hok⟩ := lease_trod t5
      have hs : ∃ a ln c, v22 = .slice a ln c := by
        rcases open_ints Try.underlying24 Try.underlying5 (by kernel_rfl) t6 with ⟨hcs, _⟩ | ⟨x, len', cap', zs, hcs, _⟩
        · injection hcs with hcs; exact ⟨_, _, _, hcs⟩
        · injection hcs with hcs; exact ⟨_, _, _, hcs⟩
      obtain ⟨a, n, c, rfl⟩ := hs
      obtain ⟨bs, r1, r2, r3, r4, r5⟩ := rd_bytes t6
      have hixl := congrArg List.length hix
      rw [List.length_map] at hixl
      refine ⟨⟨k.toNat, ix, n2, n3, n4, who, til, bs⟩, a, n, c, ?_, k.toNat_lt, hixl.symm, r2, r1, r4, r5, hok, by omega⟩
      unfold rqC
      simp only []
      rw [← hix, e0, e2, e3, e4, e5, e5']
      rfl
end
end Go.Proofs.Ytkdmebcfedehiaa
/- strongroomkit.SameRequest: of requests that are alike. Printed by gens/samereq.py. -/
namespace Go.Proofs.Ytkdmebcfedehiaa
open Go.RowKit

theorem ix_guard : Try.prog.eqGuardType Try.prog.depth 38 = false := by kernel_rfl
theorem run_eql_ix (w : World) (ev : Operand → Value) {o : Oper} {ty : TypeId} (x y : Operand) (ho : o.op = .binOp .eql 38 x y ty) (l : List UInt8) (hl : l.length = 16) (hx : ev x = .agg (l.map bval).toArray) (hy : ev y = .agg (l.map bval).toArray) :
    (execOp ev o).run Try.prog w = .ok (.value (.bool true)) w := by
  have hf : (Value.agg (l.map bval).toArray).formed Try.prog 38 = true := by
    simp [Value.formed, Try.underlying38]
    rw [hl]
    kernel_rfl
  have hk : Try.prog.keyLits 2 38 (l.map bval) = some (l.map litB) :=
    lits_arr (n := 16) (k := 1) (D := 1) (e := 5) Try.underlying38 (by kernel_rfl) (by kernel_rfl) l (by rw [hl]) (fun m hm => lits_byte (D := 0) Try.underlying5 m hm)
  have e := (eql_lits (P := Try.prog) (t := 38) (m := 5) (D := 2) (by decide) (by kernel_rfl) hf hf hk hk w).1
  unfold execOp
  simp only [ho, hx, hy]
  simp [run_eqGuard_agg w .eql 38 x y _ _ ix_guard, e]
theorem run_eql_lease (w : World) (ev : Operand → Value) {o : Oper} {ty : TypeId} (x y : Operand) (ho : o.op = .binOp .eql 41 x y ty) {a b : Int} (hx : ev x = .agg #[.int .u32 a, .int .i64 b]) (hy : ev y = .agg #[.int .u32 a, .int .i64 b]) (h : LeaseOk a b) :
    (execOp ev o).run Try.prog w = .ok (.value (.bool true)) w := by
  have e := (lease_eq h h w).1
  unfold leaseV at e
  unfold execOp
  simp only [ho, hx, hy]
  simp [run_eqGuard_agg w .eql 41 x y _ _ lease_guard, e]
set_option maxRecDepth 100000 in
set_option maxHeartbeats 1000000 in
theorem sameReq_yes (q : Rq) (a a' : Option Addr) (n n' c c' : Nat) (w : World) (hx : q.ix.length = 16) (h3 : BLies w a q.bytes) (h4 : BLies w a' q.bytes) (e3 : q.bytes.length = n) (e4 : q.bytes.length = n') (hn : n ≤ maxLen) (hok : LeaseOk q.who q.till) :
    Calls Try.prog 16 #[.agg (rqC q (.slice a n c)), .agg (rqC q (.slice a' n' c'))] w fun e w' => e = .returned (.bool true) ∧ w.grownBy w' none := by
  have HB := Lib.hid (fun W (hW : w.grownBy W none) => same_yes_g a a' c c' n n' q.bytes W (h3.grown hW) (h4.grown hW) e3 e4 hn)
  have HX := Lib.hid hx
  have HOK := Lib.hid hok
  clear h3 h4 e3 e4 hn hx hok
  go_enter Try.func16, Try.ntmps16
  go_upto_region 1 with (first
    | (refine wpList_boxed rfl rfl (rqC q (.slice a n c)) rfl ?_; intro w1 hs g hr; have G1 := Lib.hid g; have R1 := Lib.hid (show Row w1 w.heap.size 43 (rqC q (.slice a n c)) from hr); clear hs g hr)
    | (refine wpList_boxed rfl rfl (rqC q (.slice a' n' c')) rfl ?_; intro w2 hs g hr; have G2 := Lib.hid (grownBy_trans G1.out g); have R2 := Lib.hid (R1.out.grown g); have R3 := Lib.hid (show Row w2 w1.heap.size 43 (rqC q (.slice a' n' c')) from hr); clear hs g hr))
  obtain ⟨b1, hb1⟩ : ∃ b1, b1 = w.heap.size := ⟨_, rfl⟩
  obtain ⟨b2, hb2⟩ : ∃ b2, b2 = w1.heap.size := ⟨_, rfl⟩
  rw [← hb1] at R2 ⊢
  rw [← hb2] at R3 ⊢
  clear hb1 hb2 R1
  have k0 := rq_kind R2.out
  have k1 := rq_kind R3.out
  have x0 := rq_cell R2.out HX.out 0
  have d0 := rq_cell R3.out HX.out 0
  simp at x0 d0
  have x1 := rq_cell R2.out HX.out 1
  have d1 := rq_cell R3.out HX.out 1
  simp at x1 d1
  have x2 := rq_cell R2.out HX.out 2
  have d2 := rq_cell R3.out HX.out 2
  simp at x2 d2
  have x3 := rq_cell R2.out HX.out 3
  have d3 := rq_cell R3.out HX.out 3
  simp at x3 d3
  have x4 := rq_cell R2.out HX.out 4
  have d4 := rq_cell R3.out HX.out 4
  simp at x4 d4
  have x5 := rq_cell R2.out HX.out 5
  have d5 := rq_cell R3.out HX.out 5
  simp at x5 d5
  have q0 : ((q.kind : Int) == (q.kind : Int)) = true := by rw [beq_iff_eq]
  have q1 : (q.number == q.number) = true := by rw [beq_iff_eq]
  have q2 : (q.pos == q.pos) = true := by rw [beq_iff_eq]
  have q3 : (q.len == q.len) = true := by rw [beq_iff_eq]
  have hszi : (Try.prog.info? 38).map (·.size) = some (q.ix.map bval).length := by rw [size_ix, List.length_map, HX.out]
  have HSZ := Lib.hid hszi
  clear hszi
  go_wp2_with (first
    | (with_reducible show wpList _ _ _ ({ dst := some 12, op := _, type := _, pos := _, after := _, guard := _ } :: _) _ _; refine wpList_load_midU (by kernel_rfl) 38 _ rfl b1 1 rfl _ _ (rq_ixr R2.out) Try.underlying38 rfl HSZ.out ?_)
    | (with_reducible show wpList _ _ _ ({ dst := some 14, op := _, type := _, pos := _, after := _, guard := _ } :: _) _ _; refine wpList_load_midU (by kernel_rfl) 38 _ rfl b2 1 rfl _ _ (rq_ixr R3.out) Try.underlying38 rfl HSZ.out ?_)
    | (with_reducible show wpList _ _ _ ({ dst := some 15, op := _, type := _, pos := _, after := _, guard := _ } :: _) _ _; refine wpList_valU (by kernel_rfl) (run_eql_ix _ _ (.tmp 12) (.tmp 14) rfl q.ix HX.out rfl rfl) ?_)
    | (with_reducible show wpList _ _ _ ({ dst := some 40, op := _, type := _, pos := _, after := _, guard := _ } :: _) _ _; refine wpList_load_midU (by kernel_rfl) 41 _ rfl b1 20 rfl _ _ (rq_mid R2.out HX.out) Try.underlying41 rfl (by rw [size_lease]; rfl) ?_)
    | (with_reducible show wpList _ _ _ ({ dst := some 42, op := _, type := _, pos := _, after := _, guard := _ } :: _) _ _; refine wpList_load_midU (by kernel_rfl) 41 _ rfl b2 20 rfl _ _ (rq_mid R3.out HX.out) Try.underlying41 rfl (by rw [size_lease]; rfl) ?_)
    | (with_reducible show wpList _ _ _ ({ dst := some 43, op := _, type := _, pos := _, after := _, guard := _ } :: _) _ _; refine wpList_valU (by kernel_rfl) (run_eql_lease _ _ (.tmp 40) (.tmp 42) rfl rfl rfl HOK.out) ?_))
  refine (HB.out w2 G2.out).mono ?_
  rintro e w3 ⟨rfl, g⟩
  have G3 := Lib.hid (grownBy_trans G2.out g)
  clear g
  go_wp2_with fail
  go_ret
  exact ⟨rfl, G3.out⟩
end Go.Proofs.Ytkdmebcfedehiaa
