/- Helpers and contracts of the proofs over this seat: SameReq, WireAsksL. Each states what a function of the program answers, or is plain Lean; its conditions stand in each statement. -/
import Derived.Test.YtkdmebcfedehiaaPtAA
import Derived.Test.YtkdmebcfedehiaaPtAB
import Derived.Test.YtkdmebcfedehiaaPtAC
import Derived.Test.YtkdmebcfedehiaaPtAD
import Derived.Test.YtkdmebcfedehiaaPtAE
import Derived.Test.YtkdmebcfedehiaaPtAF
import Derived.Test.YtkdmebcfedehiaaPtAG
import Derived.Test.YtkdmebcfedehiaaPtAH
set_option linter.unusedVariables false
/- strongroomkit.SameRequest: of requests that are alike. Printed by gens/samereq.py. -/
namespace Go.Proofs.Ytkdmebcfedehiaa
open Go.RowKit

theorem ix_guard : Try.prog.eqGuardType Try.prog.depth 38 = false := by kernel_rfl
theorem run_eql_ix (w : World) (ev : Operand → Value) {o : Oper} {ty : TypeId} (x y : Operand) (ho : o.op = .binOp .eql 38 x y ty) (l : List UInt8) (hl : l.length = 16) (hx : ev x = .agg (l.map bval).toArray) (hy : ev y = .agg (l.map bval).toArray) :
    (execOp ev o).run Try.prog w = .ok (.value (.bool true)) w := by
  have hf : (Value.agg (l.map bval).toArray).formed Try.prog 38 = true := by
    simp [Value.formed, Try.underlying38]
    rw [hl]
    kernel_rfl
  have hk : Try.prog.keyLits 2 38 (l.map bval) = some (l.map litB) :=
    lits_arr (n := 16) (k := 1) (D := 1) (e := 5) Try.underlying38 (by kernel_rfl) (by kernel_rfl) l (by rw [hl]) (fun m hm => lits_byte (D := 0) Try.underlying5 m hm)
  have e := (eql_lits (P := Try.prog) (t := 38) (m := 5) (D := 2) (by decide) (by kernel_rfl) hf hf hk hk w).1
  unfold execOp
  simp only [ho, hx, hy]
  simp [run_eqGuard_agg w .eql 38 x y _ _ ix_guard, e]
theorem run_eql_lease (w : World) (ev : Operand → Value) {o : Oper} {ty : TypeId} (x y : Operand) (ho : o.op = .binOp .eql 41 x y ty) {a b : Int} (hx : ev x = .agg #[.int .u32 a, .int .i64 b]) (hy : ev y = .agg #[.int .u32 a, .int .i64 b]) (h : LeaseOk a b) :
    (execOp ev o).run Try.prog w = .ok (.value (.bool true)) w := by
  have e := (lease_eq h h w).1
  unfold leaseV at e
  unfold execOp
  simp only [ho, hx, hy]
  simp [run_eqGuard_agg w .eql 41 x y _ _ lease_guard, e]
set_option maxRecDepth 100000 in
set_option maxHeartbeats 1000000 in
theorem sameReq_yes (q : Rq) (a a' : Option Addr) (n n' c c' : Nat) (w : World) (hx : q.ix.length = 16) (h3 : BLies w a q.bytes) (h4 : BLies w a' q.bytes) (e3 : q.bytes.length = n) (e4 : q.bytes.length = n') (hn : n ≤ maxLen) (hok : LeaseOk q.who q.till) :
    Calls Try.prog 16 #[.agg (rqC q (.slice a n c)), .agg (rqC q (.slice a' n' c'))] w fun e w' => e = .returned (.bool true) ∧ w.grownBy w' none := by
  have HB := Lib.hid (fun W (hW : w.grownBy W none) => same_yes_g a a' c c' n n' q.bytes W (h3.grown hW) (h4.grown hW) e3 e4 hn)
  have HX := Lib.hid hx
  have HOK := Lib.hid hok
  clear h3 h4 e3 e4 hn hx hok
  go_enter Try.func16, Try.ntmps16
  go_upto_region 1 with (first
    | (refine wpList_boxed rfl rfl (rqC q (.slice a n c)) rfl ?_; intro w1 hs g hr; have G1 := Lib.hid g; have R1 := Lib.hid (show Row w1 w.heap.size 43 (rqC q (.slice a n c)) from hr); clear hs g hr)
    | (refine wpList_boxed rfl rfl (rqC q (.slice a' n' c')) rfl ?_; intro w2 hs g hr; have G2 := Lib.hid (grownBy_trans G1.out g); have R2 := Lib.hid (R1.out.grown g); have R3 := Lib.hid (show Row w2 w1.heap.size 43 (rqC q (.slice a' n' c')) from hr); clear hs g hr))
  obtain ⟨b1, hb1⟩ : ∃ b1, b1 = w.heap.size := ⟨_, rfl⟩
  obtain ⟨b2, hb2⟩ : ∃ b2, b2 = w1.heap.size := ⟨_, rfl⟩
  rw [← hb1] at R2 ⊢
  rw [← hb2] at R3 ⊢
  clear hb1 hb2 R1
  have k0 := rq_kind R2.out
  have k1 := rq_kind R3.out
  have x0 := rq_cell R2.out HX.out 0
  have d0 := rq_cell R3.out HX.out 0
  simp at x0 d0
  have x1 := rq_cell R2.out HX.out 1
  have d1 := rq_cell R3.out HX.out 1
  simp at x1 d1
  have x2 := rq_cell R2.out HX.out 2
  have d2 := rq_cell R3.out HX.out 2
  simp at x2 d2
  have x3 := rq_cell R2.out HX.out 3
  have d3 := rq_cell R3.out HX.out 3
  simp at x3 d3
  have x4 := rq_cell R2.out HX.out 4
  have d4 := rq_cell R3.out HX.out 4
  simp at x4 d4
  have x5 := rq_cell R2.out HX.out 5
  have d5 := rq_cell R3.out HX.out 5
  simp at x5 d5
  have q0 : ((q.kind : Int) == (q.kind : Int)) = true := by rw [beq_iff_eq]
  have q1 : (q.number == q.number) = true := by rw [beq_iff_eq]
  have q2 : (q.pos == q.pos) = true := by rw [beq_iff_eq]
  have q3 : (q.len == q.len) = true := by rw [beq_iff_eq]
  have hszi : (Try.prog.info? 38).map (·.size) = some (q.ix.map bval).length := by rw [size_ix, List.length_map, HX.out]
  have HSZ := Lib.hid hszi
  clear hszi
  go_wp2_with (first
    | (with_reducible show wpList _ _ _ ({ dst := some 12, op := _, type := _, pos := _, after := _, guard := _ } :: _) _ _; refine wpList_load_midU (by kernel_rfl) 38 _ rfl b1 1 rfl _ _ (rq_ixr R2.out) Try.underlying38 rfl HSZ.out ?_)
    | (with_reducible show wpList _ _ _ ({ dst := some 14, op := _, type := _, pos := _, after := _, guard := _ } :: _) _ _; refine wpList_load_midU (by kernel_rfl) 38 _ rfl b2 1 rfl _ _ (rq_ixr R3.out) Try.underlying38 rfl HSZ.out ?_)
    | (with_reducible show wpList _ _ _ ({ dst := some 15, op := _, type := _, pos := _, after := _, guard := _ } :: _) _ _; refine wpList_valU (by kernel_rfl) (run_eql_ix _ _ (.tmp 12) (.tmp 14) rfl q.ix HX.out rfl rfl) ?_)
    | (with_reducible show wpList _ _ _ ({ dst := some 40, op := _, type := _, pos := _, after := _, guard := _ } :: _) _ _; refine wpList_load_midU (by kernel_rfl) 41 _ rfl b1 20 rfl _ _ (rq_mid R2.out HX.out) Try.underlying41 rfl (by rw [size_lease]; rfl) ?_)
    | (with_reducible show wpList _ _ _ ({ dst := some 42, op := _, type := _, pos := _, after := _, guard := _ } :: _) _ _; refine wpList_load_midU (by kernel_rfl) 41 _ rfl b2 20 rfl _ _ (rq_mid R3.out HX.out) Try.underlying41 rfl (by rw [size_lease]; rfl) ?_)
    | (with_reducible show wpList _ _ _ ({ dst := some 43, op := _, type := _, pos := _, after := _, guard := _ } :: _) _ _; refine wpList_valU (by kernel_rfl) (run_eql_lease _ _ (.tmp 40) (.tmp 42) rfl rfl rfl HOK.out) ?_))
  refine (HB.out w2 G2.out).mono ?_
  rintro e w3 ⟨rfl, g⟩
  have G3 := Lib.hid (grownBy_trans G2.out g)
  clear g
  go_wp2_with fail
  go_ret
  exact ⟨rfl, G3.out⟩
end Go.Proofs.Ytkdmebcfedehiaa
/- The law WireAsks. Printed by gens/wireasks.py. -/
namespace Go.Proofs.Ytkdmebcfedehiaa
open Go.RowKit

theorem encQ_len {q : Rq} (hx : q.ix.length = 16) (h : MayQ q) : (encQ q).length ≤ 33554500 := by
  obtain ⟨k, ix, nb, ps, ln, who, till, bs⟩ := q
  unfold MayQ at h
  unfold encQ
  simp only at h hx ⊢
  repeat' split
  all_goals (simp [bigL_length, hx]; try omega)
theorem mayQ_lease {q : Rq} (h : MayQ q) (hw : q.who < 4294967296) : LeaseOk q.who q.till := by
  unfold MayQ at h
  unfold LeaseOk
  omega
theorem putQE_yes {q : Rq} (h : MayQ q) : putQE q = 0 := if_pos h
theorem putQL_yes {q : Rq} (h : MayQ q) : putQL q = encQ q := if_pos h
theorem putQE_no {q : Rq} (h : ¬ MayQ q) : putQE q = 200 := if_neg h

set_option maxRecDepth 100000 in
set_option maxHeartbeats 4000000 in
theorem asks_walk (q : Rq) (m cb : Nat) (ab : Option Addr) (a : Option Addr) (nb c : Nat) (l : List UInt8) (w : World) (hx : q.ix.length = 16) (hk : q.kind < 256) (hbs : BLies w ab q.bytes) (hm : q.bytes.length = m) (hok : LeaseOk q.who q.till) (hmm : m ≤ maxLen) (hwho : q.who < 4294967296)
    (hl : BLies w a l) (hln : l.length = nb) (hc : nb ≤ c) (hlm : nb ≤ 140737488355000) :
    Calls Try.prog 6 #[.agg (rqC q (.slice ab m cb)), .slice a nb c] w fun e w' => e = .returned (.bool true) ∧ w.grownBy w' none := by
  obtain ⟨iq, zq, hiq, hiqz, hiqs, hzq⟩ := info_req
  subst hzq
  have HX := Lib.hid hx
  have HBS := Lib.hid hbs
  have HM := Lib.hid hm
  have HMM := Lib.hid hmm
  have HLN := Lib.hid hln
  have HOK := Lib.hid hok
  have HWHO := Lib.hid hwho
  have HPR := Lib.hid (fun W (hW : w.grownBy W none) => putReq_n q ab m cb W hx hk (hbs.grown hW) hm hok hmm)
  have HRB := Lib.hid (fun W (hW : w.grownBy W none) => request_n a nb c l W (hl.grown hW) hln hc hlm)
  have HL := Lib.hid hl
  have HLM := Lib.hid hlm
  clear hbs hm hmm hl hln hc hlm hk hok hwho hx
  go_enter Try.func6, Try.ntmps6
  go_wp2_with (refine wpList_boxed rfl rfl (rqC q (.slice ab m cb)) rfl ?_; intro wb hsb hgb hrb; have HB := Lib.hid (show Row _ _ 43 (rqC q (.slice ab m cb)) from hrb); have HG := Lib.hid hgb; clear hsb hgb hrb)
  refine (lives_n wb).mono ?_
  rintro e w1 ⟨rfl, g⟩
  have G1 := Lib.hid (grownBy_trans HG.out g)
  have B1 := Lib.hid (HB.out.grown g)
  clear g
  obtain ⟨bx, hbx⟩ : ∃ bx, bx = w.heap.size := ⟨_, rfl⟩
  rw [← hbx] at B1 ⊢
  clear hbx HB
  go_wp2_with (refine wpList_load_row rfl 43 _ rfl bx rfl 43 (rqC q (.slice ab m cb)) (0, 0) _ B1.out Try.underlying43 rfl (by rw [size_req]; exact congrArg some (rq_len q _ HX.out).symm) ?_)
  refine (HPR.out w1 G1.out).mono ?_
  rintro e w2 ⟨a1, n1, c1, he, ho, g⟩
  have G2 := Lib.hid (grownBy_trans G1.out g)
  have B2 := Lib.hid (B1.out.grown g)
  have O2 := Lib.hid ho
  clear g ho
  by_cases hmay : MayQ q
  · rw [putQE_yes hmay] at he
    subst he
    rw [putQL_yes hmay] at O2
    have HX1 := Lib.hid (show Calls Try.prog 13 #[.slice a1 n1 c1] w2 fun e w' => ∃ y1 yn yc, e = .returned (.tuple #[.agg (rqC q (.slice y1 yn yc)), .int .i64 0, .int .i64 0]) ∧ BOwn w' w2.heap.size y1 yn yc q.bytes ∧ w2.grownBy w' none from by
      have hl1 := O2.out.len
      have hl2 := encQ_len HX.out hmay
      refine (request_n a1 n1 c1 (encQ q) w2 O2.out.lies hl1 O2.out.cap.1 (by omega)).mono fun e w' h => ?_
      rw [decQ_enc _ HX.out HWHO.out hmay] at h
      obtain ⟨y1, yn, yc, e1, h3, g⟩ := h
      exact ⟨y1, yn, yc, e1, h3, g⟩)
    clear hmay
    go_wp2_with fail
    refine HX1.out.mono ?_
    rintro e w3 ⟨y1, yn, yc, rfl, ob, g⟩
    have G3 := Lib.hid (grownBy_trans G2.out g)
    have B3 := Lib.hid (B2.out.grown g)
    have OB := Lib.hid ob
    clear g ob
    go_upto_region 6 with (refine wpList_fresh rfl rfl rfl rfl rfl hiq hiqz hiqs (rqC q (.slice y1 yn yc)) rfl rfl (by rw [rq_len q _ HX.out]; rfl) (rq_one _ _ _ _) ?_; intro w4 hs g hr; have G4 := Lib.hid (grownBy_trans G3.out g); have R4 := Lib.hid (show Row _ _ 43 (rqC q (.slice y1 yn yc)) from hr); have B4 := Lib.hid (B3.out.grown g); have OB4 := Lib.hid (BOwn.grown OB.out g); clear hs g hr)
    obtain ⟨b4, hb4⟩ : ∃ b4, b4 = w3.heap.size := ⟨_, rfl⟩
    rw [← hb4] at R4 ⊢
    clear hb4
    have HS := Lib.hid (sameReq_yes q y1 ab yn m yc cb w4 HX.out OB4.out.lies (HBS.out.grown G4.out) OB4.out.len HM.out (by have := OB4.out.cap; omega) HOK.out)
    go_wp2_with (first | ((with_reducible show wpList _ _ _ ({ dst := some 37, op := _, type := _, pos := _, after := _, guard := _ } :: _) _ _); refine wpList_load_rowW (by kernel_rfl) 43 _ rfl b4 rfl 43 (rqC q (.slice y1 yn yc)) (0, 0) _ R4.out Try.underlying43 rfl (by rw [size_req]; exact congrArg some (rq_len q _ HX.out).symm) ?_) | ((with_reducible show wpList _ _ _ ({ dst := some 38, op := _, type := _, pos := _, after := _, guard := _ } :: _) _ _); refine wpList_load_rowW (by kernel_rfl) 43 _ rfl bx rfl 43 (rqC q (.slice ab m cb)) (0, 0) _ B4.out Try.underlying43 rfl (by rw [size_req]; exact congrArg some (rq_len q _ HX.out).symm) ?_))
    refine HS.out.mono ?_
    rintro e w5 ⟨rfl, g⟩
    have G5 := Lib.hid (grownBy_trans G4.out g)
    clear g
    cases hd : decQ l with
    | error p =>
      have hp := decQ_place l p hd
      have h0p : decide ((0 : Int) ≤ (p : Int)) = true := decide_eq_true (by omega)
      have hpn : decide ((p : Int) ≤ (nb : Int)) = true := decide_eq_true (by have := HLN.out; omega)
      have hpn2 : decide (p ≤ nb) = true := decide_eq_true (by have := HLN.out; omega)
      have HXX := Lib.hid (show Calls Try.prog 13 #[.slice a nb c] w5 fun e w' => ∃ y1 yn yc, e = .returned (.tuple #[.agg (rqC noRq (.slice y1 yn yc)), .int .i64 (p : Int), .int .i64 200]) ∧ (w5).grownBy w' none from (HRB.out w5 G5.out).mono fun e w' h => by
        rw [hd] at h
        obtain ⟨y1, yn, yc, e1, _, g⟩ := h
        exact ⟨y1, yn, yc, e1, g⟩)
      clear hp hd
      go_wp2_with fail
      refine HXX.out.mono ?_
      rintro e wu ⟨y1, yn, yc, rfl, g⟩
      have GU := Lib.hid (grownBy_trans G5.out g)
      clear g
      go_upto_region 9 with (refine wpList_fresh rfl rfl rfl rfl rfl hiq hiqz hiqs (rqC noRq (.slice y1 yn yc)) rfl rfl (by rw [rq_len noRq _ rfl]; rfl) (rq_one _ _ _ _) ?_; intro wv hs g hr; have GV := Lib.hid (grownBy_trans GU.out g); have RV := Lib.hid (show Row _ _ 43 (rqC noRq (.slice y1 yn yc)) from hr); clear hs g hr)
      have k0 : wv.cell? ⟨wu.heap.size, 0, none⟩ = some (.int .u8 0) := rq_kind RV.out
      go_wp2_with fail
      go_ret
      exact ⟨rfl, GV.out⟩
    | ok x =>
      obtain ⟨hmx, hex, hxx, hxw, hxk⟩ := encQ_dec l x hd
      have HXI := Lib.hid hxx
      have HXX := Lib.hid (show Calls Try.prog 13 #[.slice a nb c] w5 fun e w' => ∃ y1 yn yc, e = .returned (.tuple #[.agg (rqC x (.slice y1 yn yc)), .int .i64 0, .int .i64 0]) ∧ BOwn w' (w5).heap.size y1 yn yc x.bytes ∧ (w5).grownBy w' none from (HRB.out w5 G5.out).mono fun e w' h => by
        rw [hd] at h
        obtain ⟨y1, yn, yc, e1, h3, g⟩ := h
        exact ⟨y1, yn, yc, e1, h3, g⟩)
      have HP2 := Lib.hid (show ∀ W yn yc y1, BOwn W (w5).heap.size y1 yn yc x.bytes → Calls Try.prog 15 #[.agg (rqC x (.slice y1 yn yc))] W fun e w' => ∃ a' n' c', e = .returned (.tuple #[.slice a' n' c', .int .i64 0]) ∧ BOwn w' W.heap.size a' n' c' l ∧ W.grownBy w' none from fun W yn yc y1 h2 => by
        have h := putReq_n x y1 yn yc W hxx hxk h2.lies h2.len (mayQ_lease hmx hxw) (by have := h2.cap; omega)
        rw [putQE_yes hmx, putQL_yes hmx, hex] at h
        exact h)
      clear hmx hex hd hxx hxw hxk
      go_wp2_with fail
      refine HXX.out.mono ?_
      rintro e wu ⟨y1, yn, yc, rfl, ob, g⟩
      have GU := Lib.hid (grownBy_trans G5.out g)
      have OB := Lib.hid ob
      clear g ob
      go_upto_region 9 with (refine wpList_fresh rfl rfl rfl rfl rfl hiq hiqz hiqs (rqC x (.slice y1 yn yc)) rfl rfl (by rw [rq_len x _ HXI.out]; rfl) (rq_one _ _ _ _) ?_; intro wv hs g hr; have GV := Lib.hid (grownBy_trans GU.out g); have RV := Lib.hid (show Row _ _ 43 (rqC x (.slice y1 yn yc)) from hr); have OBV := Lib.hid (BOwn.grown OB.out g); clear hs g hr)
      obtain ⟨bv, hbv⟩ : ∃ bv, bv = wu.heap.size := ⟨_, rfl⟩
      rw [← hbv] at RV ⊢
      clear hbv
      go_wp2_with (refine wpList_load_row rfl 43 _ rfl bv rfl 43 (rqC x (.slice y1 yn yc)) (0, 0) _ RV.out Try.underlying43 rfl (by rw [size_req]; exact congrArg some (rq_len x _ HXI.out).symm) ?_)
      refine (HP2.out wv _ _ _ OBV.out).mono ?_
      rintro e wz ⟨a9, n9, c9, rfl, o9, g⟩
      have GZ := Lib.hid (grownBy_trans GV.out g)
      have HS9 := Lib.hid (same_yes_g a9 a c9 c n9 nb l wz o9.lies (HL.out.grown GZ.out) o9.len HLN.out (by have := o9.cap; omega))
      clear g o9
      go_wp2_with fail
      refine HS9.out.mono ?_
      rintro e we ⟨rfl, g⟩
      have GE := Lib.hid (grownBy_trans GZ.out g)
      clear g
      go_wp2_with fail
      go_ret
      exact ⟨rfl, GE.out⟩
  · rw [putQE_no hmay] at he
    subst he
    clear hmay
    cases hd : decQ l with
    | error p =>
      have hp := decQ_place l p hd
      have h0p : decide ((0 : Int) ≤ (p : Int)) = true := decide_eq_true (by omega)
      have hpn : decide ((p : Int) ≤ (nb : Int)) = true := decide_eq_true (by have := HLN.out; omega)
      have hpn2 : decide (p ≤ nb) = true := decide_eq_true (by have := HLN.out; omega)
      have HXX := Lib.hid (show Calls Try.prog 13 #[.slice a nb c] w2 fun e w' => ∃ y1 yn yc, e = .returned (.tuple #[.agg (rqC noRq (.slice y1 yn yc)), .int .i64 (p : Int), .int .i64 200]) ∧ (w2).grownBy w' none from (HRB.out w2 G2.out).mono fun e w' h => by
        rw [hd] at h
        obtain ⟨y1, yn, yc, e1, _, g⟩ := h
        exact ⟨y1, yn, yc, e1, g⟩)
      clear hp hd
      go_wp2_with fail
      refine HXX.out.mono ?_
      rintro e wu ⟨y1, yn, yc, rfl, g⟩
      have GU := Lib.hid (grownBy_trans G2.out g)
      clear g
      go_upto_region 9 with (refine wpList_fresh rfl rfl rfl rfl rfl hiq hiqz hiqs (rqC noRq (.slice y1 yn yc)) rfl rfl (by rw [rq_len noRq _ rfl]; rfl) (rq_one _ _ _ _) ?_; intro wv hs g hr; have GV := Lib.hid (grownBy_trans GU.out g); have RV := Lib.hid (show Row _ _ 43 (rqC noRq (.slice y1 yn yc)) from hr); clear hs g hr)
      have k0 : wv.cell? ⟨wu.heap.size, 0, none⟩ = some (.int .u8 0) := rq_kind RV.out
      go_wp2_with fail
      go_ret
      exact ⟨rfl, GV.out⟩
    | ok x =>
      obtain ⟨hmx, hex, hxx, hxw, hxk⟩ := encQ_dec l x hd
      have HXI := Lib.hid hxx
      have HXX := Lib.hid (show Calls Try.prog 13 #[.slice a nb c] w2 fun e w' => ∃ y1 yn yc, e = .returned (.tuple #[.agg (rqC x (.slice y1 yn yc)), .int .i64 0, .int .i64 0]) ∧ BOwn w' (w2).heap.size y1 yn yc x.bytes ∧ (w2).grownBy w' none from (HRB.out w2 G2.out).mono fun e w' h => by
        rw [hd] at h
        obtain ⟨y1, yn, yc, e1, h3, g⟩ := h
        exact ⟨y1, yn, yc, e1, h3, g⟩)
      have HP2 := Lib.hid (show ∀ W yn yc y1, BOwn W (w2).heap.size y1 yn yc x.bytes → Calls Try.prog 15 #[.agg (rqC x (.slice y1 yn yc))] W fun e w' => ∃ a' n' c', e = .returned (.tuple #[.slice a' n' c', .int .i64 0]) ∧ BOwn w' W.heap.size a' n' c' l ∧ W.grownBy w' none from fun W yn yc y1 h2 => by
        have h := putReq_n x y1 yn yc W hxx hxk h2.lies h2.len (mayQ_lease hmx hxw) (by have := h2.cap; omega)
        rw [putQE_yes hmx, putQL_yes hmx, hex] at h
        exact h)
      clear hmx hex hd hxx hxw hxk
      go_wp2_with fail
      refine HXX.out.mono ?_
      rintro e wu ⟨y1, yn, yc, rfl, ob, g⟩
      have GU := Lib.hid (grownBy_trans G2.out g)
      have OB := Lib.hid ob
      clear g ob
      go_upto_region 9 with (refine wpList_fresh rfl rfl rfl rfl rfl hiq hiqz hiqs (rqC x (.slice y1 yn yc)) rfl rfl (by rw [rq_len x _ HXI.out]; rfl) (rq_one _ _ _ _) ?_; intro wv hs g hr; have GV := Lib.hid (grownBy_trans GU.out g); have RV := Lib.hid (show Row _ _ 43 (rqC x (.slice y1 yn yc)) from hr); have OBV := Lib.hid (BOwn.grown OB.out g); clear hs g hr)
      obtain ⟨bv, hbv⟩ : ∃ bv, bv = wu.heap.size := ⟨_, rfl⟩
      rw [← hbv] at RV ⊢
      clear hbv
      go_wp2_with (refine wpList_load_row rfl 43 _ rfl bv rfl 43 (rqC x (.slice y1 yn yc)) (0, 0) _ RV.out Try.underlying43 rfl (by rw [size_req]; exact congrArg some (rq_len x _ HXI.out).symm) ?_)
      refine (HP2.out wv _ _ _ OBV.out).mono ?_
      rintro e wz ⟨a9, n9, c9, rfl, o9, g⟩
      have GZ := Lib.hid (grownBy_trans GV.out g)
      have HS9 := Lib.hid (same_yes_g a9 a c9 c n9 nb l wz o9.lies (HL.out.grown GZ.out) o9.len HLN.out (by have := o9.cap; omega))
      clear g o9
      go_wp2_with fail
      refine HS9.out.mono ?_
      rintro e we ⟨rfl, g⟩
      have GE := Lib.hid (grownBy_trans GZ.out g)
      clear g
      go_wp2_with fail
      go_ret
      exact ⟨rfl, GE.out⟩
end Go.Proofs.Ytkdmebcfedehiaa
