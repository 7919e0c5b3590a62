/- Helpers and contracts of the proofs over this seat: Request, RequestN, EqArr, EqLease, Used, UsedN, MayMath, MayAsk. Each states what a function of the program answers, or is plain Lean; its conditions stand in each statement. -/
import Derived.Deep.MidRow
import Derived.Shelf.Abstract
import Derived.DeepKeys
import Derived.Test.YtkdmebcfedehiaaPtAA
import Derived.Test.YtkdmebcfedehiaaPtAB
import Derived.Test.YtkdmebcfedehiaaPtAC
set_option linter.unusedVariables false
/- wire.Request: of all bytes. Printed by gens/request.py. -/
namespace Go.Proofs.Ytkdmebcfedehiaa
open Go.RowKit Go.Shelf
def oLRequest0 : Oper := { dst := some 4, op := Op.assign (Operand.const (Value.int IntKind.i64 200)), type := 28, pos := "wire.go:162", after := #[{ on := 11, ground := Ground.chain }, { on := 0, ground := Ground.phase }, { on := 1, ground := Ground.phase }, { on := 2, ground := Ground.phase }, { on := 3, ground := Ground.phase }, { on := 4, ground := Ground.phase }, { on := 5, ground := Ground.phase }, { on := 6, ground := Ground.phase }, { on := 7, ground := Ground.phase }, { on := 8, ground := Ground.phase }, { on := 9, ground := Ground.phase }, { on := 10, ground := Ground.phase }, { on := 11, ground := Ground.phase }], guard := none }

/-- a request's cells -/
def rqC (q : Rq) (s : Value) : Array Value := (.int .u8 (q.kind : Int) :: (q.ix.map bval ++ [.int .i64 q.number, .int .i64 q.pos, .int .i64 q.len, .int .u32 (q.who : Int), .int .i64 q.till, s])).toArray
def rqOf : Except Nat Rq → Rq
  | .ok r => r
  | .error _ => noRq
/-- what Request answers -/
def ReqP (w : World) (d : Except Nat Rq) (e : Ending) (w' : World) : Prop :=
  ∃ ab nb cb, e = .returned (.tuple #[.agg (rqC (rqOf d) (.slice ab nb cb)), .int .i64 (atOf d : Int), .int .i64 (erOf 200 d)]) ∧ BOwn w' w.heap.size ab nb cb (rqOf d).bytes ∧ w.grownBy w' none
theorem zreq : rqC noRq (.slice none 0 0) = #[.int .u8 0, .int .u8 0, .int .u8 0, .int .u8 0, .int .u8 0, .int .u8 0, .int .u8 0, .int .u8 0, .int .u8 0, .int .u8 0, .int .u8 0, .int .u8 0, .int .u8 0, .int .u8 0, .int .u8 0, .int .u8 0, .int .u8 0, .int .i64 0, .int .i64 0, .int .i64 0, .int .u32 0, .int .i64 0, .slice none 0 0] := by simp [rqC, noRq, ix0, List.replicate, bval]
theorem reqP_err {w w' : World} (p : Nat) (q : Int) (hq : q = (p : Int)) (hg : w.grownBy w' none) : ReqP w (.error p) (.returned (.tuple #[.agg #[.int .u8 0, .int .u8 0, .int .u8 0, .int .u8 0, .int .u8 0, .int .u8 0, .int .u8 0, .int .u8 0, .int .u8 0, .int .u8 0, .int .u8 0, .int .u8 0, .int .u8 0, .int .u8 0, .int .u8 0, .int .u8 0, .int .u8 0, .int .i64 0, .int .i64 0, .int .i64 0, .int .u32 0, .int .i64 0, .slice none 0 0], .int .i64 q, .int .i64 200])) w' := by
  subst hq
  exact ⟨none, 0, 0, by rw [← zreq]; rfl, Own.nil _ _ _ _ _, hg⟩
theorem info_req : ∃ i z, Try.prog.info? 43 = some i ∧ i.zero = some z ∧ i.size = z.cells.size ∧ z = .agg #[.int .u8 0, .int .u8 0, .int .u8 0, .int .u8 0, .int .u8 0, .int .u8 0, .int .u8 0, .int .u8 0, .int .u8 0, .int .u8 0, .int .u8 0, .int .u8 0, .int .u8 0, .int .u8 0, .int .u8 0, .int .u8 0, .int .u8 0, .int .i64 0, .int .i64 0, .int .i64 0, .int .u32 0, .int .i64 0, .slice none 0 0] := ⟨(Try.prog.info? 43).getD default, .agg #[.int .u8 0, .int .u8 0, .int .u8 0, .int .u8 0, .int .u8 0, .int .u8 0, .int .u8 0, .int .u8 0, .int .u8 0, .int .u8 0, .int .u8 0, .int .u8 0, .int .u8 0, .int .u8 0, .int .u8 0, .int .u8 0, .int .u8 0, .int .i64 0, .int .i64 0, .int .i64 0, .int .u32 0, .int .i64 0, .slice none 0 0], by kernel_rfl, by kernel_rfl, by kernel_rfl, rfl⟩
theorem size_req : (Try.prog.info? 43).map (·.size) = some 23 := by kernel_rfl
theorem size_ix : (Try.prog.info? 38).map (·.size) = some 16 := by kernel_rfl
theorem size_field : (Try.prog.info? 81).map (·.size) = some 2 := by kernel_rfl

set_option maxRecDepth 100000 in
set_option maxHeartbeats 8000000 in
theorem request_empty (a : Option Addr) (n c : Nat) (l : List UInt8) (w : World) (hl : BLies w a l) (hn : l.length = n) (hc : n ≤ c) (hnm : n ≤ 140737488355000) (h0 : n = 0) :
    Calls Try.prog 13 #[.slice a n c] w fun e w' => ReqP w (decQ l) e w' := by
  subst h0
  have hd : decQ l = .error 0 := by unfold decQ; rw [if_pos (.inl (List.eq_nil_of_length_eq_zero hn))]
  rw [hd]
  clear hl hn hnm hd hc
  obtain ⟨ir, zr, hir, hirz, hirs, hz⟩ := info_req
  subst hz
  go_enter Try.func13, Try.ntmps13
  go_upto_region 2 with (refine wpList_made rfl rfl hir hirz ?_; intro w1 hs1 hg1 hr1; have HG1 := Lib.hid hg1; have HR1 := Lib.hid (show Row w1 w.heap.size 43 #[.int .u8 0, .int .u8 0, .int .u8 0, .int .u8 0, .int .u8 0, .int .u8 0, .int .u8 0, .int .u8 0, .int .u8 0, .int .u8 0, .int .u8 0, .int .u8 0, .int .u8 0, .int .u8 0, .int .u8 0, .int .u8 0, .int .u8 0, .int .i64 0, .int .i64 0, .int .i64 0, .int .u32 0, .int .i64 0, .slice none 0 0] from hr1); clear hs1 hg1 hr1)
  go_wp2_with (refine wpList_putrow rfl rfl w.heap.size rfl #[.int .u8 0, .int .u8 0, .int .u8 0, .int .u8 0, .int .u8 0, .int .u8 0, .int .u8 0, .int .u8 0, .int .u8 0, .int .u8 0, .int .u8 0, .int .u8 0, .int .u8 0, .int .u8 0, .int .u8 0, .int .u8 0, .int .u8 0, .int .i64 0, .int .i64 0, .int .i64 0, .int .u32 0, .int .i64 0, .slice none 0 0] rfl HR1.out (by rw [size_req]; rfl) rfl (by simp [Value.oneCell']) ?_; intro W5 hg5 hr5; have HG5 := Lib.hid hg5; have HR5 := Lib.hid hr5; clear hg5 hr5)
  refine bodyPost_ret (results_ctt rfl _ _ w.heap.size 43 #[.int .u8 0, .int .u8 0, .int .u8 0, .int .u8 0, .int .u8 0, .int .u8 0, .int .u8 0, .int .u8 0, .int .u8 0, .int .u8 0, .int .u8 0, .int .u8 0, .int .u8 0, .int .u8 0, .int .u8 0, .int .u8 0, .int .u8 0, .int .i64 0, .int .i64 0, .int .i64 0, .int .u32 0, .int .i64 0, .slice none 0 0] (0, 0) _ _ _ rfl rfl rfl HR5.out Try.underlying43 rfl (by rw [size_req]; rfl)) rfl ?_
  exact reqP_err (0) _ (rfl) (grownBy_old HG1.out HG5.out (Nat.le_refl _))
set_option maxRecDepth 100000 in
set_option maxHeartbeats 8000000 in
theorem request_kind (a : Option Addr) (n c : Nat) (l : List UInt8) (w : World) (hl : BLies w a l) (hn : l.length = n) (hc : n ≤ c) (hnm : n ≤ 140737488355000) (K : Int) (b off : Nat) (ha : a = some ⟨b, off, none⟩) (hK : K = ((l.getD 0 0).toNat : Int)) (h1 : 1 ≤ n) (hk : headQ (l.getD 0 0).toNat = 0) :
    Calls Try.prog 13 #[.slice a n c] w fun e w' => ReqP w (decQ l) e w' := by
  have hd : decQ l = .error 0 := by unfold decQ; rw [if_pos (.inr hk)]
  rw [hd]
  have HKK := Lib.hid hK
  have h00 : ((n : Int) == 0) = false := by rw [beq_eq_false_iff_ne]; omega
  have hK0 : ∀ W, w.grownBy W none → W.cell? ⟨b, off, none⟩ = some (.int .u8 K) := fun W hW => by
    obtain ⟨b', off', e, h⟩ := bytes_cells (hl.grown hW) (by omega)
    rw [ha] at e
    injection e with e
    injection e with e1 e2
    subst e1; subst e2
    rw [hK]
    exact h 0 (by omega)
  have HK0 := Lib.hid hK0
  subst ha
  clear hK0
  have hh : decide (headQ (l.getD 0 0).toNat ≠ 0) = false := decide_eq_false (fun h => h hk)
  have HH := Lib.hid hh
  clear hl hn hnm hd hK hk hc hh
  obtain ⟨ir, zr, hir, hirz, hirs, hz⟩ := info_req
  subst hz
  go_enter Try.func13, Try.ntmps13
  go_upto_region 4 with (first | (refine wpList_made rfl rfl hir hirz ?_; intro w1 hs1 hg1 hr1; have HG1 := Lib.hid hg1; have HR1 := Lib.hid (show Row w1 w.heap.size 43 #[.int .u8 0, .int .u8 0, .int .u8 0, .int .u8 0, .int .u8 0, .int .u8 0, .int .u8 0, .int .u8 0, .int .u8 0, .int .u8 0, .int .u8 0, .int .u8 0, .int .u8 0, .int .u8 0, .int .u8 0, .int .u8 0, .int .u8 0, .int .i64 0, .int .i64 0, .int .i64 0, .int .u32 0, .int .i64 0, .slice none 0 0] from hr1); clear hs1 hg1 hr1) | (refine wpList_boxed rfl rfl #[.int .u8 0, .int .u8 0, .int .u8 0, .int .u8 0, .int .u8 0, .int .u8 0, .int .u8 0, .int .u8 0, .int .u8 0, .int .u8 0, .int .u8 0, .int .u8 0, .int .u8 0, .int .u8 0, .int .u8 0, .int .u8 0, .int .u8 0, .int .i64 0, .int .i64 0, .int .i64 0, .int .u32 0, .int .i64 0, .slice none 0 0, .int .i64 0] rfl ?_; intro w2 hs2 hg2 hr2; have HG2 := Lib.hid (grownBy_trans HG1.out hg2); have HR2 := Lib.hid (HR1.out.grown hg2); have HT2 := Lib.hid (show Row w2 w1.heap.size 75 #[.int .u8 0, .int .u8 0, .int .u8 0, .int .u8 0, .int .u8 0, .int .u8 0, .int .u8 0, .int .u8 0, .int .u8 0, .int .u8 0, .int .u8 0, .int .u8 0, .int .u8 0, .int .u8 0, .int .u8 0, .int .u8 0, .int .u8 0, .int .i64 0, .int .i64 0, .int .i64 0, .int .u32 0, .int .i64 0, .slice none 0 0, .int .i64 0] from hr2); clear hs2 hg2 hr2))
  obtain ⟨gT, hgT⟩ : ∃ gT, gT = w1.heap.size := ⟨_, rfl⟩
  have HTL := Lib.hid (show w.heap.size < gT ∧ gT < w2.heap.size from ⟨by rw [hgT]; exact HR1.out.lt, by rw [hgT]; exact HT2.out.lt⟩)
  rw [← hgT] at HT2 ⊢
  clear hgT HR1 HG1
  have k0 := HK0.out w2 HG2.out
  have c0 := Row.cell HT2.out 0
  have f0 := Row.frozen HT2.out 0
  simp at c0
  go_upto_region 5 with fail
  obtain ⟨w3, h3⟩ : ∃ w3, w3 = w2.setCell ⟨gT, 0, none⟩ (.int .u8 K) := ⟨_, rfl⟩
  rw [← h3]
  have g3 : w2.grownBy w3 (some gT) := h3 ▸ grownBy_setCell _ _ _ _
  have hT3 : Row w3 gT 75 (tkC { noRq with kind := (l.getD 0 0).toNat } (.slice none 0 0) ((0 : Nat) : Int)) := by
    have h := Row.setc HT2.out 0 (.int .u8 K)
    rw [h3]
    have e : (#[.int .u8 0, .int .u8 0, .int .u8 0, .int .u8 0, .int .u8 0, .int .u8 0, .int .u8 0, .int .u8 0, .int .u8 0, .int .u8 0, .int .u8 0, .int .u8 0, .int .u8 0, .int .u8 0, .int .u8 0, .int .u8 0, .int .u8 0, .int .i64 0, .int .i64 0, .int .i64 0, .int .u32 0, .int .i64 0, .slice none 0 0, .int .i64 0] : Array Value).setIfInBounds 0 (.int .u8 K) = tkC { noRq with kind := (l.getD 0 0).toNat } (.slice none 0 0) ((0 : Nat) : Int) := by
      rw [HKK.out]
      simp [tkC, noRq, ix0, List.replicate, bval]
    rw [e] at h
    exact h
  have HT3 := Lib.hid hT3
  have HR3 := Lib.hid (HR2.out.grownNe g3 (by have := HTL.out; omega))
  have HG3 := Lib.hid (grownBy_old HG2.out g3 (by have := HTL.out; omega))
  have c0' : w3.cell? ⟨gT, 0, none⟩ = some (.int .u8 K) := by
    rw [Row.cell hT3 0, HKK.out]
    rfl
  have HTL3 := Lib.hid (show gT < w3.heap.size from HT3.out.lt)
  have HTW := Lib.hid HTL.out.1
  clear h3 g3 hT3 c0 f0 k0 HR2 HT2 HG2 HTL
  go_wp2_with fail
  refine (fields_n K (l.getD 0 0).toNat gT w3 HKK.out).mono ?_
  rintro e w4 ⟨aF, nF, cF, rfl, oF, hF, g4⟩
  have OF := Lib.hid oF
  have HF := Lib.hid hF
  have HG4 := Lib.hid (grownBy_trans HG3.out g4)
  have HT4 := Lib.hid (HT3.out.grown g4)
  have HR4 := Lib.hid (HR3.out.grown g4)
  clear oF hF g4 c0'
  rw [HH.out]
  go_upto_region 7 with fail
  go_wp2_with (refine wpList_putrow rfl rfl w.heap.size rfl #[.int .u8 0, .int .u8 0, .int .u8 0, .int .u8 0, .int .u8 0, .int .u8 0, .int .u8 0, .int .u8 0, .int .u8 0, .int .u8 0, .int .u8 0, .int .u8 0, .int .u8 0, .int .u8 0, .int .u8 0, .int .u8 0, .int .u8 0, .int .i64 0, .int .i64 0, .int .i64 0, .int .u32 0, .int .i64 0, .slice none 0 0] rfl HR4.out (by rw [size_req]; rfl) rfl (by simp [Value.oneCell']) ?_; intro W5 hg5 hr5; have HG5 := Lib.hid hg5; have HR5 := Lib.hid hr5; clear hg5 hr5)
  refine bodyPost_ret (results_ctt rfl _ _ w.heap.size 43 #[.int .u8 0, .int .u8 0, .int .u8 0, .int .u8 0, .int .u8 0, .int .u8 0, .int .u8 0, .int .u8 0, .int .u8 0, .int .u8 0, .int .u8 0, .int .u8 0, .int .u8 0, .int .u8 0, .int .u8 0, .int .u8 0, .int .u8 0, .int .i64 0, .int .i64 0, .int .i64 0, .int .u32 0, .int .i64 0, .slice none 0 0] (0, 0) _ _ _ rfl rfl rfl HR5.out Try.underlying43 rfl (by rw [size_req]; rfl)) rfl ?_
  exact reqP_err (0) _ (rfl) (grownBy_old HG4.out HG5.out (Nat.le_refl _))

/-- cells written into cells from o on -/
def laidR (cur : Array Value) (o : Nat) : List Value → Array Value
  | [] => cur
  | v :: r => laidR (cur.setIfInBounds o v) (o + 1) r
theorem Row.setcs (g : Nat) (t : TypeId) : ∀ (xs : List Value) (o : Nat) (w : World) (cur : Array Value), Row w g t cur → Row (w.setCells g o xs) g t (laidR cur o xs)
  | [], _, _, _, h => h
  | v :: r, o, w, cur, h => Row.setcs g t r (o + 1) (w.setCell ⟨g, o, none⟩ v) (cur.setIfInBounds o v) (Row.setc h o v)
theorem grownBy_setCellsR (g : Nat) : ∀ (xs : List Value) (o : Nat) (w : World), w.grownBy (w.setCells g o xs) (some g)
  | [], _, _ => World.grownBy.refl _ _
  | v :: r, o, w => grownBy_trans (grownBy_setCell w g o v) (grownBy_setCellsR g r (o + 1) _)
theorem laid_mid : ∀ (xs mid pre post : List Value), mid.length = xs.length → laidR (pre ++ (mid ++ post)).toArray pre.length xs = (pre ++ (xs ++ post)).toArray
  | [], mid, pre, post, h => by rw [List.eq_nil_of_length_eq_zero h]; rfl
  | x :: xs, [], pre, post, h => by cases h
  | x :: xs, m :: mid, pre, post, h => by
    unfold laidR
    rw [List.setIfInBounds_toArray, List.set_append_right _ _ (Nat.le_refl _), Nat.sub_self]
    have ih := laid_mid xs mid (pre ++ [x]) post (by simpa using h)
    rw [List.length_append, List.length_singleton] at ih
    simpa using ih
theorem tk_ix (q : Rq) (s : Value) (rest : Int) (ix : List UInt8) (h : q.ix.length = 16) (h2 : ix.length = 16) : laidR (tkC q s rest) 1 (ix.map bval) = tkC { q with ix := ix } s rest := by
  have := laid_mid (ix.map bval) (q.ix.map bval) [.int .u8 (q.kind : Int)] [.int .i64 q.number, .int .i64 q.pos, .int .i64 q.len, .int .u32 (q.who : Int), .int .i64 q.till, s, .int .i64 rest] (by simp [h, h2])
  exact this
theorem tk_there {w : World} {g : Nat} {q : Rq} {s : Value} {rest : Int} (h : Row w g 75 (tkC q s rest)) (hx : q.ix.length = 16) : w.there g 1 16 := by
  intro j hj
  refine ⟨?_, Row.frozen h _⟩
  rw [Row.cell h]
  have hs : (tkC q s rest).size = 24 := by simp [tkC, hx]
  rw [Array.getElem?_eq_getElem (by omega)]
  rfl
theorem tk_range {w : World} {g : Nat} {q : Rq} {s : Value} {rest : Int} (h : Row w g 75 (tkC q s rest)) (hx : q.ix.length = 16) : w.rangeAt g 0 (rqC q s).toList := by
  intro j v hj
  rw [Row.cell h, Nat.zero_add, ← hj]
  have hl : (rqC q s).toList.length = 23 := by simp [rqC, hx]
  have hjl : j < 23 := by
    rcases Nat.lt_or_ge j 23 with h | h
    · exact h
    · rw [List.getElem?_eq_none (by omega)] at hj; cases hj
  have e : (tkC q s rest).toList = (rqC q s).toList ++ [.int .i64 rest] := by simp [tkC, rqC]
  rw [← Array.getElem?_toList, e, List.getElem?_append_left (by omega)]
theorem fields_range {w : World} {base g n c gT j : Nat} {FF : List Fd} (h : Own w base 81 2 (some ⟨g, 0, none⟩) n c (fdC gT FF)) (hj : j < FF.length) : w.rangeAt g (j * 2) [.int .i64 ((FF[j]).size : Int), .func (Fn.func (FF[j]).fid) #[.pointer (some ⟨gT, 0, none⟩)] #[]] := by
  intro i v hi
  have hi2 : i < 2 := by
    rcases Nat.lt_or_ge i 2 with h | h
    · exact h
    · rw [List.getElem?_eq_none (by simpa using h)] at hi; cases hi
  have hg := fdC_get gT FF j hj i hi2
  have hg2 : (fdC gT FF)[j * 2 + i]? = some v := by rw [hg]; exact hi
  obtain ⟨hk, hv⟩ := List.getElem?_eq_some_iff.1 hg2
  obtain ⟨g', e, _, _, hc, _⟩ := Own.cell h (j * 2 + i) hk
  injection e with e
  injection e with e1
  subst e1
  rw [hc, hv]
theorem fid_enters (f : Fd) : Enters Try.prog f.fid := by
  cases f
  · exact enters_of Try.func51 (by kernel_rfl) rfl
  · exact enters_of Try.func50 (by kernel_rfl) rfl
  · exact enters_of Try.func52 (by kernel_rfl) rfl
  · exact enters_of Try.func53 (by kernel_rfl) rfl
  · exact enters_of Try.func54 (by kernel_rfl) rfl
  · exact enters_of Try.func55 (by kernel_rfl) rfl
theorem put_rest (f : Fd) (s : Rq × Nat) (x : Nat) (hr : s.2 ≤ 4294967296) (hx : x < 256 ^ f.size) : (f.put s x).2 ≤ 4294967296 := by
  obtain ⟨q, r⟩ := s
  cases f
  · exact hr
  · exact hr
  · exact hr
  · show x ≤ 4294967296
    have : (256 : Nat) ^ Fd.size .rst = 4294967296 := rfl
    omega
  · exact hr
  · exact hr
theorem run_arrptr16 (w : World) (ev : Operand → Value) {o : Oper} (x : Operand) (ho : o.op = .sliceToArrayPointer 38 x) (a : Option Addr) (c : Nat) (hx : ev x = .slice a 16 c) :
    (execOp ev o).run Try.prog w = .ok (.value (.pointer a)) w := by
  unfold execOp
  simp [ho, hx, Instr.arrayAt, run_underlying Try.underlying38]
theorem wp_normalR {P : Program} {c : Code} {Q : Exit → Act → World → Prop} {a : Act} {w : World} (h : c.wp P (fun x a w => x = .normal ∧ Q .normal a w) a w) : c.wp P Q a w :=
  wp_mono h (fun e a w h => by obtain ⟨rfl, h⟩ := h; exact h)
theorem rq_len (q : Rq) (s : Value) (h : q.ix.length = 16) : (rqC q s).size = 23 := by simp [rqC, h]
theorem rq_one (q : Rq) (a : Option Addr) (n c : Nat) : (rqC q (.slice a n c)).all (·.oneCell') = true := by
  unfold rqC
  refine all_oneCell_toArray (fun v hv => ?_)
  rcases List.mem_cons.1 hv with rfl | hv
  · rfl
  · rcases List.mem_append.1 hv with hv | hv
    · obtain ⟨x, _, rfl⟩ := List.mem_map.1 hv
      rfl
    · simp only [List.mem_cons, List.not_mem_nil, or_false] at hv
      rcases hv with rfl | rfl | rfl | rfl | rfl | rfl <;> rfl
theorem clo_and {S T : World → Prop} (h : Clo S) (k : Clo T) : Clo (fun w => S w ∧ T w) := fun w w' hs g => ⟨h w w' hs.1 g, k w w' hs.2 g⟩
/-- worlds in which the result's cell alone may have changed -/
def SR (res : Nat) (W u : World) : Prop := Ch (fun x => x = res) W u ∧ ∃ cs, Row u res 43 cs ∧ cs.size = 23
theorem clo_SR (res : Nat) (W : World) : Clo (SR res W) := fun u u' h g => ⟨h.1.trans (Ch.ofNone g (fun x => x = res)) (fun _ _ h => h), h.2.elim fun cs hc => ⟨cs, hc.1.grown g, hc.2⟩⟩

set_option maxRecDepth 100000 in
set_option maxHeartbeats 8000000 in
theorem request_known (a : Option Addr) (n c : Nat) (l : List UInt8) (w : World) (hl : BLies w a l) (hn : l.length = n) (hc : n ≤ c) (hnm : n ≤ 140737488355000) (K : Int) (b off : Nat) (ha : a = some ⟨b, off, none⟩) (hK : K = ((l.getD 0 0).toNat : Int)) (h1 : 1 ≤ n) (hk : headQ (l.getD 0 0).toNat ≠ 0) :
    Calls Try.prog 13 #[.slice a n c] w fun e w' => ReqP w (decQ l) e w' := by
  have HKK := Lib.hid hK
  have HL := Lib.hid hl
  have HN := Lib.hid hn
  have h00 : ((n : Int) == 0) = false := by rw [beq_eq_false_iff_ne]; omega
  have hK0 : ∀ W, w.grownBy W none → W.cell? ⟨b, off, none⟩ = some (.int .u8 K) := fun W hW => by
    obtain ⟨b', off', e, h⟩ := bytes_cells (hl.grown hW) (by omega)
    rw [ha] at e
    injection e with e
    injection e with e1 e2
    subst e1; subst e2
    rw [hK]
    exact h 0 (by omega)
  have HK0 := Lib.hid hK0
  subst ha
  clear hK0
  have hh : decide (headQ (l.getD 0 0).toNat ≠ 0) = true := decide_eq_true hk
  have HH := Lib.hid hh
  have hne : l ≠ [] := fun h => by rw [h] at hn; simp at hn; omega
  have HNE := Lib.hid hne
  have HDG := Lib.hid (fun h => decG l hk h hne)
  have hhs := head_sum hk
  have hhb := headQ_lt _ hk
  have hfl := fields_len (l.getD 0 0).toNat
  have hsh : l.length < headQ (l.getD 0 0).toNat → decQ l = .error l.length := fun h => by
    unfold decQ
    rw [if_neg (fun h => h.elim hne hk), if_pos h]
  have HSH := Lib.hid hsh
  clear hl hn hK hk hh hne hsh
  obtain ⟨ir, zr, hir, hirz, hirs, hz⟩ := info_req
  subst hz
  go_enter Try.func13, Try.ntmps13
  go_upto_region 4 with (first | (refine wpList_made rfl rfl hir hirz ?_; intro w1 hs1 hg1 hr1; have HG1 := Lib.hid hg1; have HR1 := Lib.hid (show Row w1 w.heap.size 43 #[.int .u8 0, .int .u8 0, .int .u8 0, .int .u8 0, .int .u8 0, .int .u8 0, .int .u8 0, .int .u8 0, .int .u8 0, .int .u8 0, .int .u8 0, .int .u8 0, .int .u8 0, .int .u8 0, .int .u8 0, .int .u8 0, .int .u8 0, .int .i64 0, .int .i64 0, .int .i64 0, .int .u32 0, .int .i64 0, .slice none 0 0] from hr1); clear hs1 hg1 hr1) | (refine wpList_boxed rfl rfl #[.int .u8 0, .int .u8 0, .int .u8 0, .int .u8 0, .int .u8 0, .int .u8 0, .int .u8 0, .int .u8 0, .int .u8 0, .int .u8 0, .int .u8 0, .int .u8 0, .int .u8 0, .int .u8 0, .int .u8 0, .int .u8 0, .int .u8 0, .int .i64 0, .int .i64 0, .int .i64 0, .int .u32 0, .int .i64 0, .slice none 0 0, .int .i64 0] rfl ?_; intro w2 hs2 hg2 hr2; have HG2 := Lib.hid (grownBy_trans HG1.out hg2); have HR2 := Lib.hid (HR1.out.grown hg2); have HT2 := Lib.hid (show Row w2 w1.heap.size 75 #[.int .u8 0, .int .u8 0, .int .u8 0, .int .u8 0, .int .u8 0, .int .u8 0, .int .u8 0, .int .u8 0, .int .u8 0, .int .u8 0, .int .u8 0, .int .u8 0, .int .u8 0, .int .u8 0, .int .u8 0, .int .u8 0, .int .u8 0, .int .i64 0, .int .i64 0, .int .i64 0, .int .u32 0, .int .i64 0, .slice none 0 0, .int .i64 0] from hr2); clear hs2 hg2 hr2))
  obtain ⟨gT, hgT⟩ : ∃ gT, gT = w1.heap.size := ⟨_, rfl⟩
  have HTL := Lib.hid (show w.heap.size < gT ∧ gT < w2.heap.size from ⟨by rw [hgT]; exact HR1.out.lt, by rw [hgT]; exact HT2.out.lt⟩)
  rw [← hgT] at HT2 ⊢
  clear hgT HR1 HG1
  have k0 := HK0.out w2 HG2.out
  have c0 := Row.cell HT2.out 0
  have f0 := Row.frozen HT2.out 0
  simp at c0
  go_upto_region 5 with fail
  obtain ⟨w3, h3⟩ : ∃ w3, w3 = w2.setCell ⟨gT, 0, none⟩ (.int .u8 K) := ⟨_, rfl⟩
  rw [← h3]
  have g3 : w2.grownBy w3 (some gT) := h3 ▸ grownBy_setCell _ _ _ _
  have hT3 : Row w3 gT 75 (tkC { noRq with kind := (l.getD 0 0).toNat } (.slice none 0 0) ((0 : Nat) : Int)) := by
    have h := Row.setc HT2.out 0 (.int .u8 K)
    rw [h3]
    have e : (#[.int .u8 0, .int .u8 0, .int .u8 0, .int .u8 0, .int .u8 0, .int .u8 0, .int .u8 0, .int .u8 0, .int .u8 0, .int .u8 0, .int .u8 0, .int .u8 0, .int .u8 0, .int .u8 0, .int .u8 0, .int .u8 0, .int .u8 0, .int .i64 0, .int .i64 0, .int .i64 0, .int .u32 0, .int .i64 0, .slice none 0 0, .int .i64 0] : Array Value).setIfInBounds 0 (.int .u8 K) = tkC { noRq with kind := (l.getD 0 0).toNat } (.slice none 0 0) ((0 : Nat) : Int) := by
      rw [HKK.out]
      simp [tkC, noRq, ix0, List.replicate, bval]
    rw [e] at h
    exact h
  have HT3 := Lib.hid hT3
  have HR3 := Lib.hid (HR2.out.grownNe g3 (by have := HTL.out; omega))
  have HG3 := Lib.hid (grownBy_old HG2.out g3 (by have := HTL.out; omega))
  have c0' : w3.cell? ⟨gT, 0, none⟩ = some (.int .u8 K) := by
    rw [Row.cell hT3 0, HKK.out]
    rfl
  have HTL3 := Lib.hid (show gT < w3.heap.size from HT3.out.lt)
  have HTW := Lib.hid HTL.out.1
  clear h3 g3 hT3 c0 f0 k0 HR2 HT2 HG2 HTL
  go_wp2_with fail
  refine (fields_n K (l.getD 0 0).toNat gT w3 HKK.out).mono ?_
  rintro e w4 ⟨aF, nF, cF, rfl, oF, hF, g4⟩
  have OF := Lib.hid oF
  have HF := Lib.hid hF
  have HG4 := Lib.hid (grownBy_trans HG3.out g4)
  have HT4 := Lib.hid (HT3.out.grown g4)
  have HR4 := Lib.hid (HR3.out.grown g4)
  clear oF hF g4 c0'
  rw [HH.out]
  obtain ⟨FF, hFF⟩ : ∃ FF, FF = fieldsQ (l.getD 0 0).toNat := ⟨_, rfl⟩
  obtain ⟨H0, hH0⟩ : ∃ H0, H0 = headQ (l.getD 0 0).toNat := ⟨_, rfl⟩
  rw [← hFF, ← hH0] at hhs
  rw [← hFF] at OF HF hfl
  rw [← hH0] at HDG HSH hhb
  rw [← hFF] at HDG
  have HHS := Lib.hid hhs
  have hHb : H0 ≤ 34 := hhb.2
  have HHB := Lib.hid hhb.1
  have hnF : nF ≤ 4 := by have := HF.out; omega
  clear hFF hH0 hhs hhb hfl
  go_wp2_with fail
  go_loopw [8, 43] (fun v8 v43 wr => ∃ (hd j : Nat), v8 = .int .i64 (hd : Int) ∧ v43 = .int .i64 (j : Int) ∧ j ≤ nF ∧ hd + sumS (FF.drop j) = H0 ∧ w4.grownBy wr none) (fun _ v _ => nF - (intOf v).toNat)
  case atStart => exact ⟨17, 0, rfl, rfl, by omega, by rw [List.drop_zero, HHS.out], World.grownBy.refl _ _⟩
  case round =>
    obtain ⟨hd, j, rfl, rfl, hj, hs, hg⟩ := hrel
    have HS := Lib.hid hs
    have HG := Lib.hid hg
    clear hg
    by_cases hlt : j < nF
    · have hjl : j < FF.length := by have := HF.out; omega
      obtain ⟨gF, rfl, _⟩ := Own.block OF.out (by have := Own.cap OF.out; omega)
      have HRG := Lib.hid (fields_range (Own.ch OF.out (Ch.ofNone HG.out (fun _ => False)) (fun _ _ _ h => h)) hjl)
      have hsz := (FF[j]).size_le
      have hsd := sumS_drop hjl
      obtain ⟨f, hf⟩ : ∃ f, f = FF[j] := ⟨_, rfl⟩
      rw [← hf] at HRG hsz hsd
      obtain ⟨sz, hsz2⟩ : ∃ sz, sz = f.size := ⟨_, rfl⟩
      rw [← hsz2] at HRG hsz hsd
      have hdb : hd + sz ≤ 34 := by omega
      have HSD := Lib.hid hsd
      clear hsd hs hf hsz2 hjl
      obtain ⟨iF, zF, hiF, hzF, hsF, hcF⟩ := info_field
      go_upto_region 12 with (first
        | (refine wpList_load_mid rfl 81 _ rfl gF (j * 2) rfl [.int .i64 (sz : Int), .func (Fn.func f.fid) #[.pointer (some ⟨gT, 0, none⟩)] #[]] _ HRG.out Try.underlying81 rfl (by rw [size_field]; rfl) ?_)
        | (refine wpList_fresh rfl rfl rfl rfl rfl hiF hzF hsF #[.int .i64 (sz : Int), .func (Fn.func f.fid) #[.pointer (some ⟨gT, 0, none⟩)] #[]] rfl rfl hcF (by simp [Value.oneCell']) ?_; intro w5 hs5 hg5 hr5; have G5 := Lib.hid (grownBy_trans HG.out hg5); have c5 := Row.cell hr5 0; simp at c5; clear hs5 hg5 hr5))
      go_wp2_with fail
      go_roundw
      case rel => exact ⟨hd + sz, j + 1, by first | rfl | go_num, by first | rfl | go_num, by omega, by have h1 := HS.out; have h2 := HSD.out; omega, G5.out⟩
      case measure => simp [intOf]; omega
    · obtain rfl : j = nF := by omega
      have hhd : hd = H0 := by
        rw [List.drop_of_length_le (by have := HF.out; omega)] at hs
        exact hs
      subst hhd
      clear hs HS hlt
      have HG' := Lib.hid (grownBy_trans HG4.out HG.out)
      have HT := Lib.hid (HT4.out.grown HG.out)
      have HR := Lib.hid (HR4.out.grown HG.out)
      have HO := Lib.hid (show Own wr w3.heap.size 81 2 aF j cF (fdC gT FF) from Own.ch OF.out (Ch.ofNone HG.out (fun _ => False)) (fun _ _ _ h => h))
      by_cases hsho : n < hd
      · have e1 : decide ((n : Int) < (hd : Int)) = true := decide_eq_true (by omega)
        have e2 : decide (n < hd) = true := decide_eq_true hsho
        have HD := Lib.hid (HSH.out (by rw [HN.out]; exact hsho))
        go_upto_region 15 with fail
        go_wp2_with (refine wpList_putrow rfl rfl w.heap.size rfl #[.int .u8 0, .int .u8 0, .int .u8 0, .int .u8 0, .int .u8 0, .int .u8 0, .int .u8 0, .int .u8 0, .int .u8 0, .int .u8 0, .int .u8 0, .int .u8 0, .int .u8 0, .int .u8 0, .int .u8 0, .int .u8 0, .int .u8 0, .int .i64 0, .int .i64 0, .int .i64 0, .int .u32 0, .int .i64 0, .slice none 0 0] rfl HR.out (by rw [size_req]; rfl) rfl (by simp [Value.oneCell']) ?_; intro W5 hg5 hr5; have HG5 := Lib.hid hg5; have HR5 := Lib.hid hr5; clear hg5 hr5)
        refine bodyPost_ret (results_ctt rfl _ _ w.heap.size 43 #[.int .u8 0, .int .u8 0, .int .u8 0, .int .u8 0, .int .u8 0, .int .u8 0, .int .u8 0, .int .u8 0, .int .u8 0, .int .u8 0, .int .u8 0, .int .u8 0, .int .u8 0, .int .u8 0, .int .u8 0, .int .u8 0, .int .u8 0, .int .i64 0, .int .i64 0, .int .i64 0, .int .u32 0, .int .i64 0, .slice none 0 0] (0, 0) _ _ _ rfl rfl rfl HR5.out Try.underlying43 rfl (by rw [size_req]; rfl)) rfl ?_
        rw [HD.out, HN.out]
        exact reqP_err (n) _ (rfl) (grownBy_old HG'.out HG5.out (Nat.le_refl _))
      · have e1 : decide ((n : Int) < (hd : Int)) = false := decide_eq_false (by omega)
        have e2 : decide (n < hd) = false := decide_eq_false hsho
        have HD := Lib.hid (HDG.out (by rw [HN.out]; omega))
        have hn17 : 17 ≤ n := by have := HHB.out; omega
        have HNR := Lib.hid (fun W (hW : w.grownBy W none) => newReaderL_n (midA (some ⟨b, off, none⟩) 1 c) (c - 1) (n - 1) (l.drop 1) W (suf_lies (HL.out.grown hW) 1 c (by have := HN.out; omega) (by have := HN.out; omega)) (by rw [List.length_drop, HN.out]) (by omega))
        go_upto_region 17 with (first
          | (refine wpList_valp rfl (run_suf_op3 _ _ (.tmp 59) _ rfl (some ⟨b, off, none⟩) n c 1 (n - 1) rfl rfl (by omega) rfl) ?_)
          | (go_at_call 30; refine (HNR.out wr HG'.out).mono ?_; rintro e w5 ⟨gR, la, lc, rfl, hgR, rd, g, hbl⟩; have HGR := Lib.hid hgR; have RD := Lib.hid rd; have G5 := Lib.hid g; have HBL := Lib.hid hbl; clear hgR rd g hbl))
        obtain ⟨bR, oR, hla⟩ := BLies.addr RD.out.lies (by rw [List.length_drop, HN.out]; omega)
        subst hla
        have hbR := HBL.out (by omega) bR oR rfl
        have HBR := Lib.hid hbR
        have HRA := Lib.hid (show RA w5 gR bR false (l.drop 1) from ⟨_, _, _, RD.out, fun _ x o e => by injection e with e; injection e with e1; exact e1.symm, by omega⟩)
        have HT5 := Lib.hid (HT.out.grown G5.out)
        have HR5' := Lib.hid (HR.out.grown G5.out)
        have HG5' := Lib.hid (grownBy_trans HG'.out G5.out)
        have HO5 := Lib.hid (show Own w5 w3.heap.size 81 2 aF j cF (fdC gT FF) from Own.ch HO.out (Ch.ofNone G5.out (fun _ => False)) (fun _ _ _ h => h))
        have HOB := Lib.hid (show ∀ y, In aF cF y → w3.heap.size ≤ y ∧ y < wr.heap.size from fun y hy => Own.inn HO.out hy)
        have HTR := Lib.hid (show gT < wr.heap.size from HT.out.lt)
        clear hbR
        go_wp2_with fail
        refine (bytesA 16 HRA.out).mono ?_
        rintro e w6 ⟨a16, n16, c16, rfl, o16, hra, g6⟩
        have h16 : (16 : Int) = ((16 : Nat) : Int) := rfl
        have hlen1 : 16 ≤ (l.drop 1).length := by rw [List.length_drop, HN.out]; omega
        have hp16 : pD false (l.drop 1) 16 = seg l 1 16 := by
          unfold pD
          rw [h16, okD_yes hlen1, if_pos rfl]
          rfl
        have hf16 : fD false (l.drop 1) 16 = false := by rw [h16]; exact (numD_yes hlen1).2.1
        have hr16 : remD false (l.drop 1) 16 = l.drop 17 := by rw [h16, (numD_yes hlen1).2.2, List.drop_drop]
        rw [hf16, hr16] at hra
        rw [hp16] at o16
        have hsl : (seg l 1 16).length = 16 := seg_len (by rw [HN.out]; omega)
        have hn16 : n16 = 16 := by rw [← o16.len, hsl]
        subst hn16
        obtain ⟨g16, rfl, hg16a, hg16b⟩ := Own.block o16 (by have := Own.cap o16; omega)
        have HRG16 := Lib.hid (show w6.rangeAt g16 0 ((seg l 1 16).map bval) from fun i v hi => by
          obtain ⟨hk, hv⟩ := List.getElem?_eq_some_iff.1 hi
          obtain ⟨g', e, _, _, hc', _⟩ := Own.cell o16 i hk
          injection e with e
          injection e with e1
          subst e1
          rw [Nat.zero_add, hc', hv])
        have HSL := Lib.hid hsl
        have HRA6 := Lib.hid hra
        have HT6 := Lib.hid (HT5.out.grownNe g6 (by have h1 := HGR.out; have h2 := HTR.out; omega))
        have HC6 := Lib.hid (show Ch (fun x => x = gT ∨ x = gR) w5 w6 from Ch.ofSome g6 (.inr rfl))
        clear h16 hlen1 hp16 hf16 hr16 hra hsl o16 hg16a hg16b g6
        go_upto_region 18 with (first
          | (refine wpList_valp rfl (run_arrptr16 _ _ (.tmp 64) rfl (some ⟨g16, 0, none⟩) c16 rfl) ?_)
          | (refine wpList_load_mid rfl 38 _ rfl g16 0 rfl ((seg l 1 16).map bval) _ HRG16.out Try.underlying38 rfl (by rw [size_ix, List.length_map, HSL.out]) ?_)
          | (refine wpList_store_mid rfl 38 (.tmp 69) (.tmp 66) rfl gT 1 ((seg l 1 16).map bval).toArray rfl rfl (by rw [List.size_toArray, List.length_map, HSL.out]; exact tk_there HT6.out rfl) (by rw [size_ix, List.size_toArray, List.length_map, HSL.out]) (all_oneCell_toArray (fun v hv => by obtain ⟨x, _, rfl⟩ := List.mem_map.1 hv; rfl)) ?_; show wpList _ _ _ _ _ (w6.setCells gT 1 ((seg l 1 16).map bval)); obtain ⟨w7, h7⟩ : ∃ w7, w7 = w6.setCells gT 1 ((seg l 1 16).map bval) := ⟨_, rfl⟩; rw [← h7]; have H7 := Lib.hid h7; clear h7))
        have g7 : w6.grownBy w7 (some gT) := H7.out ▸ grownBy_setCellsR _ _ _ _
        have HT7 := Lib.hid (show Row w7 gT 75 (tkC (q0 l) (.slice none 0 0) ((0 : Nat) : Int)) from by
          have h := Row.setcs gT 75 ((seg l 1 16).map bval) 1 w6 _ HT6.out
          rw [tk_ix _ _ _ _ rfl HSL.out] at h
          rw [H7.out]
          exact h)
        have HC7 := Lib.hid (show Ch (fun x => x = gT ∨ x = gR) w5 w7 from HC6.out.trans (Ch.ofSome (S := fun x => x = gT) g7 rfl) (fun _ _ h => .inl h))
        have HRA7 := Lib.hid (HRA6.out.ch (Ch.ofSome (S := fun x => x = gT) g7 rfl) (fun h => by have h1 := HGR.out; have h2 := HTR.out; omega) (fun h => by have h1 := HBR.out; have h2 := HTR.out; omega))
        have HR7 := Lib.hid (HR5'.out.ch HC7.out (fun h => by have h1 := HTW.out; have h2 := HGR.out; have h3 := HTR.out; omega))
        have HO7 := Lib.hid (show Own w7 w3.heap.size 81 2 aF j cF (fdC gT FF) from Own.ch HO5.out HC7.out (fun h0 y e h => by have h1 := HOB.out y ⟨h0, e⟩; have h2 := HTL3.out; have h3 := HGR.out; omega))
        have HG7 := Lib.hid (Ch.fresh HG5'.out HC7.out (fun y hy h => by have h1 := HTW.out; have h2 := HGR.out; have h3 := HTR.out; omega))
        have HTG := Lib.hid (show gT ≠ gR ∧ gT ≠ bR ∧ w.heap.size ≠ gT ∧ w.heap.size ≠ gR ∧ w.heap.size < gT ∧ w.heap.size < gR from by have h1 := HTW.out; have h2 := HGR.out; have h3 := HTR.out; have h4 := HBR.out; omega)
        have HOB2 := Lib.hid (show ∀ y, In aF cF y → y ≠ gT ∧ y ≠ gR from fun y hy => by have h1 := HOB.out y hy; have h2 := HTL3.out; have h3 := HGR.out; omega)
        clear g7 H7 HT6 HC6 HC7 HRA6 HRG16 HO5 HT5 HR5' HOB HO HT HR HG' HG5'
        go_wp2_with fail
        go_loopw [12, 72] (fun v12 v72 wz => ∃ (p i : Nat) (q : Rq) (r : Nat), v12 = .int .i64 (p : Int) ∧ v72 = .int .i64 (i : Int) ∧ i ≤ j ∧ p + sumS (FF.drop i) = hd ∧ q.ix.length = 16 ∧ r ≤ 4294967296 ∧ Row wz gT 75 (tkC q (.slice none 0 0) (r : Nat)) ∧ RA wz gR bR false (l.drop p) ∧ Ch (fun x => x = gT ∨ x = gR) w7 wz ∧ runF l FF (q0 l, 0) 17 = runF l (FF.drop i) (q, r) p) (fun _ v _ => j - (intOf v).toNat)
        case atStart => exact ⟨17, 0, q0 l, 0, rfl, rfl, by omega, by rw [List.drop_zero, HHS.out], HSL.out, by omega, HT7.out, HRA7.out, Ch.refl _ _, by rw [List.drop_zero]⟩
        case round =>
          obtain ⟨p, i, q, r, rfl, rfl, hi, hs, hqx, hr, hT, hRA, hC, hrun⟩ := hrel
          have HTz := Lib.hid hT
          have HRz := Lib.hid hRA
          have HCz := Lib.hid hC
          have HRUN := Lib.hid hrun
          have HS := Lib.hid hs
          clear hT hRA hC hrun hs
          by_cases hlt : i < j
          · have hjl : i < FF.length := by have := HF.out; omega
            obtain ⟨gF, rfl, _⟩ := Own.block HO7.out (by have := Own.cap HO7.out; omega)
            have hCz := HCz.out
            have HRG := Lib.hid (fields_range (Own.ch HO7.out hCz (fun h0 y e h => by have := HOB2.out y ⟨h0, e⟩; omega)) hjl)
            have hsz := (FF[i]).size_le
            have hsd := sumS_drop hjl
            have hrd := runF_drop (b := l) (s := (q, r)) (p := p) hjl
            obtain ⟨f, hf⟩ : ∃ f, f = FF[i] := ⟨_, rfl⟩
            rw [← hf] at HRG hsz hsd hrd
            have hsl2 : f.size ≤ (l.drop p).length := by rw [List.length_drop, HN.out]; have := HS.out; omega
            have HTK := Lib.hid (fun W (hT : Row W gT 75 (tkC q (.slice none 0 0) (r : Nat))) (hR : RA W gR bR false (l.drop p)) => take_t f q r (.slice none 0 0) gT gR bR (l.drop p) W hqx hT hR ⟨HTG.out.1, HTG.out.2.1⟩ hsl2)
            have hXlt : getN l p f.size < 256 ^ f.size := getN_le
            have hput := put_rest f (q, r) _ hr hXlt
            have hpix := f.put_ix (q, r) (getN l p f.size)
            obtain ⟨sz, hsz2⟩ : ∃ sz, sz = f.size := ⟨_, rfl⟩
            rw [← hsz2] at HRG hsz hsd
            have hdb : p + sz ≤ 34 := by have := HS.out; omega
            have HSD := Lib.hid hsd
            have HRD := Lib.hid hrd
            have HSZ := Lib.hid hsz2
            have HPUT := Lib.hid hput
            have HPIX := Lib.hid hpix
            have HQX := Lib.hid hqx
            have HENT := Lib.hid (fid_enters f)
            clear hsd hf hsz2 hjl hrd hsl2 hXlt hput hpix hqx hCz
            obtain ⟨iF, zF, hiF, hzF, hsF, hcF⟩ := info_field
            go_upto_region 22 with (first
              | (refine wpList_load_mid rfl 81 _ rfl gF (i * 2) rfl [.int .i64 (sz : Int), .func (Fn.func f.fid) #[.pointer (some ⟨gT, 0, none⟩)] #[]] _ HRG.out Try.underlying81 rfl (by rw [size_field]; rfl) ?_)
              | (refine wpList_fresh rfl rfl rfl rfl rfl hiF hzF hsF #[.int .i64 (sz : Int), .func (Fn.func f.fid) #[.pointer (some ⟨gT, 0, none⟩)] #[]] rfl rfl hcF (by simp [Value.oneCell']) ?_; intro w9 hs9 hg9 hr9; have G9 := Lib.hid hg9; have HR9 := Lib.hid hr9; have HZ9 := Lib.hid hs9; clear hs9 hg9 hr9))
            obtain ⟨b9, hb9⟩ : ∃ b9, b9 = wr.heap.size := ⟨_, rfl⟩
            have HB9 := Lib.hid (show gT < b9 ∧ gR < b9 from by rw [hb9]; exact ⟨HTz.out.lt, HRz.out.lt⟩)
            rw [← hb9] at HR9 ⊢
            clear hb9 HZ9
            have k1 := Row.cell HR9.out 1
            simp at k1
            have HTK9 := Lib.hid (HTK.out w9 (HTz.out.grown G9.out) (HRz.out.ch (Ch.ofNone G9.out (fun _ => False)) (fun h => h) (fun h => h)))
            have hent : ∀ args W, (callFunc f.fid args).run Try.prog W = .ok (.enter f.fid args) W := HENT.out
            go_wp2_with fail
            refine HTK9.out.mono ?_
            rintro e w10 ⟨he, hT10, hR10, hC10⟩
            have hX : smallL ((l.drop p).take f.size) = getN l p f.size := rfl
            rw [hX] at he hT10
            have HT10 := Lib.hid hT10
            have HR10 := Lib.hid hR10
            have HC10 := Lib.hid ((HCz.out.then G9.out).trans hC10 (fun _ _ h => h))
            have k0 := Row.cell (HR9.out.ch hC10 (fun h => by have := HB9.out; omega)) 0
            simp at k0
            clear hT10 hR10 hC10 k1 hent hX
            by_cases hok : f.ok (getN l p f.size) = true
            · rw [hok] at he
              subst he
              have HOK := Lib.hid hok
              clear hok
              go_wp2_with fail
              go_roundw
              case rel =>
                refine ⟨p + sz, i + 1, (f.put (q, r) (getN l p f.size)).1, (f.put (q, r) (getN l p f.size)).2, by first | rfl | go_num, by first | rfl | go_num, by omega, by have h1 := HS.out; have h2 := HSD.out; omega, by rw [HPIX.out]; exact HQX.out, HPUT.out, HT10.out, ?_, HC10.out, ?_⟩
                · have h := HR10.out
                  rw [List.drop_drop, ← HSZ.out] at h
                  exact h
                · rw [HRUN.out, HRD.out, if_pos HOK.out, HSZ.out]
              case measure => simp [intOf]; omega
            · have hnok : f.ok (getN l p f.size) = false := by simpa using hok
              rw [hnok] at he
              subst he
              have HOK := Lib.hid hok
              clear hok hnok
              have HRF := Lib.hid (HR7.out.ch HC10.out (fun h => by have := HTG.out; omega))
              have HGF := Lib.hid (Ch.fresh HG7.out HC10.out (fun y hy h => by have := HTG.out; omega))
              go_upto_region 23 with fail
              go_wp2_with (refine wpList_putrow rfl rfl w.heap.size rfl #[.int .u8 0, .int .u8 0, .int .u8 0, .int .u8 0, .int .u8 0, .int .u8 0, .int .u8 0, .int .u8 0, .int .u8 0, .int .u8 0, .int .u8 0, .int .u8 0, .int .u8 0, .int .u8 0, .int .u8 0, .int .u8 0, .int .u8 0, .int .i64 0, .int .i64 0, .int .i64 0, .int .u32 0, .int .i64 0, .slice none 0 0] rfl HRF.out (by rw [size_req]; rfl) rfl (by simp [Value.oneCell']) ?_; intro W5 hg5 hr5; have HG5 := Lib.hid hg5; have HR5 := Lib.hid hr5; clear hg5 hr5)
              refine bodyPost_ret (results_ctt rfl _ _ w.heap.size 43 #[.int .u8 0, .int .u8 0, .int .u8 0, .int .u8 0, .int .u8 0, .int .u8 0, .int .u8 0, .int .u8 0, .int .u8 0, .int .u8 0, .int .u8 0, .int .u8 0, .int .u8 0, .int .u8 0, .int .u8 0, .int .u8 0, .int .u8 0, .int .i64 0, .int .i64 0, .int .i64 0, .int .u32 0, .int .i64 0, .slice none 0 0] (0, 0) _ _ _ rfl rfl rfl HR5.out Try.underlying43 rfl (by rw [size_req]; rfl)) rfl ?_
              rw [HD.out, HRUN.out, HRD.out, if_neg HOK.out]
              exact reqP_err (p) _ (rfl) (grownBy_old HGF.out HG5.out (Nat.le_refl _))
          · obtain rfl : i = j := by omega
            have hp : p = hd := by
              have hs := HS.out
              rw [List.drop_of_length_le (by have := HF.out; omega)] at hs
              exact hs
            subst hp
            have hrun : runF l FF (q0 l, 0) 17 = .ok (q, r) := by
              rw [HRUN.out, List.drop_of_length_le (by have := HF.out; omega)]
              rfl
            have hdd : decQ l = endQ l p r q := by
              rw [HD.out, hrun]
              rfl
            have HDD := Lib.hid hdd
            have HQX := Lib.hid hqx
            have HRz' := Lib.hid (HR7.out.ch HCz.out (fun h => by have := HTG.out; omega))
            have HGz := Lib.hid (Ch.fresh HG7.out HCz.out (fun y hy h => by have := HTG.out; omega))
            clear hrun hdd hqx
            have k6 := tk_cell HTz.out HQX.out 6
            simp at k6
            by_cases hnr : n = p + r
            · have hne2 : ((n : Int) != (p : Int) + (r : Int)) = false := by rw [bne_eq_false_iff_eq]; omega
              have HNR2 := Lib.hid hnr
              have HCL := Lib.hid (fun W (hW : w.grownBy W none) => cloneL_n (midA (some ⟨b, off, none⟩) p c) (c - p) r (l.drop p) W (suf_lies (HL.out.grown hW) p c (by have := HN.out; omega) (by have := HN.out; omega)) (by rw [List.length_drop, HN.out]; omega) (by omega))
              have HSUB := Lib.hid (show p ≤ n ∧ n - p = r from ⟨by omega, by omega⟩)
              clear hnr
              go_upto_region 28 with fail
              clear hne2
              go_wp2_with (refine wpList_valp rfl (run_suf_op3 _ _ (.tmp 108) (.tmp 109) rfl (some ⟨b, off, none⟩) n c p r rfl rfl HSUB.out.1 HSUB.out.2) ?_)
              refine (HCL.out wr HGz.out).mono ?_
              rintro e w11 ⟨a', c', rfl, o11, g11⟩
              have HT11 := Lib.hid (HTz.out.grown g11)
              have HR11 := Lib.hid (HRz'.out.grown g11)
              have HG11 := Lib.hid (grownBy_trans HGz.out g11)
              have O11 := Lib.hid o11
              have k5 := tk_cell HT11.out HQX.out 5
              have f5 := Row.frozen HT11.out 22
              have HLT := Lib.hid (show gT < wr.heap.size from HTz.out.lt)
              simp at k5
              clear o11 g11 k6
              go_upto_region 29 with fail
              obtain ⟨w12, h12⟩ : ∃ w12, w12 = w11.setCell ⟨gT, 22, none⟩ (.slice a' r c') := ⟨_, rfl⟩
              rw [← h12]
              have g12 : w11.grownBy w12 (some gT) := h12 ▸ grownBy_setCell _ _ _ _
              have hT12 : Row w12 gT 75 (tkC q (.slice a' r c') (r : Nat)) := by
                have h := Row.setc HT11.out 22 (.slice a' r c')
                rw [show 22 = 17 + 5 from rfl, tk_set _ _ _ HQX.out] at h
                rw [h12]
                exact h
              have HT12 := Lib.hid hT12
              have HR12 := Lib.hid (HR11.out.grownNe g12 (by have := HTG.out; omega))
              have HG12 := Lib.hid (grownBy_old HG11.out g12 (by have := HTG.out; omega))
              have O12 := Lib.hid (show BOwn w12 wr.heap.size a' r c' (l.drop p) from Own.ch O11.out (Ch.ofSome (S := fun x => x = gT) g12 rfl) (fun h0 y e h => by
                have h1 := (Own.inn O11.out (g := y) ⟨h0, e⟩).1
                have h2 := HLT.out
                omega))
              clear h12 g12 hT12 k5 f5 HT11 HR11 HG11 O11
              go_wp2_with (first
                | (refine wpList_load_mid rfl 43 _ rfl gT 0 rfl (rqC q (.slice a' r c')).toList _ (tk_range HT12.out HQX.out) Try.underlying43 rfl (by rw [size_req]; exact congrArg some (rq_len q _ HQX.out).symm) ?_)
                | (refine wpList_putrow rfl rfl w.heap.size rfl (rqC q (.slice a' r c')) rfl HR12.out (by rw [size_req]; exact congrArg some (rq_len q _ HQX.out).symm) (rq_len q _ HQX.out).symm (rq_one _ _ _ _) ?_; intro W5 hg5 hr5; have HG5 := Lib.hid hg5; have HR5 := Lib.hid hr5; clear hg5 hr5))
              refine bodyPost_ret (results_ctt rfl _ _ w.heap.size 43 (rqC q (.slice a' r c')) (0, 0) _ _ _ rfl rfl rfl HR5.out Try.underlying43 rfl (by rw [size_req]; exact congrArg some (rq_len q _ HQX.out).symm)) rfl ?_
              rw [HDD.out, endQ_ok (by rw [HN.out]; exact HNR2.out)]
              have ho5 := Own.ch O12.out (Ch.ofSome (S := fun k => k = w.heap.size) HG5.out rfl) (fun h0 y e h => by
                have h1 := (Own.inn O12.out (g := y) ⟨h0, e⟩).1
                have h2 := HGz.out.size
                have h3 := HTG.out
                have h4 := HLT.out
                omega)
              exact ⟨a', r, c', rfl, Own.mono ho5 HGz.out.size, grownBy_old HG12.out HG5.out (Nat.le_refl _)⟩
            · have hne2 : ((n : Int) != (p : Int) + (r : Int)) = true := by rw [bne_iff_ne]; omega
              have HWR := Lib.hid (show IntKind.i64.wrap ((p : Int) + (r : Int)) = (p : Int) + (r : Int) from IntWalk.i64_in _ (by omega))
              by_cases hnl : n < p + r
              · have hif : (if (p : Int) + (r : Int) < (n : Int) then (p : Int) + (r : Int) else (n : Int)) = (n : Int) := by split <;> omega
                go_upto_region 27 with fail
                refine wp_normalR ?_
                refine wp_regionX (SR w.heap.size wr) 12 (by kernel_rfl) ⟨Ch.ofNone (grownBy_drewN wr 1 none) _, _, HRz'.out.grown (grownBy_drewN wr 1 none), rfl⟩ ?_
                refine wpX_take 0 (v := .agg #[.int .u8 0, .int .u8 0, .int .u8 0, .int .u8 0, .int .u8 0, .int .u8 0, .int .u8 0, .int .u8 0, .int .u8 0, .int .u8 0, .int .u8 0, .int .u8 0, .int .u8 0, .int .u8 0, .int .u8 0, .int .u8 0, .int .u8 0, .int .i64 0, .int .i64 0, .int .i64 0, .int .u32 0, .int .i64 0, .slice none 0 0]) (oi := { dst := some 97, op := Op.build 43 #[], type := 43, pos := "wire.go:162", after := #[], guard := none }) (oL := oLRequest0) (clo_SR _ _) rfl rfl rfl (by kernel_rfl) (by kernel_rfl) (by kernel_rfl) (by kernel_rfl) (by kernel_rfl) (fun _ _ _ h => by cases h.1) (YG.val (by rfl) (fun _ _ => by go_simp)) ?_
                simp only [Act.put, List.setIfInBounds_toArray, List.set_cons_zero, List.set_cons_succ]
                refine wpX_take 1 (v := .slice (some ⟨b, off, none⟩) n c) (oi := { dst := some 98, op := Op.move (Operand.tmp 0), type := 24, pos := "wire.go:162", after := #[], guard := none }) (oL := oLRequest0) (clo_SR _ _) rfl rfl rfl (by kernel_rfl) (by kernel_rfl) (by kernel_rfl) (by kernel_rfl) (by kernel_rfl) (fun _ _ _ h => by cases h.1) (YG.val (by rfl) (fun _ _ => by go_simp)) ?_
                simp only [Act.put, List.setIfInBounds_toArray, List.set_cons_zero, List.set_cons_succ]
                refine wpX_take 2 (v := .int .i64 (n : Int)) (oi := { dst := some 99, op := Op.call { callee := Callee.builtin Builtin.len, args := #[Operand.tmp 98], argTypes := #[24] }, type := 3, pos := "wire.go:162", after := #[{ on := 1, ground := Ground.data }], guard := none }) (oL := oLRequest0) (clo_SR _ _) rfl rfl rfl (by kernel_rfl) (by kernel_rfl) (by kernel_rfl) (by kernel_rfl) (by kernel_rfl) (fun _ _ _ h => by cases h.1) (YG.val (by rfl) (fun _ _ => by go_simp)) ?_
                simp only [Act.put, List.setIfInBounds_toArray, List.set_cons_zero, List.set_cons_succ]
                refine wpX_take 3 (v := .int .i64 (p : Int)) (oi := { dst := some 100, op := Op.move (Operand.tmp 12), type := 3, pos := "wire.go:162", after := #[], guard := none }) (oL := oLRequest0) (clo_SR _ _) rfl rfl rfl (by kernel_rfl) (by kernel_rfl) (by kernel_rfl) (by kernel_rfl) (by kernel_rfl) (fun _ _ _ h => by cases h.1) (YG.val (by rfl) (fun _ _ => by go_simp)) ?_
                simp only [Act.put, List.setIfInBounds_toArray, List.set_cons_zero, List.set_cons_succ]
                refine wpX_take 4 (v := .pointer (some ⟨gT, 0, none⟩)) (oi := { dst := some 101, op := Op.move (Operand.tmp 5), type := 73, pos := "wire.go:162", after := #[], guard := none }) (oL := oLRequest0) (clo_SR _ _) rfl rfl rfl (by kernel_rfl) (by kernel_rfl) (by kernel_rfl) (by kernel_rfl) (by kernel_rfl) (fun _ _ _ h => by cases h.1) (YG.val (by rfl) (fun _ _ => by go_simp)) ?_
                simp only [Act.put, List.setIfInBounds_toArray, List.set_cons_zero, List.set_cons_succ]
                refine wpX_take 5 (v := .pointer (some ⟨gT, 0, none⟩)) (oi := { dst := some 102, op := Op.nilCheck (Operand.tmp 101), type := 0, pos := "wire.go:162", after := #[{ on := 4, ground := Ground.data }], guard := none }) (oL := oLRequest0) (clo_SR _ _) rfl rfl rfl (by kernel_rfl) (by kernel_rfl) (by kernel_rfl) (by kernel_rfl) (by kernel_rfl) (fun _ _ _ h => by cases h.1) (YG.val (by rfl) (fun _ _ => by go_simp)) ?_
                simp only [Act.put, List.setIfInBounds_toArray, List.set_cons_zero, List.set_cons_succ]
                refine wpX_take 6 (v := .pointer (some ⟨gT, 23, none⟩)) (oi := { dst := some 103, op := Op.fieldAddr 75 (Operand.tmp 102) 1, type := 0, pos := "wire.go:162", after := #[{ on := 5, ground := Ground.data }], guard := none }) (oL := oLRequest0) (clo_SR _ _) rfl rfl rfl (by kernel_rfl) (by kernel_rfl) (by kernel_rfl) (by kernel_rfl) (by kernel_rfl) (fun _ _ _ h => by cases h.1) (YG.val (by rfl) (fun _ _ => by go_simp)) ?_
                simp only [Act.put, List.setIfInBounds_toArray, List.set_cons_zero, List.set_cons_succ]
                refine wpX_take 7 (v := .int .i64 (r : Int)) (oi := { dst := some 104, op := Op.load 3 (Operand.tmp 103), type := 3, pos := "wire.go:162", after := #[{ on := 6, ground := Ground.data }], guard := none }) (oL := oLRequest0) (clo_SR _ _) rfl rfl rfl (by kernel_rfl) (by kernel_rfl) (by kernel_rfl) (by kernel_rfl) (by kernel_rfl) (fun _ _ _ h => by cases h.1) (YG.val (by rfl) (fun u hu => by have c := tk_cell (HTz.out.ch hu.1 (fun h => by have := HTG.out; omega)) HQX.out 6; simp at c; go_simp)) ?_
                simp only [Act.put, List.setIfInBounds_toArray, List.set_cons_zero, List.set_cons_succ]
                refine wpX_take 8 (v := .int .i64 ((p : Int) + (r : Int))) (oi := { dst := some 105, op := Op.binOp BinOp.add 3 (Operand.tmp 100) (Operand.tmp 104) 3, type := 3, pos := "wire.go:162", after := #[{ on := 3, ground := Ground.data }, { on := 7, ground := Ground.data }], guard := none }) (oL := oLRequest0) (clo_SR _ _) rfl rfl rfl (by kernel_rfl) (by kernel_rfl) (by kernel_rfl) (by kernel_rfl) (by kernel_rfl) (fun _ _ _ h => by cases h.1) (YG.val (by rfl) (fun _ _ => by have hw := HWR.out; go_simp)) ?_
                simp only [Act.put, List.setIfInBounds_toArray, List.set_cons_zero, List.set_cons_succ]
                refine wpX_take 9 (v := .int .i64 (n : Int)) (oi := { dst := some 106, op := Op.call { callee := Callee.builtin Builtin.min, args := #[Operand.tmp 99, Operand.tmp 105], argTypes := #[3, 3] }, type := 3, pos := "wire.go:162", after := #[{ on := 2, ground := Ground.data }, { on := 8, ground := Ground.data }], guard := none }) (oL := oLRequest0) (clo_SR _ _) rfl rfl rfl (by kernel_rfl) (by kernel_rfl) (by kernel_rfl) (by kernel_rfl) (by kernel_rfl) (fun _ _ _ h => by cases h.1) (YG.val (by rfl) (fun _ _ => by go_simp)) ?_
                simp only [Act.put, List.setIfInBounds_toArray, List.set_cons_zero, List.set_cons_succ]
                refine wpX_step 10 (o := { dst := none, op := Op.store 43 (Operand.tmp 2) (Operand.tmp 97), type := 0, pos := "wire.go:162", after := #[{ on := 0, ground := Ground.data }, { on := 0, ground := Ground.phase }, { on := 1, ground := Ground.textOnly Departure.lateStores }, { on := 2, ground := Ground.textOnly Departure.lateStoresUnsure }, { on := 3, ground := Ground.textOnly Departure.lateStores }, { on := 4, ground := Ground.textOnly Departure.lateStores }, { on := 5, ground := Ground.textOnly Departure.lateStores }, { on := 6, ground := Ground.textOnly Departure.lateStores }, { on := 7, ground := Ground.textOnly Departure.lateStores }, { on := 8, ground := Ground.textOnly Departure.lateStores }, { on := 9, ground := Ground.textOnly Departure.lateStoresUnsure }], guard := none }) rfl rfl (by kernel_rfl) (by rfl) (fun u2 hS2 K2 hK2 => ?_)
                have HK2 := Lib.hid hK2
                have HS2 := Lib.hid hS2
                clear hK2 hS2
                obtain ⟨cs, hcs, hcz⟩ := HS2.out.2
                refine wp_store_row 43 _ _ rfl w.heap.size #[.int .u8 0, .int .u8 0, .int .u8 0, .int .u8 0, .int .u8 0, .int .u8 0, .int .u8 0, .int .u8 0, .int .u8 0, .int .u8 0, .int .u8 0, .int .u8 0, .int .u8 0, .int .u8 0, .int .u8 0, .int .u8 0, .int .u8 0, .int .i64 0, .int .i64 0, .int .i64 0, .int .u32 0, .int .i64 0, .slice none 0 0] rfl rfl 43 _ hcs (by rw [size_req]; rfl) hcz (by simp [Value.oneCell']) ?_
                obtain ⟨u3, h3⟩ : ∃ u3, u3 = u2.setRow w.heap.size #[.int .u8 0, .int .u8 0, .int .u8 0, .int .u8 0, .int .u8 0, .int .u8 0, .int .u8 0, .int .u8 0, .int .u8 0, .int .u8 0, .int .u8 0, .int .u8 0, .int .u8 0, .int .u8 0, .int .u8 0, .int .u8 0, .int .u8 0, .int .i64 0, .int .i64 0, .int .i64 0, .int .u32 0, .int .i64 0, .slice none 0 0] := ⟨_, rfl⟩
                rw [← h3]
                have g3 : u2.grownBy u3 (some w.heap.size) := h3 ▸ grownBy_setRow _ _ _
                have hr3 : Row u3 w.heap.size 43 #[.int .u8 0, .int .u8 0, .int .u8 0, .int .u8 0, .int .u8 0, .int .u8 0, .int .u8 0, .int .u8 0, .int .u8 0, .int .u8 0, .int .u8 0, .int .u8 0, .int .u8 0, .int .u8 0, .int .u8 0, .int .u8 0, .int .u8 0, .int .i64 0, .int .i64 0, .int .i64 0, .int .u32 0, .int .i64 0, .slice none 0 0] := h3 ▸ setRow_heap _ _ _ _ _ _ hcs
                have HC3 := Lib.hid (show Ch (fun x => x = w.heap.size) wr u3 from HS2.out.1.trans (Ch.ofSome (S := fun x => x = w.heap.size) g3 rfl) (fun _ _ h => h))
                refine HK2.out (fun u => SR w.heap.size wr u ∧ Row u w.heap.size 43 #[.int .u8 0, .int .u8 0, .int .u8 0, .int .u8 0, .int .u8 0, .int .u8 0, .int .u8 0, .int .u8 0, .int .u8 0, .int .u8 0, .int .u8 0, .int .u8 0, .int .u8 0, .int .u8 0, .int .u8 0, .int .u8 0, .int .u8 0, .int .i64 0, .int .i64 0, .int .i64 0, .int .u32 0, .int .i64 0, .slice none 0 0]) _ _ ⟨⟨HC3.out, _, hr3, rfl⟩, hr3⟩ (fun u h => h.1) (clo_and (clo_SR _ _) (fun u u' h g => h.grown g)) ?_
                simp only [Act.put]
                clear HK2 HS2 hcs hcz h3 g3 hr3 HC3
                refine wpX_take 11 (v := .int .i64 (n : Int)) (oi := { dst := some 3, op := Op.assign (Operand.tmp 106), type := 3, pos := "wire.go:162", after := #[{ on := 9, ground := Ground.data }, { on := 10, ground := Ground.chain }, { on := 0, ground := Ground.phase }, { on := 1, ground := Ground.phase }, { on := 2, ground := Ground.phase }, { on := 3, ground := Ground.phase }, { on := 4, ground := Ground.phase }, { on := 5, ground := Ground.phase }, { on := 6, ground := Ground.phase }, { on := 7, ground := Ground.phase }, { on := 8, ground := Ground.phase }, { on := 9, ground := Ground.phase }, { on := 10, ground := Ground.phase }], guard := none }) (oL := oLRequest0) (clo_and (clo_SR _ _) (fun u u' h g => h.grown g)) rfl rfl rfl (by kernel_rfl) (by kernel_rfl) (by kernel_rfl) (by kernel_rfl) (by kernel_rfl) (fun _ _ _ h => by cases h.1) (YG.val (by rfl) (fun _ _ => by go_simp)) ?_
                simp only [Act.put, List.setIfInBounds_toArray, List.set_cons_zero, List.set_cons_succ]
                refine wpX_last (oL := { dst := some 4, op := Op.assign (Operand.const (Value.int IntKind.i64 200)), type := 28, pos := "wire.go:162", after := #[{ on := 11, ground := Ground.chain }, { on := 0, ground := Ground.phase }, { on := 1, ground := Ground.phase }, { on := 2, ground := Ground.phase }, { on := 3, ground := Ground.phase }, { on := 4, ground := Ground.phase }, { on := 5, ground := Ground.phase }, { on := 6, ground := Ground.phase }, { on := 7, ground := Ground.phase }, { on := 8, ground := Ground.phase }, { on := 9, ground := Ground.phase }, { on := 10, ground := Ground.phase }, { on := 11, ground := Ground.phase }], guard := none }) rfl (by kernel_rfl) (by kernel_rfl) (by rfl) (fun u4 hS4 K4 hK4 => ?_)
                refine wp_val_op (v := .int .i64 200) (w1 := u4) (by go_simp) (hK4 _ _ ?_)
                simp only [Act.put, List.setIfInBounds_toArray, List.set_cons_zero, List.set_cons_succ]
                refine ⟨by first | rfl | trivial, ?_⟩
                obtain ⟨w11, h11⟩ : ∃ w11, w11 = u4 := ⟨_, rfl⟩
                rw [← h11] at hS4 ⊢
                have HRE := Lib.hid hS4.2
                have HGE := Lib.hid (show w.grownBy w11 (some w.heap.size) from ((Ch.ofNone HGz.out (fun x => x = w.heap.size)).trans hS4.1.1 (fun _ _ h => h)).some' (fun k _ h => h))
                clear hS4 hK4 h11
                go_wp2_with fail
                refine bodyPost_ret (results_ctt rfl _ _ w.heap.size 43 #[.int .u8 0, .int .u8 0, .int .u8 0, .int .u8 0, .int .u8 0, .int .u8 0, .int .u8 0, .int .u8 0, .int .u8 0, .int .u8 0, .int .u8 0, .int .u8 0, .int .u8 0, .int .u8 0, .int .u8 0, .int .u8 0, .int .u8 0, .int .i64 0, .int .i64 0, .int .i64 0, .int .u32 0, .int .i64 0, .slice none 0 0] (0, 0) _ _ _ rfl rfl rfl HRE.out Try.underlying43 rfl (by rw [size_req]; rfl)) rfl ?_
                rw [HDD.out]
                unfold endQ
                rw [if_pos (by rw [HN.out]; omega)]
                exact reqP_err _ _ (by rw [HN.out]; omega) (grownBy_none HGE.out (fun g e => by injection e with e; omega))
              · have hif : (if (p : Int) + (r : Int) < (n : Int) then (p : Int) + (r : Int) else (n : Int)) = (p : Int) + (r : Int) := by split <;> omega
                go_upto_region 27 with fail
                refine wp_normalR ?_
                refine wp_regionX (SR w.heap.size wr) 12 (by kernel_rfl) ⟨Ch.ofNone (grownBy_drewN wr 1 none) _, _, HRz'.out.grown (grownBy_drewN wr 1 none), rfl⟩ ?_
                refine wpX_take 0 (v := .agg #[.int .u8 0, .int .u8 0, .int .u8 0, .int .u8 0, .int .u8 0, .int .u8 0, .int .u8 0, .int .u8 0, .int .u8 0, .int .u8 0, .int .u8 0, .int .u8 0, .int .u8 0, .int .u8 0, .int .u8 0, .int .u8 0, .int .u8 0, .int .i64 0, .int .i64 0, .int .i64 0, .int .u32 0, .int .i64 0, .slice none 0 0]) (oi := { dst := some 97, op := Op.build 43 #[], type := 43, pos := "wire.go:162", after := #[], guard := none }) (oL := oLRequest0) (clo_SR _ _) rfl rfl rfl (by kernel_rfl) (by kernel_rfl) (by kernel_rfl) (by kernel_rfl) (by kernel_rfl) (fun _ _ _ h => by cases h.1) (YG.val (by rfl) (fun _ _ => by go_simp)) ?_
                simp only [Act.put, List.setIfInBounds_toArray, List.set_cons_zero, List.set_cons_succ]
                refine wpX_take 1 (v := .slice (some ⟨b, off, none⟩) n c) (oi := { dst := some 98, op := Op.move (Operand.tmp 0), type := 24, pos := "wire.go:162", after := #[], guard := none }) (oL := oLRequest0) (clo_SR _ _) rfl rfl rfl (by kernel_rfl) (by kernel_rfl) (by kernel_rfl) (by kernel_rfl) (by kernel_rfl) (fun _ _ _ h => by cases h.1) (YG.val (by rfl) (fun _ _ => by go_simp)) ?_
                simp only [Act.put, List.setIfInBounds_toArray, List.set_cons_zero, List.set_cons_succ]
                refine wpX_take 2 (v := .int .i64 (n : Int)) (oi := { dst := some 99, op := Op.call { callee := Callee.builtin Builtin.len, args := #[Operand.tmp 98], argTypes := #[24] }, type := 3, pos := "wire.go:162", after := #[{ on := 1, ground := Ground.data }], guard := none }) (oL := oLRequest0) (clo_SR _ _) rfl rfl rfl (by kernel_rfl) (by kernel_rfl) (by kernel_rfl) (by kernel_rfl) (by kernel_rfl) (fun _ _ _ h => by cases h.1) (YG.val (by rfl) (fun _ _ => by go_simp)) ?_
                simp only [Act.put, List.setIfInBounds_toArray, List.set_cons_zero, List.set_cons_succ]
                refine wpX_take 3 (v := .int .i64 (p : Int)) (oi := { dst := some 100, op := Op.move (Operand.tmp 12), type := 3, pos := "wire.go:162", after := #[], guard := none }) (oL := oLRequest0) (clo_SR _ _) rfl rfl rfl (by kernel_rfl) (by kernel_rfl) (by kernel_rfl) (by kernel_rfl) (by kernel_rfl) (fun _ _ _ h => by cases h.1) (YG.val (by rfl) (fun _ _ => by go_simp)) ?_
                simp only [Act.put, List.setIfInBounds_toArray, List.set_cons_zero, List.set_cons_succ]
                refine wpX_take 4 (v := .pointer (some ⟨gT, 0, none⟩)) (oi := { dst := some 101, op := Op.move (Operand.tmp 5), type := 73, pos := "wire.go:162", after := #[], guard := none }) (oL := oLRequest0) (clo_SR _ _) rfl rfl rfl (by kernel_rfl) (by kernel_rfl) (by kernel_rfl) (by kernel_rfl) (by kernel_rfl) (fun _ _ _ h => by cases h.1) (YG.val (by rfl) (fun _ _ => by go_simp)) ?_
                simp only [Act.put, List.setIfInBounds_toArray, List.set_cons_zero, List.set_cons_succ]
                refine wpX_take 5 (v := .pointer (some ⟨gT, 0, none⟩)) (oi := { dst := some 102, op := Op.nilCheck (Operand.tmp 101), type := 0, pos := "wire.go:162", after := #[{ on := 4, ground := Ground.data }], guard := none }) (oL := oLRequest0) (clo_SR _ _) rfl rfl rfl (by kernel_rfl) (by kernel_rfl) (by kernel_rfl) (by kernel_rfl) (by kernel_rfl) (fun _ _ _ h => by cases h.1) (YG.val (by rfl) (fun _ _ => by go_simp)) ?_
                simp only [Act.put, List.setIfInBounds_toArray, List.set_cons_zero, List.set_cons_succ]
                refine wpX_take 6 (v := .pointer (some ⟨gT, 23, none⟩)) (oi := { dst := some 103, op := Op.fieldAddr 75 (Operand.tmp 102) 1, type := 0, pos := "wire.go:162", after := #[{ on := 5, ground := Ground.data }], guard := none }) (oL := oLRequest0) (clo_SR _ _) rfl rfl rfl (by kernel_rfl) (by kernel_rfl) (by kernel_rfl) (by kernel_rfl) (by kernel_rfl) (fun _ _ _ h => by cases h.1) (YG.val (by rfl) (fun _ _ => by go_simp)) ?_
                simp only [Act.put, List.setIfInBounds_toArray, List.set_cons_zero, List.set_cons_succ]
                refine wpX_take 7 (v := .int .i64 (r : Int)) (oi := { dst := some 104, op := Op.load 3 (Operand.tmp 103), type := 3, pos := "wire.go:162", after := #[{ on := 6, ground := Ground.data }], guard := none }) (oL := oLRequest0) (clo_SR _ _) rfl rfl rfl (by kernel_rfl) (by kernel_rfl) (by kernel_rfl) (by kernel_rfl) (by kernel_rfl) (fun _ _ _ h => by cases h.1) (YG.val (by rfl) (fun u hu => by have c := tk_cell (HTz.out.ch hu.1 (fun h => by have := HTG.out; omega)) HQX.out 6; simp at c; go_simp)) ?_
                simp only [Act.put, List.setIfInBounds_toArray, List.set_cons_zero, List.set_cons_succ]
                refine wpX_take 8 (v := .int .i64 ((p : Int) + (r : Int))) (oi := { dst := some 105, op := Op.binOp BinOp.add 3 (Operand.tmp 100) (Operand.tmp 104) 3, type := 3, pos := "wire.go:162", after := #[{ on := 3, ground := Ground.data }, { on := 7, ground := Ground.data }], guard := none }) (oL := oLRequest0) (clo_SR _ _) rfl rfl rfl (by kernel_rfl) (by kernel_rfl) (by kernel_rfl) (by kernel_rfl) (by kernel_rfl) (fun _ _ _ h => by cases h.1) (YG.val (by rfl) (fun _ _ => by have hw := HWR.out; go_simp)) ?_
                simp only [Act.put, List.setIfInBounds_toArray, List.set_cons_zero, List.set_cons_succ]
                refine wpX_take 9 (v := .int .i64 ((p : Int) + (r : Int))) (oi := { dst := some 106, op := Op.call { callee := Callee.builtin Builtin.min, args := #[Operand.tmp 99, Operand.tmp 105], argTypes := #[3, 3] }, type := 3, pos := "wire.go:162", after := #[{ on := 2, ground := Ground.data }, { on := 8, ground := Ground.data }], guard := none }) (oL := oLRequest0) (clo_SR _ _) rfl rfl rfl (by kernel_rfl) (by kernel_rfl) (by kernel_rfl) (by kernel_rfl) (by kernel_rfl) (fun _ _ _ h => by cases h.1) (YG.val (by rfl) (fun _ _ => by go_simp)) ?_
                simp only [Act.put, List.setIfInBounds_toArray, List.set_cons_zero, List.set_cons_succ]
                refine wpX_step 10 (o := { dst := none, op := Op.store 43 (Operand.tmp 2) (Operand.tmp 97), type := 0, pos := "wire.go:162", after := #[{ on := 0, ground := Ground.data }, { on := 0, ground := Ground.phase }, { on := 1, ground := Ground.textOnly Departure.lateStores }, { on := 2, ground := Ground.textOnly Departure.lateStoresUnsure }, { on := 3, ground := Ground.textOnly Departure.lateStores }, { on := 4, ground := Ground.textOnly Departure.lateStores }, { on := 5, ground := Ground.textOnly Departure.lateStores }, { on := 6, ground := Ground.textOnly Departure.lateStores }, { on := 7, ground := Ground.textOnly Departure.lateStores }, { on := 8, ground := Ground.textOnly Departure.lateStores }, { on := 9, ground := Ground.textOnly Departure.lateStoresUnsure }], guard := none }) rfl rfl (by kernel_rfl) (by rfl) (fun u2 hS2 K2 hK2 => ?_)
                have HK2 := Lib.hid hK2
                have HS2 := Lib.hid hS2
                clear hK2 hS2
                obtain ⟨cs, hcs, hcz⟩ := HS2.out.2
                refine wp_store_row 43 _ _ rfl w.heap.size #[.int .u8 0, .int .u8 0, .int .u8 0, .int .u8 0, .int .u8 0, .int .u8 0, .int .u8 0, .int .u8 0, .int .u8 0, .int .u8 0, .int .u8 0, .int .u8 0, .int .u8 0, .int .u8 0, .int .u8 0, .int .u8 0, .int .u8 0, .int .i64 0, .int .i64 0, .int .i64 0, .int .u32 0, .int .i64 0, .slice none 0 0] rfl rfl 43 _ hcs (by rw [size_req]; rfl) hcz (by simp [Value.oneCell']) ?_
                obtain ⟨u3, h3⟩ : ∃ u3, u3 = u2.setRow w.heap.size #[.int .u8 0, .int .u8 0, .int .u8 0, .int .u8 0, .int .u8 0, .int .u8 0, .int .u8 0, .int .u8 0, .int .u8 0, .int .u8 0, .int .u8 0, .int .u8 0, .int .u8 0, .int .u8 0, .int .u8 0, .int .u8 0, .int .u8 0, .int .i64 0, .int .i64 0, .int .i64 0, .int .u32 0, .int .i64 0, .slice none 0 0] := ⟨_, rfl⟩
                rw [← h3]
                have g3 : u2.grownBy u3 (some w.heap.size) := h3 ▸ grownBy_setRow _ _ _
                have hr3 : Row u3 w.heap.size 43 #[.int .u8 0, .int .u8 0, .int .u8 0, .int .u8 0, .int .u8 0, .int .u8 0, .int .u8 0, .int .u8 0, .int .u8 0, .int .u8 0, .int .u8 0, .int .u8 0, .int .u8 0, .int .u8 0, .int .u8 0, .int .u8 0, .int .u8 0, .int .i64 0, .int .i64 0, .int .i64 0, .int .u32 0, .int .i64 0, .slice none 0 0] := h3 ▸ setRow_heap _ _ _ _ _ _ hcs
                have HC3 := Lib.hid (show Ch (fun x => x = w.heap.size) wr u3 from HS2.out.1.trans (Ch.ofSome (S := fun x => x = w.heap.size) g3 rfl) (fun _ _ h => h))
                refine HK2.out (fun u => SR w.heap.size wr u ∧ Row u w.heap.size 43 #[.int .u8 0, .int .u8 0, .int .u8 0, .int .u8 0, .int .u8 0, .int .u8 0, .int .u8 0, .int .u8 0, .int .u8 0, .int .u8 0, .int .u8 0, .int .u8 0, .int .u8 0, .int .u8 0, .int .u8 0, .int .u8 0, .int .u8 0, .int .i64 0, .int .i64 0, .int .i64 0, .int .u32 0, .int .i64 0, .slice none 0 0]) _ _ ⟨⟨HC3.out, _, hr3, rfl⟩, hr3⟩ (fun u h => h.1) (clo_and (clo_SR _ _) (fun u u' h g => h.grown g)) ?_
                simp only [Act.put]
                clear HK2 HS2 hcs hcz h3 g3 hr3 HC3
                refine wpX_take 11 (v := .int .i64 ((p : Int) + (r : Int))) (oi := { dst := some 3, op := Op.assign (Operand.tmp 106), type := 3, pos := "wire.go:162", after := #[{ on := 9, ground := Ground.data }, { on := 10, ground := Ground.chain }, { on := 0, ground := Ground.phase }, { on := 1, ground := Ground.phase }, { on := 2, ground := Ground.phase }, { on := 3, ground := Ground.phase }, { on := 4, ground := Ground.phase }, { on := 5, ground := Ground.phase }, { on := 6, ground := Ground.phase }, { on := 7, ground := Ground.phase }, { on := 8, ground := Ground.phase }, { on := 9, ground := Ground.phase }, { on := 10, ground := Ground.phase }], guard := none }) (oL := oLRequest0) (clo_and (clo_SR _ _) (fun u u' h g => h.grown g)) rfl rfl rfl (by kernel_rfl) (by kernel_rfl) (by kernel_rfl) (by kernel_rfl) (by kernel_rfl) (fun _ _ _ h => by cases h.1) (YG.val (by rfl) (fun _ _ => by go_simp)) ?_
                simp only [Act.put, List.setIfInBounds_toArray, List.set_cons_zero, List.set_cons_succ]
                refine wpX_last (oL := { dst := some 4, op := Op.assign (Operand.const (Value.int IntKind.i64 200)), type := 28, pos := "wire.go:162", after := #[{ on := 11, ground := Ground.chain }, { on := 0, ground := Ground.phase }, { on := 1, ground := Ground.phase }, { on := 2, ground := Ground.phase }, { on := 3, ground := Ground.phase }, { on := 4, ground := Ground.phase }, { on := 5, ground := Ground.phase }, { on := 6, ground := Ground.phase }, { on := 7, ground := Ground.phase }, { on := 8, ground := Ground.phase }, { on := 9, ground := Ground.phase }, { on := 10, ground := Ground.phase }, { on := 11, ground := Ground.phase }], guard := none }) rfl (by kernel_rfl) (by kernel_rfl) (by rfl) (fun u4 hS4 K4 hK4 => ?_)
                refine wp_val_op (v := .int .i64 200) (w1 := u4) (by go_simp) (hK4 _ _ ?_)
                simp only [Act.put, List.setIfInBounds_toArray, List.set_cons_zero, List.set_cons_succ]
                refine ⟨by first | rfl | trivial, ?_⟩
                obtain ⟨w11, h11⟩ : ∃ w11, w11 = u4 := ⟨_, rfl⟩
                rw [← h11] at hS4 ⊢
                have HRE := Lib.hid hS4.2
                have HGE := Lib.hid (show w.grownBy w11 (some w.heap.size) from ((Ch.ofNone HGz.out (fun x => x = w.heap.size)).trans hS4.1.1 (fun _ _ h => h)).some' (fun k _ h => h))
                clear hS4 hK4 h11
                go_wp2_with fail
                refine bodyPost_ret (results_ctt rfl _ _ w.heap.size 43 #[.int .u8 0, .int .u8 0, .int .u8 0, .int .u8 0, .int .u8 0, .int .u8 0, .int .u8 0, .int .u8 0, .int .u8 0, .int .u8 0, .int .u8 0, .int .u8 0, .int .u8 0, .int .u8 0, .int .u8 0, .int .u8 0, .int .u8 0, .int .i64 0, .int .i64 0, .int .i64 0, .int .u32 0, .int .i64 0, .slice none 0 0] (0, 0) _ _ _ rfl rfl rfl HRE.out Try.underlying43 rfl (by rw [size_req]; rfl)) rfl ?_
                rw [HDD.out]
                unfold endQ
                rw [if_pos (by rw [HN.out]; omega)]
                exact reqP_err _ _ (by rw [HN.out]; omega) (grownBy_none HGE.out (fun g e => by injection e with e; omega))
end Go.Proofs.Ytkdmebcfedehiaa
/- wire.Request of all bytes: the request of bytes, or the place of the first fault. -/
namespace Go.Proofs.Ytkdmebcfedehiaa
open Go.RowKit
theorem request_n (a : Option Addr) (n c : Nat) (l : List UInt8) (w : World) (hl : BLies w a l) (hn : l.length = n) (hc : n ≤ c) (hnm : n ≤ 140737488355000) :
    Calls Try.prog 13 #[.slice a n c] w fun e w' => ReqP w (decQ l) e w' := by
  rcases Nat.eq_zero_or_pos n with h0 | h0
  · exact request_empty a n c l w hl hn hc hnm h0
  obtain ⟨b, off, ha, _⟩ := bytes_cells hl (by omega)
  by_cases hk : headQ (l.getD 0 0).toNat = 0
  · exact request_kind a n c l w hl hn hc hnm _ b off ha rfl h0 hk
  · exact request_known a n c l w hl hn hc hnm _ b off ha rfl h0 hk
end Go.Proofs.Ytkdmebcfedehiaa
/- Arrays of bytes (and arrays of such) are compared cell by cell. No walk. -/
namespace Go.Proofs.Ytkdmebcfedehiaa
open Go.RowKit

def litB (x : UInt8) : Lit := .int .u8 (x.toNat : Int)
theorem litB_inj {a b : List UInt8} : a.map litB = b.map litB ↔ a = b := by
  constructor
  · intro h
    induction a generalizing b with
    | nil => cases b <;> simp_all
    | cons x a ih =>
      cases b with
      | nil => simp at h
      | cons y b =>
        simp only [List.map_cons, List.cons.injEq] at h
        obtain ⟨h1, h2⟩ := h
        unfold litB at h1
        injection h1 with _ h1
        have hxy : x = y := UInt8.toNat_inj.1 (by omega)
        rw [ih h2, hxy]
  · rintro rfl; rfl

theorem mapM_some {α β : Type} (f : α → Option β) (g : α → β) : ∀ (xs : List α), (∀ x ∈ xs, f x = some (g x)) → xs.mapM f = some (xs.map g)
  | [], _ => rfl
  | x :: xs, h => by
    rw [List.mapM_cons, h x (by simp), mapM_some f g xs (fun y hy => h y (by simp [hy]))]
    rfl

theorem flatten_parts {α : Type} (k : Nat) : ∀ (n : Nat) (L : List α), L.length = n * k → ((List.range n).map fun i => (L.drop (i * k)).take k).flatten = L
  | 0, L, h => by simp at h; simp [h]
  | n + 1, L, h => by
    rw [List.range_succ_eq_map, List.map_cons, List.flatten_cons, List.map_map]
    have e : ((List.range n).map ((fun i => (L.drop (i * k)).take k) ∘ Nat.succ)) = (List.range n).map fun i => ((L.drop k).drop (i * k)).take k := by
      apply List.map_congr_left
      intro i _
      simp only [Function.comp, List.drop_drop, Nat.succ_eq_add_one, Nat.add_mul, Nat.one_mul]
      rw [Nat.add_comm]
    rw [e, flatten_parts k n (L.drop k) (by rw [List.length_drop, h, Nat.add_mul]; omega)]
    simp

section
variable {P : Program}
theorem lits_arr {t e : TypeId} {n k D : Nat} (hu : P.underlying t = some (.array n e)) (hc : P.cellsOf t = n * k) (he : P.cellsOf e = k) (l : List UInt8) (hl : l.length = n * k)
    (h : ∀ m : List UInt8, m.length = k → P.keyLits D e (m.map bval) = some (m.map litB)) : P.keyLits (D + 1) t (l.map bval) = some (l.map litB) := by
  unfold Program.keyLits
  rw [hu]
  show (if (l.map bval).length = P.cellsOf t then Option.map List.flatten (List.mapM (fun i => P.keyLits D e (List.take (P.cellsOf e) (List.drop (i * P.cellsOf e) (l.map bval)))) (List.range n)) else none) = _
  rw [he, hc]
  simp only [List.length_map, hl, if_true]
  rw [mapM_some _ (fun i => ((l.map litB).drop (i * k)).take k)]
  · rw [Option.map_some, flatten_parts k n _ (by rw [List.length_map, hl])]
  · intro i hi
    have hi' : i < n := by simpa using hi
    rw [← List.map_drop, ← List.map_take, ← List.map_drop, ← List.map_take]
    refine h _ ?_
    rw [List.length_take, List.length_drop, hl]
    have : (i + 1) * k ≤ n * k := Nat.mul_le_mul_right k hi'
    rw [Nat.add_mul] at this
    omega

theorem lits_byte {e : TypeId} {D : Nat} (hu : P.underlying e = some (.int .u8)) (m : List UInt8) (hm : m.length = 1) : P.keyLits (D + 1) e (m.map bval) = some (m.map litB) := by
  obtain ⟨x, rfl⟩ : ∃ x, m = [x] := by
    match m, hm with
    | [x], _ => exact ⟨x, rfl⟩
  have := x.toNat_lt
  unfold Program.keyLits
  rw [hu]
  have hw : (Lit.int .u8 (x.toNat : Int)).wf = true := by simp [Lit.wf, show IntKind.u8.min = 0 from rfl, show IntKind.u8.max = 255 from rfl]; omega
  simp [bval, litB, hw]

theorem eql_lits {t : TypeId} {m D : Nat} (hm : m ≤ 10000) (hk : P.keyTypeAt m t = true) {l r : List UInt8} (fl : (Value.agg (l.map bval).toArray).formed P t = true) (fr : (Value.agg (r.map bval).toArray).formed P t = true)
    (hl : P.keyLits D t (l.map bval) = some (l.map litB)) (hr : P.keyLits D t (r.map bval) = some (r.map litB)) (w : World) :
    (binOp .eql t (.agg (l.map bval).toArray) (.agg (r.map bval).toArray)).run P w = .ok (.bool (decide (l = r))) w ∧ (binOp .neq t (.agg (l.map bval).toArray) (.agg (r.map bval).toArray)).run P w = .ok (.bool (!decide (l = r))) w := by
  obtain ⟨b, hb, hiff⟩ := run_equalIn_deep (P := P) (10000 - m) m t hk w D D _ _ _ _ fl fr (by simpa [Value.cells] using hl) (by simpa [Value.cells] using hr)
  rw [show 10000 - m + m = 10000 by omega] at hb
  have e : b = decide (l = r) := by
    rw [litB_inj] at hiff
    by_cases h : l = r
    · simp [h, hiff.2 h]
    · have : b = false := by
        cases b
        · rfl
        · exact absurd (hiff.1 rfl) h
      simp [h, this]
  rw [run_eql_struct, run_neq_struct, hb, e]
  exact ⟨rfl, rfl⟩
end

end Go.Proofs.Ytkdmebcfedehiaa
/- api.Lease: two cells, compared by == and !=. -/
namespace Go.Proofs.Ytkdmebcfedehiaa
open Go.RowKit
def leaseV (a b : Int) : Value := .agg #[.int .u32 a, .int .i64 b]
def LeaseOk (a b : Int) : Prop := 0 ≤ a ∧ a < 4294967296 ∧ -9223372036854775808 ≤ b ∧ b ≤ 9223372036854775807
set_option maxRecDepth 100000 in
theorem lits_lease {a b : Int} (h : LeaseOk a b) : Try.prog.keyLits 3 41 [.int .u32 a, .int .i64 b] = some [.int .u32 a, .int .i64 b] := by
  obtain ⟨h1, h2, h3, h4⟩ := h
  have w1 : (Lit.int .u32 a).wf = true := by simp [Lit.wf, show IntKind.u32.min = 0 from rfl, show IntKind.u32.max = 4294967295 from rfl]; omega
  have w2 : (Lit.int .i64 b).wf = true := by simp [Lit.wf, show IntKind.i64.min = -9223372036854775808 from rfl, show IntKind.i64.max = 9223372036854775807 from rfl]; omega
  have e1 : Try.prog.keyLits 2 39 [.int .u32 a] = some [.int .u32 a] := by
    unfold Program.keyLits
    rw [Try.underlying39]
    simp [w1]
  have e2 : Try.prog.keyLits 2 3 [.int .i64 b] = some [.int .i64 b] := by
    unfold Program.keyLits
    rw [Try.underlying3]
    simp [w2]
  unfold Program.keyLits
  rw [Try.underlying41]
  have hc : Try.prog.cellsOf 41 = 2 := by kernel_rfl
  have c1 : Try.prog.cellsOf 39 = 1 := by kernel_rfl
  have c2 : Try.prog.cellsOf 3 = 1 := by kernel_rfl
  simp [hc, c1, c2, e1, e2]
set_option maxRecDepth 100000 in
theorem lease_eq {a b c d : Int} (h : LeaseOk a b) (k : LeaseOk c d) (w : World) :
    (binOp .eql 41 (leaseV a b) (leaseV c d)).run Try.prog w = .ok (.bool (decide (a = c ∧ b = d))) w ∧ (binOp .neq 41 (leaseV a b) (leaseV c d)).run Try.prog w = .ok (.bool (!decide (a = c ∧ b = d))) w := by
  have hk : Try.prog.keyTypeAt 5 41 = true := by kernel_rfl
  have fl : ∀ x y : Int, (leaseV x y).formed Try.prog 41 = true := fun x y => by
    unfold leaseV
    simp [Value.formed, Try.underlying41]
    kernel_rfl
  obtain ⟨r, hb, hiff⟩ := run_equalIn_deep (P := Try.prog) (10000 - 5) 5 41 hk w 3 3 _ _ _ _ (fl a b) (fl c d) (by simpa [leaseV, Value.cells] using lits_lease h) (by simpa [leaseV, Value.cells] using lits_lease k)
  rw [show 10000 - 5 + 5 = 10000 by omega] at hb
  have e : r = decide (a = c ∧ b = d) := by
    have hi : (([.int .u32 a, .int .i64 b] : List Lit) = [.int .u32 c, .int .i64 d]) ↔ (a = c ∧ b = d) := by simp
    rw [hi] at hiff
    by_cases h : a = c ∧ b = d
    · rw [decide_eq_true h, hiff.2 h]
    · rw [decide_eq_false h]
      cases r
      · rfl
      · exact absurd (hiff.1 rfl) h
  unfold leaseV at hb ⊢
  rw [run_eql_struct, run_neq_struct, hb, e]
  exact ⟨rfl, rfl⟩
end Go.Proofs.Ytkdmebcfedehiaa
/- wire.used: a request with nothing but what its kind uses. Printed by gens/used.py. -/
namespace Go.Proofs.Ytkdmebcfedehiaa
open Go.RowKit
def oLUsed0 : Oper := { dst := none, op := Op.store 24 (Operand.tmp 27) (Operand.tmp 24), type := 0, pos := "wire.go:23", after := #[{ on := 10, ground := Ground.data }, { on := 5, ground := Ground.data }, { on := 9, ground := Ground.chain }, { on := 0, ground := Ground.phase }, { on := 1, ground := Ground.phase }, { on := 2, ground := Ground.phase }, { on := 3, ground := Ground.phase }, { on := 4, ground := Ground.phase }, { on := 5, ground := Ground.phase }, { on := 6, ground := Ground.phase }, { on := 7, ground := Ground.phase }, { on := 8, ground := Ground.phase }, { on := 9, ground := Ground.phase }], guard := none }
def oLUsed1 : Oper := { dst := none, op := Op.store 3 (Operand.tmp 36) (Operand.tmp 33), type := 0, pos := "wire.go:25", after := #[{ on := 10, ground := Ground.data }, { on := 5, ground := Ground.data }, { on := 9, ground := Ground.chain }, { on := 0, ground := Ground.phase }, { on := 1, ground := Ground.phase }, { on := 2, ground := Ground.phase }, { on := 3, ground := Ground.phase }, { on := 4, ground := Ground.phase }, { on := 5, ground := Ground.phase }, { on := 6, ground := Ground.phase }, { on := 7, ground := Ground.phase }, { on := 8, ground := Ground.phase }, { on := 9, ground := Ground.phase }], guard := none }

def bareQ (q : Rq) : Rq := ⟨q.kind, q.ix, 0, 0, 0, 0, 0, []⟩
def usedQ (q : Rq) : Rq :=
  if q.kind = 2 then { bareQ q with number := q.number, who := q.who, till := q.till }
  else if q.kind = 3 then { bareQ q with number := q.number, pos := q.pos, len := q.len }
  else if q.kind = 4 then { bareQ q with who := q.who, till := q.till }
  else if q.kind = 5 then { bareQ q with who := q.who }
  else bareQ q
def usedS (q : Rq) (s : Value) : Value := if q.kind = 2 then s else .slice none 0 0
theorem rq_get (q : Rq) (s : Value) (h : q.ix.length = 16) (j : Nat) : (rqC q s)[17 + j]? = ([.int .i64 q.number, .int .i64 q.pos, .int .i64 q.len, .int .u32 (q.who : Int), .int .i64 q.till, s] : List Value)[j]? := by
  unfold rqC
  rw [List.getElem?_toArray, show 17 + j = (16 + j) + 1 by omega, List.getElem?_cons_succ, List.getElem?_append_right (by simp [h])]
  congr 1
  simp [h]
theorem rq_set (q : Rq) (s : Value) (h : q.ix.length = 16) (j : Nat) (v : Value) : (rqC q s).setIfInBounds (17 + j) v = (.int .u8 (q.kind : Int) :: (q.ix.map bval ++ ([.int .i64 q.number, .int .i64 q.pos, .int .i64 q.len, .int .u32 (q.who : Int), .int .i64 q.till, s] : List Value).set j v)).toArray := by
  unfold rqC
  rw [List.setIfInBounds_toArray, show 17 + j = (16 + j) + 1 by omega, List.set_cons_succ, List.set_append_right _ _ (by simp [h])]
  congr 3
  simp [h]
theorem rq_cell {w : World} {g : Nat} {q : Rq} {s : Value} (h : Row w g 43 (rqC q s)) (hx : q.ix.length = 16) (j : Nat) : w.cell? ⟨g, 17 + j, none⟩ = ([.int .i64 q.number, .int .i64 q.pos, .int .i64 q.len, .int .u32 (q.who : Int), .int .i64 q.till, s] : List Value)[j]? := by
  rw [Row.cell h, rq_get q s hx]
theorem rq_kind {w : World} {g : Nat} {q : Rq} {s : Value} (h : Row w g 43 (rqC q s)) : w.cell? ⟨g, 0, none⟩ = some (.int .u8 (q.kind : Int)) := by
  rw [Row.cell h]
  rfl
theorem rq_ixr {w : World} {g : Nat} {q : Rq} {s : Value} (h : Row w g 43 (rqC q s)) : w.rangeAt g 1 (q.ix.map bval) := by
  intro j v hj
  rw [Row.cell h, ← hj]
  obtain ⟨hk, _⟩ := List.getElem?_eq_some_iff.1 hj
  unfold rqC
  rw [List.getElem?_toArray, Nat.add_comm 1 j, List.getElem?_cons_succ, List.getElem?_append_left hk]
theorem key16 {l : List UInt8} (h : l.length = 16) : ∃ k0 k1 k2 k3 k4 k5 k6 k7 k8 k9 k10 k11 k12 k13 k14 k15, l = [k0, k1, k2, k3, k4, k5, k6, k7, k8, k9, k10, k11, k12, k13, k14, k15] := by
  match l, h with
  | [k0, k1, k2, k3, k4, k5, k6, k7, k8, k9, k10, k11, k12, k13, k14, k15], _ => exact ⟨k0, k1, k2, k3, k4, k5, k6, k7, k8, k9, k10, k11, k12, k13, k14, k15, rfl⟩
set_option maxRecDepth 100000 in
set_option maxHeartbeats 4000000 in
theorem run_build_req (w : World) (ev : Operand → Value) {o : Oper} (x y : Operand) (hop : o.op = .build 43 #[(0, x), (1, y)]) (k : Nat) (ix : List UInt8) (hix : ix.length = 16) (hx : ev x = .int .u8 (k : Int)) (hy : ev y = .agg (ix.map bval).toArray) :
    (execOp ev o).run Try.prog w = .ok (.value (.agg (rqC ⟨k, ix, 0, 0, 0, 0, 0, []⟩ (.slice none 0 0)))) w := by
  obtain ⟨ir, zr, hir, hirz, hirs, hz⟩ := info_req
  subst hz
  obtain ⟨i0, i1, i2, i3, i4, i5, i6, i7, i8, i9, i10, i11, i12, i13, i14, i15, rfl⟩ := key16 hix
  unfold execOp
  simp only [hop]
  simp [Instr.build, run_underlying Try.underlying43, typeInfo, zeroValue, hir, hirz, hx, hy, rqC, bval]
  simp [Instr.fill, Value.cells]
  first | done | trace_state
theorem results_cell1 {P : Program} {fn : Func} {p : Tmp} {ty : TypeId} (h : fn.results = #[.cell p ty]) (tmps : Array Value) (w : World) (g : Nat) (t : TypeId) (cs : Array Value) (fr : Nat × Nat) (d : TypeDesc)
    (hp : tmps.getD p undef = .pointer (some ⟨g, 0, none⟩)) (hg : w.heap[g]? = some (.cells cs t fr))
    (hu : P.underlying ty = some d) (hd : (match d with | .struct _ | .array _ _ => true | _ => false) = true) (hi : (P.info? ty).map (·.size) = some cs.size) :
    (results fn tmps).run P w = .ok (.agg cs) w := by
  have hp' : tmps[p]?.getD undef = .pointer (some ⟨g, 0, none⟩) := by simpa using hp
  simp [results, h, hp', asAddr, run_loadVar_row w g t ty cs fr d hg hu hd hi]
theorem zreq_one : ((#[.int .u8 0, .int .u8 0, .int .u8 0, .int .u8 0, .int .u8 0, .int .u8 0, .int .u8 0, .int .u8 0, .int .u8 0, .int .u8 0, .int .u8 0, .int .u8 0, .int .u8 0, .int .u8 0, .int .u8 0, .int .u8 0, .int .u8 0, .int .i64 0, .int .i64 0, .int .i64 0, .int .u32 0, .int .i64 0, .slice none 0 0] : Array Value)).all (·.oneCell') = true := by simp [Value.oneCell']
set_option maxRecDepth 100000 in
set_option maxHeartbeats 4000000 in
theorem used_0 (K : Int) (q : Rq) (a : Option Addr) (n c : Nat) (w : World) (hx : q.ix.length = 16) (h2 : q.kind ≠ 2) (h3 : q.kind ≠ 3) (h4 : q.kind ≠ 4) (h5 : q.kind ≠ 5) :
    Calls Try.prog 57 #[.agg (rqC q (.slice a n c))] w fun e w' => e = .returned (.agg (rqC (bareQ q) (.slice none 0 0))) ∧ w.grownBy w' none := by
  obtain ⟨ir, zr, hir, hirz, hirs, hz⟩ := info_req
  subst hz
  have HX := Lib.hid hx
  clear hx
  go_enter Try.func57, Try.ntmps57
  go_upto_region 1 with (first
    | (refine wpList_boxed rfl rfl (rqC q (.slice a n c)) rfl ?_; intro w1 hs g hr; have G1 := Lib.hid g; have R1 := Lib.hid (show Row w1 w.heap.size 43 (rqC q (.slice a n c)) from hr); clear hs g hr)
    | (refine wpList_made rfl rfl hir hirz ?_; intro w2 hs g hr; have G2 := Lib.hid (grownBy_trans G1.out g); have R2 := Lib.hid (R1.out.grown g); have RR := Lib.hid (show Row w2 w1.heap.size 43 #[.int .u8 0, .int .u8 0, .int .u8 0, .int .u8 0, .int .u8 0, .int .u8 0, .int .u8 0, .int .u8 0, .int .u8 0, .int .u8 0, .int .u8 0, .int .u8 0, .int .u8 0, .int .u8 0, .int .u8 0, .int .u8 0, .int .u8 0, .int .i64 0, .int .i64 0, .int .i64 0, .int .u32 0, .int .i64 0, .slice none 0 0] from hr); clear hs g hr))
  obtain ⟨b1, hb1⟩ : ∃ b1, b1 = w.heap.size := ⟨_, rfl⟩
  obtain ⟨b2, hb2⟩ : ∃ b2, b2 = w1.heap.size := ⟨_, rfl⟩
  have HB := Lib.hid (show w.heap.size ≤ b1 ∧ b1 < b2 ∧ b2 < w2.heap.size from ⟨by omega, by rw [hb1, hb2]; exact R1.out.lt, by rw [hb2]; exact RR.out.lt⟩)
  rw [← hb1] at R2 ⊢
  rw [← hb2] at RR ⊢
  clear hb1 hb2 R1 G1
  have c0 := rq_kind R2.out
  go_upto_region 2 with (first
    | (refine wpList_load_mid rfl 38 _ rfl b1 1 rfl (q.ix.map bval) _ (rq_ixr R2.out) Try.underlying38 rfl (by rw [size_ix, List.length_map, HX.out]) ?_)
    | (refine wpList_valp rfl (run_build_req _ _ (.tmp 5) (.tmp 7) rfl q.kind q.ix HX.out rfl rfl) ?_)
    | (refine wpList_fresh rfl rfl rfl rfl rfl hir hirz hirs (rqC (bareQ q) (.slice none 0 0)) rfl rfl (by rw [rq_len (bareQ q) _ HX.out]; rfl) (rq_one _ _ _ _) ?_; intro w3 hs g hr; have G3 := Lib.hid (grownBy_trans G2.out g); have R3 := Lib.hid (R2.out.grown g); have RS := Lib.hid (RR.out.grown g); have RB := Lib.hid (show Row w3 w2.heap.size 43 (rqC (bareQ q) (.slice none 0 0)) from hr); clear hs g hr))
  obtain ⟨b3, hb3⟩ : ∃ b3, b3 = w2.heap.size := ⟨_, rfl⟩
  have HB3 := Lib.hid (show b2 < b3 by rw [hb3]; exact HB.out.2.2)
  rw [← hb3] at RB ⊢
  clear hb3 R2 RR c0
  have c0 := rq_kind R3.out
  obtain ⟨KK, hKK⟩ : ∃ KK : Int, KK = (q.kind : Int) := ⟨_, rfl⟩
  rw [← hKK] at c0
  have e2 : (KK == 2) = false := by rw [beq_eq_false_iff_ne]; omega
  have e3 : (KK == 3) = false := by rw [beq_eq_false_iff_ne]; omega
  have e4 : (KK == 4) = false := by rw [beq_eq_false_iff_ne]; omega
  have e5 : (KK == 5) = false := by rw [beq_eq_false_iff_ne]; omega
  clear hKK h2 h3 h4 h5
  go_wp2_with (first
    | (refine wpList_load_row rfl 43 _ rfl b3 rfl 43 (rqC (bareQ q) (.slice none 0 0)) (0, 0) _ RB.out Try.underlying43 rfl (by rw [size_req]; exact congrArg some (rq_len (bareQ q) _ HX.out).symm) ?_)
    | (refine wpList_putrow rfl rfl b2 rfl (rqC (bareQ q) (.slice none 0 0)) rfl RS.out (by rw [size_req]; exact congrArg some (rq_len (bareQ q) _ HX.out).symm) (rq_len (bareQ q) _ HX.out).symm (rq_one _ _ _ _) ?_; intro W5 hg5 hr5; have HG5 := Lib.hid hg5; have HR5 := Lib.hid hr5; clear hg5 hr5))
  refine bodyPost_ret (results_cell1 rfl _ _ b2 43 (rqC (bareQ q) (.slice none 0 0)) (0, 0) _ rfl HR5.out Try.underlying43 rfl (by rw [size_req]; exact congrArg some (rq_len (bareQ q) _ HX.out).symm)) rfl ?_
  exact ⟨rfl, grownBy_old G3.out HG5.out (by have := HB.out; omega)⟩
set_option maxRecDepth 100000 in
set_option maxHeartbeats 4000000 in
theorem used_5 (K : Int) (q : Rq) (a : Option Addr) (n c : Nat) (w : World) (hx : q.ix.length = 16) (hk : q.kind = 5) :
    Calls Try.prog 57 #[.agg (rqC q (.slice a n c))] w fun e w' => e = .returned (.agg (rqC ({ bareQ q with who := q.who }) (.slice none 0 0))) ∧ w.grownBy w' none := by
  have HKQ := Lib.hid hk
  clear hk
  obtain ⟨ir, zr, hir, hirz, hirs, hz⟩ := info_req
  subst hz
  have HX := Lib.hid hx
  clear hx
  go_enter Try.func57, Try.ntmps57
  go_upto_region 1 with (first
    | (refine wpList_boxed rfl rfl (rqC q (.slice a n c)) rfl ?_; intro w1 hs g hr; have G1 := Lib.hid g; have R1 := Lib.hid (show Row w1 w.heap.size 43 (rqC q (.slice a n c)) from hr); clear hs g hr)
    | (refine wpList_made rfl rfl hir hirz ?_; intro w2 hs g hr; have G2 := Lib.hid (grownBy_trans G1.out g); have R2 := Lib.hid (R1.out.grown g); have RR := Lib.hid (show Row w2 w1.heap.size 43 #[.int .u8 0, .int .u8 0, .int .u8 0, .int .u8 0, .int .u8 0, .int .u8 0, .int .u8 0, .int .u8 0, .int .u8 0, .int .u8 0, .int .u8 0, .int .u8 0, .int .u8 0, .int .u8 0, .int .u8 0, .int .u8 0, .int .u8 0, .int .i64 0, .int .i64 0, .int .i64 0, .int .u32 0, .int .i64 0, .slice none 0 0] from hr); clear hs g hr))
  obtain ⟨b1, hb1⟩ : ∃ b1, b1 = w.heap.size := ⟨_, rfl⟩
  obtain ⟨b2, hb2⟩ : ∃ b2, b2 = w1.heap.size := ⟨_, rfl⟩
  have HB := Lib.hid (show w.heap.size ≤ b1 ∧ b1 < b2 ∧ b2 < w2.heap.size from ⟨by omega, by rw [hb1, hb2]; exact R1.out.lt, by rw [hb2]; exact RR.out.lt⟩)
  rw [← hb1] at R2 ⊢
  rw [← hb2] at RR ⊢
  clear hb1 hb2 R1 G1
  have c0 := rq_kind R2.out
  go_upto_region 2 with (first
    | (refine wpList_load_mid rfl 38 _ rfl b1 1 rfl (q.ix.map bval) _ (rq_ixr R2.out) Try.underlying38 rfl (by rw [size_ix, List.length_map, HX.out]) ?_)
    | (refine wpList_valp rfl (run_build_req _ _ (.tmp 5) (.tmp 7) rfl q.kind q.ix HX.out rfl rfl) ?_)
    | (refine wpList_fresh rfl rfl rfl rfl rfl hir hirz hirs (rqC (bareQ q) (.slice none 0 0)) rfl rfl (by rw [rq_len (bareQ q) _ HX.out]; rfl) (rq_one _ _ _ _) ?_; intro w3 hs g hr; have G3 := Lib.hid (grownBy_trans G2.out g); have R3 := Lib.hid (R2.out.grown g); have RS := Lib.hid (RR.out.grown g); have RB := Lib.hid (show Row w3 w2.heap.size 43 (rqC (bareQ q) (.slice none 0 0)) from hr); clear hs g hr))
  obtain ⟨b3, hb3⟩ : ∃ b3, b3 = w2.heap.size := ⟨_, rfl⟩
  have HB3 := Lib.hid (show b2 < b3 by rw [hb3]; exact HB.out.2.2)
  rw [← hb3] at RB ⊢
  clear hb3 R2 RR c0
  have c0 := rq_kind R3.out
  have c0' : w3.cell? ⟨b1, 0, none⟩ = some (.int .u8 5) := by rw [c0, HKQ.out]; rfl
  clear c0
  have x3 := rq_cell R3.out HX.out 3
  have d3 := rq_cell RB.out HX.out 3
  have f3 := Row.frozen RB.out 20
  simp at x3 d3
  go_upto_region 11 with fail
  obtain ⟨w4, h4⟩ : ∃ w4, w4 = w3.setCell ⟨b3, 20, none⟩ (.int .u32 (q.who : Int)) := ⟨_, rfl⟩
  rw [← h4]
  have g4 : w3.grownBy w4 (some b3) := h4 ▸ grownBy_setCell _ _ _ _
  have RB4 := Lib.hid (show Row w4 b3 43 (rqC ({ bareQ q with who := q.who }) (.slice none 0 0)) from by
    have h := Row.setc RB.out 20 (.int .u32 (q.who : Int))
    rw [show 20 = 17 + 3 from rfl, rq_set (bareQ q) _ HX.out] at h
    rw [h4]
    exact h)
  have RS4 := Lib.hid (RS.out.grownNe g4 (by have := HB3.out; omega))
  have R4 := Lib.hid (R3.out.grownNe g4 (by have h1 := HB.out; have h2 := HB3.out; omega))
  have G4 := Lib.hid (grownBy_old G3.out g4 (by have h1 := HB.out; have h2 := HB3.out; omega))
  clear h4 g4 x3 d3 f3
  go_wp2_with (first
    | (refine wpList_load_row rfl 43 _ rfl b3 rfl 43 (rqC ({ bareQ q with who := q.who }) (.slice none 0 0)) (0, 0) _ RB4.out Try.underlying43 rfl (by rw [size_req]; exact congrArg some (rq_len ({ bareQ q with who := q.who }) _ HX.out).symm) ?_)
    | (refine wpList_putrow rfl rfl b2 rfl (rqC ({ bareQ q with who := q.who }) (.slice none 0 0)) rfl RS4.out (by rw [size_req]; exact congrArg some (rq_len ({ bareQ q with who := q.who }) _ HX.out).symm) (rq_len ({ bareQ q with who := q.who }) _ HX.out).symm (rq_one _ _ _ _) ?_; intro W5 hg5 hr5; have HG5 := Lib.hid hg5; have HR5 := Lib.hid hr5; clear hg5 hr5))
  refine bodyPost_ret (results_cell1 rfl _ _ b2 43 (rqC ({ bareQ q with who := q.who }) (.slice none 0 0)) (0, 0) _ rfl HR5.out Try.underlying43 rfl (by rw [size_req]; exact congrArg some (rq_len ({ bareQ q with who := q.who }) _ HX.out).symm)) rfl ?_
  exact ⟨rfl, grownBy_old G4.out HG5.out (by have := HB.out; omega)⟩
set_option maxRecDepth 100000 in
set_option maxHeartbeats 4000000 in
theorem used_4 (K : Int) (q : Rq) (a : Option Addr) (n c : Nat) (w : World) (hx : q.ix.length = 16) (hk : q.kind = 4) :
    Calls Try.prog 57 #[.agg (rqC q (.slice a n c))] w fun e w' => e = .returned (.agg (rqC ({ bareQ q with who := q.who, till := q.till }) (.slice none 0 0))) ∧ w.grownBy w' none := by
  have HKQ := Lib.hid hk
  clear hk
  obtain ⟨ir, zr, hir, hirz, hirs, hz⟩ := info_req
  subst hz
  have HX := Lib.hid hx
  clear hx
  go_enter Try.func57, Try.ntmps57
  go_upto_region 1 with (first
    | (refine wpList_boxed rfl rfl (rqC q (.slice a n c)) rfl ?_; intro w1 hs g hr; have G1 := Lib.hid g; have R1 := Lib.hid (show Row w1 w.heap.size 43 (rqC q (.slice a n c)) from hr); clear hs g hr)
    | (refine wpList_made rfl rfl hir hirz ?_; intro w2 hs g hr; have G2 := Lib.hid (grownBy_trans G1.out g); have R2 := Lib.hid (R1.out.grown g); have RR := Lib.hid (show Row w2 w1.heap.size 43 #[.int .u8 0, .int .u8 0, .int .u8 0, .int .u8 0, .int .u8 0, .int .u8 0, .int .u8 0, .int .u8 0, .int .u8 0, .int .u8 0, .int .u8 0, .int .u8 0, .int .u8 0, .int .u8 0, .int .u8 0, .int .u8 0, .int .u8 0, .int .i64 0, .int .i64 0, .int .i64 0, .int .u32 0, .int .i64 0, .slice none 0 0] from hr); clear hs g hr))
  obtain ⟨b1, hb1⟩ : ∃ b1, b1 = w.heap.size := ⟨_, rfl⟩
  obtain ⟨b2, hb2⟩ : ∃ b2, b2 = w1.heap.size := ⟨_, rfl⟩
  have HB := Lib.hid (show w.heap.size ≤ b1 ∧ b1 < b2 ∧ b2 < w2.heap.size from ⟨by omega, by rw [hb1, hb2]; exact R1.out.lt, by rw [hb2]; exact RR.out.lt⟩)
  rw [← hb1] at R2 ⊢
  rw [← hb2] at RR ⊢
  clear hb1 hb2 R1 G1
  have c0 := rq_kind R2.out
  go_upto_region 2 with (first
    | (refine wpList_load_mid rfl 38 _ rfl b1 1 rfl (q.ix.map bval) _ (rq_ixr R2.out) Try.underlying38 rfl (by rw [size_ix, List.length_map, HX.out]) ?_)
    | (refine wpList_valp rfl (run_build_req _ _ (.tmp 5) (.tmp 7) rfl q.kind q.ix HX.out rfl rfl) ?_)
    | (refine wpList_fresh rfl rfl rfl rfl rfl hir hirz hirs (rqC (bareQ q) (.slice none 0 0)) rfl rfl (by rw [rq_len (bareQ q) _ HX.out]; rfl) (rq_one _ _ _ _) ?_; intro w3 hs g hr; have G3 := Lib.hid (grownBy_trans G2.out g); have R3 := Lib.hid (R2.out.grown g); have RS := Lib.hid (RR.out.grown g); have RB := Lib.hid (show Row w3 w2.heap.size 43 (rqC (bareQ q) (.slice none 0 0)) from hr); clear hs g hr))
  obtain ⟨b3, hb3⟩ : ∃ b3, b3 = w2.heap.size := ⟨_, rfl⟩
  have HB3 := Lib.hid (show b2 < b3 by rw [hb3]; exact HB.out.2.2)
  rw [← hb3] at RB ⊢
  clear hb3 R2 RR c0
  have c0 := rq_kind R3.out
  have c0' : w3.cell? ⟨b1, 0, none⟩ = some (.int .u8 4) := by rw [c0, HKQ.out]; rfl
  clear c0
  have x4 := rq_cell R3.out HX.out 4
  have d4 := rq_cell RB.out HX.out 4
  have f4 := Row.frozen RB.out 21
  simp at x4 d4
  go_upto_region 10 with fail
  obtain ⟨w4, h4⟩ : ∃ w4, w4 = w3.setCell ⟨b3, 21, none⟩ (.int .i64 q.till) := ⟨_, rfl⟩
  rw [← h4]
  have g4 : w3.grownBy w4 (some b3) := h4 ▸ grownBy_setCell _ _ _ _
  have RB4 := Lib.hid (show Row w4 b3 43 (rqC ({ bareQ q with till := q.till }) (.slice none 0 0)) from by
    have h := Row.setc RB.out 21 (.int .i64 q.till)
    rw [show 21 = 17 + 4 from rfl, rq_set (bareQ q) _ HX.out] at h
    rw [h4]
    exact h)
  have RS4 := Lib.hid (RS.out.grownNe g4 (by have := HB3.out; omega))
  have R4 := Lib.hid (R3.out.grownNe g4 (by have h1 := HB.out; have h2 := HB3.out; omega))
  have G4 := Lib.hid (grownBy_old G3.out g4 (by have h1 := HB.out; have h2 := HB3.out; omega))
  clear h4 g4 x4 d4 f4
  clear c0'
  have x3 := rq_cell R4.out HX.out 3
  have d3 := rq_cell RB4.out HX.out 3
  have f3 := Row.frozen RB4.out 20
  simp at x3 d3
  go_upto_region 11 with fail
  obtain ⟨w5, h5⟩ : ∃ w5, w5 = w4.setCell ⟨b3, 20, none⟩ (.int .u32 (q.who : Int)) := ⟨_, rfl⟩
  rw [← h5]
  have g5 : w4.grownBy w5 (some b3) := h5 ▸ grownBy_setCell _ _ _ _
  have RB5 := Lib.hid (show Row w5 b3 43 (rqC ({ bareQ q with who := q.who, till := q.till }) (.slice none 0 0)) from by
    have h := Row.setc RB4.out 20 (.int .u32 (q.who : Int))
    rw [show 20 = 17 + 3 from rfl, rq_set ({ bareQ q with till := q.till }) _ HX.out] at h
    rw [h5]
    exact h)
  have RS5 := Lib.hid (RS4.out.grownNe g5 (by have := HB3.out; omega))
  have R5 := Lib.hid (R4.out.grownNe g5 (by have h1 := HB.out; have h2 := HB3.out; omega))
  have G5 := Lib.hid (grownBy_old G4.out g5 (by have h1 := HB.out; have h2 := HB3.out; omega))
  clear h5 g5 x3 d3 f3
  go_wp2_with (first
    | (refine wpList_load_row rfl 43 _ rfl b3 rfl 43 (rqC ({ bareQ q with who := q.who, till := q.till }) (.slice none 0 0)) (0, 0) _ RB5.out Try.underlying43 rfl (by rw [size_req]; exact congrArg some (rq_len ({ bareQ q with who := q.who, till := q.till }) _ HX.out).symm) ?_)
    | (refine wpList_putrow rfl rfl b2 rfl (rqC ({ bareQ q with who := q.who, till := q.till }) (.slice none 0 0)) rfl RS5.out (by rw [size_req]; exact congrArg some (rq_len ({ bareQ q with who := q.who, till := q.till }) _ HX.out).symm) (rq_len ({ bareQ q with who := q.who, till := q.till }) _ HX.out).symm (rq_one _ _ _ _) ?_; intro W6 hg6 hr6; have HG6 := Lib.hid hg6; have HR6 := Lib.hid hr6; clear hg6 hr6))
  refine bodyPost_ret (results_cell1 rfl _ _ b2 43 (rqC ({ bareQ q with who := q.who, till := q.till }) (.slice none 0 0)) (0, 0) _ rfl HR6.out Try.underlying43 rfl (by rw [size_req]; exact congrArg some (rq_len ({ bareQ q with who := q.who, till := q.till }) _ HX.out).symm)) rfl ?_
  exact ⟨rfl, grownBy_old G5.out HG6.out (by have := HB.out; omega)⟩
/-- a request's row with any values in its last six cells -/
def rqG (q : Rq) (x0 x1 x2 x3 x4 x5 : Value) : Array Value := (.int .u8 (q.kind : Int) :: (q.ix.map bval ++ [x0, x1, x2, x3, x4, x5])).toArray
theorem rqG_set (q : Rq) (x0 x1 x2 x3 x4 x5 : Value) (h : q.ix.length = 16) (j : Nat) (v : Value) : (rqG q x0 x1 x2 x3 x4 x5).setIfInBounds (17 + j) v = (.int .u8 (q.kind : Int) :: (q.ix.map bval ++ ([x0, x1, x2, x3, x4, x5] : List Value).set j v)).toArray := by
  unfold rqG
  rw [List.setIfInBounds_toArray, show 17 + j = (16 + j) + 1 by omega, List.set_cons_succ, List.set_append_right _ _ (by simp [h])]
  congr 3
  simp [h]
theorem rqG_get (q : Rq) (x0 x1 x2 x3 x4 x5 : Value) (h : q.ix.length = 16) (j : Nat) : (rqG q x0 x1 x2 x3 x4 x5)[17 + j]? = ([x0, x1, x2, x3, x4, x5] : List Value)[j]? := by
  unfold rqG
  rw [List.getElem?_toArray, show 17 + j = (16 + j) + 1 by omega, List.getElem?_cons_succ, List.getElem?_append_right (by simp [h])]
  congr 1
  simp [h]
theorem rqG_there {w : World} {g : Nat} {q : Rq} {x0 x1 x2 x3 x4 x5 : Value} (h : Row w g 43 (rqG q x0 x1 x2 x3 x4 x5)) (hx : q.ix.length = 16) (o n : Nat) (hn : o + n ≤ 6) : w.there g (17 + o) n := by
  intro j hj
  refine ⟨?_, Row.frozen h _⟩
  rw [show 17 + o + j = 17 + (o + j) by omega, Row.cell h, rqG_get _ _ _ _ _ _ _ hx, List.getElem?_eq_getElem (by simp; omega)]
  rfl
theorem wp_skip_opU {P : Program} {o : Oper} {a : Act} {w w1 : World} {K : Act → World → Prop} {Q : Exit → Act → World → Prop} (h : (execOp a.eval o).run P w = .ok .skip w1) (hk : K (a.put o.dst undef) w1) : o.wp P a w K Q := by
  unfold Oper.wp
  rw [h, Oper.upon_skip]
  exact hk
theorem size_lease : (Try.prog.info? 41).map (·.size) = some 2 := by kernel_rfl
theorem rq_mid {w : World} {g : Nat} {q : Rq} {s : Value} (h : Row w g 43 (rqC q s)) (hx : q.ix.length = 16) : w.rangeAt g 20 [.int .u32 (q.who : Int), .int .i64 q.till] := by
  intro j v hj
  have hj2 : j < 2 := by
    rcases Nat.lt_or_ge j 2 with h | h
    · exact h
    · rw [List.getElem?_eq_none (by simpa using h)] at hj; cases hj
  rw [show 20 + j = 17 + (3 + j) by omega, rq_cell h hx, ← hj]
  match j, hj2 with
  | 0, _ => rfl
  | 1, _ => rfl
theorem run_loadmid (w : World) (ev : Operand → Value) {o : Oper} (ty : TypeId) (x : Operand) (ho : o.op = .load ty x) (b k : Nat) (hx : ev x = .pointer (some ⟨b, k, none⟩)) (cs : List Value) (d : TypeDesc) (hc : w.rangeAt b k cs)
    (hu : Try.prog.underlying ty = some d) (hd : d.isRow = true) (hi : (Try.prog.info? ty).map (·.size) = some cs.length) : (execOp ev o).run Try.prog w = .ok (.value (.agg cs.toArray)) w := by
  unfold execOp
  simp only [ho, hx, Instr.loadAt, Instr.sureAddr, Sem.run_bind, Sem.run_pure, Result.andThen_ok, run_loadVar_mid w b k ty cs d hc hu hd hi]
/-- worlds in which the block b alone may have changed, from W on; and a request's row lies there, of which T -/
def SG (b : Nat) (W : World) (q : Rq) (T : Value → Value → Value → Value → Value → Value → Prop) (u : World) : Prop := Ch (fun x => x = b) W u ∧ ∃ x0 x1 x2 x3 x4 x5, T x0 x1 x2 x3 x4 x5 ∧ Row u b 43 (rqG q x0 x1 x2 x3 x4 x5)
theorem clo_SG (b : Nat) (W : World) (q : Rq) (T : Value → Value → Value → Value → Value → Value → Prop) : Clo (SG b W q T) := fun u u' h g => ⟨h.1.trans (Ch.ofNone g (fun x => x = b)) (fun _ _ h => h), by
  obtain ⟨x0, x1, x2, x3, x4, x5, h1, h2⟩ := h.2
  exact ⟨x0, x1, x2, x3, x4, x5, h1, h2.grown g⟩⟩

set_option maxRecDepth 100000 in
set_option maxHeartbeats 4000000 in
theorem used_2 (K : Int) (q : Rq) (a : Option Addr) (n c : Nat) (w : World) (hx : q.ix.length = 16) (hk : q.kind = 2) :
    Calls Try.prog 57 #[.agg (rqC q (.slice a n c))] w fun e w' => e = .returned (.agg (rqC ({ bareQ q with number := q.number, who := q.who, till := q.till }) (.slice a n c))) ∧ w.grownBy w' none := by
  have HKQ := Lib.hid hk
  clear hk
  obtain ⟨ir, zr, hir, hirz, hirs, hz⟩ := info_req
  subst hz
  have HX := Lib.hid hx
  clear hx
  go_enter Try.func57, Try.ntmps57
  go_upto_region 1 with (first
    | (refine wpList_boxed rfl rfl (rqC q (.slice a n c)) rfl ?_; intro w1 hs g hr; have G1 := Lib.hid g; have R1 := Lib.hid (show Row w1 w.heap.size 43 (rqC q (.slice a n c)) from hr); clear hs g hr)
    | (refine wpList_made rfl rfl hir hirz ?_; intro w2 hs g hr; have G2 := Lib.hid (grownBy_trans G1.out g); have R2 := Lib.hid (R1.out.grown g); have RR := Lib.hid (show Row w2 w1.heap.size 43 #[.int .u8 0, .int .u8 0, .int .u8 0, .int .u8 0, .int .u8 0, .int .u8 0, .int .u8 0, .int .u8 0, .int .u8 0, .int .u8 0, .int .u8 0, .int .u8 0, .int .u8 0, .int .u8 0, .int .u8 0, .int .u8 0, .int .u8 0, .int .i64 0, .int .i64 0, .int .i64 0, .int .u32 0, .int .i64 0, .slice none 0 0] from hr); clear hs g hr))
  obtain ⟨b1, hb1⟩ : ∃ b1, b1 = w.heap.size := ⟨_, rfl⟩
  obtain ⟨b2, hb2⟩ : ∃ b2, b2 = w1.heap.size := ⟨_, rfl⟩
  have HB := Lib.hid (show w.heap.size ≤ b1 ∧ b1 < b2 ∧ b2 < w2.heap.size from ⟨by omega, by rw [hb1, hb2]; exact R1.out.lt, by rw [hb2]; exact RR.out.lt⟩)
  rw [← hb1] at R2 ⊢
  rw [← hb2] at RR ⊢
  clear hb1 hb2 R1 G1
  have c0 := rq_kind R2.out
  go_upto_region 2 with (first
    | (refine wpList_load_mid rfl 38 _ rfl b1 1 rfl (q.ix.map bval) _ (rq_ixr R2.out) Try.underlying38 rfl (by rw [size_ix, List.length_map, HX.out]) ?_)
    | (refine wpList_valp rfl (run_build_req _ _ (.tmp 5) (.tmp 7) rfl q.kind q.ix HX.out rfl rfl) ?_)
    | (refine wpList_fresh rfl rfl rfl rfl rfl hir hirz hirs (rqC (bareQ q) (.slice none 0 0)) rfl rfl (by rw [rq_len (bareQ q) _ HX.out]; rfl) (rq_one _ _ _ _) ?_; intro w3 hs g hr; have G3 := Lib.hid (grownBy_trans G2.out g); have R3 := Lib.hid (R2.out.grown g); have RS := Lib.hid (RR.out.grown g); have RB := Lib.hid (show Row w3 w2.heap.size 43 (rqC (bareQ q) (.slice none 0 0)) from hr); clear hs g hr))
  obtain ⟨b3, hb3⟩ : ∃ b3, b3 = w2.heap.size := ⟨_, rfl⟩
  have HB3 := Lib.hid (show b2 < b3 by rw [hb3]; exact HB.out.2.2)
  rw [← hb3] at RB ⊢
  clear hb3 R2 RR c0
  have c0 := rq_kind R3.out
  have c0' : w3.cell? ⟨b1, 0, none⟩ = some (.int .u8 2) := by rw [c0, HKQ.out]; rfl
  clear c0
  go_upto_region 7 with fail
  refine wp_normalR ?_
  refine wp_regionX (SG b3 w3 q (fun x0 x1 x2 x3 x4 x5 => x1 = .int .i64 0 ∧ x2 = .int .i64 0)) 11 (by kernel_rfl) ⟨Ch.ofNone (grownBy_drewN w3 1 none) _, _, _, _, _, _, _, ⟨rfl, rfl⟩, (show Row w3 b3 43 (rqG q (.int .i64 0) (.int .i64 0) (.int .i64 0) (.int .u32 0) (.int .i64 0) (.slice none 0 0)) from RB.out).grown (grownBy_drewN w3 1 none)⟩ ?_
  refine wpX_take 0 (v := .pointer (some ⟨b1, 17, none⟩)) (oi := { dst := some 19, op := Op.fieldAddr 43 (Operand.tmp 1) 2, type := 0, pos := "wire.go:23", after := #[], guard := none }) (oL := oLUsed0) (clo_SG _ _ _ _) rfl rfl rfl (by kernel_rfl) (by kernel_rfl) (by kernel_rfl) (by kernel_rfl) (by kernel_rfl) (fun _ _ _ h => by cases h.1) (YG.val (by rfl) (fun _ _ => by go_simp)) ?_
  simp only [Act.put, List.setIfInBounds_toArray, List.set_cons_zero, List.set_cons_succ]
  refine wpX_take 1 (v := .int .i64 q.number) (oi := { dst := some 20, op := Op.load 3 (Operand.tmp 19), type := 3, pos := "wire.go:23", after := #[{ on := 0, ground := Ground.data }], guard := none }) (oL := oLUsed0) (clo_SG _ _ _ _) rfl rfl rfl (by kernel_rfl) (by kernel_rfl) (by kernel_rfl) (by kernel_rfl) (by kernel_rfl) (fun _ _ _ h => by cases h.1) (YG.val (by rfl) (fun u hu => by have c := rq_cell (R3.out.ch hu.1 (fun h => by have h1 := HB.out; have h2 := HB3.out; omega)) HX.out 0; simp at c; go_simp)) ?_
  simp only [Act.put, List.setIfInBounds_toArray, List.set_cons_zero, List.set_cons_succ]
  refine wpX_take 2 (v := .pointer (some ⟨b1, 20, none⟩)) (oi := { dst := some 21, op := Op.fieldAddr 43 (Operand.tmp 1) 5, type := 0, pos := "wire.go:23", after := #[{ on := 7, ground := Ground.gcOnly Departure.lateStores }], guard := none }) (oL := oLUsed0) (clo_SG _ _ _ _) rfl rfl rfl (by kernel_rfl) (by kernel_rfl) (by kernel_rfl) (by kernel_rfl) (by kernel_rfl) (fun _ _ _ h => by cases h.1) (YG.val (by rfl) (fun _ _ => by go_simp)) ?_
  simp only [Act.put, List.setIfInBounds_toArray, List.set_cons_zero, List.set_cons_succ]
  refine wpX_take 3 (v := .agg #[.int .u32 (q.who : Int), .int .i64 q.till]) (oi := { dst := some 22, op := Op.load 41 (Operand.tmp 21), type := 41, pos := "wire.go:23", after := #[{ on := 2, ground := Ground.data }, { on := 7, ground := Ground.gcOnly Departure.lateStores }], guard := none }) (oL := oLUsed0) (clo_SG _ _ _ _) rfl rfl rfl (by kernel_rfl) (by kernel_rfl) (by kernel_rfl) (by kernel_rfl) (by kernel_rfl) (fun _ _ _ h => by cases h.1) (YG.val (by rfl) (fun u hu => run_loadmid u _ 41 (.tmp 21) rfl b1 20 rfl _ _ (rq_mid (R3.out.ch hu.1 (fun h => by have h1 := HB.out; have h2 := HB3.out; omega)) HX.out) Try.underlying41 rfl (by rw [size_lease]; rfl))) ?_
  simp only [Act.put, List.setIfInBounds_toArray, List.set_cons_zero, List.set_cons_succ]
  refine wpX_take 4 (v := .pointer (some ⟨b1, 22, none⟩)) (oi := { dst := some 23, op := Op.fieldAddr 43 (Operand.tmp 1) 6, type := 0, pos := "wire.go:23", after := #[{ on := 9, ground := Ground.gcOnly Departure.lateStores }], guard := none }) (oL := oLUsed0) (clo_SG _ _ _ _) rfl rfl rfl (by kernel_rfl) (by kernel_rfl) (by kernel_rfl) (by kernel_rfl) (by kernel_rfl) (fun _ _ _ h => by cases h.1) (YG.val (by rfl) (fun _ _ => by go_simp)) ?_
  simp only [Act.put, List.setIfInBounds_toArray, List.set_cons_zero, List.set_cons_succ]
  refine wpX_take 5 (v := .slice a n c) (oi := { dst := some 24, op := Op.load 24 (Operand.tmp 23), type := 24, pos := "wire.go:23", after := #[{ on := 4, ground := Ground.data }, { on := 9, ground := Ground.gcOnly Departure.lateStores }], guard := none }) (oL := oLUsed0) (clo_SG _ _ _ _) rfl rfl rfl (by kernel_rfl) (by kernel_rfl) (by kernel_rfl) (by kernel_rfl) (by kernel_rfl) (fun _ _ _ h => by cases h.1) (YG.val (by rfl) (fun u hu => by have c := rq_cell (R3.out.ch hu.1 (fun h => by have h1 := HB.out; have h2 := HB3.out; omega)) HX.out 5; simp at c; go_simp)) ?_
  simp only [Act.put, List.setIfInBounds_toArray, List.set_cons_zero, List.set_cons_succ]
  refine wpX_take 6 (v := .pointer (some ⟨b3, 17, none⟩)) (oi := { dst := some 25, op := Op.fieldAddr 43 (Operand.tmp 3) 2, type := 0, pos := "wire.go:23", after := #[{ on := 0, ground := Ground.phase }, { on := 1, ground := Ground.phase }, { on := 2, ground := Ground.textOnly Departure.lateStores }, { on := 3, ground := Ground.textOnly Departure.lateStores }, { on := 4, ground := Ground.textOnly Departure.lateStores }, { on := 5, ground := Ground.textOnly Departure.lateStores }], guard := none }) (oL := oLUsed0) (clo_SG _ _ _ _) rfl rfl rfl (by kernel_rfl) (by kernel_rfl) (by kernel_rfl) (by kernel_rfl) (by kernel_rfl) (fun _ _ _ h => by cases h.1) (YG.val (by rfl) (fun _ _ => by go_simp)) ?_
  simp only [Act.put, List.setIfInBounds_toArray, List.set_cons_zero, List.set_cons_succ]
  refine wpX_step 7 (o := { dst := none, op := Op.store 3 (Operand.tmp 25) (Operand.tmp 20), type := 0, pos := "wire.go:23", after := #[{ on := 6, ground := Ground.data }, { on := 1, ground := Ground.data }, { on := 0, ground := Ground.phase }, { on := 1, ground := Ground.phase }, { on := 2, ground := Ground.textOnly Departure.lateStores }, { on := 3, ground := Ground.textOnly Departure.lateStores }, { on := 4, ground := Ground.textOnly Departure.lateStores }, { on := 5, ground := Ground.textOnly Departure.lateStores }], guard := none }) rfl rfl (by kernel_rfl) (by rfl) (fun u0 hS0 K0 hK0 => ?_)
  have HK0 := Lib.hid hK0
  have HS0 := Lib.hid hS0
  clear hK0 hS0
  obtain ⟨x0, x1, x2, x3, x4, x5, hT, hr⟩ := HS0.out.2
  obtain ⟨rfl, rfl⟩ := hT
  have cv := Row.cell hr 17
  have fv := Row.frozen hr 17
  rw [show 17 = 17 + 0 from rfl, rqG_get _ _ _ _ _ _ _ HX.out] at cv
  simp at cv
  refine wp_skip_opU (w1 := u0.setCell ⟨b3, 17, none⟩ (.int .i64 q.number)) (by go_simp) ?_
  obtain ⟨v0, hv0⟩ : ∃ v0, v0 = u0.setCell ⟨b3, 17, none⟩ (.int .i64 q.number) := ⟨_, rfl⟩
  rw [← hv0]
  have gv : u0.grownBy v0 (some b3) := hv0 ▸ grownBy_setCell _ _ _ _
  have rv : Row v0 b3 43 (rqG q (.int .i64 q.number) (.int .i64 0) (.int .i64 0) (x3) (x4) (x5)) := by
    have h := Row.setc hr 17 (.int .i64 q.number)
    rw [show 17 = 17 + 0 from rfl, rqG_set _ _ _ _ _ _ _ HX.out] at h
    rw [hv0]
    exact h
  clear cv fv
  refine HK0.out (SG b3 w3 q (fun x0 x1 x2 x3 x4 x5 => x0 = .int .i64 q.number ∧ x1 = .int .i64 0 ∧ x2 = .int .i64 0)) _ _ ⟨HS0.out.1.trans (Ch.ofSome (S := fun x => x = b3) gv rfl) (fun _ _ h => h), _, _, _, _, _, _, ⟨rfl, rfl, rfl⟩, rv⟩ (fun u h => ⟨h.1, by
    obtain ⟨y0, y1, y2, y3, y4, y5, hT, hr⟩ := h.2
    exact ⟨y0, y1, y2, y3, y4, y5, by simp only [hT, and_self], hr⟩⟩) (clo_SG _ _ _ _) ?_
  simp only [Act.put]
  clear HK0 HS0 hr gv rv hv0
  refine wpX_take 8 (v := .pointer (some ⟨b3, 20, none⟩)) (oi := { dst := some 26, op := Op.fieldAddr 43 (Operand.tmp 3) 5, type := 0, pos := "wire.go:23", after := #[{ on := 0, ground := Ground.phase }, { on := 1, ground := Ground.phase }, { on := 2, ground := Ground.phase }, { on := 3, ground := Ground.phase }, { on := 4, ground := Ground.textOnly Departure.lateStores }, { on := 5, ground := Ground.textOnly Departure.lateStores }, { on := 6, ground := Ground.phase }, { on := 7, ground := Ground.phase }], guard := none }) (oL := oLUsed0) (clo_SG _ _ _ _) rfl rfl rfl (by kernel_rfl) (by kernel_rfl) (by kernel_rfl) (by kernel_rfl) (by kernel_rfl) (fun _ _ _ h => by cases h.1) (YG.val (by rfl) (fun _ _ => by go_simp)) ?_
  simp only [Act.put, List.setIfInBounds_toArray, List.set_cons_zero, List.set_cons_succ]
  refine wpX_step 9 (o := { dst := none, op := Op.store 41 (Operand.tmp 26) (Operand.tmp 22), type := 0, pos := "wire.go:23", after := #[{ on := 8, ground := Ground.data }, { on := 3, ground := Ground.data }, { on := 7, ground := Ground.chain }, { on := 0, ground := Ground.phase }, { on := 1, ground := Ground.phase }, { on := 2, ground := Ground.phase }, { on := 3, ground := Ground.phase }, { on := 4, ground := Ground.textOnly Departure.lateStores }, { on := 5, ground := Ground.textOnly Departure.lateStores }, { on := 6, ground := Ground.phase }, { on := 7, ground := Ground.phase }], guard := none }) rfl rfl (by kernel_rfl) (by rfl) (fun u1 hS1 K1 hK1 => ?_)
  have HK1 := Lib.hid hK1
  have HS1 := Lib.hid hS1
  clear hK1 hS1
  obtain ⟨x0, x1, x2, x3, x4, x5, hT, hr⟩ := HS1.out.2
  obtain ⟨rfl, rfl, rfl⟩ := hT
  refine wp_store_mid 41 _ _ rfl b3 20 #[.int .u32 (q.who : Int), .int .i64 q.till] rfl rfl (rqG_there hr HX.out 3 2 (by omega)) (by rw [size_lease]; rfl) (by simp [Value.oneCell']) ?_
  obtain ⟨v1, hv1⟩ : ∃ v1, v1 = u1.setCells b3 20 [.int .u32 (q.who : Int), .int .i64 q.till] := ⟨_, rfl⟩
  have gv : u1.grownBy v1 (some b3) := hv1 ▸ grownBy_setCellsR _ _ _ _
  have rv : Row v1 b3 43 (rqG q (.int .i64 q.number) (.int .i64 0) (.int .i64 0) (.int .u32 (q.who : Int)) (.int .i64 q.till) (x5)) := by
    have h := Row.setcs b3 43 [.int .u32 (q.who : Int), .int .i64 q.till] 20 u1 _ hr
    unfold laidR laidR laidR at h
    rw [show 20 = 17 + 3 from rfl, rqG_set _ _ _ _ _ _ _ HX.out] at h
    have h2 : Row _ b3 43 ((rqG q (.int .i64 q.number) (.int .i64 0) (.int .i64 0) (.int .u32 (q.who : Int)) (x4) (x5)).setIfInBounds (17 + 4) (.int .i64 q.till)) := h
    rw [rqG_set _ _ _ _ _ _ _ HX.out] at h2
    rw [hv1]
    exact h2
  show K1 _ (u1.setCells b3 20 [.int .u32 (q.who : Int), .int .i64 q.till])
  rw [← hv1]
  refine HK1.out (SG b3 w3 q (fun x0 x1 x2 x3 x4 x5 => x0 = .int .i64 q.number ∧ x1 = .int .i64 0 ∧ x2 = .int .i64 0 ∧ x3 = .int .u32 (q.who : Int) ∧ x4 = .int .i64 q.till)) _ _ ⟨HS1.out.1.trans (Ch.ofSome (S := fun x => x = b3) gv rfl) (fun _ _ h => h), _, _, _, _, _, _, ⟨rfl, rfl, rfl, rfl, rfl⟩, rv⟩ (fun u h => ⟨h.1, by
    obtain ⟨y0, y1, y2, y3, y4, y5, hT, hr⟩ := h.2
    exact ⟨y0, y1, y2, y3, y4, y5, by simp only [hT, and_self], hr⟩⟩) (clo_SG _ _ _ _) ?_
  simp only [Act.put]
  clear HK1 HS1 hr gv rv hv1
  refine wpX_take 10 (v := .pointer (some ⟨b3, 22, none⟩)) (oi := { dst := some 27, op := Op.fieldAddr 43 (Operand.tmp 3) 6, type := 0, pos := "wire.go:23", after := #[{ on := 0, ground := Ground.phase }, { on := 1, ground := Ground.phase }, { on := 2, ground := Ground.phase }, { on := 3, ground := Ground.phase }, { on := 4, ground := Ground.phase }, { on := 5, ground := Ground.phase }, { on := 6, ground := Ground.phase }, { on := 7, ground := Ground.phase }, { on := 8, ground := Ground.phase }, { on := 9, ground := Ground.phase }], guard := none }) (oL := oLUsed0) (clo_SG _ _ _ _) rfl rfl rfl (by kernel_rfl) (by kernel_rfl) (by kernel_rfl) (by kernel_rfl) (by kernel_rfl) (fun _ _ _ h => by cases h.1) (YG.val (by rfl) (fun _ _ => by go_simp)) ?_
  simp only [Act.put, List.setIfInBounds_toArray, List.set_cons_zero, List.set_cons_succ]
  refine wpX_last (oL := { dst := none, op := Op.store 24 (Operand.tmp 27) (Operand.tmp 24), type := 0, pos := "wire.go:23", after := #[{ on := 10, ground := Ground.data }, { on := 5, ground := Ground.data }, { on := 9, ground := Ground.chain }, { on := 0, ground := Ground.phase }, { on := 1, ground := Ground.phase }, { on := 2, ground := Ground.phase }, { on := 3, ground := Ground.phase }, { on := 4, ground := Ground.phase }, { on := 5, ground := Ground.phase }, { on := 6, ground := Ground.phase }, { on := 7, ground := Ground.phase }, { on := 8, ground := Ground.phase }, { on := 9, ground := Ground.phase }], guard := none }) rfl (by kernel_rfl) (by kernel_rfl) (by rfl) (fun u2 hS2 K2 hK2 => ?_)
  have HK2 := Lib.hid hK2
  have HS2 := Lib.hid hS2
  clear hK2 hS2
  obtain ⟨x0, x1, x2, x3, x4, x5, hT, hr⟩ := HS2.out.2
  obtain ⟨rfl, rfl, rfl, rfl, rfl⟩ := hT
  have cv := Row.cell hr 22
  have fv := Row.frozen hr 22
  rw [show 22 = 17 + 5 from rfl, rqG_get _ _ _ _ _ _ _ HX.out] at cv
  simp at cv
  refine wp_skip_opU (w1 := u2.setCell ⟨b3, 22, none⟩ (.slice a n c)) (by go_simp) ?_
  obtain ⟨v2, hv2⟩ : ∃ v2, v2 = u2.setCell ⟨b3, 22, none⟩ (.slice a n c) := ⟨_, rfl⟩
  rw [← hv2]
  have gv : u2.grownBy v2 (some b3) := hv2 ▸ grownBy_setCell _ _ _ _
  have rv : Row v2 b3 43 (rqG q (.int .i64 q.number) (.int .i64 0) (.int .i64 0) (.int .u32 (q.who : Int)) (.int .i64 q.till) (.slice a n c)) := by
    have h := Row.setc hr 22 (.slice a n c)
    rw [show 22 = 17 + 5 from rfl, rqG_set _ _ _ _ _ _ _ HX.out] at h
    rw [hv2]
    exact h
  clear cv fv
  have HCE := Lib.hid (HS2.out.1.trans (Ch.ofSome (S := fun x => x = b3) gv rfl) (fun _ _ h => h))
  have HRV := Lib.hid rv
  refine HK2.out _ _ ?_
  simp only [Act.put]
  clear HK2 HS2 hr gv rv hv2
  refine ⟨by first | rfl | trivial, ?_⟩
  have RSE := Lib.hid (RS.out.ch HCE.out (fun h => by have := HB3.out; omega))
  have GE := Lib.hid (Ch.fresh G3.out HCE.out (fun y hy h => by have h1 := HB.out; have h2 := HB3.out; omega))
  have RBE := Lib.hid (show Row v2 b3 43 (rqC ({ bareQ q with number := q.number, who := q.who, till := q.till }) (.slice a n c)) from HRV.out)
  go_wp2_with (first
    | (refine wpList_load_row rfl 43 _ rfl b3 rfl 43 (rqC ({ bareQ q with number := q.number, who := q.who, till := q.till }) (.slice a n c)) (0, 0) _ RBE.out Try.underlying43 rfl (by rw [size_req]; exact congrArg some (rq_len ({ bareQ q with number := q.number, who := q.who, till := q.till }) _ HX.out).symm) ?_)
    | (refine wpList_putrow rfl rfl b2 rfl (rqC ({ bareQ q with number := q.number, who := q.who, till := q.till }) (.slice a n c)) rfl RSE.out (by rw [size_req]; exact congrArg some (rq_len ({ bareQ q with number := q.number, who := q.who, till := q.till }) _ HX.out).symm) (rq_len ({ bareQ q with number := q.number, who := q.who, till := q.till }) _ HX.out).symm (rq_one _ _ _ _) ?_; intro W6 hg6 hr6; have HG6 := Lib.hid hg6; have HR6 := Lib.hid hr6; clear hg6 hr6))
  refine bodyPost_ret (results_cell1 rfl _ _ b2 43 (rqC ({ bareQ q with number := q.number, who := q.who, till := q.till }) (.slice a n c)) (0, 0) _ rfl HR6.out Try.underlying43 rfl (by rw [size_req]; exact congrArg some (rq_len ({ bareQ q with number := q.number, who := q.who, till := q.till }) _ HX.out).symm)) rfl ?_
  exact ⟨rfl, grownBy_old GE.out HG6.out (by have := HB.out; omega)⟩
set_option maxRecDepth 100000 in
set_option maxHeartbeats 4000000 in
theorem used_3 (K : Int) (q : Rq) (a : Option Addr) (n c : Nat) (w : World) (hx : q.ix.length = 16) (hk : q.kind = 3) :
    Calls Try.prog 57 #[.agg (rqC q (.slice a n c))] w fun e w' => e = .returned (.agg (rqC ({ bareQ q with number := q.number, pos := q.pos, len := q.len }) (.slice none 0 0))) ∧ w.grownBy w' none := by
  have HKQ := Lib.hid hk
  clear hk
  obtain ⟨ir, zr, hir, hirz, hirs, hz⟩ := info_req
  subst hz
  have HX := Lib.hid hx
  clear hx
  go_enter Try.func57, Try.ntmps57
  go_upto_region 1 with (first
    | (refine wpList_boxed rfl rfl (rqC q (.slice a n c)) rfl ?_; intro w1 hs g hr; have G1 := Lib.hid g; have R1 := Lib.hid (show Row w1 w.heap.size 43 (rqC q (.slice a n c)) from hr); clear hs g hr)
    | (refine wpList_made rfl rfl hir hirz ?_; intro w2 hs g hr; have G2 := Lib.hid (grownBy_trans G1.out g); have R2 := Lib.hid (R1.out.grown g); have RR := Lib.hid (show Row w2 w1.heap.size 43 #[.int .u8 0, .int .u8 0, .int .u8 0, .int .u8 0, .int .u8 0, .int .u8 0, .int .u8 0, .int .u8 0, .int .u8 0, .int .u8 0, .int .u8 0, .int .u8 0, .int .u8 0, .int .u8 0, .int .u8 0, .int .u8 0, .int .u8 0, .int .i64 0, .int .i64 0, .int .i64 0, .int .u32 0, .int .i64 0, .slice none 0 0] from hr); clear hs g hr))
  obtain ⟨b1, hb1⟩ : ∃ b1, b1 = w.heap.size := ⟨_, rfl⟩
  obtain ⟨b2, hb2⟩ : ∃ b2, b2 = w1.heap.size := ⟨_, rfl⟩
  have HB := Lib.hid (show w.heap.size ≤ b1 ∧ b1 < b2 ∧ b2 < w2.heap.size from ⟨by omega, by rw [hb1, hb2]; exact R1.out.lt, by rw [hb2]; exact RR.out.lt⟩)
  rw [← hb1] at R2 ⊢
  rw [← hb2] at RR ⊢
  clear hb1 hb2 R1 G1
  have c0 := rq_kind R2.out
  go_upto_region 2 with (first
    | (refine wpList_load_mid rfl 38 _ rfl b1 1 rfl (q.ix.map bval) _ (rq_ixr R2.out) Try.underlying38 rfl (by rw [size_ix, List.length_map, HX.out]) ?_)
    | (refine wpList_valp rfl (run_build_req _ _ (.tmp 5) (.tmp 7) rfl q.kind q.ix HX.out rfl rfl) ?_)
    | (refine wpList_fresh rfl rfl rfl rfl rfl hir hirz hirs (rqC (bareQ q) (.slice none 0 0)) rfl rfl (by rw [rq_len (bareQ q) _ HX.out]; rfl) (rq_one _ _ _ _) ?_; intro w3 hs g hr; have G3 := Lib.hid (grownBy_trans G2.out g); have R3 := Lib.hid (R2.out.grown g); have RS := Lib.hid (RR.out.grown g); have RB := Lib.hid (show Row w3 w2.heap.size 43 (rqC (bareQ q) (.slice none 0 0)) from hr); clear hs g hr))
  obtain ⟨b3, hb3⟩ : ∃ b3, b3 = w2.heap.size := ⟨_, rfl⟩
  have HB3 := Lib.hid (show b2 < b3 by rw [hb3]; exact HB.out.2.2)
  rw [← hb3] at RB ⊢
  clear hb3 R2 RR c0
  have c0 := rq_kind R3.out
  have c0' : w3.cell? ⟨b1, 0, none⟩ = some (.int .u8 3) := by rw [c0, HKQ.out]; rfl
  clear c0
  go_upto_region 8 with fail
  refine wp_normalR ?_
  refine wp_regionX (SG b3 w3 q (fun x0 x1 x2 x3 x4 x5 => x3 = .int .u32 0 ∧ x4 = .int .i64 0 ∧ x5 = .slice none 0 0)) 11 (by kernel_rfl) ⟨Ch.ofNone (grownBy_drewN w3 1 none) _, _, _, _, _, _, _, ⟨rfl, rfl, rfl⟩, (show Row w3 b3 43 (rqG q (.int .i64 0) (.int .i64 0) (.int .i64 0) (.int .u32 0) (.int .i64 0) (.slice none 0 0)) from RB.out).grown (grownBy_drewN w3 1 none)⟩ ?_
  refine wpX_take 0 (v := .pointer (some ⟨b1, 17, none⟩)) (oi := { dst := some 28, op := Op.fieldAddr 43 (Operand.tmp 1) 2, type := 0, pos := "wire.go:25", after := #[], guard := none }) (oL := oLUsed1) (clo_SG _ _ _ _) rfl rfl rfl (by kernel_rfl) (by kernel_rfl) (by kernel_rfl) (by kernel_rfl) (by kernel_rfl) (fun _ _ _ h => by cases h.1) (YG.val (by rfl) (fun _ _ => by go_simp)) ?_
  simp only [Act.put, List.setIfInBounds_toArray, List.set_cons_zero, List.set_cons_succ]
  refine wpX_take 1 (v := .int .i64 q.number) (oi := { dst := some 29, op := Op.load 3 (Operand.tmp 28), type := 3, pos := "wire.go:25", after := #[{ on := 0, ground := Ground.data }], guard := none }) (oL := oLUsed1) (clo_SG _ _ _ _) rfl rfl rfl (by kernel_rfl) (by kernel_rfl) (by kernel_rfl) (by kernel_rfl) (by kernel_rfl) (fun _ _ _ h => by cases h.1) (YG.val (by rfl) (fun u hu => by have c := rq_cell (R3.out.ch hu.1 (fun h => by have h1 := HB.out; have h2 := HB3.out; omega)) HX.out 0; simp at c; go_simp)) ?_
  simp only [Act.put, List.setIfInBounds_toArray, List.set_cons_zero, List.set_cons_succ]
  refine wpX_take 2 (v := .pointer (some ⟨b1, 18, none⟩)) (oi := { dst := some 30, op := Op.fieldAddr 43 (Operand.tmp 1) 3, type := 0, pos := "wire.go:25", after := #[{ on := 7, ground := Ground.gcOnly Departure.lateStores }], guard := none }) (oL := oLUsed1) (clo_SG _ _ _ _) rfl rfl rfl (by kernel_rfl) (by kernel_rfl) (by kernel_rfl) (by kernel_rfl) (by kernel_rfl) (fun _ _ _ h => by cases h.1) (YG.val (by rfl) (fun _ _ => by go_simp)) ?_
  simp only [Act.put, List.setIfInBounds_toArray, List.set_cons_zero, List.set_cons_succ]
  refine wpX_take 3 (v := .int .i64 q.pos) (oi := { dst := some 31, op := Op.load 3 (Operand.tmp 30), type := 3, pos := "wire.go:25", after := #[{ on := 2, ground := Ground.data }, { on := 7, ground := Ground.gcOnly Departure.lateStores }], guard := none }) (oL := oLUsed1) (clo_SG _ _ _ _) rfl rfl rfl (by kernel_rfl) (by kernel_rfl) (by kernel_rfl) (by kernel_rfl) (by kernel_rfl) (fun _ _ _ h => by cases h.1) (YG.val (by rfl) (fun u hu => by have c := rq_cell (R3.out.ch hu.1 (fun h => by have h1 := HB.out; have h2 := HB3.out; omega)) HX.out 1; simp at c; go_simp)) ?_
  simp only [Act.put, List.setIfInBounds_toArray, List.set_cons_zero, List.set_cons_succ]
  refine wpX_take 4 (v := .pointer (some ⟨b1, 19, none⟩)) (oi := { dst := some 32, op := Op.fieldAddr 43 (Operand.tmp 1) 4, type := 0, pos := "wire.go:25", after := #[{ on := 9, ground := Ground.gcOnly Departure.lateStores }], guard := none }) (oL := oLUsed1) (clo_SG _ _ _ _) rfl rfl rfl (by kernel_rfl) (by kernel_rfl) (by kernel_rfl) (by kernel_rfl) (by kernel_rfl) (fun _ _ _ h => by cases h.1) (YG.val (by rfl) (fun _ _ => by go_simp)) ?_
  simp only [Act.put, List.setIfInBounds_toArray, List.set_cons_zero, List.set_cons_succ]
  refine wpX_take 5 (v := .int .i64 q.len) (oi := { dst := some 33, op := Op.load 3 (Operand.tmp 32), type := 3, pos := "wire.go:25", after := #[{ on := 4, ground := Ground.data }, { on := 9, ground := Ground.gcOnly Departure.lateStores }], guard := none }) (oL := oLUsed1) (clo_SG _ _ _ _) rfl rfl rfl (by kernel_rfl) (by kernel_rfl) (by kernel_rfl) (by kernel_rfl) (by kernel_rfl) (fun _ _ _ h => by cases h.1) (YG.val (by rfl) (fun u hu => by have c := rq_cell (R3.out.ch hu.1 (fun h => by have h1 := HB.out; have h2 := HB3.out; omega)) HX.out 2; simp at c; go_simp)) ?_
  simp only [Act.put, List.setIfInBounds_toArray, List.set_cons_zero, List.set_cons_succ]
  refine wpX_take 6 (v := .pointer (some ⟨b3, 17, none⟩)) (oi := { dst := some 34, op := Op.fieldAddr 43 (Operand.tmp 3) 2, type := 0, pos := "wire.go:25", after := #[{ on := 0, ground := Ground.phase }, { on := 1, ground := Ground.phase }, { on := 2, ground := Ground.textOnly Departure.lateStores }, { on := 3, ground := Ground.textOnly Departure.lateStores }, { on := 4, ground := Ground.textOnly Departure.lateStores }, { on := 5, ground := Ground.textOnly Departure.lateStores }], guard := none }) (oL := oLUsed1) (clo_SG _ _ _ _) rfl rfl rfl (by kernel_rfl) (by kernel_rfl) (by kernel_rfl) (by kernel_rfl) (by kernel_rfl) (fun _ _ _ h => by cases h.1) (YG.val (by rfl) (fun _ _ => by go_simp)) ?_
  simp only [Act.put, List.setIfInBounds_toArray, List.set_cons_zero, List.set_cons_succ]
  refine wpX_step 7 (o := { dst := none, op := Op.store 3 (Operand.tmp 34) (Operand.tmp 29), type := 0, pos := "wire.go:25", after := #[{ on := 6, ground := Ground.data }, { on := 1, ground := Ground.data }, { on := 0, ground := Ground.phase }, { on := 1, ground := Ground.phase }, { on := 2, ground := Ground.textOnly Departure.lateStores }, { on := 3, ground := Ground.textOnly Departure.lateStores }, { on := 4, ground := Ground.textOnly Departure.lateStores }, { on := 5, ground := Ground.textOnly Departure.lateStores }], guard := none }) rfl rfl (by kernel_rfl) (by rfl) (fun u0 hS0 K0 hK0 => ?_)
  have HK0 := Lib.hid hK0
  have HS0 := Lib.hid hS0
  clear hK0 hS0
  obtain ⟨x0, x1, x2, x3, x4, x5, hT, hr⟩ := HS0.out.2
  obtain ⟨rfl, rfl, rfl⟩ := hT
  have cv := Row.cell hr 17
  have fv := Row.frozen hr 17
  rw [show 17 = 17 + 0 from rfl, rqG_get _ _ _ _ _ _ _ HX.out] at cv
  simp at cv
  refine wp_skip_opU (w1 := u0.setCell ⟨b3, 17, none⟩ (.int .i64 q.number)) (by go_simp) ?_
  obtain ⟨v0, hv0⟩ : ∃ v0, v0 = u0.setCell ⟨b3, 17, none⟩ (.int .i64 q.number) := ⟨_, rfl⟩
  rw [← hv0]
  have gv : u0.grownBy v0 (some b3) := hv0 ▸ grownBy_setCell _ _ _ _
  have rv : Row v0 b3 43 (rqG q (.int .i64 q.number) (x1) (x2) (.int .u32 0) (.int .i64 0) (.slice none 0 0)) := by
    have h := Row.setc hr 17 (.int .i64 q.number)
    rw [show 17 = 17 + 0 from rfl, rqG_set _ _ _ _ _ _ _ HX.out] at h
    rw [hv0]
    exact h
  clear cv fv
  refine HK0.out (SG b3 w3 q (fun x0 x1 x2 x3 x4 x5 => x0 = .int .i64 q.number ∧ x3 = .int .u32 0 ∧ x4 = .int .i64 0 ∧ x5 = .slice none 0 0)) _ _ ⟨HS0.out.1.trans (Ch.ofSome (S := fun x => x = b3) gv rfl) (fun _ _ h => h), _, _, _, _, _, _, ⟨rfl, rfl, rfl, rfl⟩, rv⟩ (fun u h => ⟨h.1, by
    obtain ⟨y0, y1, y2, y3, y4, y5, hT, hr⟩ := h.2
    exact ⟨y0, y1, y2, y3, y4, y5, by simp only [hT, and_self], hr⟩⟩) (clo_SG _ _ _ _) ?_
  simp only [Act.put]
  clear HK0 HS0 hr gv rv hv0
  refine wpX_take 8 (v := .pointer (some ⟨b3, 18, none⟩)) (oi := { dst := some 35, op := Op.fieldAddr 43 (Operand.tmp 3) 3, type := 0, pos := "wire.go:25", after := #[{ on := 0, ground := Ground.phase }, { on := 1, ground := Ground.phase }, { on := 2, ground := Ground.phase }, { on := 3, ground := Ground.phase }, { on := 4, ground := Ground.textOnly Departure.lateStores }, { on := 5, ground := Ground.textOnly Departure.lateStores }, { on := 6, ground := Ground.phase }, { on := 7, ground := Ground.phase }], guard := none }) (oL := oLUsed1) (clo_SG _ _ _ _) rfl rfl rfl (by kernel_rfl) (by kernel_rfl) (by kernel_rfl) (by kernel_rfl) (by kernel_rfl) (fun _ _ _ h => by cases h.1) (YG.val (by rfl) (fun _ _ => by go_simp)) ?_
  simp only [Act.put, List.setIfInBounds_toArray, List.set_cons_zero, List.set_cons_succ]
  refine wpX_step 9 (o := { dst := none, op := Op.store 3 (Operand.tmp 35) (Operand.tmp 31), type := 0, pos := "wire.go:25", after := #[{ on := 8, ground := Ground.data }, { on := 3, ground := Ground.data }, { on := 7, ground := Ground.chain }, { on := 0, ground := Ground.phase }, { on := 1, ground := Ground.phase }, { on := 2, ground := Ground.phase }, { on := 3, ground := Ground.phase }, { on := 4, ground := Ground.textOnly Departure.lateStores }, { on := 5, ground := Ground.textOnly Departure.lateStores }, { on := 6, ground := Ground.phase }, { on := 7, ground := Ground.phase }], guard := none }) rfl rfl (by kernel_rfl) (by rfl) (fun u1 hS1 K1 hK1 => ?_)
  have HK1 := Lib.hid hK1
  have HS1 := Lib.hid hS1
  clear hK1 hS1
  obtain ⟨x0, x1, x2, x3, x4, x5, hT, hr⟩ := HS1.out.2
  obtain ⟨rfl, rfl, rfl, rfl⟩ := hT
  have cv := Row.cell hr 18
  have fv := Row.frozen hr 18
  rw [show 18 = 17 + 1 from rfl, rqG_get _ _ _ _ _ _ _ HX.out] at cv
  simp at cv
  refine wp_skip_opU (w1 := u1.setCell ⟨b3, 18, none⟩ (.int .i64 q.pos)) (by go_simp) ?_
  obtain ⟨v1, hv1⟩ : ∃ v1, v1 = u1.setCell ⟨b3, 18, none⟩ (.int .i64 q.pos) := ⟨_, rfl⟩
  rw [← hv1]
  have gv : u1.grownBy v1 (some b3) := hv1 ▸ grownBy_setCell _ _ _ _
  have rv : Row v1 b3 43 (rqG q (.int .i64 q.number) (.int .i64 q.pos) (x2) (.int .u32 0) (.int .i64 0) (.slice none 0 0)) := by
    have h := Row.setc hr 18 (.int .i64 q.pos)
    rw [show 18 = 17 + 1 from rfl, rqG_set _ _ _ _ _ _ _ HX.out] at h
    rw [hv1]
    exact h
  clear cv fv
  refine HK1.out (SG b3 w3 q (fun x0 x1 x2 x3 x4 x5 => x0 = .int .i64 q.number ∧ x1 = .int .i64 q.pos ∧ x3 = .int .u32 0 ∧ x4 = .int .i64 0 ∧ x5 = .slice none 0 0)) _ _ ⟨HS1.out.1.trans (Ch.ofSome (S := fun x => x = b3) gv rfl) (fun _ _ h => h), _, _, _, _, _, _, ⟨rfl, rfl, rfl, rfl, rfl⟩, rv⟩ (fun u h => ⟨h.1, by
    obtain ⟨y0, y1, y2, y3, y4, y5, hT, hr⟩ := h.2
    exact ⟨y0, y1, y2, y3, y4, y5, by simp only [hT, and_self], hr⟩⟩) (clo_SG _ _ _ _) ?_
  simp only [Act.put]
  clear HK1 HS1 hr gv rv hv1
  refine wpX_take 10 (v := .pointer (some ⟨b3, 19, none⟩)) (oi := { dst := some 36, op := Op.fieldAddr 43 (Operand.tmp 3) 4, type := 0, pos := "wire.go:25", after := #[{ on := 0, ground := Ground.phase }, { on := 1, ground := Ground.phase }, { on := 2, ground := Ground.phase }, { on := 3, ground := Ground.phase }, { on := 4, ground := Ground.phase }, { on := 5, ground := Ground.phase }, { on := 6, ground := Ground.phase }, { on := 7, ground := Ground.phase }, { on := 8, ground := Ground.phase }, { on := 9, ground := Ground.phase }], guard := none }) (oL := oLUsed1) (clo_SG _ _ _ _) rfl rfl rfl (by kernel_rfl) (by kernel_rfl) (by kernel_rfl) (by kernel_rfl) (by kernel_rfl) (fun _ _ _ h => by cases h.1) (YG.val (by rfl) (fun _ _ => by go_simp)) ?_
  simp only [Act.put, List.setIfInBounds_toArray, List.set_cons_zero, List.set_cons_succ]
  refine wpX_last (oL := { dst := none, op := Op.store 3 (Operand.tmp 36) (Operand.tmp 33), type := 0, pos := "wire.go:25", after := #[{ on := 10, ground := Ground.data }, { on := 5, ground := Ground.data }, { on := 9, ground := Ground.chain }, { on := 0, ground := Ground.phase }, { on := 1, ground := Ground.phase }, { on := 2, ground := Ground.phase }, { on := 3, ground := Ground.phase }, { on := 4, ground := Ground.phase }, { on := 5, ground := Ground.phase }, { on := 6, ground := Ground.phase }, { on := 7, ground := Ground.phase }, { on := 8, ground := Ground.phase }, { on := 9, ground := Ground.phase }], guard := none }) rfl (by kernel_rfl) (by kernel_rfl) (by rfl) (fun u2 hS2 K2 hK2 => ?_)
  have HK2 := Lib.hid hK2
  have HS2 := Lib.hid hS2
  clear hK2 hS2
  obtain ⟨x0, x1, x2, x3, x4, x5, hT, hr⟩ := HS2.out.2
  obtain ⟨rfl, rfl, rfl, rfl, rfl⟩ := hT
  have cv := Row.cell hr 19
  have fv := Row.frozen hr 19
  rw [show 19 = 17 + 2 from rfl, rqG_get _ _ _ _ _ _ _ HX.out] at cv
  simp at cv
  refine wp_skip_opU (w1 := u2.setCell ⟨b3, 19, none⟩ (.int .i64 q.len)) (by go_simp) ?_
  obtain ⟨v2, hv2⟩ : ∃ v2, v2 = u2.setCell ⟨b3, 19, none⟩ (.int .i64 q.len) := ⟨_, rfl⟩
  rw [← hv2]
  have gv : u2.grownBy v2 (some b3) := hv2 ▸ grownBy_setCell _ _ _ _
  have rv : Row v2 b3 43 (rqG q (.int .i64 q.number) (.int .i64 q.pos) (.int .i64 q.len) (.int .u32 0) (.int .i64 0) (.slice none 0 0)) := by
    have h := Row.setc hr 19 (.int .i64 q.len)
    rw [show 19 = 17 + 2 from rfl, rqG_set _ _ _ _ _ _ _ HX.out] at h
    rw [hv2]
    exact h
  clear cv fv
  have HCE := Lib.hid (HS2.out.1.trans (Ch.ofSome (S := fun x => x = b3) gv rfl) (fun _ _ h => h))
  have HRV := Lib.hid rv
  refine HK2.out _ _ ?_
  simp only [Act.put]
  clear HK2 HS2 hr gv rv hv2
  refine ⟨by first | rfl | trivial, ?_⟩
  have RSE := Lib.hid (RS.out.ch HCE.out (fun h => by have := HB3.out; omega))
  have GE := Lib.hid (Ch.fresh G3.out HCE.out (fun y hy h => by have h1 := HB.out; have h2 := HB3.out; omega))
  have RBE := Lib.hid (show Row v2 b3 43 (rqC ({ bareQ q with number := q.number, pos := q.pos, len := q.len }) (.slice none 0 0)) from HRV.out)
  go_wp2_with (first
    | (refine wpList_load_row rfl 43 _ rfl b3 rfl 43 (rqC ({ bareQ q with number := q.number, pos := q.pos, len := q.len }) (.slice none 0 0)) (0, 0) _ RBE.out Try.underlying43 rfl (by rw [size_req]; exact congrArg some (rq_len ({ bareQ q with number := q.number, pos := q.pos, len := q.len }) _ HX.out).symm) ?_)
    | (refine wpList_putrow rfl rfl b2 rfl (rqC ({ bareQ q with number := q.number, pos := q.pos, len := q.len }) (.slice none 0 0)) rfl RSE.out (by rw [size_req]; exact congrArg some (rq_len ({ bareQ q with number := q.number, pos := q.pos, len := q.len }) _ HX.out).symm) (rq_len ({ bareQ q with number := q.number, pos := q.pos, len := q.len }) _ HX.out).symm (rq_one _ _ _ _) ?_; intro W6 hg6 hr6; have HG6 := Lib.hid hg6; have HR6 := Lib.hid hr6; clear hg6 hr6))
  refine bodyPost_ret (results_cell1 rfl _ _ b2 43 (rqC ({ bareQ q with number := q.number, pos := q.pos, len := q.len }) (.slice none 0 0)) (0, 0) _ rfl HR6.out Try.underlying43 rfl (by rw [size_req]; exact congrArg some (rq_len ({ bareQ q with number := q.number, pos := q.pos, len := q.len }) _ HX.out).symm)) rfl ?_
  exact ⟨rfl, grownBy_old GE.out HG6.out (by have := HB.out; omega)⟩
end Go.Proofs.Ytkdmebcfedehiaa
/- wire.used of every request. -/
namespace Go.Proofs.Ytkdmebcfedehiaa
open Go.RowKit
theorem used_n (q : Rq) (a : Option Addr) (n c : Nat) (w : World) (hx : q.ix.length = 16) :
    Calls Try.prog 57 #[.agg (rqC q (.slice a n c))] w fun e w' => e = .returned (.agg (rqC (usedQ q) (usedS q (.slice a n c)))) ∧ w.grownBy w' none := by
  unfold usedQ usedS
  by_cases h2 : q.kind = 2
  · rw [if_pos h2, if_pos h2]
    exact used_2 0 q a n c w hx h2
  rw [if_neg h2, if_neg h2]
  by_cases h3 : q.kind = 3
  · rw [if_pos h3]
    exact used_3 0 q a n c w hx h3
  rw [if_neg h3]
  by_cases h4 : q.kind = 4
  · rw [if_pos h4]
    exact used_4 0 q a n c w hx h4
  rw [if_neg h4]
  by_cases h5 : q.kind = 5
  · rw [if_pos h5]
    exact used_5 0 q a n c w hx h5
  rw [if_neg h5]
  exact used_0 0 q a n c w hx h2 h3 h4 h5
end Go.Proofs.Ytkdmebcfedehiaa
/- Plain Lean: what mayAsk asks, one after the other, is whether a request may be. -/
namespace Go.Proofs.Ytkdmebcfedehiaa
open Go.RowKit
/-- nothing but what the kind uses -/
def SameU (q : Rq) : Prop := (usedQ q).number = q.number ∧ (usedQ q).pos = q.pos ∧ (usedQ q).len = q.len ∧ ((usedQ q).who = q.who ∧ (usedQ q).till = q.till) ∧ (q.kind = 2 ∨ q.bytes.length = 0)
theorem may_used {q : Rq} (h : MayQ q) : SameU q := by
  obtain ⟨k, ix, nb, ps, ln, who, till, bs⟩ := q
  unfold MayQ at h
  unfold SameU usedQ
  simp only at h ⊢
  rcases h with ⟨rfl, rfl, rfl, rfl, rfl, rfl, hb⟩ | ⟨rfl, rfl, rfl, h⟩ | ⟨rfl, h1, h2, h3, h4, h5, h6, rfl, rfl, hb⟩ | ⟨rfl, rfl, rfl, rfl, h3, h4, hb⟩ | ⟨rfl, rfl, rfl, rfl, rfl, hb⟩
  · exact ⟨rfl, rfl, rfl, ⟨rfl, rfl⟩, .inr hb⟩
  · exact ⟨rfl, rfl, rfl, ⟨rfl, rfl⟩, .inl rfl⟩
  · exact ⟨rfl, rfl, rfl, ⟨rfl, rfl⟩, .inr hb⟩
  · exact ⟨rfl, rfl, rfl, ⟨rfl, rfl⟩, .inr hb⟩
  · exact ⟨rfl, rfl, rfl, ⟨rfl, rfl⟩, .inr hb⟩
theorem used_may {q : Rq} (h : SameU q) : MayQ q ↔ (q.kind = 1 ∨ q.kind = 5 ∨ (q.kind = 2 ∧ 0 ≤ q.number ∧ q.number < 255 ∧ 0 ≤ q.till ∧ q.till ≤ 1099511627776 ∧ q.bytes.length ≤ 33554432) ∨
    (q.kind = 3 ∧ 0 ≤ q.number ∧ q.number < 255 ∧ 0 ≤ q.pos ∧ q.pos ≤ 33554432 ∧ 1 ≤ q.len ∧ q.len ≤ 131072) ∨ (q.kind = 4 ∧ 0 ≤ q.till ∧ q.till ≤ 1099511627776)) := by
  obtain ⟨k, ix, nb, ps, ln, who, till, bs⟩ := q
  unfold SameU usedQ bareQ at h
  unfold MayQ
  simp only at h ⊢
  by_cases h2 : k = 2
  · subst h2
    simp only [↓reduceIte] at h
    obtain ⟨_, e1, e2, _, _⟩ := h
    constructor
    · rintro (h | h | h | h | h) <;> omega
    · rintro (h | h | h | h | h) <;> omega
  rw [if_neg h2] at h
  by_cases h3 : k = 3
  · subst h3
    simp only [↓reduceIte] at h
    obtain ⟨_, _, _, ⟨e1, e2⟩, e3⟩ := h
    constructor
    · rintro (h | h | h | h | h) <;> omega
    · rintro (h | h | h | h | h) <;> omega
  rw [if_neg h3] at h
  by_cases h4 : k = 4
  · subst h4
    simp only [↓reduceIte] at h
    obtain ⟨e0, e1, e2, _, e3⟩ := h
    constructor
    · rintro (h | h | h | h | h) <;> omega
    · rintro (h | h | h | h | h) <;> omega
  rw [if_neg h4] at h
  by_cases h5 : k = 5
  · subst h5
    simp only [↓reduceIte] at h
    obtain ⟨e0, e1, e2, ⟨_, e4⟩, e3⟩ := h
    constructor
    · rintro (h | h | h | h | h) <;> omega
    · intro _
      refine .inr (.inr (.inr (.inr ?_)))
      omega
  rw [if_neg h5] at h
  simp only at h
  obtain ⟨e0, e1, e2, ⟨e4, e5⟩, e3⟩ := h
  constructor
  · rintro (h | h | h | h | h) <;> omega
  · rintro (h | h | h | h | h) <;> omega
end Go.Proofs.Ytkdmebcfedehiaa
/- wire.mayAsk: may a request be? Printed by gens/mayask.py. -/
namespace Go.Proofs.Ytkdmebcfedehiaa
open Go.RowKit

set_option maxRecDepth 100000 in
set_option maxHeartbeats 400000 in
theorem tick_n (x : Int) (w : World) : Calls Try.prog 58 #[.int .i64 x] w fun e w' => e = .returned (.bool (decide (0 ≤ x) && decide (x ≤ 1099511627776))) ∧ w = w' := by
  by_cases h : 0 ≤ x
  · have h1 : decide (0 ≤ x) = true := by simpa using h
    rw [h1, Bool.true_and]
    go_enter Try.func58, Try.ntmps58
    go_wp2
    go_ret
    exact ⟨rfl, rfl⟩
  · have h1 : decide (0 ≤ x) = false := by simpa using h
    rw [h1, Bool.false_and]
    go_enter Try.func58, Try.ntmps58
    go_wp2
    go_ret
    exact ⟨rfl, rfl⟩
theorem wpList_load_midU {P : Program} {ops : Array Oper} {rest : List Oper} {o : Oper} {a : Act} {w : World} {Q : Exit → Act → World → Prop} (hw : Region.wanted o (yielded ops a.tmps) = true) (ty : TypeId) (x : Operand) (ho : o.op = .load ty x)
    (b k : Nat) (hx : a.eval x = .pointer (some ⟨b, k, none⟩)) (cs : List Value) (d : TypeDesc) (hc : w.rangeAt b k cs)
    (hu : P.underlying ty = some d) (hd : d.isRow = true) (hi : (P.info? ty).map (·.size) = some cs.length)
    (h : wpList P ops Q rest (a.put o.dst (.agg cs.toArray)) w) : wpList P ops Q (o :: rest) a w := by
  unfold wpList
  rw [if_pos hw]
  exact .inl (wp_load_mid ty x ho b k hx cs d hc hu hd hi h)
theorem wpList_valU {P : Program} {ops : Array Oper} {rest : List Oper} {o : Oper} {a : Act} {w w1 : World} {v : Value} {Q : Exit → Act → World → Prop} (hw : Region.wanted o (yielded ops a.tmps) = true) (hr : (execOp a.eval o).run P w = .ok (.value v) w1)
    (h : wpList P ops Q rest (a.put o.dst v) w1) : wpList P ops Q (o :: rest) a w := by
  unfold wpList
  rw [if_pos hw]
  refine .inl ?_
  unfold Oper.wp
  rw [hr, Oper.upon_value]
  exact h
theorem lease_guard : Try.prog.eqGuardType Try.prog.depth 41 = false := by kernel_rfl
theorem run_neq_lease (w : World) (ev : Operand → Value) {o : Oper} {ty : TypeId} (x y : Operand) (ho : o.op = .binOp .neq 41 x y ty) {a b c d : Int} (hx : ev x = .agg #[.int .u32 a, .int .i64 b]) (hy : ev y = .agg #[.int .u32 c, .int .i64 d]) (h : LeaseOk a b) (k : LeaseOk c d) :
    (execOp ev o).run Try.prog w = .ok (.value (.bool (!decide (a = c ∧ b = d)))) w := by
  have e := (lease_eq h k w).2
  unfold leaseV at e
  unfold execOp
  simp only [ho, hx, hy]
  simp [run_eqGuard_agg w .neq 41 x y _ _ lease_guard, e]
theorem used_ok {q : Rq} (h : LeaseOk q.who q.till) : LeaseOk (usedQ q).who (usedQ q).till := by
  obtain ⟨k, ix, nb, ps, ln, who, till, bs⟩ := q
  unfold usedQ bareQ
  simp only at h ⊢
  unfold LeaseOk at h ⊢
  repeat' split
  all_goals (simp only; omega)
theorem used_ix {q : Rq} : (usedQ q).ix = q.ix := by
  unfold usedQ bareQ
  repeat' split
  all_goals rfl
set_option maxRecDepth 100000 in
set_option maxHeartbeats 8000000 in
theorem mayAsk_n (q : Rq) (a : Option Addr) (n c : Nat) (w : World) (hx : q.ix.length = 16) (hn : q.bytes.length = n) (hok : LeaseOk q.who q.till) (hnm : n ≤ maxLen) :
    Calls Try.prog 32 #[.agg (rqC q (.slice a n c))] w fun e w' => e = .returned (.bool (decide (MayQ q))) ∧ w.grownBy w' none := by
  obtain ⟨ir, zr, hir, hirz, hirs, hz⟩ := info_req
  subst hz
  obtain ⟨U, hU⟩ : ∃ U, U = usedQ q := ⟨_, rfl⟩
  have hUx : U.ix.length = 16 := by rw [hU, used_ix]; exact hx
  have hUok : LeaseOk U.who U.till := by rw [hU]; exact used_ok hok
  obtain ⟨a2, n2, c2, hS, hn2⟩ : ∃ a2 n2 c2, usedS q (.slice a n c) = .slice a2 n2 c2 ∧ (n2 = n ↔ (q.kind = 2 ∨ n = 0)) := by
    unfold usedS
    by_cases h2 : q.kind = 2
    · rw [if_pos h2]; exact ⟨a, n, c, rfl, by simp [h2]⟩
    · rw [if_neg h2]; exact ⟨none, 0, 0, rfl, by simp [h2]; omega⟩
  have HUS := Lib.hid (fun W => used_n q a n c W hx)
  rw [← hU, hS] at HUS
  have HSM := Lib.hid (show SameU q ↔ (U.number = q.number ∧ U.pos = q.pos ∧ U.len = q.len ∧ (U.who = q.who ∧ U.till = q.till) ∧ n2 = n) from by
    unfold SameU
    rw [← hU, hn2, hn])
  have HX := Lib.hid hx
  have HUX := Lib.hid hUx
  have HOK := Lib.hid hok
  have HUOK := Lib.hid hUok
  have HNM := Lib.hid hnm
  have HNN := Lib.hid hn
  clear hx hUx hok hUok hU hS hn2 hnm hn
  go_enter Try.func32, Try.ntmps32
  go_wp2_with (first
    | (refine wpList_boxed rfl rfl (rqC q (.slice a n c)) rfl ?_; intro wb hs g hr; have G0 := Lib.hid g; have R0 := Lib.hid (show Row wb w.heap.size 43 (rqC q (.slice a n c)) from hr); clear hs g hr)
    | (refine wpList_load_row rfl 43 _ rfl w.heap.size rfl 43 (rqC q (.slice a n c)) (0, 0) _ R0.out Try.underlying43 rfl (by rw [size_req]; exact congrArg some (rq_len q _ HX.out).symm) ?_))
  refine (HUS.out wb).mono ?_
  rintro e w1 ⟨rfl, g⟩
  have G1 := Lib.hid (grownBy_trans G0.out g)
  have R1 := Lib.hid (R0.out.grown g)
  clear g
  obtain ⟨b1, hb1⟩ : ∃ b1, b1 = w.heap.size := ⟨_, rfl⟩
  rw [← hb1] at R1 ⊢
  clear hb1 R0 G0
  go_upto_region 2 with (refine wpList_fresh rfl rfl rfl rfl rfl hir hirz hirs (rqC U (.slice a2 n2 c2)) rfl rfl (by rw [rq_len U _ HUX.out]; rfl) (rq_one _ _ _ _) ?_; intro w2 hs g hr; have G2 := Lib.hid (grownBy_trans G1.out g); have R2 := Lib.hid (R1.out.grown g); have RU := Lib.hid (show Row w2 w1.heap.size 43 (rqC U (.slice a2 n2 c2)) from hr); clear hs g hr)
  obtain ⟨b3, hb3⟩ : ∃ b3, b3 = w1.heap.size := ⟨_, rfl⟩
  rw [← hb3] at RU ⊢
  clear hb3 R1
  have k0 := rq_kind R2.out
  have x0 := rq_cell R2.out HX.out 0
  have d0 := rq_cell RU.out HUX.out 0
  simp at x0 d0
  have x1 := rq_cell R2.out HX.out 1
  have d1 := rq_cell RU.out HUX.out 1
  simp at x1 d1
  have x2 := rq_cell R2.out HX.out 2
  have d2 := rq_cell RU.out HUX.out 2
  simp at x2 d2
  have x3 := rq_cell R2.out HX.out 3
  have d3 := rq_cell RU.out HUX.out 3
  simp at x3 d3
  have x4 := rq_cell R2.out HX.out 4
  have d4 := rq_cell RU.out HUX.out 4
  simp at x4 d4
  have x5 := rq_cell R2.out HX.out 5
  have d5 := rq_cell RU.out HUX.out 5
  simp at x5 d5
  by_cases e0 : U.number = q.number
  case neg =>
    have f0 : (U.number != q.number) = true := by rw [bne_iff_ne]; exact e0
    have E0 := Lib.hid e0
    clear e0
    have HD := Lib.hid (show decide (MayQ q) = false from decide_eq_false (fun h => E0.out (HSM.out.1 (may_used h)).1))
    go_wp2_with fail
    go_ret
    exact ⟨ret_bool HD.out.symm, G2.out⟩
  have f0 : (U.number != q.number) = false := by rw [bne_eq_false_iff_eq]; exact e0
  have E0 := Lib.hid e0
  clear e0
  by_cases e1 : U.pos = q.pos
  case neg =>
    have f1 : (U.pos != q.pos) = true := by rw [bne_iff_ne]; exact e1
    have E1 := Lib.hid e1
    clear e1
    have HD := Lib.hid (show decide (MayQ q) = false from decide_eq_false (fun h => E1.out (HSM.out.1 (may_used h)).2.1))
    go_wp2_with fail
    go_ret
    exact ⟨ret_bool HD.out.symm, G2.out⟩
  have f1 : (U.pos != q.pos) = false := by rw [bne_eq_false_iff_eq]; exact e1
  have E1 := Lib.hid e1
  clear e1
  by_cases e2 : U.len = q.len
  case neg =>
    have f2 : (U.len != q.len) = true := by rw [bne_iff_ne]; exact e2
    have E2 := Lib.hid e2
    clear e2
    have HD := Lib.hid (show decide (MayQ q) = false from decide_eq_false (fun h => E2.out (HSM.out.1 (may_used h)).2.2.1))
    go_wp2_with fail
    go_ret
    exact ⟨ret_bool HD.out.symm, G2.out⟩
  have f2 : (U.len != q.len) = false := by rw [bne_eq_false_iff_eq]; exact e2
  have E2 := Lib.hid e2
  clear e2
  by_cases e3 : (U.who : Int) = (q.who : Int) ∧ U.till = q.till
  case neg =>
    have f3 : decide ((U.who : Int) = (q.who : Int) ∧ U.till = q.till) = false := decide_eq_false e3
    have f3b : (!decide ((U.who : Int) = (q.who : Int) ∧ U.till = q.till)) = true := by rw [f3]; rfl
    have E3 := Lib.hid e3
    clear e3 f3
    have HD := Lib.hid (show decide (MayQ q) = false from decide_eq_false (fun h => E3.out (by have := (HSM.out.1 (may_used h)).2.2.2.1; exact ⟨congrArg (fun x : Nat => (x : Int)) this.1, this.2⟩)))
    go_wp2_with (first
      | (with_reducible show wpList _ _ _ ({ dst := some 27, op := _, type := _, pos := _, after := _, guard := _ } :: _) _ _; refine wpList_load_midU (by kernel_rfl) 41 _ rfl b3 20 rfl _ _ (rq_mid RU.out HUX.out) Try.underlying41 rfl (by rw [size_lease]; rfl) ?_)
      | (with_reducible show wpList _ _ _ ({ dst := some 29, op := _, type := _, pos := _, after := _, guard := _ } :: _) _ _; refine wpList_load_midU (by kernel_rfl) 41 _ rfl b1 20 rfl _ _ (rq_mid R2.out HX.out) Try.underlying41 rfl (by rw [size_lease]; rfl) ?_)
      | (with_reducible show wpList _ _ _ ({ dst := some 30, op := _, type := _, pos := _, after := _, guard := _ } :: _) _ _; refine wpList_valU (by kernel_rfl) (run_neq_lease _ _ (.tmp 27) (.tmp 29) rfl rfl rfl HUOK.out HOK.out) ?_; rw [f3b]))
    go_ret
    exact ⟨ret_bool HD.out.symm, G2.out⟩
  have f3b : (!decide ((U.who : Int) = (q.who : Int) ∧ U.till = q.till)) = false := by rw [decide_eq_true e3]; rfl
  have E3 := Lib.hid e3
  clear e3
  by_cases e4 : n2 = n
  case neg =>
    have f4 : ((n2 : Int) != (n : Int)) = true := by rw [bne_iff_ne]; omega
    have E4 := Lib.hid e4
    clear e4
    have HD := Lib.hid (show decide (MayQ q) = false from decide_eq_false (fun h => E4.out (HSM.out.1 (may_used h)).2.2.2.2))
    go_wp2_with (first
      | (with_reducible show wpList _ _ _ ({ dst := some 27, op := _, type := _, pos := _, after := _, guard := _ } :: _) _ _; refine wpList_load_midU (by kernel_rfl) 41 _ rfl b3 20 rfl _ _ (rq_mid RU.out HUX.out) Try.underlying41 rfl (by rw [size_lease]; rfl) ?_)
      | (with_reducible show wpList _ _ _ ({ dst := some 29, op := _, type := _, pos := _, after := _, guard := _ } :: _) _ _; refine wpList_load_midU (by kernel_rfl) 41 _ rfl b1 20 rfl _ _ (rq_mid R2.out HX.out) Try.underlying41 rfl (by rw [size_lease]; rfl) ?_)
      | (with_reducible show wpList _ _ _ ({ dst := some 30, op := _, type := _, pos := _, after := _, guard := _ } :: _) _ _; refine wpList_valU (by kernel_rfl) (run_neq_lease _ _ (.tmp 27) (.tmp 29) rfl rfl rfl HUOK.out HOK.out) ?_; rw [f3b]))
    go_ret
    exact ⟨ret_bool HD.out.symm, G2.out⟩
  have f4 : ((n2 : Int) != (n : Int)) = false := by rw [bne_eq_false_iff_eq]; omega
  have HSU := Lib.hid (HSM.out.2 ⟨E0.out, E1.out, E2.out, ⟨by have := E3.out.1; omega, E3.out.2⟩, e4⟩)
  clear e4
  go_upto_region 4 with (first
  | (with_reducible show wpList _ _ _ ({ dst := some 27, op := _, type := _, pos := _, after := _, guard := _ } :: _) _ _; refine wpList_load_midU (by kernel_rfl) 41 _ rfl b3 20 rfl _ _ (rq_mid RU.out HUX.out) Try.underlying41 rfl (by rw [size_lease]; rfl) ?_)
  | (with_reducible show wpList _ _ _ ({ dst := some 29, op := _, type := _, pos := _, after := _, guard := _ } :: _) _ _; refine wpList_load_midU (by kernel_rfl) 41 _ rfl b1 20 rfl _ _ (rq_mid R2.out HX.out) Try.underlying41 rfl (by rw [size_lease]; rfl) ?_)
  | (with_reducible show wpList _ _ _ ({ dst := some 30, op := _, type := _, pos := _, after := _, guard := _ } :: _) _ _; refine wpList_valU (by kernel_rfl) (run_neq_lease _ _ (.tmp 27) (.tmp 29) rfl rfl rfl HUOK.out HOK.out) ?_; rw [f3b]))
  obtain ⟨K, hK⟩ : ∃ K : Int, K = (q.kind : Int) := ⟨_, rfl⟩
  rw [← hK] at k0
  by_cases h1 : q.kind = 1
  · have b1 : (K == 1) = true := by rw [beq_iff_eq]; omega
    have b2 : (K == 2) = false := by rw [beq_eq_false_iff_ne]; omega
    have b3 : (K == 3) = false := by rw [beq_eq_false_iff_ne]; omega
    have b4 : (K == 4) = false := by rw [beq_eq_false_iff_ne]; omega
    have b5 : (K == 5) = false := by rw [beq_eq_false_iff_ne]; omega
    go_wp2_with fail
    go_ret
    exact ⟨ret_bool (decide_eq_true ((used_may HSU.out).2 (by have := HNN.out; omega))).symm, G2.out⟩
  by_cases h5 : q.kind = 5
  · have b1 : (K == 1) = false := by rw [beq_eq_false_iff_ne]; omega
    have b2 : (K == 2) = false := by rw [beq_eq_false_iff_ne]; omega
    have b3 : (K == 3) = false := by rw [beq_eq_false_iff_ne]; omega
    have b4 : (K == 4) = false := by rw [beq_eq_false_iff_ne]; omega
    have b5 : (K == 5) = true := by rw [beq_iff_eq]; omega
    go_wp2_with fail
    go_ret
    exact ⟨ret_bool (decide_eq_true ((used_may HSU.out).2 (by have := HNN.out; omega))).symm, G2.out⟩
  by_cases h2 : q.kind = 2
  · have b1 : (K == 1) = false := by rw [beq_eq_false_iff_ne]; omega
    have b2 : (K == 2) = true := by rw [beq_iff_eq]; omega
    have b3 : (K == 3) = false := by rw [beq_eq_false_iff_ne]; omega
    have b4 : (K == 4) = false := by rw [beq_eq_false_iff_ne]; omega
    have b5 : (K == 5) = false := by rw [beq_eq_false_iff_ne]; omega
    by_cases n1 : 0 ≤ q.number ∧ q.number < 255
    case neg =>
      have eN : (decide (0 ≤ q.number) && decide (q.number < 255)) = false := by rw [Bool.eq_false_iff, ne_eq, Bool.and_eq_true, decide_eq_true_eq, decide_eq_true_eq]; exact n1
      go_wp2_with (first | (go_at_call 26; refine (number_n q.number _).mono ?_; rintro e w' ⟨rfl, rfl⟩; rw [eN]) | (go_at_call 58; refine (tick_n q.till _).mono ?_; rintro e w' ⟨rfl, rfl⟩; rw [eT]))
      go_ret
      exact ⟨ret_bool (decide_eq_false (fun h => by have := (used_may HSU.out).1 h; have := HNN.out; omega)).symm, G2.out⟩
    have eN : (decide (0 ≤ q.number) && decide (q.number < 255)) = true := by rw [Bool.and_eq_true, decide_eq_true_eq, decide_eq_true_eq]; exact n1
    by_cases t1 : 0 ≤ q.till ∧ q.till ≤ 1099511627776
    case neg =>
      have eT : (decide (0 ≤ q.till) && decide (q.till ≤ 1099511627776)) = false := by rw [Bool.eq_false_iff, ne_eq, Bool.and_eq_true, decide_eq_true_eq, decide_eq_true_eq]; exact t1
      go_wp2_with (first | (go_at_call 26; refine (number_n q.number _).mono ?_; rintro e w' ⟨rfl, rfl⟩; rw [eN]) | (go_at_call 58; refine (tick_n q.till _).mono ?_; rintro e w' ⟨rfl, rfl⟩; rw [eT]))
      go_ret
      exact ⟨ret_bool (decide_eq_false (fun h => by have := (used_may HSU.out).1 h; have := HNN.out; omega)).symm, G2.out⟩
    have eT : (decide (0 ≤ q.till) && decide (q.till ≤ 1099511627776)) = true := by rw [Bool.and_eq_true, decide_eq_true_eq, decide_eq_true_eq]; exact t1
    by_cases m1 : n ≤ 33554432
    case neg =>
      have eM : decide ((n : Int) ≤ 33554432) = false := decide_eq_false (by omega)
      have eM2 : decide (n ≤ 33554432) = false := decide_eq_false m1
      go_wp2_with (first | (go_at_call 26; refine (number_n q.number _).mono ?_; rintro e w' ⟨rfl, rfl⟩; rw [eN]) | (go_at_call 58; refine (tick_n q.till _).mono ?_; rintro e w' ⟨rfl, rfl⟩; rw [eT]))
      go_ret
      exact ⟨ret_bool (decide_eq_false (fun h => by have := (used_may HSU.out).1 h; have := HNN.out; omega)).symm, G2.out⟩
    have eM : decide ((n : Int) ≤ 33554432) = true := decide_eq_true (by omega)
    have eM2 : decide (n ≤ 33554432) = true := decide_eq_true m1
    go_wp2_with (first | (go_at_call 26; refine (number_n q.number _).mono ?_; rintro e w' ⟨rfl, rfl⟩; rw [eN]) | (go_at_call 58; refine (tick_n q.till _).mono ?_; rintro e w' ⟨rfl, rfl⟩; rw [eT]))
    go_ret
    exact ⟨ret_bool (decide_eq_true ((used_may HSU.out).2 (by have := HNN.out; omega))).symm, G2.out⟩
  by_cases h3 : q.kind = 3
  · have b1 : (K == 1) = false := by rw [beq_eq_false_iff_ne]; omega
    have b2 : (K == 2) = false := by rw [beq_eq_false_iff_ne]; omega
    have b3 : (K == 3) = true := by rw [beq_iff_eq]; omega
    have b4 : (K == 4) = false := by rw [beq_eq_false_iff_ne]; omega
    have b5 : (K == 5) = false := by rw [beq_eq_false_iff_ne]; omega
    by_cases n1 : 0 ≤ q.number ∧ q.number < 255
    case neg =>
      have eN : (decide (0 ≤ q.number) && decide (q.number < 255)) = false := by rw [Bool.eq_false_iff, ne_eq, Bool.and_eq_true, decide_eq_true_eq, decide_eq_true_eq]; exact n1
      go_wp2_with (go_at_call 26; refine (number_n q.number _).mono ?_; rintro e w' ⟨rfl, rfl⟩; rw [eN])
      go_ret
      exact ⟨ret_bool (decide_eq_false (fun h => by have := (used_may HSU.out).1 h; have := HNN.out; omega)).symm, G2.out⟩
    have eN : (decide (0 ≤ q.number) && decide (q.number < 255)) = true := by rw [Bool.and_eq_true, decide_eq_true_eq, decide_eq_true_eq]; exact n1
    by_cases p1 : 0 ≤ q.pos
    case neg =>
      have eP : decide (0 ≤ q.pos) = false := decide_eq_false (by omega)
      go_wp2_with (go_at_call 26; refine (number_n q.number _).mono ?_; rintro e w' ⟨rfl, rfl⟩; rw [eN])
      go_ret
      exact ⟨ret_bool (decide_eq_false (fun h => by have := (used_may HSU.out).1 h; have := HNN.out; omega)).symm, G2.out⟩
    have eP : decide (0 ≤ q.pos) = true := decide_eq_true (by omega)
    by_cases p2 : q.pos ≤ 33554432
    case neg =>
      have eP2 : decide (q.pos ≤ 33554432) = false := decide_eq_false (by omega)
      go_wp2_with (go_at_call 26; refine (number_n q.number _).mono ?_; rintro e w' ⟨rfl, rfl⟩; rw [eN])
      go_ret
      exact ⟨ret_bool (decide_eq_false (fun h => by have := (used_may HSU.out).1 h; have := HNN.out; omega)).symm, G2.out⟩
    have eP2 : decide (q.pos ≤ 33554432) = true := decide_eq_true (by omega)
    by_cases l1 : 1 ≤ q.len
    case neg =>
      have eL : decide (1 ≤ q.len) = false := decide_eq_false (by omega)
      go_wp2_with (go_at_call 26; refine (number_n q.number _).mono ?_; rintro e w' ⟨rfl, rfl⟩; rw [eN])
      go_ret
      exact ⟨ret_bool (decide_eq_false (fun h => by have := (used_may HSU.out).1 h; have := HNN.out; omega)).symm, G2.out⟩
    have eL : decide (1 ≤ q.len) = true := decide_eq_true (by omega)
    by_cases l2 : q.len ≤ 131072
    case neg =>
      have eL2 : decide (q.len ≤ 131072) = false := decide_eq_false (by omega)
      go_wp2_with (go_at_call 26; refine (number_n q.number _).mono ?_; rintro e w' ⟨rfl, rfl⟩; rw [eN])
      go_ret
      exact ⟨ret_bool (decide_eq_false (fun h => by have := (used_may HSU.out).1 h; have := HNN.out; omega)).symm, G2.out⟩
    have eL2 : decide (q.len ≤ 131072) = true := decide_eq_true (by omega)
    go_wp2_with (go_at_call 26; refine (number_n q.number _).mono ?_; rintro e w' ⟨rfl, rfl⟩; rw [eN])
    go_ret
    exact ⟨ret_bool (decide_eq_true ((used_may HSU.out).2 (by have := HNN.out; omega))).symm, G2.out⟩
  by_cases h4 : q.kind = 4
  · have b1 : (K == 1) = false := by rw [beq_eq_false_iff_ne]; omega
    have b2 : (K == 2) = false := by rw [beq_eq_false_iff_ne]; omega
    have b3 : (K == 3) = false := by rw [beq_eq_false_iff_ne]; omega
    have b4 : (K == 4) = true := by rw [beq_iff_eq]; omega
    have b5 : (K == 5) = false := by rw [beq_eq_false_iff_ne]; omega
    by_cases t1 : 0 ≤ q.till ∧ q.till ≤ 1099511627776
    case neg =>
      have eT : (decide (0 ≤ q.till) && decide (q.till ≤ 1099511627776)) = false := by rw [Bool.eq_false_iff, ne_eq, Bool.and_eq_true, decide_eq_true_eq, decide_eq_true_eq]; exact t1
      go_wp2_with (go_at_call 58; refine (tick_n q.till _).mono ?_; rintro e w' ⟨rfl, rfl⟩; rw [eT])
      go_ret
      exact ⟨ret_bool (decide_eq_false (fun h => by have := (used_may HSU.out).1 h; have := HNN.out; omega)).symm, G2.out⟩
    have eT : (decide (0 ≤ q.till) && decide (q.till ≤ 1099511627776)) = true := by rw [Bool.and_eq_true, decide_eq_true_eq, decide_eq_true_eq]; exact t1
    go_wp2_with (go_at_call 58; refine (tick_n q.till _).mono ?_; rintro e w' ⟨rfl, rfl⟩; rw [eT])
    go_ret
    exact ⟨ret_bool (decide_eq_true ((used_may HSU.out).2 (by have := HNN.out; omega))).symm, G2.out⟩
  have b1 : (K == 1) = false := by rw [beq_eq_false_iff_ne]; omega
  have b2 : (K == 2) = false := by rw [beq_eq_false_iff_ne]; omega
  have b3 : (K == 3) = false := by rw [beq_eq_false_iff_ne]; omega
  have b4 : (K == 4) = false := by rw [beq_eq_false_iff_ne]; omega
  have b5 : (K == 5) = false := by rw [beq_eq_false_iff_ne]; omega
  go_wp2_with fail
  go_ret
  exact ⟨ret_bool (decide_eq_false (fun h => by have := (used_may HSU.out).1 h; have := HNN.out; omega)).symm, G2.out⟩

end Go.Proofs.Ytkdmebcfedehiaa
