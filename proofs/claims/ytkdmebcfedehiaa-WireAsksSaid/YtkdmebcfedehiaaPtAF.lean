/- Helpers and contracts of the proofs over this seat: Request, RequestN, AppB, BigApp, WireCutL. Each states what a function of the program answers, or is plain Lean; its conditions stand in each statement. -/
import Derived.Deep.MidRow
import Derived.Shelf.Abstract
import Derived.Test.YtkdmebcfedehiaaPtAA
import Derived.Test.YtkdmebcfedehiaaPtAB
import Derived.Test.YtkdmebcfedehiaaPtAC
import Derived.Test.YtkdmebcfedehiaaPtAD
import Derived.Test.YtkdmebcfedehiaaPtAE
set_option linter.unusedVariables false
/- wire.Request: of all bytes. Printed by gens/request.py. -/
namespace Go.Proofs.Ytkdmebcfedehiaa
open Go.RowKit Go.Shelf

/-- a request's cells -/
def rqC (q : Rq) (s : Value) : Array Value := (.int .u8 (q.kind : Int) :: (q.ix.map bval ++ [.int .i64 q.number, .int .i64 q.pos, .int .i64 q.len, .int .u32 (q.who : Int), .int .i64 q.till, s])).toArray
def rqOf : Except Nat Rq → Rq
  | .ok r => r
  | .error _ => noRq
/-- what Request answers -/
def ReqP (w : World) (d : Except Nat Rq) (e : Ending) (w' : World) : Prop :=
  ∃ ab nb cb, e = .returned (.tuple #[.agg (rqC (rqOf d) (.slice ab nb cb)), .int .i64 (atOf d : Int), .int .i64 (erOf 200 d)]) ∧ BOwn w' w.heap.size ab nb cb (rqOf d).bytes ∧ w.grownBy w' none
theorem zreq : rqC noRq (.slice none 0 0) = #[.int .u8 0, .int .u8 0, .int .u8 0, .int .u8 0, .int .u8 0, .int .u8 0, .int .u8 0, .int .u8 0, .int .u8 0, .int .u8 0, .int .u8 0, .int .u8 0, .int .u8 0, .int .u8 0, .int .u8 0, .int .u8 0, .int .u8 0, .int .i64 0, .int .i64 0, .int .i64 0, .int .u32 0, .int .i64 0, .slice none 0 0] := by simp [rqC, noRq, ix0, List.replicate, bval]
theorem ztk : tkC noRq (.slice none 0 0) ((0 : Nat) : Int) = #[.int .u8 0, .int .u8 0, .int .u8 0, .int .u8 0, .int .u8 0, .int .u8 0, .int .u8 0, .int .u8 0, .int .u8 0, .int .u8 0, .int .u8 0, .int .u8 0, .int .u8 0, .int .u8 0, .int .u8 0, .int .u8 0, .int .u8 0, .int .i64 0, .int .i64 0, .int .i64 0, .int .u32 0, .int .i64 0, .slice none 0 0, .int .i64 0] := by simp [tkC, noRq, ix0, List.replicate, bval]
theorem reqP_err {w w' : World} (p : Nat) (q : Int) (hq : q = (p : Int)) (hg : w.grownBy w' none) : ReqP w (.error p) (.returned (.tuple #[.agg #[.int .u8 0, .int .u8 0, .int .u8 0, .int .u8 0, .int .u8 0, .int .u8 0, .int .u8 0, .int .u8 0, .int .u8 0, .int .u8 0, .int .u8 0, .int .u8 0, .int .u8 0, .int .u8 0, .int .u8 0, .int .u8 0, .int .u8 0, .int .i64 0, .int .i64 0, .int .i64 0, .int .u32 0, .int .i64 0, .slice none 0 0], .int .i64 q, .int .i64 200])) w' := by
  subst hq
  exact ⟨none, 0, 0, by rw [← zreq]; rfl, Own.nil _ _ _ _ _, hg⟩
theorem info_req : ∃ i z, Try.prog.info? 43 = some i ∧ i.zero = some z ∧ i.size = z.cells.size ∧ z = .agg #[.int .u8 0, .int .u8 0, .int .u8 0, .int .u8 0, .int .u8 0, .int .u8 0, .int .u8 0, .int .u8 0, .int .u8 0, .int .u8 0, .int .u8 0, .int .u8 0, .int .u8 0, .int .u8 0, .int .u8 0, .int .u8 0, .int .u8 0, .int .i64 0, .int .i64 0, .int .i64 0, .int .u32 0, .int .i64 0, .slice none 0 0] := ⟨(Try.prog.info? 43).getD default, .agg #[.int .u8 0, .int .u8 0, .int .u8 0, .int .u8 0, .int .u8 0, .int .u8 0, .int .u8 0, .int .u8 0, .int .u8 0, .int .u8 0, .int .u8 0, .int .u8 0, .int .u8 0, .int .u8 0, .int .u8 0, .int .u8 0, .int .u8 0, .int .i64 0, .int .i64 0, .int .i64 0, .int .u32 0, .int .i64 0, .slice none 0 0], by kernel_rfl, by kernel_rfl, by kernel_rfl, rfl⟩
theorem size_req : (Try.prog.info? 43).map (·.size) = some 23 := by kernel_rfl
theorem size_ix : (Try.prog.info? 38).map (·.size) = some 16 := by kernel_rfl
theorem size_field : (Try.prog.info? 81).map (·.size) = some 2 := by kernel_rfl

set_option maxRecDepth 100000 in
set_option maxHeartbeats 8000000 in
theorem request_empty (a : Option Addr) (n c : Nat) (l : List UInt8) (w : World) (hl : BLies w a l) (hn : l.length = n) (hc : n ≤ c) (hnm : n ≤ 140737488355000) (h0 : n = 0) :
    Calls Try.prog 13 #[.slice a n c] w fun e w' => ReqP w (decQ l) e w' := by
  subst h0
  have hd : decQ l = .error 0 := by unfold decQ; rw [if_pos (.inl (List.eq_nil_of_length_eq_zero hn))]
  rw [hd]
  clear hl hn hnm hd hc
  obtain ⟨ir, zr, hir, hirz, hirs, hz⟩ := info_req
  subst hz
  go_enter Try.func13, Try.ntmps13
  go_upto_region 2 with (refine wpList_made rfl rfl hir hirz ?_; intro w1 hs1 hg1 hr1; have HG1 := Lib.hid hg1; have HR1 := Lib.hid (show Row w1 w.heap.size 43 #[.int .u8 0, .int .u8 0, .int .u8 0, .int .u8 0, .int .u8 0, .int .u8 0, .int .u8 0, .int .u8 0, .int .u8 0, .int .u8 0, .int .u8 0, .int .u8 0, .int .u8 0, .int .u8 0, .int .u8 0, .int .u8 0, .int .u8 0, .int .i64 0, .int .i64 0, .int .i64 0, .int .u32 0, .int .i64 0, .slice none 0 0] from hr1); clear hs1 hg1 hr1)
  go_wp2_with (refine wpList_putrow rfl rfl w.heap.size rfl #[.int .u8 0, .int .u8 0, .int .u8 0, .int .u8 0, .int .u8 0, .int .u8 0, .int .u8 0, .int .u8 0, .int .u8 0, .int .u8 0, .int .u8 0, .int .u8 0, .int .u8 0, .int .u8 0, .int .u8 0, .int .u8 0, .int .u8 0, .int .i64 0, .int .i64 0, .int .i64 0, .int .u32 0, .int .i64 0, .slice none 0 0] rfl HR1.out (by rw [size_req]; rfl) rfl (by simp [Value.oneCell']) ?_; intro W5 hg5 hr5; have HG5 := Lib.hid hg5; have HR5 := Lib.hid hr5; clear hg5 hr5)
  refine bodyPost_ret (results_ctt rfl _ _ w.heap.size 43 #[.int .u8 0, .int .u8 0, .int .u8 0, .int .u8 0, .int .u8 0, .int .u8 0, .int .u8 0, .int .u8 0, .int .u8 0, .int .u8 0, .int .u8 0, .int .u8 0, .int .u8 0, .int .u8 0, .int .u8 0, .int .u8 0, .int .u8 0, .int .i64 0, .int .i64 0, .int .i64 0, .int .u32 0, .int .i64 0, .slice none 0 0] (0, 0) _ _ _ rfl rfl rfl HR5.out Try.underlying43 rfl (by rw [size_req]; rfl)) rfl ?_
  exact reqP_err (0) _ (rfl) (grownBy_old HG1.out HG5.out (Nat.le_refl _))
set_option maxRecDepth 100000 in
set_option maxHeartbeats 8000000 in
theorem request_kind (a : Option Addr) (n c : Nat) (l : List UInt8) (w : World) (hl : BLies w a l) (hn : l.length = n) (hc : n ≤ c) (hnm : n ≤ 140737488355000) (K : Int) (b off : Nat) (ha : a = some ⟨b, off, none⟩) (hK : K = ((l.getD 0 0).toNat : Int)) (h1 : 1 ≤ n) (hk : headQ (l.getD 0 0).toNat = 0) :
    Calls Try.prog 13 #[.slice a n c] w fun e w' => ReqP w (decQ l) e w' := by
  have hd : decQ l = .error 0 := by unfold decQ; rw [if_pos (.inr hk)]
  rw [hd]
  have HKK := Lib.hid hK
  have h00 : ((n : Int) == 0) = false := by rw [beq_eq_false_iff_ne]; omega
  have hK0 : ∀ W, w.grownBy W none → W.cell? ⟨b, off, none⟩ = some (.int .u8 K) := fun W hW => by
    obtain ⟨b', off', e, h⟩ := bytes_cells (hl.grown hW) (by omega)
    rw [ha] at e
    injection e with e
    injection e with e1 e2
    subst e1; subst e2
    rw [hK]
    exact h 0 (by omega)
  have HK0 := Lib.hid hK0
  subst ha
  clear hK0
  have hh : decide (headQ (l.getD 0 0).toNat ≠ 0) = false := decide_eq_false (fun h => h hk)
  have HH := Lib.hid hh
  clear hl hn hnm hd hK hk hc hh
  obtain ⟨ir, zr, hir, hirz, hirs, hz⟩ := info_req
  subst hz
  go_enter Try.func13, Try.ntmps13
  go_upto_region 4 with (first | (refine wpList_made rfl rfl hir hirz ?_; intro w1 hs1 hg1 hr1; have HG1 := Lib.hid hg1; have HR1 := Lib.hid (show Row w1 w.heap.size 43 #[.int .u8 0, .int .u8 0, .int .u8 0, .int .u8 0, .int .u8 0, .int .u8 0, .int .u8 0, .int .u8 0, .int .u8 0, .int .u8 0, .int .u8 0, .int .u8 0, .int .u8 0, .int .u8 0, .int .u8 0, .int .u8 0, .int .u8 0, .int .i64 0, .int .i64 0, .int .i64 0, .int .u32 0, .int .i64 0, .slice none 0 0] from hr1); clear hs1 hg1 hr1) | (refine wpList_boxed rfl rfl #[.int .u8 0, .int .u8 0, .int .u8 0, .int .u8 0, .int .u8 0, .int .u8 0, .int .u8 0, .int .u8 0, .int .u8 0, .int .u8 0, .int .u8 0, .int .u8 0, .int .u8 0, .int .u8 0, .int .u8 0, .int .u8 0, .int .u8 0, .int .i64 0, .int .i64 0, .int .i64 0, .int .u32 0, .int .i64 0, .slice none 0 0, .int .i64 0] rfl ?_; intro w2 hs2 hg2 hr2; have HG2 := Lib.hid (grownBy_trans HG1.out hg2); have HR2 := Lib.hid (HR1.out.grown hg2); have HT2 := Lib.hid (show Row w2 w1.heap.size 75 #[.int .u8 0, .int .u8 0, .int .u8 0, .int .u8 0, .int .u8 0, .int .u8 0, .int .u8 0, .int .u8 0, .int .u8 0, .int .u8 0, .int .u8 0, .int .u8 0, .int .u8 0, .int .u8 0, .int .u8 0, .int .u8 0, .int .u8 0, .int .i64 0, .int .i64 0, .int .i64 0, .int .u32 0, .int .i64 0, .slice none 0 0, .int .i64 0] from hr2); clear hs2 hg2 hr2))
  obtain ⟨gT, hgT⟩ : ∃ gT, gT = w1.heap.size := ⟨_, rfl⟩
  have HTL := Lib.hid (show w.heap.size < gT ∧ gT < w2.heap.size from ⟨by rw [hgT]; exact HR1.out.lt, by rw [hgT]; exact HT2.out.lt⟩)
  rw [← hgT] at HT2 ⊢
  clear hgT HR1 HG1
  have k0 := HK0.out w2 HG2.out
  have c0 := Row.cell HT2.out 0
  have f0 := Row.frozen HT2.out 0
  simp at c0
  go_upto_region 5 with fail
  obtain ⟨w3, h3⟩ : ∃ w3, w3 = w2.setCell ⟨gT, 0, none⟩ (.int .u8 K) := ⟨_, rfl⟩
  rw [← h3]
  have g3 : w2.grownBy w3 (some gT) := h3 ▸ grownBy_setCell _ _ _ _
  have hT3 : Row w3 gT 75 (tkC { noRq with kind := (l.getD 0 0).toNat } (.slice none 0 0) ((0 : Nat) : Int)) := by
    have h := Row.setc HT2.out 0 (.int .u8 K)
    rw [h3]
    have e : (#[.int .u8 0, .int .u8 0, .int .u8 0, .int .u8 0, .int .u8 0, .int .u8 0, .int .u8 0, .int .u8 0, .int .u8 0, .int .u8 0, .int .u8 0, .int .u8 0, .int .u8 0, .int .u8 0, .int .u8 0, .int .u8 0, .int .u8 0, .int .i64 0, .int .i64 0, .int .i64 0, .int .u32 0, .int .i64 0, .slice none 0 0, .int .i64 0] : Array Value).setIfInBounds 0 (.int .u8 K) = tkC { noRq with kind := (l.getD 0 0).toNat } (.slice none 0 0) ((0 : Nat) : Int) := by
      rw [HKK.out]
      simp [tkC, noRq, ix0, List.replicate, bval]
    rw [e] at h
    exact h
  have HT3 := Lib.hid hT3
  have HR3 := Lib.hid (HR2.out.grownNe g3 (by have := HTL.out; omega))
  have HG3 := Lib.hid (grownBy_old HG2.out g3 (by have := HTL.out; omega))
  have c0' : w3.cell? ⟨gT, 0, none⟩ = some (.int .u8 K) := by
    rw [Row.cell hT3 0, HKK.out]
    rfl
  have HTL3 := Lib.hid (show gT < w3.heap.size from HT3.out.lt)
  have HTW := Lib.hid HTL.out.1
  clear h3 g3 hT3 c0 f0 k0 HR2 HT2 HG2 HTL
  go_wp2_with fail
  refine (fields_n K (l.getD 0 0).toNat gT w3 HKK.out).mono ?_
  rintro e w4 ⟨aF, nF, cF, rfl, oF, hF, g4⟩
  have OF := Lib.hid oF
  have HF := Lib.hid hF
  have HG4 := Lib.hid (grownBy_trans HG3.out g4)
  have HT4 := Lib.hid (HT3.out.grown g4)
  have HR4 := Lib.hid (HR3.out.grown g4)
  clear oF hF g4 c0'
  rw [HH.out]
  go_upto_region 7 with fail
  go_wp2_with (refine wpList_putrow rfl rfl w.heap.size rfl #[.int .u8 0, .int .u8 0, .int .u8 0, .int .u8 0, .int .u8 0, .int .u8 0, .int .u8 0, .int .u8 0, .int .u8 0, .int .u8 0, .int .u8 0, .int .u8 0, .int .u8 0, .int .u8 0, .int .u8 0, .int .u8 0, .int .u8 0, .int .i64 0, .int .i64 0, .int .i64 0, .int .u32 0, .int .i64 0, .slice none 0 0] rfl HR4.out (by rw [size_req]; rfl) rfl (by simp [Value.oneCell']) ?_; intro W5 hg5 hr5; have HG5 := Lib.hid hg5; have HR5 := Lib.hid hr5; clear hg5 hr5)
  refine bodyPost_ret (results_ctt rfl _ _ w.heap.size 43 #[.int .u8 0, .int .u8 0, .int .u8 0, .int .u8 0, .int .u8 0, .int .u8 0, .int .u8 0, .int .u8 0, .int .u8 0, .int .u8 0, .int .u8 0, .int .u8 0, .int .u8 0, .int .u8 0, .int .u8 0, .int .u8 0, .int .u8 0, .int .i64 0, .int .i64 0, .int .i64 0, .int .u32 0, .int .i64 0, .slice none 0 0] (0, 0) _ _ _ rfl rfl rfl HR5.out Try.underlying43 rfl (by rw [size_req]; rfl)) rfl ?_
  exact reqP_err (0) _ (rfl) (grownBy_old HG4.out HG5.out (Nat.le_refl _))

/-- cells written into cells from o on -/
def laidR (cur : Array Value) (o : Nat) : List Value → Array Value
  | [] => cur
  | v :: r => laidR (cur.setIfInBounds o v) (o + 1) r
theorem Row.setcs (g : Nat) (t : TypeId) : ∀ (xs : List Value) (o : Nat) (w : World) (cur : Array Value), Row w g t cur → Row (w.setCells g o xs) g t (laidR cur o xs)
  | [], _, _, _, h => h
  | v :: r, o, w, cur, h => Row.setcs g t r (o + 1) (w.setCell ⟨g, o, none⟩ v) (cur.setIfInBounds o v) (Row.setc h o v)
theorem grownBy_setCellsR (g : Nat) : ∀ (xs : List Value) (o : Nat) (w : World), w.grownBy (w.setCells g o xs) (some g)
  | [], _, _ => World.grownBy.refl _ _
  | v :: r, o, w => grownBy_trans (grownBy_setCell w g o v) (grownBy_setCellsR g r (o + 1) _)
theorem laid_mid : ∀ (xs mid pre post : List Value), mid.length = xs.length → laidR (pre ++ (mid ++ post)).toArray pre.length xs = (pre ++ (xs ++ post)).toArray
  | [], mid, pre, post, h => by rw [List.eq_nil_of_length_eq_zero h]; rfl
  | x :: xs, [], pre, post, h => by cases h
  | x :: xs, m :: mid, pre, post, h => by
    unfold laidR
    rw [List.setIfInBounds_toArray, List.set_append_right _ _ (Nat.le_refl _), Nat.sub_self]
    have ih := laid_mid xs mid (pre ++ [x]) post (by simpa using h)
    rw [List.length_append, List.length_singleton] at ih
    simpa using ih
theorem tk_ix (q : Rq) (s : Value) (rest : Int) (ix : List UInt8) (h : q.ix.length = 16) (h2 : ix.length = 16) : laidR (tkC q s rest) 1 (ix.map bval) = tkC { q with ix := ix } s rest := by
  have := laid_mid (ix.map bval) (q.ix.map bval) [.int .u8 (q.kind : Int)] [.int .i64 q.number, .int .i64 q.pos, .int .i64 q.len, .int .u32 (q.who : Int), .int .i64 q.till, s, .int .i64 rest] (by simp [h, h2])
  exact this
theorem tk_there {w : World} {g : Nat} {q : Rq} {s : Value} {rest : Int} (h : Row w g 75 (tkC q s rest)) (hx : q.ix.length = 16) : w.there g 1 16 := by
  intro j hj
  refine ⟨?_, Row.frozen h _⟩
  rw [Row.cell h]
  have hs : (tkC q s rest).size = 24 := by simp [tkC, hx]
  rw [Array.getElem?_eq_getElem (by omega)]
  rfl
theorem tk_range {w : World} {g : Nat} {q : Rq} {s : Value} {rest : Int} (h : Row w g 75 (tkC q s rest)) (hx : q.ix.length = 16) : w.rangeAt g 0 (rqC q s).toList := by
  intro j v hj
  rw [Row.cell h, Nat.zero_add, ← hj]
  have hl : (rqC q s).toList.length = 23 := by simp [rqC, hx]
  have hjl : j < 23 := by
    rcases Nat.lt_or_ge j 23 with h | h
    · exact h
    · rw [List.getElem?_eq_none (by omega)] at hj; cases hj
  have e : (tkC q s rest).toList = (rqC q s).toList ++ [.int .i64 rest] := by simp [tkC, rqC]
  rw [← Array.getElem?_toList, e, List.getElem?_append_left (by omega)]
theorem fields_range {w : World} {base g n c gT j : Nat} {FF : List Fd} (h : Own w base 81 2 (some ⟨g, 0, none⟩) n c (fdC gT FF)) (hj : j < FF.length) : w.rangeAt g (j * 2) [.int .i64 ((FF[j]).size : Int), .func (Fn.func (FF[j]).fid) #[.pointer (some ⟨gT, 0, none⟩)] #[]] := by
  intro i v hi
  have hi2 : i < 2 := by
    rcases Nat.lt_or_ge i 2 with h | h
    · exact h
    · rw [List.getElem?_eq_none (by simpa using h)] at hi; cases hi
  have hg := fdC_get gT FF j hj i hi2
  have hg2 : (fdC gT FF)[j * 2 + i]? = some v := by rw [hg]; exact hi
  obtain ⟨hk, hv⟩ := List.getElem?_eq_some_iff.1 hg2
  obtain ⟨g', e, _, _, hc, _⟩ := Own.cell h (j * 2 + i) hk
  injection e with e
  injection e with e1
  subst e1
  rw [hc, hv]
theorem fid_enters (f : Fd) : Enters Try.prog f.fid := by
  cases f
  · exact enters_of Try.func51 (by kernel_rfl) rfl
  · exact enters_of Try.func50 (by kernel_rfl) rfl
  · exact enters_of Try.func52 (by kernel_rfl) rfl
  · exact enters_of Try.func53 (by kernel_rfl) rfl
  · exact enters_of Try.func54 (by kernel_rfl) rfl
  · exact enters_of Try.func55 (by kernel_rfl) rfl
theorem put_rest (f : Fd) (s : Rq × Nat) (x : Nat) (hr : s.2 ≤ 4294967296) (hx : x < 256 ^ f.size) : (f.put s x).2 ≤ 4294967296 := by
  obtain ⟨q, r⟩ := s
  cases f
  · exact hr
  · exact hr
  · exact hr
  · show x ≤ 4294967296
    have : (256 : Nat) ^ Fd.size .rst = 4294967296 := rfl
    omega
  · exact hr
  · exact hr
theorem run_arrptr16 (w : World) (ev : Operand → Value) {o : Oper} (x : Operand) (ho : o.op = .sliceToArrayPointer 38 x) (a : Option Addr) (c : Nat) (hx : ev x = .slice a 16 c) :
    (execOp ev o).run Try.prog w = .ok (.value (.pointer a)) w := by
  unfold execOp
  simp [ho, hx, Instr.arrayAt, run_underlying Try.underlying38]
theorem wp_normalR {P : Program} {c : Code} {Q : Exit → Act → World → Prop} {a : Act} {w : World} (h : c.wp P (fun x a w => x = .normal ∧ Q .normal a w) a w) : c.wp P Q a w :=
  wp_mono h (fun e a w h => by obtain ⟨rfl, h⟩ := h; exact h)
theorem rq_len (q : Rq) (s : Value) (h : q.ix.length = 16) : (rqC q s).size = 23 := by simp [rqC, h]
theorem rq_one (q : Rq) (a : Option Addr) (n c : Nat) : (rqC q (.slice a n c)).all (·.oneCell') = true := by
  unfold rqC
  refine all_oneCell_toArray (fun v hv => ?_)
  rcases List.mem_cons.1 hv with rfl | hv
  · rfl
  · rcases List.mem_append.1 hv with hv | hv
    · obtain ⟨x, _, rfl⟩ := List.mem_map.1 hv
      rfl
    · simp only [List.mem_cons, List.not_mem_nil, or_false] at hv
      rcases hv with rfl | rfl | rfl | rfl | rfl | rfl <;> rfl
theorem clo_and {S T : World → Prop} (h : Clo S) (k : Clo T) : Clo (fun w => S w ∧ T w) := fun w w' hs g => ⟨h w w' hs.1 g, k w w' hs.2 g⟩
/-- worlds in which the result's cell alone may have changed -/
def SR (res : Nat) (W u : World) : Prop := Ch (fun x => x = res) W u ∧ ∃ cs, Row u res 43 cs ∧ cs.size = 23
theorem clo_SR (res : Nat) (W : World) : Clo (SR res W) := fun u u' h g => ⟨h.1.trans (Ch.ofNone g (fun x => x = res)) (fun _ _ h => h), h.2.elim fun cs hc => ⟨cs, hc.1.grown g, hc.2⟩⟩

set_option maxRecDepth 100000 in
set_option maxHeartbeats 8000000 in
theorem request_known (a : Option Addr) (n c : Nat) (l : List UInt8) (w : World) (hl : BLies w a l) (hn : l.length = n) (hc : n ≤ c) (hnm : n ≤ 140737488355000) (K : Int) (b off : Nat) (ha : a = some ⟨b, off, none⟩) (hK : K = ((l.getD 0 0).toNat : Int)) (h1 : 1 ≤ n) (hk : headQ (l.getD 0 0).toNat ≠ 0) :
    Calls Try.prog 13 #[.slice a n c] w fun e w' => ReqP w (decQ l) e w' := by
  have HKK := Lib.hid hK
  have HL := Lib.hid hl
  have HN := Lib.hid hn
  have h00 : ((n : Int) == 0) = false := by rw [beq_eq_false_iff_ne]; omega
  have hK0 : ∀ W, w.grownBy W none → W.cell? ⟨b, off, none⟩ = some (.int .u8 K) := fun W hW => by
    obtain ⟨b', off', e, h⟩ := bytes_cells (hl.grown hW) (by omega)
    rw [ha] at e
    injection e with e
    injection e with e1 e2
    subst e1; subst e2
    rw [hK]
    exact h 0 (by omega)
  have HK0 := Lib.hid hK0
  subst ha
  clear hK0
  have hh : decide (headQ (l.getD 0 0).toNat ≠ 0) = true := decide_eq_true hk
  have HH := Lib.hid hh
  have hne : l ≠ [] := fun h => by rw [h] at hn; simp at hn; omega
  have HNE := Lib.hid hne
  have HDG := Lib.hid (fun h => decG l hk h hne)
  have hhs := head_sum hk
  have hhb := headQ_lt _ hk
  have hfl := fields_len (l.getD 0 0).toNat
  have hsh : l.length < headQ (l.getD 0 0).toNat → decQ l = .error l.length := fun h => by
    unfold decQ
    rw [if_neg (fun h => h.elim hne hk), if_pos h]
  have HSH := Lib.hid hsh
  clear hl hn hK hk hh hne hsh
  obtain ⟨ir, zr, hir, hirz, hirs, hz⟩ := info_req
  subst hz
  go_enter Try.func13, Try.ntmps13
  go_upto_region 4 with (first | (refine wpList_made rfl rfl hir hirz ?_; intro w1 hs1 hg1 hr1; have HG1 := Lib.hid hg1; have HR1 := Lib.hid (show Row w1 w.heap.size 43 #[.int .u8 0, .int .u8 0, .int .u8 0, .int .u8 0, .int .u8 0, .int .u8 0, .int .u8 0, .int .u8 0, .int .u8 0, .int .u8 0, .int .u8 0, .int .u8 0, .int .u8 0, .int .u8 0, .int .u8 0, .int .u8 0, .int .u8 0, .int .i64 0, .int .i64 0, .int .i64 0, .int .u32 0, .int .i64 0, .slice none 0 0] from hr1); clear hs1 hg1 hr1) | (refine wpList_boxed rfl rfl #[.int .u8 0, .int .u8 0, .int .u8 0, .int .u8 0, .int .u8 0, .int .u8 0, .int .u8 0, .int .u8 0, .int .u8 0, .int .u8 0, .int .u8 0, .int .u8 0, .int .u8 0, .int .u8 0, .int .u8 0, .int .u8 0, .int .u8 0, .int .i64 0, .int .i64 0, .int .i64 0, .int .u32 0, .int .i64 0, .slice none 0 0, .int .i64 0] rfl ?_; intro w2 hs2 hg2 hr2; have HG2 := Lib.hid (grownBy_trans HG1.out hg2); have HR2 := Lib.hid (HR1.out.grown hg2); have HT2 := Lib.hid (show Row w2 w1.heap.size 75 #[.int .u8 0, .int .u8 0, .int .u8 0, .int .u8 0, .int .u8 0, .int .u8 0, .int .u8 0, .int .u8 0, .int .u8 0, .int .u8 0, .int .u8 0, .int .u8 0, .int .u8 0, .int .u8 0, .int .u8 0, .int .u8 0, .int .u8 0, .int .i64 0, .int .i64 0, .int .i64 0, .int .u32 0, .int .i64 0, .slice none 0 0, .int .i64 0] from hr2); clear hs2 hg2 hr2))
  obtain ⟨gT, hgT⟩ : ∃ gT, gT = w1.heap.size := ⟨_, rfl⟩
  have HTL := Lib.hid (show w.heap.size < gT ∧ gT < w2.heap.size from ⟨by rw [hgT]; exact HR1.out.lt, by rw [hgT]; exact HT2.out.lt⟩)
  rw [← hgT] at HT2 ⊢
  clear hgT HR1 HG1
  have k0 := HK0.out w2 HG2.out
  have c0 := Row.cell HT2.out 0
  have f0 := Row.frozen HT2.out 0
  simp at c0
  go_upto_region 5 with fail
  obtain ⟨w3, h3⟩ : ∃ w3, w3 = w2.setCell ⟨gT, 0, none⟩ (.int .u8 K) := ⟨_, rfl⟩
  rw [← h3]
  have g3 : w2.grownBy w3 (some gT) := h3 ▸ grownBy_setCell _ _ _ _
  have hT3 : Row w3 gT 75 (tkC { noRq with kind := (l.getD 0 0).toNat } (.slice none 0 0) ((0 : Nat) : Int)) := by
    have h := Row.setc HT2.out 0 (.int .u8 K)
    rw [h3]
    have e : (#[.int .u8 0, .int .u8 0, .int .u8 0, .int .u8 0, .int .u8 0, .int .u8 0, .int .u8 0, .int .u8 0, .int .u8 0, .int .u8 0, .int .u8 0, .int .u8 0, .int .u8 0, .int .u8 0, .int .u8 0, .int .u8 0, .int .u8 0, .int .i64 0, .int .i64 0, .int .i64 0, .int .u32 0, .int .i64 0, .slice none 0 0, .int .i64 0] : Array Value).setIfInBounds 0 (.int .u8 K) = tkC { noRq with kind := (l.getD 0 0).toNat } (.slice none 0 0) ((0 : Nat) : Int) := by
      rw [HKK.out]
      simp [tkC, noRq, ix0, List.replicate, bval]
    rw [e] at h
    exact h
  have HT3 := Lib.hid hT3
  have HR3 := Lib.hid (HR2.out.grownNe g3 (by have := HTL.out; omega))
  have HG3 := Lib.hid (grownBy_old HG2.out g3 (by have := HTL.out; omega))
  have c0' : w3.cell? ⟨gT, 0, none⟩ = some (.int .u8 K) := by
    rw [Row.cell hT3 0, HKK.out]
    rfl
  have HTL3 := Lib.hid (show gT < w3.heap.size from HT3.out.lt)
  have HTW := Lib.hid HTL.out.1
  clear h3 g3 hT3 c0 f0 k0 HR2 HT2 HG2 HTL
  go_wp2_with fail
  refine (fields_n K (l.getD 0 0).toNat gT w3 HKK.out).mono ?_
  rintro e w4 ⟨aF, nF, cF, rfl, oF, hF, g4⟩
  have OF := Lib.hid oF
  have HF := Lib.hid hF
  have HG4 := Lib.hid (grownBy_trans HG3.out g4)
  have HT4 := Lib.hid (HT3.out.grown g4)
  have HR4 := Lib.hid (HR3.out.grown g4)
  clear oF hF g4 c0'
  rw [HH.out]
  obtain ⟨FF, hFF⟩ : ∃ FF, FF = fieldsQ (l.getD 0 0).toNat := ⟨_, rfl⟩
  obtain ⟨H0, hH0⟩ : ∃ H0, H0 = headQ (l.getD 0 0).toNat := ⟨_, rfl⟩
  rw [← hFF, ← hH0] at hhs
  rw [← hFF] at OF HF hfl
  rw [← hH0] at HDG HSH hhb
  rw [← hFF] at HDG
  have HHS := Lib.hid hhs
  have hHb : H0 ≤ 34 := hhb.2
  have HHB := Lib.hid hhb.1
  have hnF : nF ≤ 4 := by have := HF.out; omega
  clear hFF hH0 hhs hhb hfl
  go_wp2_with fail
  go_loopw [8, 43] (fun v8 v43 wr => ∃ (hd j : Nat), v8 = .int .i64 (hd : Int) ∧ v43 = .int .i64 (j : Int) ∧ j ≤ nF ∧ hd + sumS (FF.drop j) = H0 ∧ w4.grownBy wr none) (fun _ v _ => nF - (intOf v).toNat)
  case atStart => exact ⟨17, 0, rfl, rfl, by omega, by rw [List.drop_zero, HHS.out], World.grownBy.refl _ _⟩
  case round =>
    obtain ⟨hd, j, rfl, rfl, hj, hs, hg⟩ := hrel
    have HS := Lib.hid hs
    have HG := Lib.hid hg
    clear hg
    by_cases hlt : j < nF
    · have hjl : j < FF.length := by have := HF.out; omega
      obtain ⟨gF, rfl, _⟩ := Own.block OF.out (by have := Own.cap OF.out; omega)
      have HRG := Lib.hid (fields_range (Own.ch OF.out (Ch.ofNone HG.out (fun _ => False)) (fun _ _ _ h => h)) hjl)
      have hsz := (FF[j]).size_le
      have hsd := sumS_drop hjl
      obtain ⟨f, hf⟩ : ∃ f, f = FF[j] := ⟨_, rfl⟩
      rw [← hf] at HRG hsz hsd
      obtain ⟨sz, hsz2⟩ : ∃ sz, sz = f.size := ⟨_, rfl⟩
      rw [← hsz2] at HRG hsz hsd
      have hdb : hd + sz ≤ 34 := by omega
      have HSD := Lib.hid hsd
      clear hsd hs hf hsz2 hjl
      obtain ⟨iF, zF, hiF, hzF, hsF, hcF⟩ := info_field
      go_upto_region 12 with (first
        | (refine wpList_load_mid rfl 81 _ rfl gF (j * 2) rfl [.int .i64 (sz : Int), .func (Fn.func f.fid) #[.pointer (some ⟨gT, 0, none⟩)] #[]] _ HRG.out Try.underlying81 rfl (by rw [size_field]; rfl) ?_)
        | (refine wpList_fresh rfl rfl rfl rfl rfl hiF hzF hsF #[.int .i64 (sz : Int), .func (Fn.func f.fid) #[.pointer (some ⟨gT, 0, none⟩)] #[]] rfl rfl hcF (by simp [Value.oneCell']) ?_; intro w5 hs5 hg5 hr5; have G5 := Lib.hid (grownBy_trans HG.out hg5); have c5 := Row.cell hr5 0; simp at c5; clear hs5 hg5 hr5))
      go_wp2_with fail
      go_roundw
      case rel => exact ⟨hd + sz, j + 1, by first | rfl | go_num, by first | rfl | go_num, by omega, by have h1 := HS.out; have h2 := HSD.out; omega, G5.out⟩
      case measure => simp [intOf]; omega
    · obtain rfl : j = nF := by omega
      have hhd : hd = H0 := by
        rw [List.drop_of_length_le (by have := HF.out; omega)] at hs
        exact hs
      subst hhd
      clear hs HS hlt
      have HG' := Lib.hid (grownBy_trans HG4.out HG.out)
      have HT := Lib.hid (HT4.out.grown HG.out)
      have HR := Lib.hid (HR4.out.grown HG.out)
      have HO := Lib.hid (show Own wr w3.heap.size 81 2 aF j cF (fdC gT FF) from Own.ch OF.out (Ch.ofNone HG.out (fun _ => False)) (fun _ _ _ h => h))
      by_cases hsho : n < hd
      · have e1 : decide ((n : Int) < (hd : Int)) = true := decide_eq_true (by omega)
        have e2 : decide (n < hd) = true := decide_eq_true hsho
        have HD := Lib.hid (HSH.out (by rw [HN.out]; exact hsho))
        go_upto_region 15 with fail
        go_wp2_with (refine wpList_putrow rfl rfl w.heap.size rfl #[.int .u8 0, .int .u8 0, .int .u8 0, .int .u8 0, .int .u8 0, .int .u8 0, .int .u8 0, .int .u8 0, .int .u8 0, .int .u8 0, .int .u8 0, .int .u8 0, .int .u8 0, .int .u8 0, .int .u8 0, .int .u8 0, .int .u8 0, .int .i64 0, .int .i64 0, .int .i64 0, .int .u32 0, .int .i64 0, .slice none 0 0] rfl HR.out (by rw [size_req]; rfl) rfl (by simp [Value.oneCell']) ?_; intro W5 hg5 hr5; have HG5 := Lib.hid hg5; have HR5 := Lib.hid hr5; clear hg5 hr5)
        refine bodyPost_ret (results_ctt rfl _ _ w.heap.size 43 #[.int .u8 0, .int .u8 0, .int .u8 0, .int .u8 0, .int .u8 0, .int .u8 0, .int .u8 0, .int .u8 0, .int .u8 0, .int .u8 0, .int .u8 0, .int .u8 0, .int .u8 0, .int .u8 0, .int .u8 0, .int .u8 0, .int .u8 0, .int .i64 0, .int .i64 0, .int .i64 0, .int .u32 0, .int .i64 0, .slice none 0 0] (0, 0) _ _ _ rfl rfl rfl HR5.out Try.underlying43 rfl (by rw [size_req]; rfl)) rfl ?_
        rw [HD.out, HN.out]
        exact reqP_err (n) _ (rfl) (grownBy_old HG'.out HG5.out (Nat.le_refl _))
      · have e1 : decide ((n : Int) < (hd : Int)) = false := decide_eq_false (by omega)
        have e2 : decide (n < hd) = false := decide_eq_false hsho
        have HD := Lib.hid (HDG.out (by rw [HN.out]; omega))
        have hn17 : 17 ≤ n := by have := HHB.out; omega
        have HNR := Lib.hid (fun W (hW : w.grownBy W none) => newReaderL_n (midA (some ⟨b, off, none⟩) 1 c) (c - 1) (n - 1) (l.drop 1) W (suf_lies (HL.out.grown hW) 1 c (by have := HN.out; omega) (by have := HN.out; omega)) (by rw [List.length_drop, HN.out]) (by omega))
        go_upto_region 17 with (first
          | (refine wpList_valp rfl (run_suf_op3 _ _ (.tmp 59) _ rfl (some ⟨b, off, none⟩) n c 1 (n - 1) rfl rfl (by omega) rfl) ?_)
          | (go_at_call 30; refine (HNR.out wr HG'.out).mono ?_; rintro e w5 ⟨gR, la, lc, rfl, hgR, rd, g, hbl⟩; have HGR := Lib.hid hgR; have RD := Lib.hid rd; have G5 := Lib.hid g; have HBL := Lib.hid hbl; clear hgR rd g hbl))
        obtain ⟨bR, oR, hla⟩ := BLies.addr RD.out.lies (by rw [List.length_drop, HN.out]; omega)
        subst hla
        have hbR := HBL.out (by omega) bR oR rfl
        have HBR := Lib.hid hbR
        have HRA := Lib.hid (show RA w5 gR bR false (l.drop 1) from ⟨_, _, _, RD.out, fun _ x o e => by injection e with e; injection e with e1; exact e1.symm, by omega⟩)
        have HT5 := Lib.hid (HT.out.grown G5.out)
        have HR5' := Lib.hid (HR.out.grown G5.out)
        have HG5' := Lib.hid (grownBy_trans HG'.out G5.out)
        have HO5 := Lib.hid (show Own w5 w3.heap.size 81 2 aF j cF (fdC gT FF) from Own.ch HO.out (Ch.ofNone G5.out (fun _ => False)) (fun _ _ _ h => h))
        have HOB := Lib.hid (show ∀ y, In aF cF y → w3.heap.size ≤ y ∧ y < wr.heap.size from fun y hy => Own.inn HO.out hy)
        have HTR := Lib.hid (show gT < wr.heap.size from HT.out.lt)
        clear hbR
        go_wp2_with fail
        refine (bytesA 16 HRA.out).mono ?_
        rintro e w6 ⟨a16, n16, c16, rfl, o16, hra, g6⟩
        have h16 : (16 : Int) = ((16 : Nat) : Int) := rfl
        have hlen1 : 16 ≤ (l.drop 1).length := by rw [List.length_drop, HN.out]; omega
        have hp16 : pD false (l.drop 1) 16 = seg l 1 16 := by
          unfold pD
          rw [h16, okD_yes hlen1, if_pos rfl]
          rfl
        have hf16 : fD false (l.drop 1) 16 = false := by rw [h16]; exact (numD_yes hlen1).2.1
        have hr16 : remD false (l.drop 1) 16 = l.drop 17 := by rw [h16, (numD_yes hlen1).2.2, List.drop_drop]
        rw [hf16, hr16] at hra
        rw [hp16] at o16
        have hsl : (seg l 1 16).length = 16 := seg_len (by rw [HN.out]; omega)
        have hn16 : n16 = 16 := by rw [← o16.len, hsl]
        subst hn16
        obtain ⟨g16, rfl, hg16a, hg16b⟩ := Own.block o16 (by have := Own.cap o16; omega)
        have HRG16 := Lib.hid (show w6.rangeAt g16 0 ((seg l 1 16).map bval) from fun i v hi => by
          obtain ⟨hk, hv⟩ := List.getElem?_eq_some_iff.1 hi
          obtain ⟨g', e, _, _, hc', _⟩ := Own.cell o16 i hk
          injection e with e
          injection e with e1
          subst e1
          rw [Nat.zero_add, hc', hv])
        have HSL := Lib.hid hsl
        have HRA6 := Lib.hid hra
        have HT6 := Lib.hid (HT5.out.grownNe g6 (by have h1 := HGR.out; have h2 := HTR.out; omega))
        have HC6 := Lib.hid (show Ch (fun x => x = gT ∨ x = gR) w5 w6 from Ch.ofSome g6 (.inr rfl))
        clear h16 hlen1 hp16 hf16 hr16 hra hsl o16 hg16a hg16b g6
        go_upto_region 18 with (first
          | (refine wpList_valp rfl (run_arrptr16 _ _ (.tmp 64) rfl (some ⟨g16, 0, none⟩) c16 rfl) ?_)
          | (refine wpList_load_mid rfl 38 _ rfl g16 0 rfl ((seg l 1 16).map bval) _ HRG16.out Try.underlying38 rfl (by rw [size_ix, List.length_map, HSL.out]) ?_)
          | (refine wpList_store_mid rfl 38 (.tmp 69) (.tmp 66) rfl gT 1 ((seg l 1 16).map bval).toArray rfl rfl (by rw [List.size_toArray, List.length_map, HSL.out]; exact tk_there HT6.out rfl) (by rw [size_ix, List.size_toArray, List.length_map, HSL.out]) (all_oneCell_toArray (fun v hv => by obtain ⟨x, _, rfl⟩ := List.mem_map.1 hv; rfl)) ?_; show wpList _ _ _ _ _ (w6.setCells gT 1 ((seg l 1 16).map bval)); obtain ⟨w7, h7⟩ : ∃ w7, w7 = w6.setCells gT 1 ((seg l 1 16).map bval) := ⟨_, rfl⟩; rw [← h7]; have H7 := Lib.hid h7; clear h7))
        have g7 : w6.grownBy w7 (some gT) := H7.out ▸ grownBy_setCellsR _ _ _ _
        have HT7 := Lib.hid (show Row w7 gT 75 (tkC (q0 l) (.slice none 0 0) ((0 : Nat) : Int)) from by
          have h := Row.setcs gT 75 ((seg l 1 16).map bval) 1 w6 _ HT6.out
          rw [tk_ix _ _ _ _ rfl HSL.out] at h
          rw [H7.out]
          exact h)
        have HC7 := Lib.hid (show Ch (fun x => x = gT ∨ x = gR) w5 w7 from HC6.out.trans (Ch.ofSome (S := fun x => x = gT) g7 rfl) (fun _ _ h => .inl h))
        have HRA7 := Lib.hid (HRA6.out.ch (Ch.ofSome (S := fun x => x = gT) g7 rfl) (fun h => by have h1 := HGR.out; have h2 := HTR.out; omega) (fun h => by have h1 := HBR.out; have h2 := HTR.out; omega))
        have HR7 := Lib.hid (HR5'.out.ch HC7.out (fun h => by have h1 := HTW.out; have h2 := HGR.out; have h3 := HTR.out; omega))
        have HO7 := Lib.hid (show Own w7 w3.heap.size 81 2 aF j cF (fdC gT FF) from Own.ch HO5.out HC7.out (fun h0 y e h => by have h1 := HOB.out y ⟨h0, e⟩; have h2 := HTL3.out; have h3 := HGR.out; omega))
        have HG7 := Lib.hid (Ch.fresh HG5'.out HC7.out (fun y hy h => by have h1 := HTW.out; have h2 := HGR.out; have h3 := HTR.out; omega))
        have HTG := Lib.hid (show gT ≠ gR ∧ gT ≠ bR ∧ w.heap.size ≠ gT ∧ w.heap.size ≠ gR ∧ w.heap.size < gT ∧ w.heap.size < gR from by have h1 := HTW.out; have h2 := HGR.out; have h3 := HTR.out; have h4 := HBR.out; omega)
        have HOB2 := Lib.hid (show ∀ y, In aF cF y → y ≠ gT ∧ y ≠ gR from fun y hy => by have h1 := HOB.out y hy; have h2 := HTL3.out; have h3 := HGR.out; omega)
        clear g7 H7 HT6 HC6 HC7 HRA6 HRG16 HO5 HT5 HR5' HOB HO HT HR HG' HG5'
        go_wp2_with fail
        go_loopw [12, 72] (fun v12 v72 wz => ∃ (p i : Nat) (q : Rq) (r : Nat), v12 = .int .i64 (p : Int) ∧ v72 = .int .i64 (i : Int) ∧ i ≤ j ∧ p + sumS (FF.drop i) = hd ∧ q.ix.length = 16 ∧ r ≤ 4294967296 ∧ Row wz gT 75 (tkC q (.slice none 0 0) (r : Nat)) ∧ RA wz gR bR false (l.drop p) ∧ Ch (fun x => x = gT ∨ x = gR) w7 wz ∧ runF l FF (q0 l, 0) 17 = runF l (FF.drop i) (q, r) p) (fun _ v _ => j - (intOf v).toNat)
        case atStart => exact ⟨17, 0, q0 l, 0, rfl, rfl, by omega, by rw [List.drop_zero, HHS.out], HSL.out, by omega, HT7.out, HRA7.out, Ch.refl _ _, by rw [List.drop_zero]⟩
        case round =>
          obtain ⟨p, i, q, r, rfl, rfl, hi, hs, hqx, hr, hT, hRA, hC, hrun⟩ := hrel
          have HTz := Lib.hid hT
          have HRz := Lib.hid hRA
          have HCz := Lib.hid hC
          have HRUN := Lib.hid hrun
          have HS := Lib.hid hs
          clear hT hRA hC hrun hs
          by_cases hlt : i < j
          · have hjl : i < FF.length := by have := HF.out; omega
            obtain ⟨gF, rfl, _⟩ := Own.block HO7.out (by have := Own.cap HO7.out; omega)
            have hCz := HCz.out
            have HRG := Lib.hid (fields_range (Own.ch HO7.out hCz (fun h0 y e h => by have := HOB2.out y ⟨h0, e⟩; omega)) hjl)
            have hsz := (FF[i]).size_le
            have hsd := sumS_drop hjl
            have hrd := runF_drop (b := l) (s := (q, r)) (p := p) hjl
            obtain ⟨f, hf⟩ : ∃ f, f = FF[i] := ⟨_, rfl⟩
            rw [← hf] at HRG hsz hsd hrd
            have hsl2 : f.size ≤ (l.drop p).length := by rw [List.length_drop, HN.out]; have := HS.out; omega
            have HTK := Lib.hid (fun W (hT : Row W gT 75 (tkC q (.slice none 0 0) (r : Nat))) (hR : RA W gR bR false (l.drop p)) => take_t f q r (.slice none 0 0) gT gR bR (l.drop p) W hqx hT hR ⟨HTG.out.1, HTG.out.2.1⟩ hsl2)
            have hXlt : getN l p f.size < 256 ^ f.size := getN_le
            have hput := put_rest f (q, r) _ hr hXlt
            have hpix := f.put_ix (q, r) (getN l p f.size)
            obtain ⟨sz, hsz2⟩ : ∃ sz, sz = f.size := ⟨_, rfl⟩
            rw [← hsz2] at HRG hsz hsd
            have hdb : p + sz ≤ 34 := by have := HS.out; omega
            have HSD := Lib.hid hsd
            have HRD := Lib.hid hrd
            have HSZ := Lib.hid hsz2
            have HPUT := Lib.hid hput
            have HPIX := Lib.hid hpix
            have HQX := Lib.hid hqx
            have HENT := Lib.hid (fid_enters f)
            clear hsd hf hsz2 hjl hrd hsl2 hXlt hput hpix hqx hCz
            obtain ⟨iF, zF, hiF, hzF, hsF, hcF⟩ := info_field
            go_upto_region 22 with (first
              | (refine wpList_load_mid rfl 81 _ rfl gF (i * 2) rfl [.int .i64 (sz : Int), .func (Fn.func f.fid) #[.pointer (some ⟨gT, 0, none⟩)] #[]] _ HRG.out Try.underlying81 rfl (by rw [size_field]; rfl) ?_)
              | (refine wpList_fresh rfl rfl rfl rfl rfl hiF hzF hsF #[.int .i64 (sz : Int), .func (Fn.func f.fid) #[.pointer (some ⟨gT, 0, none⟩)] #[]] rfl rfl hcF (by simp [Value.oneCell']) ?_; intro w9 hs9 hg9 hr9; have G9 := Lib.hid hg9; have HR9 := Lib.hid hr9; have HZ9 := Lib.hid hs9; clear hs9 hg9 hr9))
            obtain ⟨b9, hb9⟩ : ∃ b9, b9 = wr.heap.size := ⟨_, rfl⟩
            have HB9 := Lib.hid (show gT < b9 ∧ gR < b9 from by rw [hb9]; exact ⟨HTz.out.lt, HRz.out.lt⟩)
            rw [← hb9] at HR9 ⊢
            clear hb9 HZ9
            have k1 := Row.cell HR9.out 1
            simp at k1
            have HTK9 := Lib.hid (HTK.out w9 (HTz.out.grown G9.out) (HRz.out.ch (Ch.ofNone G9.out (fun _ => False)) (fun h => h) (fun h => h)))
            have hent : ∀ args W, (callFunc f.fid args).run Try.prog W = .ok (.enter f.fid args) W := HENT.out
            go_wp2_with fail
            refine HTK9.out.mono ?_
            rintro e w10 ⟨he, hT10, hR10, hC10⟩
            have hX : smallL ((l.drop p).take f.size) = getN l p f.size := rfl
            rw [hX] at he hT10
            have HT10 := Lib.hid hT10
            have HR10 := Lib.hid hR10
            have HC10 := Lib.hid ((HCz.out.then G9.out).trans hC10 (fun _ _ h => h))
            have k0 := Row.cell (HR9.out.ch hC10 (fun h => by have := HB9.out; omega)) 0
            simp at k0
            clear hT10 hR10 hC10 k1 hent hX
            by_cases hok : f.ok (getN l p f.size) = true
            · rw [hok] at he
              subst he
              have HOK := Lib.hid hok
              clear hok
              go_wp2_with fail
              go_roundw
              case rel =>
                refine ⟨p + sz, i + 1, (f.put (q, r) (getN l p f.size)).1, (f.put (q, r) (getN l p f.size)).2, by first | rfl | go_num, by first | rfl | go_num, by omega, by have h1 := HS.out; have h2 := HSD.out; omega, by rw [HPIX.out]; exact HQX.out, HPUT.out, HT10.out, ?_, HC10.out, ?_⟩
                · have h := HR10.out
                  rw [List.drop_drop, ← HSZ.out] at h
                  exact h
                · rw [HRUN.out, HRD.out, if_pos HOK.out, HSZ.out]
              case measure => simp [intOf]; omega
            · have hnok : f.ok (getN l p f.size) = false := by simpa using hok
              rw [hnok] at he
              subst he
              have HOK := Lib.hid hok
              clear hok hnok
              have HRF := Lib.hid (HR7.out.ch HC10.out (fun h => by have := HTG.out; omega))
              have HGF := Lib.hid (Ch.fresh HG7.out HC10.out (fun y hy h => by have := HTG.out; omega))
              go_upto_region 23 with fail
              go_wp2_with (refine wpList_putrow rfl rfl w.heap.size rfl #[.int .u8 0, .int .u8 0, .int .u8 0, .int .u8 0, .int .u8 0, .int .u8 0, .int .u8 0, .int .u8 0, .int .u8 0, .int .u8 0, .int .u8 0, .int .u8 0, .int .u8 0, .int .u8 0, .int .u8 0, .int .u8 0, .int .u8 0, .int .i64 0, .int .i64 0, .int .i64 0, .int .u32 0, .int .i64 0, .slice none 0 0] rfl HRF.out (by rw [size_req]; rfl) rfl (by simp [Value.oneCell']) ?_; intro W5 hg5 hr5; have HG5 := Lib.hid hg5; have HR5 := Lib.hid hr5; clear hg5 hr5)
              refine bodyPost_ret (results_ctt rfl _ _ w.heap.size 43 #[.int .u8 0, .int .u8 0, .int .u8 0, .int .u8 0, .int .u8 0, .int .u8 0, .int .u8 0, .int .u8 0, .int .u8 0, .int .u8 0, .int .u8 0, .int .u8 0, .int .u8 0, .int .u8 0, .int .u8 0, .int .u8 0, .int .u8 0, .int .i64 0, .int .i64 0, .int .i64 0, .int .u32 0, .int .i64 0, .slice none 0 0] (0, 0) _ _ _ rfl rfl rfl HR5.out Try.underlying43 rfl (by rw [size_req]; rfl)) rfl ?_
              rw [HD.out, HRUN.out, HRD.out, if_neg HOK.out]
              exact reqP_err (p) _ (rfl) (grownBy_old HGF.out HG5.out (Nat.le_refl _))
          · obtain rfl : i = j := by omega
            have hp : p = hd := by
              have hs := HS.out
              rw [List.drop_of_length_le (by have := HF.out; omega)] at hs
              exact hs
            subst hp
            have hrun : runF l FF (q0 l, 0) 17 = .ok (q, r) := by
              rw [HRUN.out, List.drop_of_length_le (by have := HF.out; omega)]
              rfl
            have hdd : decQ l = endQ l p r q := by
              rw [HD.out, hrun]
              rfl
            have HDD := Lib.hid hdd
            have HQX := Lib.hid hqx
            have HRz' := Lib.hid (HR7.out.ch HCz.out (fun h => by have := HTG.out; omega))
            have HGz := Lib.hid (Ch.fresh HG7.out HCz.out (fun y hy h => by have := HTG.out; omega))
            clear hrun hdd hqx
            have k6 := tk_cell HTz.out HQX.out 6
            simp at k6
            by_cases hnr : n = p + r
            · have hne2 : ((n : Int) != (p : Int) + (r : Int)) = false := by rw [bne_eq_false_iff_eq]; omega
              have HNR2 := Lib.hid hnr
              have HCL := Lib.hid (fun W (hW : w.grownBy W none) => cloneL_n (midA (some ⟨b, off, none⟩) p c) (c - p) r (l.drop p) W (suf_lies (HL.out.grown hW) p c (by have := HN.out; omega) (by have := HN.out; omega)) (by rw [List.length_drop, HN.out]; omega) (by omega))
              have HSUB := Lib.hid (show p ≤ n ∧ n - p = r from ⟨by omega, by omega⟩)
              clear hnr
              go_upto_region 28 with fail
              clear hne2
              go_wp2_with (refine wpList_valp rfl (run_suf_op3 _ _ (.tmp 108) (.tmp 109) rfl (some ⟨b, off, none⟩) n c p r rfl rfl HSUB.out.1 HSUB.out.2) ?_)
              refine (HCL.out wr HGz.out).mono ?_
              rintro e w11 ⟨a', c', rfl, o11, g11⟩
              have HT11 := Lib.hid (HTz.out.grown g11)
              have HR11 := Lib.hid (HRz'.out.grown g11)
              have HG11 := Lib.hid (grownBy_trans HGz.out g11)
              have O11 := Lib.hid o11
              have k5 := tk_cell HT11.out HQX.out 5
              have f5 := Row.frozen HT11.out 22
              have HLT := Lib.hid (show gT < wr.heap.size from HTz.out.lt)
              simp at k5
              clear o11 g11 k6
              go_upto_region 29 with fail
              obtain ⟨w12, h12⟩ : ∃ w12, w12 = w11.setCell ⟨gT, 22, none⟩ (.slice a' r c') := ⟨_, rfl⟩
              rw [← h12]
              have g12 : w11.grownBy w12 (some gT) := h12 ▸ grownBy_setCell _ _ _ _
              have hT12 : Row w12 gT 75 (tkC q (.slice a' r c') (r : Nat)) := by
                have h := Row.setc HT11.out 22 (.slice a' r c')
                rw [show 22 = 17 + 5 from rfl, tk_set _ _ _ HQX.out] at h
                rw [h12]
                exact h
              have HT12 := Lib.hid hT12
              have HR12 := Lib.hid (HR11.out.grownNe g12 (by have := HTG.out; omega))
              have HG12 := Lib.hid (grownBy_old HG11.out g12 (by have := HTG.out; omega))
              have O12 := Lib.hid (show BOwn w12 wr.heap.size a' r c' (l.drop p) from Own.ch O11.out (Ch.ofSome (S := fun x => x = gT) g12 rfl) (fun h0 y e h => by
                have h1 := (Own.inn O11.out (g := y) ⟨h0, e⟩).1
                have h2 := HLT.out
                omega))
              clear h12 g12 hT12 k5 f5 HT11 HR11 HG11 O11
              go_wp2_with (first
                | (refine wpList_load_mid rfl 43 _ rfl gT 0 rfl (rqC q (.slice a' r c')).toList _ (tk_range HT12.out HQX.out) Try.underlying43 rfl (by rw [size_req]; exact congrArg some (rq_len q _ HQX.out).symm) ?_)
                | (refine wpList_putrow rfl rfl w.heap.size rfl (rqC q (.slice a' r c')) rfl HR12.out (by rw [size_req]; exact congrArg some (rq_len q _ HQX.out).symm) (rq_len q _ HQX.out).symm (rq_one _ _ _ _) ?_; intro W5 hg5 hr5; have HG5 := Lib.hid hg5; have HR5 := Lib.hid hr5; clear hg5 hr5))
              refine bodyPost_ret (results_ctt rfl _ _ w.heap.size 43 (rqC q (.slice a' r c')) (0, 0) _ _ _ rfl rfl rfl HR5.out Try.underlying43 rfl (by rw [size_req]; exact congrArg some (rq_len q _ HQX.out).symm)) rfl ?_
              rw [HDD.out, endQ_ok (by rw [HN.out]; exact HNR2.out)]
              have ho5 := Own.ch O12.out (Ch.ofSome (S := fun k => k = w.heap.size) HG5.out rfl) (fun h0 y e h => by
                have h1 := (Own.inn O12.out (g := y) ⟨h0, e⟩).1
                have h2 := HGz.out.size
                have h3 := HTG.out
                have h4 := HLT.out
                omega)
              exact ⟨a', r, c', rfl, Own.mono ho5 HGz.out.size, grownBy_old HG12.out HG5.out (Nat.le_refl _)⟩
            · have hne2 : ((n : Int) != (p : Int) + (r : Int)) = true := by rw [bne_iff_ne]; omega
              have HWR := Lib.hid (show IntKind.i64.wrap ((p : Int) + (r : Int)) = (p : Int) + (r : Int) from IntWalk.i64_in _ (by omega))
              by_cases hnl : n < p + r
              · have hif : (if (p : Int) + (r : Int) < (n : Int) then (p : Int) + (r : Int) else (n : Int)) = (n : Int) := by split <;> omega
                go_upto_region 27 with fail
                refine wp_normalR ?_
                refine wp_regionX (SR w.heap.size wr) 12 (by kernel_rfl) ⟨Ch.ofNone (grownBy_drewN wr 1 none) _, _, HRz'.out.grown (grownBy_drewN wr 1 none), rfl⟩ ?_
                refine wpX_take 0 (v := .agg #[.int .u8 0, .int .u8 0, .int .u8 0, .int .u8 0, .int .u8 0, .int .u8 0, .int .u8 0, .int .u8 0, .int .u8 0, .int .u8 0, .int .u8 0, .int .u8 0, .int .u8 0, .int .u8 0, .int .u8 0, .int .u8 0, .int .u8 0, .int .i64 0, .int .i64 0, .int .i64 0, .int .u32 0, .int .i64 0, .slice none 0 0]) (oi := { dst := some 97, op := Op.build 43 #[], type := 43, pos := "wire.go:162", after := #[], guard := none }) (oL := { dst := some 4, op := Op.assign (Operand.const (Value.int IntKind.i64 200)), type := 28, pos := "wire.go:162", after := #[{ on := 11, ground := Ground.chain }, { on := 0, ground := Ground.phase }, { on := 1, ground := Ground.phase }, { on := 2, ground := Ground.phase }, { on := 3, ground := Ground.phase }, { on := 4, ground := Ground.phase }, { on := 5, ground := Ground.phase }, { on := 6, ground := Ground.phase }, { on := 7, ground := Ground.phase }, { on := 8, ground := Ground.phase }, { on := 9, ground := Ground.phase }, { on := 10, ground := Ground.phase }, { on := 11, ground := Ground.phase }], guard := none }) (clo_SR _ _) rfl rfl rfl (by kernel_rfl) (by kernel_rfl) (by kernel_rfl) (by kernel_rfl) (by kernel_rfl) (fun _ _ _ h => by cases h.1) (YG.val (by rfl) (fun _ _ => by go_simp)) ?_
                simp only [Act.put, List.setIfInBounds_toArray, List.set_cons_zero, List.set_cons_succ]
                refine wpX_take 1 (v := .slice (some ⟨b, off, none⟩) n c) (oi := { dst := some 98, op := Op.move (Operand.tmp 0), type := 24, pos := "wire.go:162", after := #[], guard := none }) (oL := { dst := some 4, op := Op.assign (Operand.const (Value.int IntKind.i64 200)), type := 28, pos := "wire.go:162", after := #[{ on := 11, ground := Ground.chain }, { on := 0, ground := Ground.phase }, { on := 1, ground := Ground.phase }, { on := 2, ground := Ground.phase }, { on := 3, ground := Ground.phase }, { on := 4, ground := Ground.phase }, { on := 5, ground := Ground.phase }, { on := 6, ground := Ground.phase }, { on := 7, ground := Ground.phase }, { on := 8, ground := Ground.phase }, { on := 9, ground := Ground.phase }, { on := 10, ground := Ground.phase }, { on := 11, ground := Ground.phase }], guard := none }) (clo_SR _ _) rfl rfl rfl (by kernel_rfl) (by kernel_rfl) (by kernel_rfl) (by kernel_rfl) (by kernel_rfl) (fun _ _ _ h => by cases h.1) (YG.val (by rfl) (fun _ _ => by go_simp)) ?_
                simp only [Act.put, List.setIfInBounds_toArray, List.set_cons_zero, List.set_cons_succ]
                refine wpX_take 2 (v := .int .i64 (n : Int)) (oi := { dst := some 99, op := Op.call { callee := Callee.builtin Builtin.len, args := #[Operand.tmp 98], argTypes := #[24] }, type := 3, pos := "wire.go:162", after := #[{ on := 1, ground := Ground.data }], guard := none }) (oL := { dst := some 4, op := Op.assign (Operand.const (Value.int IntKind.i64 200)), type := 28, pos := "wire.go:162", after := #[{ on := 11, ground := Ground.chain }, { on := 0, ground := Ground.phase }, { on := 1, ground := Ground.phase }, { on := 2, ground := Ground.phase }, { on := 3, ground := Ground.phase }, { on := 4, ground := Ground.phase }, { on := 5, ground := Ground.phase }, { on := 6, ground := Ground.phase }, { on := 7, ground := Ground.phase }, { on := 8, ground := Ground.phase }, { on := 9, ground := Ground.phase }, { on := 10, ground := Ground.phase }, { on := 11, ground := Ground.phase }], guard := none }) (clo_SR _ _) rfl rfl rfl (by kernel_rfl) (by kernel_rfl) (by kernel_rfl) (by kernel_rfl) (by kernel_rfl) (fun _ _ _ h => by cases h.1) (YG.val (by rfl) (fun _ _ => by go_simp)) ?_
                simp only [Act.put, List.setIfInBounds_toArray, List.set_cons_zero, List.set_cons_succ]
                refine wpX_take 3 (v := .int .i64 (p : Int)) (oi := { dst := some 100, op := Op.move (Operand.tmp 12), type := 3, pos := "wire.go:162", after := #[], guard := none }) (oL := { dst := some 4, op := Op.assign (Operand.const (Value.int IntKind.i64 200)), type := 28, pos := "wire.go:162", after := #[{ on := 11, ground := Ground.chain }, { on := 0, ground := Ground.phase }, { on := 1, ground := Ground.phase }, { on := 2, ground := Ground.phase }, { on := 3, ground := Ground.phase }, { on := 4, ground := Ground.phase }, { on := 5, ground := Ground.phase }, { on := 6, ground := Ground.phase }, { on := 7, ground := Ground.phase }, { on := 8, ground := Ground.phase }, { on := 9, ground := Ground.phase }, { on := 10, ground := Ground.phase }, { on := 11, ground := Ground.phase }], guard := none }) (clo_SR _ _) rfl rfl rfl (by kernel_rfl) (by kernel_rfl) (by kernel_rfl) (by kernel_rfl) (by kernel_rfl) (fun _ _ _ h => by cases h.1) (YG.val (by rfl) (fun _ _ => by go_simp)) ?_
                simp only [Act.put, List.setIfInBounds_toArray, List.set_cons_zero, List.set_cons_succ]
                refine wpX_take 4 (v := .pointer (some ⟨gT, 0, none⟩)) (oi := { dst := some 101, op := Op.move (Operand.tmp 5), type := 73, pos := "wire.go:162", after := #[], guard := none }) (oL := { dst := some 4, op := Op.assign (Operand.const (Value.int IntKind.i64 200)), type := 28, pos := "wire.go:162", after := #[{ on := 11, ground := Ground.chain }, { on := 0, ground := Ground.phase }, { on := 1, ground := Ground.phase }, { on := 2, ground := Ground.phase }, { on := 3, ground := Ground.phase }, { on := 4, ground := Ground.phase }, { on := 5, ground := Ground.phase }, { on := 6, ground := Ground.phase }, { on := 7, ground := Ground.phase }, { on := 8, ground := Ground.phase }, { on := 9, ground := Ground.phase }, { on := 10, ground := Ground.phase }, { on := 11, ground := Ground.phase }], guard := none }) (clo_SR _ _) rfl rfl rfl (by kernel_rfl) (by kernel_rfl) (by kernel_rfl) (by kernel_rfl) (by kernel_rfl) (fun _ _ _ h => by cases h.1) (YG.val (by rfl) (fun _ _ => by go_simp)) ?_
                simp only [Act.put, List.setIfInBounds_toArray, List.set_cons_zero, List.set_cons_succ]
                refine wpX_take 5 (v := .pointer (some ⟨gT, 0, none⟩)) (oi := { dst := some 102, op := Op.nilCheck (Operand.tmp 101), type := 0, pos := "wire.go:162", after := #[{ on := 4, ground := Ground.data }], guard := none }) (oL := { dst := some 4, op := Op.assign (Operand.const (Value.int IntKind.i64 200)), type := 28, pos := "wire.go:162", after := #[{ on := 11, ground := Ground.chain }, { on := 0, ground := Ground.phase }, { on := 1, ground := Ground.phase }, { on := 2, ground := Ground.phase }, { on := 3, ground := Ground.phase }, { on := 4, ground := Ground.phase }, { on := 5, ground := Ground.phase }, { on := 6, ground := Ground.phase }, { on := 7, ground := Ground.phase }, { on := 8, ground := Ground.phase }, { on := 9, ground := Ground.phase }, { on := 10, ground := Ground.phase }, { on := 11, ground := Ground.phase }], guard := none }) (clo_SR _ _) rfl rfl rfl (by kernel_rfl) (by kernel_rfl) (by kernel_rfl) (by kernel_rfl) (by kernel_rfl) (fun _ _ _ h => by cases h.1) (YG.val (by rfl) (fun _ _ => by go_simp)) ?_
                simp only [Act.put, List.setIfInBounds_toArray, List.set_cons_zero, List.set_cons_succ]
                refine wpX_take 6 (v := .pointer (some ⟨gT, 23, none⟩)) (oi := { dst := some 103, op := Op.fieldAddr 75 (Operand.tmp 102) 1, type := 0, pos := "wire.go:162", after := #[{ on := 5, ground := Ground.data }], guard := none }) (oL := { dst := some 4, op := Op.assign (Operand.const (Value.int IntKind.i64 200)), type := 28, pos := "wire.go:162", after := #[{ on := 11, ground := Ground.chain }, { on := 0, ground := Ground.phase }, { on := 1, ground := Ground.phase }, { on := 2, ground := Ground.phase }, { on := 3, ground := Ground.phase }, { on := 4, ground := Ground.phase }, { on := 5, ground := Ground.phase }, { on := 6, ground := Ground.phase }, { on := 7, ground := Ground.phase }, { on := 8, ground := Ground.phase }, { on := 9, ground := Ground.phase }, { on := 10, ground := Ground.phase }, { on := 11, ground := Ground.phase }], guard := none }) (clo_SR _ _) rfl rfl rfl (by kernel_rfl) (by kernel_rfl) (by kernel_rfl) (by kernel_rfl) (by kernel_rfl) (fun _ _ _ h => by cases h.1) (YG.val (by rfl) (fun _ _ => by go_simp)) ?_
                simp only [Act.put, List.setIfInBounds_toArray, List.set_cons_zero, List.set_cons_succ]
                refine wpX_take 7 (v := .int .i64 (r : Int)) (oi := { dst := some 104, op := Op.load 3 (Operand.tmp 103), type := 3, pos := "wire.go:162", after := #[{ on := 6, ground := Ground.data }], guard := none }) (oL := { dst := some 4, op := Op.assign (Operand.const (Value.int IntKind.i64 200)), type := 28, pos := "wire.go:162", after := #[{ on := 11, ground := Ground.chain }, { on := 0, ground := Ground.phase }, { on := 1, ground := Ground.phase }, { on := 2, ground := Ground.phase }, { on := 3, ground := Ground.phase }, { on := 4, ground := Ground.phase }, { on := 5, ground := Ground.phase }, { on := 6, ground := Ground.phase }, { on := 7, ground := Ground.phase }, { on := 8, ground := Ground.phase }, { on := 9, ground := Ground.phase }, { on := 10, ground := Ground.phase }, { on := 11, ground := Ground.phase }], guard := none }) (clo_SR _ _) rfl rfl rfl (by kernel_rfl) (by kernel_rfl) (by kernel_rfl) (by kernel_rfl) (by kernel_rfl) (fun _ _ _ h => by cases h.1) (YG.val (by rfl) (fun u hu => by have c := tk_cell (HTz.out.ch hu.1 (fun h => by have := HTG.out; omega)) HQX.out 6; simp at c; go_simp)) ?_
                simp only [Act.put, List.setIfInBounds_toArray, List.set_cons_zero, List.set_cons_succ]
                refine wpX_take 8 (v := .int .i64 ((p : Int) + (r : Int))) (oi := { dst := some 105, op := Op.binOp BinOp.add 3 (Operand.tmp 100) (Operand.tmp 104) 3, type := 3, pos := "wire.go:162", after := #[{ on := 3, ground := Ground.data }, { on := 7, ground := Ground.data }], guard := none }) (oL := { dst := some 4, op := Op.assign (Operand.const (Value.int IntKind.i64 200)), type := 28, pos := "wire.go:162", after := #[{ on := 11, ground := Ground.chain }, { on := 0, ground := Ground.phase }, { on := 1, ground := Ground.phase }, { on := 2, ground := Ground.phase }, { on := 3, ground := Ground.phase }, { on := 4, ground := Ground.phase }, { on := 5, ground := Ground.phase }, { on := 6, ground := Ground.phase }, { on := 7, ground := Ground.phase }, { on := 8, ground := Ground.phase }, { on := 9, ground := Ground.phase }, { on := 10, ground := Ground.phase }, { on := 11, ground := Ground.phase }], guard := none }) (clo_SR _ _) rfl rfl rfl (by kernel_rfl) (by kernel_rfl) (by kernel_rfl) (by kernel_rfl) (by kernel_rfl) (fun _ _ _ h => by cases h.1) (YG.val (by rfl) (fun _ _ => by have hw := HWR.out; go_simp)) ?_
                simp only [Act.put, List.setIfInBounds_toArray, List.set_cons_zero, List.set_cons_succ]
                refine wpX_take 9 (v := .int .i64 (n : Int)) (oi := { dst := some 106, op := Op.call { callee := Callee.builtin Builtin.min, args := #[Operand.tmp 99, Operand.tmp 105], argTypes := #[3, 3] }, type := 3, pos := "wire.go:162", after := #[{ on := 2, ground := Ground.data }, { on := 8, ground := Ground.data }], guard := none }) (oL := { dst := some 4, op := Op.assign (Operand.const (Value.int IntKind.i64 200)), type := 28, pos := "wire.go:162", after := #[{ on := 11, ground := Ground.chain }, { on := 0, ground := Ground.phase }, { on := 1, ground := Ground.phase }, { on := 2, ground := Ground.phase }, { on := 3, ground := Ground.phase }, { on := 4, ground := Ground.phase }, { on := 5, ground := Ground.phase }, { on := 6, ground := Ground.phase }, { on := 7, ground := Ground.phase }, { on := 8, ground := Ground.phase }, { on := 9, ground := Ground.phase }, { on := 10, ground := Ground.phase }, { on := 11, ground := Ground.phase }], guard := none }) (clo_SR _ _) rfl rfl rfl (by kernel_rfl) (by kernel_rfl) (by kernel_rfl) (by kernel_rfl) (by kernel_rfl) (fun _ _ _ h => by cases h.1) (YG.val (by rfl) (fun _ _ => by go_simp)) ?_
                simp only [Act.put, List.setIfInBounds_toArray, List.set_cons_zero, List.set_cons_succ]
                refine wpX_step 10 (o := { dst := none, op := Op.store 43 (Operand.tmp 2) (Operand.tmp 97), type := 0, pos := "wire.go:162", after := #[{ on := 0, ground := Ground.data }, { on := 0, ground := Ground.phase }, { on := 1, ground := Ground.textOnly Departure.lateStores }, { on := 2, ground := Ground.textOnly Departure.lateStoresUnsure }, { on := 3, ground := Ground.textOnly Departure.lateStores }, { on := 4, ground := Ground.textOnly Departure.lateStores }, { on := 5, ground := Ground.textOnly Departure.lateStores }, { on := 6, ground := Ground.textOnly Departure.lateStores }, { on := 7, ground := Ground.textOnly Departure.lateStores }, { on := 8, ground := Ground.textOnly Departure.lateStores }, { on := 9, ground := Ground.textOnly Departure.lateStoresUnsure }], guard := none }) rfl rfl (by kernel_rfl) (by rfl) (fun u2 hS2 K2 hK2 => ?_)
                have HK2 := Lib.hid hK2
                have HS2 := Lib.hid hS2
                clear hK2 hS2
                obtain ⟨cs, hcs, hcz⟩ := HS2.out.2
                refine wp_store_row 43 _ _ rfl w.heap.size #[.int .u8 0, .int .u8 0, .int .u8 0, .int .u8 0, .int .u8 0, .int .u8 0, .int .u8 0, .int .u8 0, .int .u8 0, .int .u8 0, .int .u8 0, .int .u8 0, .int .u8 0, .int .u8 0, .int .u8 0, .int .u8 0, .int .u8 0, .int .i64 0, .int .i64 0, .int .i64 0, .int .u32 0, .int .i64 0, .slice none 0 0] rfl rfl 43 _ hcs (by rw [size_req]; rfl) hcz (by simp [Value.oneCell']) ?_
                obtain ⟨u3, h3⟩ : ∃ u3, u3 = u2.setRow w.heap.size #[.int .u8 0, .int .u8 0, .int .u8 0, .int .u8 0, .int .u8 0, .int .u8 0, .int .u8 0, .int .u8 0, .int .u8 0, .int .u8 0, .int .u8 0, .int .u8 0, .int .u8 0, .int .u8 0, .int .u8 0, .int .u8 0, .int .u8 0, .int .i64 0, .int .i64 0, .int .i64 0, .int .u32 0, .int .i64 0, .slice none 0 0] := ⟨_, rfl⟩
                rw [← h3]
                have g3 : u2.grownBy u3 (some w.heap.size) := h3 ▸ grownBy_setRow _ _ _
                have hr3 : Row u3 w.heap.size 43 #[.int .u8 0, .int .u8 0, .int .u8 0, .int .u8 0, .int .u8 0, .int .u8 0, .int .u8 0, .int .u8 0, .int .u8 0, .int .u8 0, .int .u8 0, .int .u8 0, .int .u8 0, .int .u8 0, .int .u8 0, .int .u8 0, .int .u8 0, .int .i64 0, .int .i64 0, .int .i64 0, .int .u32 0, .int .i64 0, .slice none 0 0] := h3 ▸ setRow_heap _ _ _ _ _ _ hcs
                have HC3 := Lib.hid (show Ch (fun x => x = w.heap.size) wr u3 from HS2.out.1.trans (Ch.ofSome (S := fun x => x = w.heap.size) g3 rfl) (fun _ _ h => h))
                refine HK2.out (fun u => SR w.heap.size wr u ∧ Row u w.heap.size 43 #[.int .u8 0, .int .u8 0, .int .u8 0, .int .u8 0, .int .u8 0, .int .u8 0, .int .u8 0, .int .u8 0, .int .u8 0, .int .u8 0, .int .u8 0, .int .u8 0, .int .u8 0, .int .u8 0, .int .u8 0, .int .u8 0, .int .u8 0, .int .i64 0, .int .i64 0, .int .i64 0, .int .u32 0, .int .i64 0, .slice none 0 0]) _ _ ⟨⟨HC3.out, _, hr3, rfl⟩, hr3⟩ (fun u h => h.1) (clo_and (clo_SR _ _) (fun u u' h g => h.grown g)) ?_
                simp only [Act.put, List.setIfInBounds_toArray, List.set_cons_zero, List.set_cons_succ]
                clear HK2 HS2 hcs hcz h3 g3 hr3 HC3
                refine wpX_take 11 (v := .int .i64 (n : Int)) (oi := { dst := some 3, op := Op.assign (Operand.tmp 106), type := 3, pos := "wire.go:162", after := #[{ on := 9, ground := Ground.data }, { on := 10, ground := Ground.chain }, { on := 0, ground := Ground.phase }, { on := 1, ground := Ground.phase }, { on := 2, ground := Ground.phase }, { on := 3, ground := Ground.phase }, { on := 4, ground := Ground.phase }, { on := 5, ground := Ground.phase }, { on := 6, ground := Ground.phase }, { on := 7, ground := Ground.phase }, { on := 8, ground := Ground.phase }, { on := 9, ground := Ground.phase }, { on := 10, ground := Ground.phase }], guard := none }) (oL := { dst := some 4, op := Op.assign (Operand.const (Value.int IntKind.i64 200)), type := 28, pos := "wire.go:162", after := #[{ on := 11, ground := Ground.chain }, { on := 0, ground := Ground.phase }, { on := 1, ground := Ground.phase }, { on := 2, ground := Ground.phase }, { on := 3, ground := Ground.phase }, { on := 4, ground := Ground.phase }, { on := 5, ground := Ground.phase }, { on := 6, ground := Ground.phase }, { on := 7, ground := Ground.phase }, { on := 8, ground := Ground.phase }, { on := 9, ground := Ground.phase }, { on := 10, ground := Ground.phase }, { on := 11, ground := Ground.phase }], guard := none }) (clo_and (clo_SR _ _) (fun u u' h g => h.grown g)) rfl rfl rfl (by kernel_rfl) (by kernel_rfl) (by kernel_rfl) (by kernel_rfl) (by kernel_rfl) (fun _ _ _ h => by cases h.1) (YG.val (by rfl) (fun _ _ => by go_simp)) ?_
                simp only [Act.put, List.setIfInBounds_toArray, List.set_cons_zero, List.set_cons_succ]
                refine wpX_last (oL := { dst := some 4, op := Op.assign (Operand.const (Value.int IntKind.i64 200)), type := 28, pos := "wire.go:162", after := #[{ on := 11, ground := Ground.chain }, { on := 0, ground := Ground.phase }, { on := 1, ground := Ground.phase }, { on := 2, ground := Ground.phase }, { on := 3, ground := Ground.phase }, { on := 4, ground := Ground.phase }, { on := 5, ground := Ground.phase }, { on := 6, ground := Ground.phase }, { on := 7, ground := Ground.phase }, { on := 8, ground := Ground.phase }, { on := 9, ground := Ground.phase }, { on := 10, ground := Ground.phase }, { on := 11, ground := Ground.phase }], guard := none }) rfl (by kernel_rfl) (by kernel_rfl) (by rfl) (fun u4 hS4 K4 hK4 => ?_)
                refine wp_val_op (v := .int .i64 200) (w1 := u4) (by go_simp) (hK4 _ _ ?_)
                simp only [Act.put, List.setIfInBounds_toArray, List.set_cons_zero, List.set_cons_succ]
                refine ⟨by first | rfl | trivial, ?_⟩
                obtain ⟨w11, h11⟩ : ∃ w11, w11 = u4 := ⟨_, rfl⟩
                rw [← h11] at hS4 ⊢
                have HRE := Lib.hid hS4.2
                have HGE := Lib.hid (show w.grownBy w11 (some w.heap.size) from ((Ch.ofNone HGz.out (fun x => x = w.heap.size)).trans hS4.1.1 (fun _ _ h => h)).some' (fun k _ h => h))
                clear hS4 hK4 h11
                go_wp2_with fail
                refine bodyPost_ret (results_ctt rfl _ _ w.heap.size 43 #[.int .u8 0, .int .u8 0, .int .u8 0, .int .u8 0, .int .u8 0, .int .u8 0, .int .u8 0, .int .u8 0, .int .u8 0, .int .u8 0, .int .u8 0, .int .u8 0, .int .u8 0, .int .u8 0, .int .u8 0, .int .u8 0, .int .u8 0, .int .i64 0, .int .i64 0, .int .i64 0, .int .u32 0, .int .i64 0, .slice none 0 0] (0, 0) _ _ _ rfl rfl rfl HRE.out Try.underlying43 rfl (by rw [size_req]; rfl)) rfl ?_
                rw [HDD.out]
                unfold endQ
                rw [if_pos (by rw [HN.out]; omega)]
                exact reqP_err _ _ (by rw [HN.out]; omega) (grownBy_none HGE.out (fun g e => by injection e with e; omega))
              · have hif : (if (p : Int) + (r : Int) < (n : Int) then (p : Int) + (r : Int) else (n : Int)) = (p : Int) + (r : Int) := by split <;> omega
                go_upto_region 27 with fail
                refine wp_normalR ?_
                refine wp_regionX (SR w.heap.size wr) 12 (by kernel_rfl) ⟨Ch.ofNone (grownBy_drewN wr 1 none) _, _, HRz'.out.grown (grownBy_drewN wr 1 none), rfl⟩ ?_
                refine wpX_take 0 (v := .agg #[.int .u8 0, .int .u8 0, .int .u8 0, .int .u8 0, .int .u8 0, .int .u8 0, .int .u8 0, .int .u8 0, .int .u8 0, .int .u8 0, .int .u8 0, .int .u8 0, .int .u8 0, .int .u8 0, .int .u8 0, .int .u8 0, .int .u8 0, .int .i64 0, .int .i64 0, .int .i64 0, .int .u32 0, .int .i64 0, .slice none 0 0]) (oi := { dst := some 97, op := Op.build 43 #[], type := 43, pos := "wire.go:162", after := #[], guard := none }) (oL := { dst := some 4, op := Op.assign (Operand.const (Value.int IntKind.i64 200)), type := 28, pos := "wire.go:162", after := #[{ on := 11, ground := Ground.chain }, { on := 0, ground := Ground.phase }, { on := 1, ground := Ground.phase }, { on := 2, ground := Ground.phase }, { on := 3, ground := Ground.phase }, { on := 4, ground := Ground.phase }, { on := 5, ground := Ground.phase }, { on := 6, ground := Ground.phase }, { on := 7, ground := Ground.phase }, { on := 8, ground := Ground.phase }, { on := 9, ground := Ground.phase }, { on := 10, ground := Ground.phase }, { on := 11, ground := Ground.phase }], guard := none }) (clo_SR _ _) rfl rfl rfl (by kernel_rfl) (by kernel_rfl) (by kernel_rfl) (by kernel_rfl) (by kernel_rfl) (fun _ _ _ h => by cases h.1) (YG.val (by rfl) (fun _ _ => by go_simp)) ?_
                simp only [Act.put, List.setIfInBounds_toArray, List.set_cons_zero, List.set_cons_succ]
                refine wpX_take 1 (v := .slice (some ⟨b, off, none⟩) n c) (oi := { dst := some 98, op := Op.move (Operand.tmp 0), type := 24, pos := "wire.go:162", after := #[], guard := none }) (oL := { dst := some 4, op := Op.assign (Operand.const (Value.int IntKind.i64 200)), type := 28, pos := "wire.go:162", after := #[{ on := 11, ground := Ground.chain }, { on := 0, ground := Ground.phase }, { on := 1, ground := Ground.phase }, { on := 2, ground := Ground.phase }, { on := 3, ground := Ground.phase }, { on := 4, ground := Ground.phase }, { on := 5, ground := Ground.phase }, { on := 6, ground := Ground.phase }, { on := 7, ground := Ground.phase }, { on := 8, ground := Ground.phase }, { on := 9, ground := Ground.phase }, { on := 10, ground := Ground.phase }, { on := 11, ground := Ground.phase }], guard := none }) (clo_SR _ _) rfl rfl rfl (by kernel_rfl) (by kernel_rfl) (by kernel_rfl) (by kernel_rfl) (by kernel_rfl) (fun _ _ _ h => by cases h.1) (YG.val (by rfl) (fun _ _ => by go_simp)) ?_
                simp only [Act.put, List.setIfInBounds_toArray, List.set_cons_zero, List.set_cons_succ]
                refine wpX_take 2 (v := .int .i64 (n : Int)) (oi := { dst := some 99, op := Op.call { callee := Callee.builtin Builtin.len, args := #[Operand.tmp 98], argTypes := #[24] }, type := 3, pos := "wire.go:162", after := #[{ on := 1, ground := Ground.data }], guard := none }) (oL := { dst := some 4, op := Op.assign (Operand.const (Value.int IntKind.i64 200)), type := 28, pos := "wire.go:162", after := #[{ on := 11, ground := Ground.chain }, { on := 0, ground := Ground.phase }, { on := 1, ground := Ground.phase }, { on := 2, ground := Ground.phase }, { on := 3, ground := Ground.phase }, { on := 4, ground := Ground.phase }, { on := 5, ground := Ground.phase }, { on := 6, ground := Ground.phase }, { on := 7, ground := Ground.phase }, { on := 8, ground := Ground.phase }, { on := 9, ground := Ground.phase }, { on := 10, ground := Ground.phase }, { on := 11, ground := Ground.phase }], guard := none }) (clo_SR _ _) rfl rfl rfl (by kernel_rfl) (by kernel_rfl) (by kernel_rfl) (by kernel_rfl) (by kernel_rfl) (fun _ _ _ h => by cases h.1) (YG.val (by rfl) (fun _ _ => by go_simp)) ?_
                simp only [Act.put, List.setIfInBounds_toArray, List.set_cons_zero, List.set_cons_succ]
                refine wpX_take 3 (v := .int .i64 (p : Int)) (oi := { dst := some 100, op := Op.move (Operand.tmp 12), type := 3, pos := "wire.go:162", after := #[], guard := none }) (oL := { dst := some 4, op := Op.assign (Operand.const (Value.int IntKind.i64 200)), type := 28, pos := "wire.go:162", after := #[{ on := 11, ground := Ground.chain }, { on := 0, ground := Ground.phase }, { on := 1, ground := Ground.phase }, { on := 2, ground := Ground.phase }, { on := 3, ground := Ground.phase }, { on := 4, ground := Ground.phase }, { on := 5, ground := Ground.phase }, { on := 6, ground := Ground.phase }, { on := 7, ground := Ground.phase }, { on := 8, ground := Ground.phase }, { on := 9, ground := Ground.phase }, { on := 10, ground := Ground.phase }, { on := 11, ground := Ground.phase }], guard := none }) (clo_SR _ _) rfl rfl rfl (by kernel_rfl) (by kernel_rfl) (by kernel_rfl) (by kernel_rfl) (by kernel_rfl) (fun _ _ _ h => by cases h.1) (YG.val (by rfl) (fun _ _ => by go_simp)) ?_
                simp only [Act.put, List.setIfInBounds_toArray, List.set_cons_zero, List.set_cons_succ]
                refine wpX_take 4 (v := .pointer (some ⟨gT, 0, none⟩)) (oi := { dst := some 101, op := Op.move (Operand.tmp 5), type := 73, pos := "wire.go:162", after := #[], guard := none }) (oL := { dst := some 4, op := Op.assign (Operand.const (Value.int IntKind.i64 200)), type := 28, pos := "wire.go:162", after := #[{ on := 11, ground := Ground.chain }, { on := 0, ground := Ground.phase }, { on := 1, ground := Ground.phase }, { on := 2, ground := Ground.phase }, { on := 3, ground := Ground.phase }, { on := 4, ground := Ground.phase }, { on := 5, ground := Ground.phase }, { on := 6, ground := Ground.phase }, { on := 7, ground := Ground.phase }, { on := 8, ground := Ground.phase }, { on := 9, ground := Ground.phase }, { on := 10, ground := Ground.phase }, { on := 11, ground := Ground.phase }], guard := none }) (clo_SR _ _) rfl rfl rfl (by kernel_rfl) (by kernel_rfl) (by kernel_rfl) (by kernel_rfl) (by kernel_rfl) (fun _ _ _ h => by cases h.1) (YG.val (by rfl) (fun _ _ => by go_simp)) ?_
                simp only [Act.put, List.setIfInBounds_toArray, List.set_cons_zero, List.set_cons_succ]
                refine wpX_take 5 (v := .pointer (some ⟨gT, 0, none⟩)) (oi := { dst := some 102, op := Op.nilCheck (Operand.tmp 101), type := 0, pos := "wire.go:162", after := #[{ on := 4, ground := Ground.data }], guard := none }) (oL := { dst := some 4, op := Op.assign (Operand.const (Value.int IntKind.i64 200)), type := 28, pos := "wire.go:162", after := #[{ on := 11, ground := Ground.chain }, { on := 0, ground := Ground.phase }, { on := 1, ground := Ground.phase }, { on := 2, ground := Ground.phase }, { on := 3, ground := Ground.phase }, { on := 4, ground := Ground.phase }, { on := 5, ground := Ground.phase }, { on := 6, ground := Ground.phase }, { on := 7, ground := Ground.phase }, { on := 8, ground := Ground.phase }, { on := 9, ground := Ground.phase }, { on := 10, ground := Ground.phase }, { on := 11, ground := Ground.phase }], guard := none }) (clo_SR _ _) rfl rfl rfl (by kernel_rfl) (by kernel_rfl) (by kernel_rfl) (by kernel_rfl) (by kernel_rfl) (fun _ _ _ h => by cases h.1) (YG.val (by rfl) (fun _ _ => by go_simp)) ?_
                simp only [Act.put, List.setIfInBounds_toArray, List.set_cons_zero, List.set_cons_succ]
                refine wpX_take 6 (v := .pointer (some ⟨gT, 23, none⟩)) (oi := { dst := some 103, op := Op.fieldAddr 75 (Operand.tmp 102) 1, type := 0, pos := "wire.go:162", after := #[{ on := 5, ground := Ground.data }], guard := none }) (oL := { dst := some 4, op := Op.assign (Operand.const (Value.int IntKind.i64 200)), type := 28, pos := "wire.go:162", after := #[{ on := 11, ground := Ground.chain }, { on := 0, ground := Ground.phase }, { on := 1, ground := Ground.phase }, { on := 2, ground := Ground.phase }, { on := 3, ground := Ground.phase }, { on := 4, ground := Ground.phase }, { on := 5, ground := Ground.phase }, { on := 6, ground := Ground.phase }, { on := 7, ground := Ground.phase }, { on := 8, ground := Ground.phase }, { on := 9, ground := Ground.phase }, { on := 10, ground := Ground.phase }, { on := 11, ground := Ground.phase }], guard := none }) (clo_SR _ _) rfl rfl rfl (by kernel_rfl) (by kernel_rfl) (by kernel_rfl) (by kernel_rfl) (by kernel_rfl) (fun _ _ _ h => by cases h.1) (YG.val (by rfl) (fun _ _ => by go_simp)) ?_
                simp only [Act.put, List.setIfInBounds_toArray, List.set_cons_zero, List.set_cons_succ]
                refine wpX_take 7 (v := .int .i64 (r : Int)) (oi := { dst := some 104, op := Op.load 3 (Operand.tmp 103), type := 3, pos := "wire.go:162", after := #[{ on := 6, ground := Ground.data }], guard := none }) (oL := { dst := some 4, op := Op.assign (Operand.const (Value.int IntKind.i64 200)), type := 28, pos := "wire.go:162", after := #[{ on := 11, ground := Ground.chain }, { on := 0, ground := Ground.phase }, { on := 1, ground := Ground.phase }, { on := 2, ground := Ground.phase }, { on := 3, ground := Ground.phase }, { on := 4, ground := Ground.phase }, { on := 5, ground := Ground.phase }, { on := 6, ground := Ground.phase }, { on := 7, ground := Ground.phase }, { on := 8, ground := Ground.phase }, { on := 9, ground := Ground.phase }, { on := 10, ground := Ground.phase }, { on := 11, ground := Ground.phase }], guard := none }) (clo_SR _ _) rfl rfl rfl (by kernel_rfl) (by kernel_rfl) (by kernel_rfl) (by kernel_rfl) (by kernel_rfl) (fun _ _ _ h => by cases h.1) (YG.val (by rfl) (fun u hu => by have c := tk_cell (HTz.out.ch hu.1 (fun h => by have := HTG.out; omega)) HQX.out 6; simp at c; go_simp)) ?_
                simp only [Act.put, List.setIfInBounds_toArray, List.set_cons_zero, List.set_cons_succ]
                refine wpX_take 8 (v := .int .i64 ((p : Int) + (r : Int))) (oi := { dst := some 105, op := Op.binOp BinOp.add 3 (Operand.tmp 100) (Operand.tmp 104) 3, type := 3, pos := "wire.go:162", after := #[{ on := 3, ground := Ground.data }, { on := 7, ground := Ground.data }], guard := none }) (oL := { dst := some 4, op := Op.assign (Operand.const (Value.int IntKind.i64 200)), type := 28, pos := "wire.go:162", after := #[{ on := 11, ground := Ground.chain }, { on := 0, ground := Ground.phase }, { on := 1, ground := Ground.phase }, { on := 2, ground := Ground.phase }, { on := 3, ground := Ground.phase }, { on := 4, ground := Ground.phase }, { on := 5, ground := Ground.phase }, { on := 6, ground := Ground.phase }, { on := 7, ground := Ground.phase }, { on := 8, ground := Ground.phase }, { on := 9, ground := Ground.phase }, { on := 10, ground := Ground.phase }, { on := 11, ground := Ground.phase }], guard := none }) (clo_SR _ _) rfl rfl rfl (by kernel_rfl) (by kernel_rfl) (by kernel_rfl) (by kernel_rfl) (by kernel_rfl) (fun _ _ _ h => by cases h.1) (YG.val (by rfl) (fun _ _ => by have hw := HWR.out; go_simp)) ?_
                simp only [Act.put, List.setIfInBounds_toArray, List.set_cons_zero, List.set_cons_succ]
                refine wpX_take 9 (v := .int .i64 ((p : Int) + (r : Int))) (oi := { dst := some 106, op := Op.call { callee := Callee.builtin Builtin.min, args := #[Operand.tmp 99, Operand.tmp 105], argTypes := #[3, 3] }, type := 3, pos := "wire.go:162", after := #[{ on := 2, ground := Ground.data }, { on := 8, ground := Ground.data }], guard := none }) (oL := { dst := some 4, op := Op.assign (Operand.const (Value.int IntKind.i64 200)), type := 28, pos := "wire.go:162", after := #[{ on := 11, ground := Ground.chain }, { on := 0, ground := Ground.phase }, { on := 1, ground := Ground.phase }, { on := 2, ground := Ground.phase }, { on := 3, ground := Ground.phase }, { on := 4, ground := Ground.phase }, { on := 5, ground := Ground.phase }, { on := 6, ground := Ground.phase }, { on := 7, ground := Ground.phase }, { on := 8, ground := Ground.phase }, { on := 9, ground := Ground.phase }, { on := 10, ground := Ground.phase }, { on := 11, ground := Ground.phase }], guard := none }) (clo_SR _ _) rfl rfl rfl (by kernel_rfl) (by kernel_rfl) (by kernel_rfl) (by kernel_rfl) (by kernel_rfl) (fun _ _ _ h => by cases h.1) (YG.val (by rfl) (fun _ _ => by go_simp)) ?_
                simp only [Act.put, List.setIfInBounds_toArray, List.set_cons_zero, List.set_cons_succ]
                refine wpX_step 10 (o := { dst := none, op := Op.store 43 (Operand.tmp 2) (Operand.tmp 97), type := 0, pos := "wire.go:162", after := #[{ on := 0, ground := Ground.data }, { on := 0, ground := Ground.phase }, { on := 1, ground := Ground.textOnly Departure.lateStores }, { on := 2, ground := Ground.textOnly Departure.lateStoresUnsure }, { on := 3, ground := Ground.textOnly Departure.lateStores }, { on := 4, ground := Ground.textOnly Departure.lateStores }, { on := 5, ground := Ground.textOnly Departure.lateStores }, { on := 6, ground := Ground.textOnly Departure.lateStores }, { on := 7, ground := Ground.textOnly Departure.lateStores }, { on := 8, ground := Ground.textOnly Departure.lateStores }, { on := 9, ground := Ground.textOnly Departure.lateStoresUnsure }], guard := none }) rfl rfl (by kernel_rfl) (by rfl) (fun u2 hS2 K2 hK2 => ?_)
                have HK2 := Lib.hid hK2
                have HS2 := Lib.hid hS2
                clear hK2 hS2
                obtain ⟨cs, hcs, hcz⟩ := HS2.out.2
                refine wp_store_row 43 _ _ rfl w.heap.size #[.int .u8 0, .int .u8 0, .int .u8 0, .int .u8 0, .int .u8 0, .int .u8 0, .int .u8 0, .int .u8 0, .int .u8 0, .int .u8 0, .int .u8 0, .int .u8 0, .int .u8 0, .int .u8 0, .int .u8 0, .int .u8 0, .int .u8 0, .int .i64 0, .int .i64 0, .int .i64 0, .int .u32 0, .int .i64 0, .slice none 0 0] rfl rfl 43 _ hcs (by rw [size_req]; rfl) hcz (by simp [Value.oneCell']) ?_
                obtain ⟨u3, h3⟩ : ∃ u3, u3 = u2.setRow w.heap.size #[.int .u8 0, .int .u8 0, .int .u8 0, .int .u8 0, .int .u8 0, .int .u8 0, .int .u8 0, .int .u8 0, .int .u8 0, .int .u8 0, .int .u8 0, .int .u8 0, .int .u8 0, .int .u8 0, .int .u8 0, .int .u8 0, .int .u8 0, .int .i64 0, .int .i64 0, .int .i64 0, .int .u32 0, .int .i64 0, .slice none 0 0] := ⟨_, rfl⟩
                rw [← h3]
                have g3 : u2.grownBy u3 (some w.heap.size) := h3 ▸ grownBy_setRow _ _ _
                have hr3 : Row u3 w.heap.size 43 #[.int .u8 0, .int .u8 0, .int .u8 0, .int .u8 0, .int .u8 0, .int .u8 0, .int .u8 0, .int .u8 0, .int .u8 0, .int .u8 0, .int .u8 0, .int .u8 0, .int .u8 0, .int .u8 0, .int .u8 0, .int .u8 0, .int .u8 0, .int .i64 0, .int .i64 0, .int .i64 0, .int .u32 0, .int .i64 0, .slice none 0 0] := h3 ▸ setRow_heap _ _ _ _ _ _ hcs
                have HC3 := Lib.hid (show Ch (fun x => x = w.heap.size) wr u3 from HS2.out.1.trans (Ch.ofSome (S := fun x => x = w.heap.size) g3 rfl) (fun _ _ h => h))
                refine HK2.out (fun u => SR w.heap.size wr u ∧ Row u w.heap.size 43 #[.int .u8 0, .int .u8 0, .int .u8 0, .int .u8 0, .int .u8 0, .int .u8 0, .int .u8 0, .int .u8 0, .int .u8 0, .int .u8 0, .int .u8 0, .int .u8 0, .int .u8 0, .int .u8 0, .int .u8 0, .int .u8 0, .int .u8 0, .int .i64 0, .int .i64 0, .int .i64 0, .int .u32 0, .int .i64 0, .slice none 0 0]) _ _ ⟨⟨HC3.out, _, hr3, rfl⟩, hr3⟩ (fun u h => h.1) (clo_and (clo_SR _ _) (fun u u' h g => h.grown g)) ?_
                simp only [Act.put, List.setIfInBounds_toArray, List.set_cons_zero, List.set_cons_succ]
                clear HK2 HS2 hcs hcz h3 g3 hr3 HC3
                refine wpX_take 11 (v := .int .i64 ((p : Int) + (r : Int))) (oi := { dst := some 3, op := Op.assign (Operand.tmp 106), type := 3, pos := "wire.go:162", after := #[{ on := 9, ground := Ground.data }, { on := 10, ground := Ground.chain }, { on := 0, ground := Ground.phase }, { on := 1, ground := Ground.phase }, { on := 2, ground := Ground.phase }, { on := 3, ground := Ground.phase }, { on := 4, ground := Ground.phase }, { on := 5, ground := Ground.phase }, { on := 6, ground := Ground.phase }, { on := 7, ground := Ground.phase }, { on := 8, ground := Ground.phase }, { on := 9, ground := Ground.phase }, { on := 10, ground := Ground.phase }], guard := none }) (oL := { dst := some 4, op := Op.assign (Operand.const (Value.int IntKind.i64 200)), type := 28, pos := "wire.go:162", after := #[{ on := 11, ground := Ground.chain }, { on := 0, ground := Ground.phase }, { on := 1, ground := Ground.phase }, { on := 2, ground := Ground.phase }, { on := 3, ground := Ground.phase }, { on := 4, ground := Ground.phase }, { on := 5, ground := Ground.phase }, { on := 6, ground := Ground.phase }, { on := 7, ground := Ground.phase }, { on := 8, ground := Ground.phase }, { on := 9, ground := Ground.phase }, { on := 10, ground := Ground.phase }, { on := 11, ground := Ground.phase }], guard := none }) (clo_and (clo_SR _ _) (fun u u' h g => h.grown g)) rfl rfl rfl (by kernel_rfl) (by kernel_rfl) (by kernel_rfl) (by kernel_rfl) (by kernel_rfl) (fun _ _ _ h => by cases h.1) (YG.val (by rfl) (fun _ _ => by go_simp)) ?_
                simp only [Act.put, List.setIfInBounds_toArray, List.set_cons_zero, List.set_cons_succ]
                refine wpX_last (oL := { dst := some 4, op := Op.assign (Operand.const (Value.int IntKind.i64 200)), type := 28, pos := "wire.go:162", after := #[{ on := 11, ground := Ground.chain }, { on := 0, ground := Ground.phase }, { on := 1, ground := Ground.phase }, { on := 2, ground := Ground.phase }, { on := 3, ground := Ground.phase }, { on := 4, ground := Ground.phase }, { on := 5, ground := Ground.phase }, { on := 6, ground := Ground.phase }, { on := 7, ground := Ground.phase }, { on := 8, ground := Ground.phase }, { on := 9, ground := Ground.phase }, { on := 10, ground := Ground.phase }, { on := 11, ground := Ground.phase }], guard := none }) rfl (by kernel_rfl) (by kernel_rfl) (by rfl) (fun u4 hS4 K4 hK4 => ?_)
                refine wp_val_op (v := .int .i64 200) (w1 := u4) (by go_simp) (hK4 _ _ ?_)
                simp only [Act.put, List.setIfInBounds_toArray, List.set_cons_zero, List.set_cons_succ]
                refine ⟨by first | rfl | trivial, ?_⟩
                obtain ⟨w11, h11⟩ : ∃ w11, w11 = u4 := ⟨_, rfl⟩
                rw [← h11] at hS4 ⊢
                have HRE := Lib.hid hS4.2
                have HGE := Lib.hid (show w.grownBy w11 (some w.heap.size) from ((Ch.ofNone HGz.out (fun x => x = w.heap.size)).trans hS4.1.1 (fun _ _ h => h)).some' (fun k _ h => h))
                clear hS4 hK4 h11
                go_wp2_with fail
                refine bodyPost_ret (results_ctt rfl _ _ w.heap.size 43 #[.int .u8 0, .int .u8 0, .int .u8 0, .int .u8 0, .int .u8 0, .int .u8 0, .int .u8 0, .int .u8 0, .int .u8 0, .int .u8 0, .int .u8 0, .int .u8 0, .int .u8 0, .int .u8 0, .int .u8 0, .int .u8 0, .int .u8 0, .int .i64 0, .int .i64 0, .int .i64 0, .int .u32 0, .int .i64 0, .slice none 0 0] (0, 0) _ _ _ rfl rfl rfl HRE.out Try.underlying43 rfl (by rw [size_req]; rfl)) rfl ?_
                rw [HDD.out]
                unfold endQ
                rw [if_pos (by rw [HN.out]; omega)]
                exact reqP_err _ _ (by rw [HN.out]; omega) (grownBy_none HGE.out (fun g e => by injection e with e; omega))
end Go.Proofs.Ytkdmebcfedehiaa
/- wire.Request of all bytes: the request of bytes, or the place of the first fault. -/
namespace Go.Proofs.Ytkdmebcfedehiaa
open Go.RowKit
theorem request_n (a : Option Addr) (n c : Nat) (l : List UInt8) (w : World) (hl : BLies w a l) (hn : l.length = n) (hc : n ≤ c) (hnm : n ≤ 140737488355000) :
    Calls Try.prog 13 #[.slice a n c] w fun e w' => ReqP w (decQ l) e w' := by
  rcases Nat.eq_zero_or_pos n with h0 | h0
  · exact request_empty a n c l w hl hn hc hnm h0
  obtain ⟨b, off, ha, _⟩ := bytes_cells hl (by omega)
  by_cases hk : headQ (l.getD 0 0).toNat = 0
  · exact request_kind a n c l w hl hn hc hnm _ b off ha rfl h0 hk
  · exact request_known a n c l w hl hn hc hnm _ b off ha rfl h0 hk
end Go.Proofs.Ytkdmebcfedehiaa
/- Bytes laid behind bytes: append(out, s...) whatever their numbers; CopyBytes. -/
namespace Go.Proofs.Ytkdmebcfedehiaa
open Go.RowKit

theorem run_app_zero (w : World) (a : Option Addr) (n c : Nat) (hc : n ≤ c) (sa : Option Addr) (sc : Nat) (ty : TypeId) :
    (Builtin.append_ #[24, 24] ty #[.slice a n c, .slice sa 0 sc]).run Try.prog w = .ok (.slice a n c) w := by
  obtain ⟨i, hi, hz, hs, hb⟩ := elB.info
  cases a <;> cases sa <;> simp [Builtin.append_, run_underlying Try.underlying24, sizeOf, typeInfo, hi, hs, Builtin.lenOf, Builtin.firstCells, loadCells, loadCellsFrom, hc]
  all_goals simp [storeCells, Result.andThen]

theorem bcells {w : World} {g o : Nat} {s : List UInt8} (hs : BLies w (some ⟨g, o, none⟩) s) : ∀ j u, (s.map bval)[j]? = some u → w.cell? ((⟨g, o, none⟩ : Addr).add j) = some u := by
  intro j u hj
  have hjl : j < s.length := by
    rcases Nat.lt_or_ge j s.length with h | h
    · exact h
    · rw [List.getElem?_eq_none (by simpa using h)] at hj; cases hj
  rw [List.getElem?_map, List.getElem?_eq_getElem hjl] at hj
  injection hj with hj
  obtain ⟨b, off, e, hc⟩ := hs j hjl
  injection e with e; injection e with e1 e2
  subst e1; subst e2
  have ha : (⟨g, o, none⟩ : Addr).add j = ⟨g, o + j, none⟩ := by unfold Addr.add; split <;> simp_all
  rw [ha, hc, ← hj]
  rfl
/-- append(out, s...) of bytes -/
theorem run_appB (w : World) {base : Nat} {a : Option Addr} {n c : Nat} {l : List UInt8} (hown : BOwn w base a n c l) (sa : Option Addr) (m sc : Nat) (s : List UInt8) (hs : BLies w sa s) (hm : s.length = m) (hb : n + m ≤ 4000000100) (hbase : base ≤ w.heap.size) (ty : TypeId) :
    ∃ a' c' w1, (Builtin.append_ #[24, 24] ty #[.slice a n c, .slice sa m sc]).run Try.prog w = .ok (.slice a' (n + m) c') w1 ∧ BOwn w1 base a' (n + m) c' (l ++ s) ∧ Ch (In a c) w w1 ∧ (∀ g, In a' c' g → In a c g ∨ w.heap.size ≤ g) := by
  rcases Nat.eq_zero_or_pos m with h0 | h0
  · subst h0
    obtain rfl : s = [] := List.eq_nil_of_length_eq_zero hm
    exact ⟨a, c, w, run_app_zero w a n c hown.cap.1 sa sc ty, by simpa using hown, Ch.refl _ _, fun g h => .inl h⟩
  · obtain ⟨gb, ob, rfl⟩ := BLies.addr hs (by omega)
    obtain ⟨g, c', w1, hrun, ho, hgr⟩ := run_app (P := Try.prog) (ty := ty) w elB hown ⟨gb, ob, none⟩ m sc (s.map bval) (by simp [hm]) (bcells hs) (fun u hu => by
      obtain ⟨y, _, rfl⟩ := List.mem_map.1 hu
      rfl) (by unfold maxLen; omega) (by omega) hbase (fun _ _ _ => trivial) h0
    refine ⟨_, c', w1, hrun, ?_, GrewP.ch hgr, ?_⟩
    · have : BOwn w1 base (some ⟨g, 0, none⟩) (n + m) c' (l ++ s) := by
        show Own _ _ _ _ _ _ _ _
        rw [List.map_append]
        exact ho
      exact this
    · rintro g2 ⟨hc, e⟩
      injection e with e; injection e with e
      subst e
      rcases hgr with ⟨g1, e1, e2, h3, h4, _⟩ | ⟨g1, e1, h2, _⟩
      · exact .inl ⟨h3, e2⟩
      · injection e1 with e1; injection e1 with e1
        subst e1
        exact .inr h2
end Go.Proofs.Ytkdmebcfedehiaa
/- Pick, append of bytes, the beginning of a list: for lists of up to 2^47 bytes. Printed by gens/bigapp.py. -/
namespace Go.Proofs.Ytkdmebcfedehiaa
open Go.RowKit

set_option maxRecDepth 100000 in
set_option maxHeartbeats 1000000 in
theorem pickL_n (x n : Int) (hn : 1 ≤ n) (hn2 : n ≤ 4611686018427387904) (w : World) : Calls Try.prog 14 #[.int .i64 x, .int .i64 n] w fun e w' => (∃ r : Nat, e = .returned (.int .i64 (r : Int)) ∧ (r : Int) < n) ∧ w = w' := by
  obtain ⟨m, hm⟩ : ∃ m, m = x.tmod n := ⟨_, rfl⟩
  have h1 : m < n := by rw [hm]; exact Int.tmod_lt_of_pos x (by omega)
  have h2 : -n < m := by
    rw [hm]
    have := Int.lt_tmod_of_pos x (show 0 < n by omega)
    omega
  have w1 : IntKind.i64.wrap m = m := IntWalk.i64_in _ (by omega)
  have w2 : IntKind.i64.wrap (m + n) = m + n := IntWalk.i64_in _ (by omega)
  have hn0 : ¬ n = 0 := by omega
  have hm' : x.tmod n = m := hm.symm
  have w3 : IntKind.i64.wrap (x.tmod n) = m := by rw [hm', w1]
  clear hm
  by_cases h3 : m < 0
  · go_enter Try.func14, Try.ntmps14
    go_wp2_with fail
    go_ret
    exact ⟨⟨(m + n).toNat, by simp; omega, by omega⟩, rfl⟩
  · go_enter Try.func14, Try.ntmps14
    go_wp2_with fail
    go_ret
    exact ⟨⟨m.toNat, by simp; omega, by omega⟩, rfl⟩

/-- append(out, s...) of bytes -/
theorem run_appBL (w : World) {base : Nat} {a : Option Addr} {n c : Nat} {l : List UInt8} (hown : BOwn w base a n c l) (sa : Option Addr) (m sc : Nat) (s : List UInt8) (hs : BLies w sa s) (hm : s.length = m) (hb : n + m ≤ 140737488355328) (hbase : base ≤ w.heap.size) (ty : TypeId) :
    ∃ a' c' w1, (Builtin.append_ #[24, 24] ty #[.slice a n c, .slice sa m sc]).run Try.prog w = .ok (.slice a' (n + m) c') w1 ∧ BOwn w1 base a' (n + m) c' (l ++ s) ∧ Ch (In a c) w w1 ∧ (∀ g, In a' c' g → In a c g ∨ w.heap.size ≤ g) := by
  rcases Nat.eq_zero_or_pos m with h0 | h0
  · subst h0
    obtain rfl : s = [] := List.eq_nil_of_length_eq_zero hm
    exact ⟨a, c, w, run_app_zero w a n c hown.cap.1 sa sc ty, by simpa using hown, Ch.refl _ _, fun g h => .inl h⟩
  · obtain ⟨gb, ob, rfl⟩ := BLies.addr hs (by omega)
    obtain ⟨g, c', w1, hrun, ho, hgr⟩ := run_app (P := Try.prog) (ty := ty) w elB hown ⟨gb, ob, none⟩ m sc (s.map bval) (by simp [hm]) (bcells hs) (fun u hu => by
      obtain ⟨y, _, rfl⟩ := List.mem_map.1 hu
      rfl) (by unfold maxLen; omega) (by omega) hbase (fun _ _ _ => trivial) h0
    refine ⟨_, c', w1, hrun, ?_, GrewP.ch hgr, ?_⟩
    · have : BOwn w1 base (some ⟨g, 0, none⟩) (n + m) c' (l ++ s) := by
        show Own _ _ _ _ _ _ _ _
        rw [List.map_append]
        exact ho
      exact this
    · rintro g2 ⟨hc, e⟩
      injection e with e; injection e with e
      subst e
      rcases hgr with ⟨g1, e1, e2, h3, h4, _⟩ | ⟨g1, e1, h2, _⟩
      · exact .inl ⟨h3, e2⟩
      · injection e1 with e1; injection e1 with e1
        subst e1
        exact .inr h2

theorem wpList_appBL {ops : Array Oper} {rest : List Oper} {o : Oper} {a : Act} {w : World} {Q : Exit → Act → World → Prop} (hg : o.guard = none) (x y : Operand) (ho : o.op = .call { callee := .builtin .append, args := #[x, y], argTypes := #[24, 24] })
    {base : Nat} {a1 : Option Addr} {n c : Nat} {l : List UInt8} {sa : Option Addr} {m sc : Nat} {s : List UInt8} (hx : a.eval x = .slice a1 n c) (hy : a.eval y = .slice sa m sc) (hown : BOwn w base a1 n c l) (hs : BLies w sa s) (hm : s.length = m) (hb : n + m ≤ 140737488355328) (hbase : base ≤ w.heap.size)
    (h : ∀ a' c' w1, BOwn w1 base a' (n + m) c' (l ++ s) → Ch (In a1 c) w w1 → (∀ g, In a' c' g → In a1 c g ∨ w.heap.size ≤ g) → wpList Try.prog ops Q rest (a.put o.dst (.slice a' (n + m) c')) w1) : wpList Try.prog ops Q (o :: rest) a w := by
  obtain ⟨a', c', w1, hr, h1, h2, h3⟩ := run_appBL w hown sa m sc s hs hm hb hbase o.type
  refine wpList_plain hg fun K hK => ?_
  unfold Oper.wp
  simp [execOp, ho, resolve, invoke, builtin, hx, hy, hr, Result.andThen]
  exact hK _ _ (h a' c' w1 h1 h2 h3)

theorem run_pre_opA (w : World) (ev : Operand → Value) {o : Oper} (x h : Operand) (ho : o.op = .slice 24 x none (some h) none) (a : Option Addr) (N c m : Nat) (hx : ev x = .slice a N c) (hh : ev h = .int .i64 (m : Int)) (hm : m ≤ c) :
    (execOp ev o).run Try.prog w = .ok (.value (.slice a m c)) w := by
  have hu : Try.prog.underlying 24 = some (.slice (Try.prog.elem 24)) := by kernel_rfl
  have hz : (sizeOf (Try.prog.elem 24)).run Try.prog w = .ok 1 w := by
    obtain ⟨i, hi, hz, hs, hb⟩ := elB.info
    have he : Try.prog.elem 24 = 5 := by kernel_rfl
    rw [he]
    simp [sizeOf, typeInfo, hi, hs]
  unfold execOp
  simp only [ho, Option.map_some, Option.map_none]
  simp only [Sem.run_bind, run_sliceAt_slice (P := Try.prog) w _ _ _ _ _ hu, hx, hh]
  rw [run_slice_h (P := Try.prog) w _ _ _ _ hu _ _ (by omega) (by omega)]
  have hm0 : a.map (fun a => a.add 0) = a := by cases a <;> simp [Addr.add]
  simp [hz, sliced, hm0]
end Go.Proofs.Ytkdmebcfedehiaa
/- The law WireCut. Printed by gens/wirecut.py. -/
namespace Go.Proofs.Ytkdmebcfedehiaa
open Go.RowKit

theorem rqOf_ix (l : List UInt8) : (rqOf (decQ l)).ix.length = 16 := by
  cases h : decQ l with
  | error p => rfl
  | ok q => exact (encQ_dec l q h).2.2.1
/-- Request's answer, its cells left open -/
theorem request_o (a : Option Addr) (n c : Nat) (l : List UInt8) (w : World) (hl : BLies w a l) (hn : l.length = n) (hc : n ≤ c) (hnm : n ≤ 140737488355000) :
    Calls Try.prog 13 #[.slice a n c] w fun e w' => ∃ cs : Array Value, e = .returned (.tuple #[.agg cs, .int .i64 (atOf (decQ l) : Int), .int .i64 (erOf 200 (decQ l))]) ∧ cs.size = 23 ∧ cs.all (·.oneCell') = true ∧ w.grownBy w' none :=
  (request_n a n c l w hl hn hc hnm).mono fun e w' ⟨ab, nb, cb, h1, _, h3⟩ => ⟨_, h1, rq_len _ _ (rqOf_ix l), rq_one _ _ _ _, h3⟩
theorem reply_o (a : Option Addr) (n c : Nat) (l : List UInt8) (w : World) (hl : BLies w a l) (hn : l.length = n) (hc : n ≤ c) (hnm : n ≤ 140737488355328) :
    Calls Try.prog 10 #[.slice a n c] w fun e w' => ∃ cs : Array Value, e = .returned (.tuple #[.agg cs, .int .i64 (atOf (decR l) : Int), .int .i64 (erOf 201 (decR l))]) ∧ cs.size = 3 ∧ cs.all (·.oneCell') = true ∧ w.grownBy w' none :=
  (reply_n a n c l w hl hn hc hnm).mono fun e w' ⟨an, nn, cn, ab, nb, cb, h1, _, _, h3⟩ => ⟨_, h1, rfl, by simp [Value.oneCell'], h3⟩

set_option maxRecDepth 100000 in
set_option maxHeartbeats 8000000 in
theorem cut_walk (a : Option Addr) (n c : Nat) (l : List UInt8) (x : Int) (m : UInt8) (w : World) (hl : BLies w a l) (hn : l.length = n) (hc : n ≤ c) (hcm : c ≤ maxLen) (hnm : n ≤ 140737488351232) :
    Calls Try.prog 5 #[.slice a n c, .int .i64 x, .int .u8 (m.toNat : Int)] w fun e w' => e = .returned (.bool true) ∧ w.grownBy w' none := by
  obtain ⟨ir, zr, hir, hirz, hirs, hz⟩ := info_rep
  subst hz
  obtain ⟨iq, zq, hiq, hiqz, hiqs, hzq⟩ := info_req
  subst hzq
  have HL := Lib.hid hl
  have HN := Lib.hid hn
  have HQ := Lib.hid (fun W (hW : w.grownBy W none) => request_o a n c l W (hl.grown hW) hn hc (by omega))
  have HR := Lib.hid (fun W (hW : w.grownBy W none) => reply_o a n c l W (hl.grown hW) hn hc (by omega))
  have hpf : ∀ k, k < n → (l.take k).length = k := fun k hk => by rw [List.length_take]; omega
  have HPF := Lib.hid hpf
  have HQK := Lib.hid (fun k (hk : k < n) W (hW : w.grownBy W none) => request_o a k c (l.take k) W ((hl.grown hW).take k) (hpf k hk) (by omega) (by omega))
  have HRK := Lib.hid (fun k (hk : k < n) W (hW : w.grownBy W none) => reply_o a k c (l.take k) W ((hl.grown hW).take k) (hpf k hk) (by omega) (by omega))
  have HPK := Lib.hid (fun W => pickL_n x ((n : Int) + 1) (by omega) (by omega) W)
  obtain ⟨EQ, hEQ⟩ : ∃ EQ, EQ = erOf 200 (decQ l) := ⟨_, rfl⟩
  obtain ⟨ER, hER⟩ : ∃ ER, ER = erOf 201 (decR l) := ⟨_, rfl⟩
  obtain ⟨PQ, hPQ⟩ : ∃ PQ : Int, PQ = (atOf (decQ l) : Int) := ⟨_, rfl⟩
  obtain ⟨PR, hPR⟩ : ∃ PR : Int, PR = (atOf (decR l) : Int) := ⟨_, rfl⟩
  rw [← hEQ, ← hPQ] at HQ
  rw [← hER, ← hPR] at HR
  have HEQ := Lib.hid hEQ
  have HER := Lib.hid hER
  clear hl hn hpf hEQ hER hPQ hPR
  go_enter Try.func5, Try.ntmps5
  go_wp2_with fail
  refine (lives_n w).mono ?_
  rintro e w1 ⟨rfl, g⟩
  have G1 := Lib.hid g
  clear g
  go_wp2_with fail
  refine (HQ.out w1 G1.out).mono ?_
  rintro e w2 ⟨c2, rfl, hz2, ho2, g⟩
  have G2 := Lib.hid (grownBy_trans G1.out g)
  clear g
  go_upto_region 4 with (refine wpList_fresh rfl rfl rfl rfl rfl hiq hiqz hiqs c2 rfl rfl (by rw [hz2]; rfl) ho2 ?_; intro w3 hs g hr; have G3 := Lib.hid (grownBy_trans G2.out g); clear hs g hr)
  clear hz2 ho2
  go_wp2_with fail
  refine (HR.out w3 G3.out).mono ?_
  rintro e w4 ⟨c4, rfl, hz4, ho4, g⟩
  have G4 := Lib.hid (grownBy_trans G3.out g)
  clear g
  go_upto_region 5 with (refine wpList_fresh rfl rfl rfl rfl rfl hir hirz hirs c4 rfl rfl (by rw [hz4]; rfl) ho4 ?_; intro w5 hs g hr; have G5 := Lib.hid (grownBy_trans G4.out g); clear hs g hr)
  clear hz4 ho4
  go_wp2_with fail
  refine (HPK.out w5).mono ?_
  rintro e w' ⟨⟨k, rfl, hk⟩, rfl⟩
  have HKN := Lib.hid (show k ≤ n by omega)
  clear hk
  go_upto_region 8 with (at_builtin; refine wpList_appBL rfl (.tmp 46) (.tmp 47) rfl rfl rfl (show BOwn w5 w5.heap.size none 0 0 [] from Own.nil _ _ _ _ _) (HL.out.grown G5.out) HN.out (by omega) (Nat.le_refl _) ?_; intro a6 c6 w6 ho6 hch6 hin6; have HO6 := Lib.hid ho6; have HC6 := Lib.hid hch6; clear ho6 hch6 hin6)
  have G6 := Lib.hid (Ch.fresh G5.out HC6.out (fun g hg h => absurd h.1 (by omega)))
  have HZ6 := Lib.hid HC6.out.size
  rw [Nat.zero_add, List.nil_append] at HO6
  clear HC6
  go_upto_region 9 with (at_builtin; refine wpList_push elB rfl (.tmp 49) (.tmp 51) rfl rfl HO6.out (.int .u8 (m.toNat : Int)) rfl rfl (by unfold maxLen; omega) (by omega) HZ6.out ?_; intro g7 c7 w7 hown7 hgr7; have HO7 := Lib.hid hown7; have HC7 := Lib.hid hgr7.ch; clear hown7 hgr7)
  have HO := Lib.hid (show BOwn w7 w5.heap.size (some ⟨g7, 0, none⟩) (n + 1) c7 (l ++ [m]) from by
    have h := HO7.out
    show Own _ _ _ _ _ _ _ _
    rw [List.map_append]
    exact h)
  have G7 := Lib.hid (Ch.fresh G6.out HC7.out (fun g hg h => by have h1 := (Own.inn HO6.out h).1; have h2 := G5.out.size; omega))
  clear HO7 HC7 G6 HZ6
  have HQL := Lib.hid (fun W (hW : w7.grownBy W none) => request_o (some ⟨g7, 0, none⟩) (n + 1) c7 (l ++ [m]) W (HO.out.grown hW).lies (by simp [HN.out]) HO.out.cap.1 (by omega))
  have HRL := Lib.hid (fun W (hW : w7.grownBy W none) => reply_o (some ⟨g7, 0, none⟩) (n + 1) c7 (l ++ [m]) W (HO.out.grown hW).lies (by simp [HN.out]) HO.out.cap.1 (by omega))
  clear HO HO6
  by_cases hk : k < n
  · have hkd : decide ((k : Int) < (n : Int)) = true := decide_eq_true (by omega)
    have hkd2 : decide (k < n) = true := decide_eq_true hk
    have HQK' := Lib.hid (HQK.out k hk)
    have HRK' := Lib.hid (HRK.out k hk)
    have hkc : k ≤ c := by omega
    cases hok : decQ l with
    | error p =>
      have hEQ : EQ = 200 := by rw [HEQ.out, hok]; rfl
      subst hEQ
      clear hok
      cases hok : decR l with
      | error p =>
        have hER : ER = 201 := by rw [HER.out, hok]; rfl
        subst hER
        clear hok
        go_wp2_with fail
        go_ret
        exact ⟨rfl, G7.out⟩
      | ok x =>
        have hER : ER = 0 := by rw [HER.out, hok]; rfl
        subst hER
        have hdec := dec_short hok (k := k) (by rw [HN.out]; exact hk)
        have hlong := dec_long hok m
        obtain ⟨pk, hpk⟩ := hdec
        rw [hpk] at HRK'
        rw [hlong] at HRL
        have HKR := Lib.hid (show ∀ W, w.grownBy W none → Calls Try.prog 10 #[.slice a k c] W fun e w' => ∃ cs : Array Value, e = .returned (.tuple #[.agg cs, .int .i64 (pk : Int), .int .i64 201]) ∧ cs.size = 3 ∧ cs.all (·.oneCell') = true ∧ W.grownBy w' none from HRK'.out)
        have HLR := Lib.hid (show ∀ W, w7.grownBy W none → Calls Try.prog 10 #[.slice (some ⟨g7, 0, none⟩) (n + 1) c7] W fun e w' => ∃ cs : Array Value, e = .returned (.tuple #[.agg cs, .int .i64 (n : Int), .int .i64 201]) ∧ cs.size = 3 ∧ cs.all (·.oneCell') = true ∧ W.grownBy w' none from by
          have h := HRL.out
          rw [HN.out] at h
          exact h)
        clear hlong hpk
        go_upto_region 15 with fail
        go_wp2_with (refine wpList_valp rfl (run_pre_opA _ _ (.tmp 96) (.tmp 97) rfl a n c k rfl rfl hkc) ?_)
        refine (HKR.out w7 G7.out).mono ?_
        rintro e R1 ⟨cs1, rfl, hz1, ho1, g⟩
        have GR1 := Lib.hid (grownBy_trans G7.out g)
        have JR1 := Lib.hid (grownBy_trans (World.grownBy.refl w7 none) g)
        clear g
        go_upto_region 16 with (refine wpList_fresh rfl rfl rfl rfl rfl hir hirz hirs cs1 rfl rfl (by rw [hz1]; rfl) ho1 ?_; intro R2 hs g hr; have GR2 := Lib.hid (grownBy_trans GR1.out g); have JR2 := Lib.hid (grownBy_trans JR1.out g); clear hs g hr)
        clear hz1 ho1
        go_wp2_with fail
        refine (HLR.out R2 JR2.out).mono ?_
        rintro e R3 ⟨cs3, rfl, hz3, ho3, g⟩
        have GR3 := Lib.hid (grownBy_trans GR2.out g)
        have JR3 := Lib.hid (grownBy_trans JR2.out g)
        clear g
        go_upto_region 17 with (refine wpList_fresh rfl rfl rfl rfl rfl hir hirz hirs cs3 rfl rfl (by rw [hz3]; rfl) ho3 ?_; intro R4 hs g hr; have GR4 := Lib.hid (grownBy_trans GR3.out g); have JR4 := Lib.hid (grownBy_trans JR3.out g); clear hs g hr)
        clear hz3 ho3
        go_wp2_with fail
        go_ret
        exact ⟨rfl, GR4.out⟩
    | ok x =>
      have hEQ : EQ = 0 := by rw [HEQ.out, hok]; rfl
      subst hEQ
      have hdec := decQ_short hok (k := k) (by rw [HN.out]; exact hk)
      have hlong := decQ_long hok m
      obtain ⟨pk, hpk⟩ := hdec
      rw [hpk] at HQK'
      rw [hlong] at HQL
      have HKQ := Lib.hid (show ∀ W, w.grownBy W none → Calls Try.prog 13 #[.slice a k c] W fun e w' => ∃ cs : Array Value, e = .returned (.tuple #[.agg cs, .int .i64 (pk : Int), .int .i64 200]) ∧ cs.size = 23 ∧ cs.all (·.oneCell') = true ∧ W.grownBy w' none from HQK'.out)
      have HLQ := Lib.hid (show ∀ W, w7.grownBy W none → Calls Try.prog 13 #[.slice (some ⟨g7, 0, none⟩) (n + 1) c7] W fun e w' => ∃ cs : Array Value, e = .returned (.tuple #[.agg cs, .int .i64 (n : Int), .int .i64 200]) ∧ cs.size = 23 ∧ cs.all (·.oneCell') = true ∧ W.grownBy w' none from by
        have h := HQL.out
        rw [HN.out] at h
        exact h)
      clear hlong hpk
      go_upto_region 10 with fail
      go_wp2_with (refine wpList_valp rfl (run_pre_opA _ _ (.tmp 62) (.tmp 63) rfl a n c k rfl rfl hkc) ?_)
      refine (HKQ.out w7 G7.out).mono ?_
      rintro e Q1 ⟨cs1, rfl, hz1, ho1, g⟩
      have GQ1 := Lib.hid (grownBy_trans G7.out g)
      have JQ1 := Lib.hid (grownBy_trans (World.grownBy.refl w7 none) g)
      clear g
      go_upto_region 11 with (refine wpList_fresh rfl rfl rfl rfl rfl hiq hiqz hiqs cs1 rfl rfl (by rw [hz1]; rfl) ho1 ?_; intro Q2 hs g hr; have GQ2 := Lib.hid (grownBy_trans GQ1.out g); have JQ2 := Lib.hid (grownBy_trans JQ1.out g); clear hs g hr)
      clear hz1 ho1
      go_wp2_with fail
      refine (HLQ.out Q2 JQ2.out).mono ?_
      rintro e Q3 ⟨cs3, rfl, hz3, ho3, g⟩
      have GQ3 := Lib.hid (grownBy_trans GQ2.out g)
      have JQ3 := Lib.hid (grownBy_trans JQ2.out g)
      clear g
      go_upto_region 12 with (refine wpList_fresh rfl rfl rfl rfl rfl hiq hiqz hiqs cs3 rfl rfl (by rw [hz3]; rfl) ho3 ?_; intro Q4 hs g hr; have GQ4 := Lib.hid (grownBy_trans GQ3.out g); have JQ4 := Lib.hid (grownBy_trans JQ3.out g); clear hs g hr)
      clear hz3 ho3
      clear hok
      cases hok : decR l with
      | error p =>
        have hER : ER = 201 := by rw [HER.out, hok]; rfl
        subst hER
        clear hok
        go_wp2_with fail
        go_ret
        exact ⟨rfl, GQ4.out⟩
      | ok x =>
        have hER : ER = 0 := by rw [HER.out, hok]; rfl
        subst hER
        have hdec := dec_short hok (k := k) (by rw [HN.out]; exact hk)
        have hlong := dec_long hok m
        obtain ⟨pk, hpk⟩ := hdec
        rw [hpk] at HRK'
        rw [hlong] at HRL
        have HKR := Lib.hid (show ∀ W, w.grownBy W none → Calls Try.prog 10 #[.slice a k c] W fun e w' => ∃ cs : Array Value, e = .returned (.tuple #[.agg cs, .int .i64 (pk : Int), .int .i64 201]) ∧ cs.size = 3 ∧ cs.all (·.oneCell') = true ∧ W.grownBy w' none from HRK'.out)
        have HLR := Lib.hid (show ∀ W, w7.grownBy W none → Calls Try.prog 10 #[.slice (some ⟨g7, 0, none⟩) (n + 1) c7] W fun e w' => ∃ cs : Array Value, e = .returned (.tuple #[.agg cs, .int .i64 (n : Int), .int .i64 201]) ∧ cs.size = 3 ∧ cs.all (·.oneCell') = true ∧ W.grownBy w' none from by
          have h := HRL.out
          rw [HN.out] at h
          exact h)
        clear hlong hpk
        go_upto_region 15 with fail
        go_wp2_with (refine wpList_valp rfl (run_pre_opA _ _ (.tmp 96) (.tmp 97) rfl a n c k rfl rfl hkc) ?_)
        refine (HKR.out Q4 GQ4.out).mono ?_
        rintro e R1 ⟨cs1, rfl, hz1, ho1, g⟩
        have GR1 := Lib.hid (grownBy_trans GQ4.out g)
        have JR1 := Lib.hid (grownBy_trans JQ4.out g)
        clear g
        go_upto_region 16 with (refine wpList_fresh rfl rfl rfl rfl rfl hir hirz hirs cs1 rfl rfl (by rw [hz1]; rfl) ho1 ?_; intro R2 hs g hr; have GR2 := Lib.hid (grownBy_trans GR1.out g); have JR2 := Lib.hid (grownBy_trans JR1.out g); clear hs g hr)
        clear hz1 ho1
        go_wp2_with fail
        refine (HLR.out R2 JR2.out).mono ?_
        rintro e R3 ⟨cs3, rfl, hz3, ho3, g⟩
        have GR3 := Lib.hid (grownBy_trans GR2.out g)
        have JR3 := Lib.hid (grownBy_trans JR2.out g)
        clear g
        go_upto_region 17 with (refine wpList_fresh rfl rfl rfl rfl rfl hir hirz hirs cs3 rfl rfl (by rw [hz3]; rfl) ho3 ?_; intro R4 hs g hr; have GR4 := Lib.hid (grownBy_trans GR3.out g); have JR4 := Lib.hid (grownBy_trans JR3.out g); clear hs g hr)
        clear hz3 ho3
        go_wp2_with fail
        go_ret
        exact ⟨rfl, GR4.out⟩
  · have hkd : decide ((k : Int) < (n : Int)) = false := decide_eq_false (by omega)
    have hkd2 : decide (k < n) = false := decide_eq_false hk
    have hq0 : EQ = 0 ∨ (EQ == 0) = false := by
      rcases Classical.em (EQ = 0) with h | h
      · exact .inl h
      · exact .inr (by rw [beq_eq_false_iff_ne]; exact h)
    have hr0 : ER = 0 ∨ (ER == 0) = false := by
      rcases Classical.em (ER = 0) with h | h
      · exact .inl h
      · exact .inr (by rw [beq_eq_false_iff_ne]; exact h)
    rcases hq0 with hq0 | hq0
    · subst hq0
      rcases hr0 with hr0 | hr0
      · subst hr0
        go_wp2_with fail
        go_ret
        exact ⟨rfl, G7.out⟩
      · go_wp2_with fail
        go_ret
        exact ⟨rfl, G7.out⟩
    · rcases hr0 with hr0 | hr0
      · subst hr0
        go_wp2_with fail
        go_ret
        exact ⟨rfl, G7.out⟩
      · go_wp2_with fail
        go_ret
        exact ⟨rfl, G7.out⟩
end Go.Proofs.Ytkdmebcfedehiaa
