/- Helpers and contracts of the proofs over this seat: RefRdr, RdrDig, TakeC, EqArr, Take, CopyB, Pick, RdTakes, OctReadsL. Each states what a function of the program answers, or is plain Lean; its conditions stand in each statement. -/
import Derived.Lib.AppendZeros
import Derived.Deep.MidRow
import Derived.DeepKeys
import Derived.Deep.Slices
import Derived.Test.YthemlaibjchjpaaPtAA
import Derived.Test.YthemlaibjchjpaaPtAB
import Derived.Test.YthemlaibjchjpaaPtAC
import Derived.Test.YthemlaibjchjpaaPtAD
import Derived.Test.YthemlaibjchjpaaPtAE
import Derived.Test.YthemlaibjchjpaaPtAF
set_option linter.unusedVariables false
/- The document's reader: Bytes, Left, End. -/
namespace Go.Proofs.Ythemlaibjchjpaa
open Go.RowKit

/-- the document's reader: is it bad, what is left -/
structure RRdr (w : World) (g : Nat) (f : Bool) (rem : List UInt8) (la : Option Addr) (lm lc : Nat) : Prop where
  row : Row w g 59 #[.slice la lm lc, .bool f]
  lies : BLies w la rem
  len : rem.length = lm
  cap : lm ≤ lc
  big : lc ≤ maxLen
  apart : 0 < lm → ∀ b off, la = some ⟨b, off, none⟩ → b ≠ g
theorem RRdr.grown {w w' : World} {g : Nat} {f : Bool} {rem : List UInt8} {la : Option Addr} {lm lc : Nat} (h : RRdr w g f rem la lm lc) (hg : w.grownBy w' none) : RRdr w' g f rem la lm lc :=
  ⟨h.row.grown hg, h.lies.grown hg, h.len, h.cap, h.big, h.apart⟩
theorem RRdr.set {w : World} {g : Nat} {f : Bool} {rem : List UInt8} {la : Option Addr} {lm lc : Nat} (h : RRdr w g f rem la lm lc) (k : Nat) (v : Value) : BLies (w.setCell ⟨g, k, none⟩ v) la rem := by
  intro i hi
  obtain ⟨b, off, e, hc⟩ := h.lies i hi
  refine ⟨b, off, e, ?_⟩
  have hne := h.apart (by have := h.len; omega) b off e
  exact (World.cell?_of_block (Below.heap_setCell _ _ _ _ hne)).trans hc

theorem run_pre_opA (w : World) (ev : Operand → Value) {o : Oper} (x h : Operand) (ho : o.op = .slice 22 x none (some h) none) (a : Option Addr) (N c m : Nat) (hx : ev x = .slice a N c) (hh : ev h = .int .i64 (m : Int)) (hm : m ≤ c) :
    (execOp ev o).run Try.prog w = .ok (.value (.slice a m c)) w := by
  have hu : Try.prog.underlying 22 = some (.slice (Try.prog.elem 22)) := by kernel_rfl
  have hz : (sizeOf (Try.prog.elem 22)).run Try.prog w = .ok 1 w := by
    obtain ⟨i, hi, hz, hs, hb⟩ := elB.info
    have he : Try.prog.elem 22 = 5 := by kernel_rfl
    rw [he]
    simp [sizeOf, typeInfo, hi, hs]
  unfold execOp
  simp only [ho, Option.map_some, Option.map_none]
  simp only [Sem.run_bind, run_sliceAt_slice (P := Try.prog) w _ _ _ _ _ hu, hx, hh]
  rw [run_slice_h (P := Try.prog) w _ _ _ _ hu _ _ (by omega) (by omega)]
  have hm0 : a.map (fun a => a.add 0) = a := by cases a <;> simp [Addr.add]
  simp [hz, sliced, hm0]
theorem run_suf_op (w : World) (ev : Operand → Value) {o : Oper} (x l : Operand) (ho : o.op = .slice 22 x (some l) none none) (a : Option Addr) (N c m : Nat) (hx : ev x = .slice a N c) (hh : ev l = .int .i64 (m : Int)) (hm : m ≤ N) :
    (execOp ev o).run Try.prog w = .ok (.value (.slice (midA a m c) (N - m) (c - m))) w := by
  have hu : Try.prog.underlying 22 = some (.slice (Try.prog.elem 22)) := by kernel_rfl
  have hz : (sizeOf (Try.prog.elem 22)).run Try.prog w = .ok 1 w := by
    obtain ⟨i, hi, hz, hs, hb⟩ := elB.info
    have he : Try.prog.elem 22 = 5 := by kernel_rfl
    rw [he]
    simp [sizeOf, typeInfo, hi, hs]
  unfold execOp
  simp only [ho, Option.map_some, Option.map_none]
  simp only [Sem.run_bind, run_sliceAt_slice (P := Try.prog) w _ _ _ _ _ hu, hx, hh]
  rw [run_slice_l (P := Try.prog) w _ _ _ _ hu _ _ (by omega) (by omega)]
  simp [hz, sliced, midA]
theorem suf_lies {w : World} {a : Option Addr} {l : List UInt8} (ha : BLies w a l) (f c : Nat) (h : f ≤ l.length) (hc : l.length ≤ c) : BLies w (midA a f c) (l.drop f) := by
  have h1 := mid_lies ha f (l.length - f) c (by omega) hc
  rwa [List.take_of_length_le (by rw [List.length_drop]; omega)] at h1
theorem midA_some {a : Option Addr} {f c b off : Nat} {l : List UInt8} {w : World} (ha : BLies w a l) (hl : 0 < l.length) (e : midA a f c = some ⟨b, off, none⟩) : ∃ o, a = some ⟨b, o, none⟩ := by
  obtain ⟨b', o', rfl⟩ := BLies.addr ha (by omega)
  unfold midA at e
  split at e
  · injection e with e; injection e with e1 e2; subst e1; exact ⟨_, rfl⟩
  · simp only [Option.map_some] at e
    have h1 : (⟨b', o', none⟩ : Addr).add f = ⟨b', o' + f, none⟩ := by unfold Addr.add; split <;> simp_all
    rw [h1] at e
    injection e with e; injection e with e1 e2; subst e1; exact ⟨_, rfl⟩

/-- what the document's Bytes does -/
def RBytesP (w : World) (g : Nat) (f : Bool) (rem : List UInt8) (la : Option Addr) (x : Int) (e : Ending) (w' : World) : Prop :=
  ∃ a n c ok p f' rem' la' lm' lc', e = .returned (.slice a n c) ∧ Det f rem x ok p f' rem' ∧ BOwn w' w.heap.size a n c p ∧ RRdr w' g f' rem' la' lm' lc' ∧ w.grownBy w' (some g) ∧
    (0 < lm' → ∀ b off, la' = some ⟨b, off, none⟩ → ∃ o, la = some ⟨b, o, none⟩)

set_option maxRecDepth 100000 in
set_option maxHeartbeats 4000000 in
theorem refBytesR_n (g : Nat) (f : Bool) (rem : List UInt8) (la : Option Addr) (lm lc : Nat) (x : Int) (w : World) (h : RRdr w g f rem la lm lc) (hb : lm ≤ 4000000000) :
    Calls Try.prog 41 #[.pointer (some ⟨g, 0, none⟩), .int .i64 x] w fun e w' => RBytesP w g f rem la x e w' := by
  have c0 := Row.cell h.row 0
  have c1 := Row.cell h.row 1
  have f1 := Row.frozen h.row 1
  simp at c0 c1
  have H := Lib.hid h
  have hcap := h.cap
  clear h
  cases f with
  | true =>
    go_enter Try.func41, Try.ntmps41
    go_wp2_with fail
    go_ret
    refine ⟨none, 0, 0, false, [], true, rem, la, lm, lc, rfl, .inr ⟨rfl, .inl rfl, rfl, rfl, rfl⟩, Own.nil _ _ _ _ _, ⟨?_, H.out.set _ _, H.out.len, H.out.cap, H.out.big, H.out.apart⟩, grownBy_setCell _ _ _ _, fun _ b off e => ⟨off, e⟩⟩
    exact Row.setc H.out.row 1 (.bool true)
  | false =>
    by_cases hx : x < 0
    · have hd : decide (x < 0) = true := by simpa using hx
      go_enter Try.func41, Try.ntmps41
      go_wp2_with fail
      go_ret
      refine ⟨none, 0, 0, false, [], true, rem, la, lm, lc, rfl, .inr ⟨rfl, .inr (.inl hx), rfl, rfl, rfl⟩, Own.nil _ _ _ _ _, ⟨?_, H.out.set _ _, H.out.len, H.out.cap, H.out.big, H.out.apart⟩, grownBy_setCell _ _ _ _, fun _ b off e => ⟨off, e⟩⟩
      exact Row.setc H.out.row 1 (.bool true)
    · obtain ⟨n, rfl⟩ : ∃ n : Nat, x = (n : Int) := ⟨x.toNat, by omega⟩
      have hd : decide ((n : Int) < 0) = false := by simp
      by_cases hn : lm < n
      · have hd2 : decide ((lm : Int) < (n : Int)) = true := by simp; omega
        have hd3 : decide (lm < n) = true := by simp; omega
        go_enter Try.func41, Try.ntmps41
        go_wp2_with fail
        go_ret
        refine ⟨none, 0, 0, false, [], true, rem, la, lm, lc, rfl, .inr ⟨rfl, .inr (.inr (by have := H.out.len; omega)), rfl, rfl, rfl⟩, Own.nil _ _ _ _ _, ⟨?_, H.out.set _ _, H.out.len, H.out.cap, H.out.big, H.out.apart⟩, grownBy_setCell _ _ _ _, fun _ b off e => ⟨off, e⟩⟩
        exact Row.setc H.out.row 1 (.bool true)
      · have hd2 : decide ((lm : Int) < (n : Int)) = false := by simp; omega
        have hd3 : decide (lm < n) = false := by simp; omega
        have hnl : n ≤ lm := by omega
        have hnc : n ≤ lc := by omega
        have htl : (rem.take n).length = n := by rw [List.length_take, H.out.len]; omega
        have hdl : (rem.drop n).length = lm - n := by rw [List.length_drop, H.out.len]
        obtain ⟨a', c', w1, hr, ho, hch, _⟩ := run_appB w (base := w.heap.size) (a := none) (n := 0) (c := 0) (l := []) (Own.nil _ _ _ _ _) la n lc (rem.take n) (H.out.lies.take n) htl (by omega) (Nat.le_refl _) 22
        rw [Nat.zero_add, List.nil_append] at *
        have HR := Lib.hid hr
        have HO := Lib.hid ho
        have HG := Lib.hid (Ch.fresh (World.grownBy.refl w none) hch (fun g _ h => by have := h.1; omega))
        have H1 := Lib.hid (H.out.grown HG.out)
        have c01 := Row.cell H1.out.row 0
        have f01 := Row.frozen H1.out.row 0
        simp at c01
        have HTL := Lib.hid htl
        have HDL := Lib.hid hdl
        have HNL := Lib.hid hnl
        have HNC := Lib.hid hnc
        have HCAP := Lib.hid hcap
        clear hr ho hch htl hdl hnl hnc hcap
        go_enter Try.func41, Try.ntmps41
        go_wp2_with (first
          | (refine wpList_valp rfl (run_pre_opA _ _ (.tmp 30) (.tmp 31) rfl la lm lc n rfl rfl HNC.out) ?_)
          | (refine wpList_valp rfl (run_suf_op _ _ (.tmp 38) (.tmp 39) rfl la lm lc n rfl rfl HNL.out) ?_)
          | (at_builtin; go_loud (refine Lib.wpList_append_run _ rfl (.tmp 26) (.tmp 32) 22 22 rfl _ _ rfl rfl _ _ HR.out ?_)))
        go_ret
        have hl := H1.out.len
        have hsuf : BLies (w1.setCell ⟨g, 0, none⟩ (.slice (midA la n lc) (lm - n) (lc - n))) (midA la n lc) (rem.drop n) := suf_lies (H1.out.set _ _) n lc (by have := HNL.out; omega) (by have := HCAP.out; omega)
        refine ⟨a', n, c', true, rem.take n, false, rem.drop n, midA la n lc, lm - n, lc - n, rfl, .inl ⟨rfl, rfl, by omega, by have := HNL.out; omega, rfl, rfl, rfl⟩, Own.kept' HO.out (fun h0 q e hq => ?_), ⟨Row.setc H1.out.row 0 _, hsuf, HDL.out, by have := HCAP.out; omega, by have := H1.out.big; omega, fun h0 b off e => ?_⟩, grownBy_trans (grownBy_some HG.out _) (grownBy_setCell _ _ _ _), fun h0 b off e => midA_some H1.out.lies (by omega) e⟩
        · obtain ⟨q', e', h2, _⟩ := Own.block HO.out h0
          obtain rfl : q' = q := by rw [e'] at e; simpa using e
          have := H.out.row.lt
          exact Below.heap_setCell _ _ _ _ (show q' ≠ g by omega)
        · obtain ⟨o, e2⟩ := midA_some H1.out.lies (by omega) e
          exact H1.out.apart (by omega) b o e2

set_option maxRecDepth 100000 in
set_option maxHeartbeats 1000000 in
theorem refLeft_n (g : Nat) (f : Bool) (rem : List UInt8) (la : Option Addr) (lm lc : Nat) (w : World) (h : RRdr w g f rem la lm lc) :
    Calls Try.prog 40 #[.pointer (some ⟨g, 0, none⟩)] w fun e w' => e = .returned (.int .i64 ((if f = true then 0 else lm : Nat) : Int)) ∧ w = w' := by
  have c0 := Row.cell h.row 0
  have c1 := Row.cell h.row 1
  simp at c0 c1
  clear h
  cases f with
  | true =>
    rw [if_pos rfl]
    go_enter Try.func40, Try.ntmps40
    go_wp2_with fail
    go_ret
    exact ⟨rfl, rfl⟩
  | false =>
    rw [if_neg (by simp)]
    go_enter Try.func40, Try.ntmps40
    go_wp2_with fail
    go_ret
    exact ⟨rfl, rfl⟩
set_option maxRecDepth 100000 in
set_option maxHeartbeats 1000000 in
theorem refEnd_n (g : Nat) (f : Bool) (rem : List UInt8) (la : Option Addr) (lm lc : Nat) (w : World) (h : RRdr w g f rem la lm lc) :
    Calls Try.prog 42 #[.pointer (some ⟨g, 0, none⟩)] w fun e w' => e = .returned (.int .i64 ((if f = true then 10 else if 0 < lm then 11 else 0 : Nat) : Int)) ∧ w = w' := by
  have c0 := Row.cell h.row 0
  have c1 := Row.cell h.row 1
  simp at c0 c1
  clear h
  cases f with
  | true =>
    rw [if_pos rfl]
    go_enter Try.func42, Try.ntmps42
    go_wp2_with fail
    go_ret
    exact ⟨rfl, rfl⟩
  | false =>
    rw [if_neg (by simp)]
    by_cases hl : 0 < lm
    · rw [if_pos hl]
      have hd : decide ((0 : Int) < (lm : Int)) = true := by simp; omega
      go_enter Try.func42, Try.ntmps42
      go_wp2_with fail
      go_ret
      exact ⟨rfl, rfl⟩
    · rw [if_neg hl]
      obtain rfl : lm = 0 := by omega
      go_enter Try.func42, Try.ntmps42
      go_wp2_with fail
      go_ret
      exact ⟨rfl, rfl⟩
/-- a document's reader while something else is written -/
theorem RRdr.ch {S : Nat → Prop} {w w' : World} {g : Nat} {f : Bool} {rem : List UInt8} {la : Option Addr} {lm lc : Nat} (h : RRdr w g f rem la lm lc) (hc : Ch S w w') (hne : ¬ S g) (hb : 0 < lm → ∀ b off, la = some ⟨b, off, none⟩ → ¬ S b) : RRdr w' g f rem la lm lc :=
  ⟨h.row.ch hc hne, by
    by_cases h0 : 0 < lm
    · exact BLies.ch h.lies hc (fun b off e => hb h0 b off e)
    · have h3 := h.len
      intro i hi; omega, h.len, h.cap, h.big, h.apart⟩
theorem Rdr.ch {S : Nat → Prop} {w w' : World} {g : Nat} {f : Bool} {rem : List UInt8} {la : Option Addr} {lm lc : Nat} (h : Rdr w g f rem la lm lc) (hc : Ch S w w') (hne : ¬ S g) (hb : 0 < lm → ∀ b off, la = some ⟨b, off, none⟩ → ¬ S b) : Rdr w' g f rem la lm lc :=
  ⟨h.row.ch hc hne, by
    by_cases h0 : 0 < lm
    · exact BLies.ch h.lies hc (fun b off e => hb h0 b off e)
    · have h3 := h.len
      intro i hi; omega, h.len, h.cap, h.big, h.apart⟩
end Go.Proofs.Ythemlaibjchjpaa
/- Digest of octet's reader and of the document's; the document's Number. -/
namespace Go.Proofs.Ythemlaibjchjpaa
open Go.RowKit

def z32 : List UInt8 := List.replicate 32 0
/-- a digest of what was taken -/
def d32 (p : List UInt8) : List UInt8 := p ++ z32.drop p.length
theorem d32_nil : d32 [] = z32 := rfl
theorem d32_full {p : List UInt8} (h : p.length = 32) : d32 p = p := by
  unfold d32 z32
  rw [h, List.drop_of_length_le (by simp), List.append_nil]
theorem d32_len {p : List UInt8} (h : p.length ≤ 32) : (d32 p).length = 32 := by
  unfold d32 z32
  rw [List.length_append, List.length_drop, List.length_replicate]
  omega
theorem d32_step {p : List UInt8} {i : Nat} (h : i < p.length) (h32 : p.length ≤ 32) : (p.take i ++ z32.drop i).set i (p[i]) = p.take (i + 1) ++ z32.drop (i + 1) := by
  have hz : i < z32.length := by unfold z32; rw [List.length_replicate]; omega
  have hl : (p.take i).length = i := by rw [List.length_take]; omega
  rw [List.set_append_right _ _ (by omega), hl, Nat.sub_self, List.drop_eq_getElem_cons hz, List.set_cons_zero, ← List.take_append_getElem h, List.append_assoc]
  rfl
theorem info_dig : ∃ i, Try.prog.info? 74 = some i ∧ i.zero = some (.agg (rowB z32)) ∧ i.size = 32 := by
  obtain ⟨i, h1, h2, h3, _⟩ := info_parts (show (Try.prog.info? 74).map (fun i => (i.zero, i.size, i.bytes)) = some (some (.agg (rowB z32)), 32, 32) by kernel_rfl)
  exact ⟨i, h1, h2, h3⟩
theorem size_dig : (Try.prog.info? 74).map (·.size) = some 32 := by kernel_rfl
theorem rowB_one (l : List UInt8) : (rowB l).all (·.oneCell') = true := by
  simp [rowB, bval, Value.oneCell']
theorem run_arrptr_op (w : World) (ev : Operand → Value) {o : Oper} (x : Operand) (ho : o.op = .sliceToArrayPointer 74 x) (a : Option Addr) (c : Nat) (hx : ev x = .slice a 32 c) :
    (execOp ev o).run Try.prog w = .ok (.value (.pointer a)) w := by
  unfold execOp
  simp [ho, hx, Instr.arrayAt, run_underlying Try.underlying74]
theorem Det.short {f : Bool} {rem : List UInt8} {k : Nat} {ok : Bool} {p : List UInt8} {f' : Bool} {rem' : List UInt8} (h : Det f rem (k : Int) ok p f' rem') : p.length = (if ok = true then k else 0) ∧ rem'.length ≤ rem.length := by
  rcases h with ⟨h0, _, _, h2, h3, _, h5⟩ | ⟨h0, _, h3, _, h5⟩
  · subst h0; subst h3; subst h5
    rw [if_pos rfl, List.length_take, List.length_drop]
    have : ((k : Int)).toNat = k := rfl
    omega
  · subst h0; subst h3; subst h5
    simp

/-- what Number tells -/
def RNumP (k : Nat) (w : World) (g : Nat) (f : Bool) (rem : List UInt8) (la : Option Addr) (e : Ending) (w' : World) : Prop :=
  ∃ ok p f' rem' la' lm' lc', e = .returned (.int .u64 (if ok = true then smallL p else 0 : Nat)) ∧ Det f rem (k : Int) ok p f' rem' ∧ RRdr w' g f' rem' la' lm' lc' ∧ w.grownBy w' (some g) ∧
    (0 < lm' → ∀ b off, la' = some ⟨b, off, none⟩ → ∃ o, la = some ⟨b, o, none⟩)
theorem refSmall_det (ok : Bool) (p : List UInt8) (a : Option Addr) (n c k : Nat) (w : World) (ha : BLies w a p) (hl : p.length = n) (hn : n = (if ok = true then k else 0)) (h1 : 1 ≤ k) (h8 : k ≤ 8) :
    ∃ V E : Nat, Calls Try.prog 27 #[.slice a n c, .int .i64 (k : Int)] w (fun e w' => e = .returned (.tuple #[.int .u64 (V : Int), .int .i64 (E : Int)]) ∧ w = w') ∧ V = (if ok = true then smallL p else 0) ∧ E = (if ok = true then 0 else 10) := by
  cases ok with
  | true =>
    rw [if_pos rfl] at hn
    subst hn
    refine ⟨smallL p, 0, (refSmall_any a c n n p w ha hl (by unfold maxLen; omega) h8).mono ?_, rfl, rfl⟩
    rintro e w' ⟨rfl, rfl⟩
    rw [if_neg (by omega), if_neg (by omega)]
    exact ⟨rfl, rfl⟩
  | false =>
    rw [if_neg (by simp)] at hn
    subst hn
    refine ⟨0, 10, (refSmall_any a c 0 k p w ha hl (by unfold maxLen; omega) h8).mono ?_, rfl, rfl⟩
    rintro e w' ⟨rfl, rfl⟩
    rw [if_pos (by omega)]
    exact ⟨rfl, rfl⟩
set_option maxRecDepth 100000 in
set_option maxHeartbeats 1000000 in
theorem refNumber_n (k : Nat) (h1 : 1 ≤ k) (h8 : k ≤ 8) (g : Nat) (f : Bool) (rem : List UInt8) (la : Option Addr) (lm lc : Nat) (w : World) (h : RRdr w g f rem la lm lc) (hb : lm ≤ 4000000000) :
    Calls Try.prog 70 #[.pointer (some ⟨g, 0, none⟩), .int .i64 (k : Int)] w fun e w' => RNumP k w g f rem la e w' := by
  have HT := Lib.hid (refBytesR_n g f rem la lm lc (k : Int) w h hb)
  clear h hb
  go_enter Try.func70, Try.ntmps70
  go_upto_region 2 with (first
    | (go_at_call 41; refine HT.out.mono ?_; rintro e w1 ⟨a, n, c, ok, p, f', rem', la', lm', lc', rfl, hd, ho, hr, hg, hs⟩; have HD := Lib.hid hd; have HR := Lib.hid hr; have HG := Lib.hid hg; have HS := Lib.hid hs; obtain ⟨V, E, hsm, hV, hE⟩ := refSmall_det ok p a n c k w1 ho.lies (show p.length = n from ho.len) ((show p.length = n from ho.len).symm.trans hd.short.1) h1 h8; have HSM := Lib.hid hsm; have HV := Lib.hid hV; have HE := Lib.hid hE; clear hd ho hr hg hs hsm hV hE)
    | (go_at_call 27; refine HSM.out.mono ?_; rintro e w2 ⟨rfl, rfl⟩))
  cases ok with
  | true =>
    have hE := HE.out
    rw [if_pos rfl] at hE
    subst hE
    clear HE
    go_wp2_with fail
    go_ret
    exact ⟨true, p, f', rem', la', lm', lc', congrArg (fun z : Nat => Ending.returned (.int .u64 (z : Int))) HV.out, HD.out, HR.out, HG.out, HS.out⟩
  | false =>
    have hE := HE.out
    rw [if_neg (by simp)] at hE
    subst hE
    clear HE
    go_wp2_with fail
    go_ret
    exact ⟨false, p, f', rem', la', lm', lc', rfl, HD.out, HR.out, HG.out, HS.out⟩
/-- what Digest tells -/
def RDigP (w : World) (g : Nat) (f : Bool) (rem : List UInt8) (la : Option Addr) (e : Ending) (w' : World) : Prop :=
  ∃ ok p f' rem' la' lm' lc', e = .returned (.agg (rowB (d32 p))) ∧ Det f rem 32 ok p f' rem' ∧ RRdr w' g f' rem' la' lm' lc' ∧ w.grownBy w' (some g) ∧
    (0 < lm' → ∀ b off, la' = some ⟨b, off, none⟩ → ∃ o, la = some ⟨b, o, none⟩)
def DigP (w : World) (g : Nat) (f : Bool) (rem : List UInt8) (la : Option Addr) (e : Ending) (w' : World) : Prop :=
  ∃ ok p f' rem' la' lm' lc', e = .returned (.agg (rowB (d32 p))) ∧ Det f rem 32 ok p f' rem' ∧ Rdr w' g f' rem' la' lm' lc' ∧ w.grownBy w' (some g) ∧
    (0 < lm' → ∀ b off, la' = some ⟨b, off, none⟩ → ∃ o, la = some ⟨b, o, none⟩)
theorem blies_lt {w : World} {b off : Nat} {l : List UInt8} (h : BLies w (some ⟨b, off, none⟩) l) (hl : 0 < l.length) : b < w.heap.size := by
  obtain ⟨b', o', e, hc⟩ := h 0 hl
  injection e with e; injection e with e1 e2
  subst e1
  exact World.block_lt_of_cell? w _ hc
theorem grown_above {w0 w w' : World} {row : Option Nat} (h0 : w0.grownBy w row) (h : Ch (fun x => w0.heap.size ≤ x) w w') : w0.grownBy w' row :=
  ⟨h.os.trans h0.os, h.tape.trans h0.tape, h.output.trans h0.output, Nat.le_trans h0.size h.size, fun k hk hn => (h.block k (Nat.lt_of_lt_of_le hk h0.size) (by omega)).trans (h0.block k hk hn)⟩
set_option maxRecDepth 100000 in
set_option maxHeartbeats 1000000 in
theorem refDigest_n (g : Nat) (f : Bool) (rem : List UInt8) (la : Option Addr) (lm lc : Nat) (w : World) (h : RRdr w g f rem la lm lc) (hb : lm ≤ 4000000000) :
    Calls Try.prog 71 #[.pointer (some ⟨g, 0, none⟩)] w fun e w' => RDigP w g f rem la e w' := by
  obtain ⟨iD, hiD, hiDz, hiDs⟩ := info_dig
  have H := Lib.hid h
  have HB := Lib.hid hb
  clear h hb
  go_enter Try.func71, Try.ntmps71
  go_upto_region 2 with (first
    | (refine wpList_made rfl rfl hiD hiDz ?_; intro w1 hs1 hg1 hr1; have HG1 := Lib.hid hg1; have HR1 := Lib.hid (show BRow w1 w.heap.size 74 z32 from hr1); have HZ1 := Lib.hid hs1; clear hs1 hg1 hr1)
    | (refine wpList_made rfl rfl hiD hiDz ?_; intro w2 hs2 hg2 hr2; have HG2 := Lib.hid (grownBy_trans HG1.out hg2); have HR2 := Lib.hid (HR1.out.grown hg2); have HD2 := Lib.hid (show BRow w2 w1.heap.size 74 z32 from hr2); have HZ2 := Lib.hid hs2; clear hs2 hg2 hr2))
  obtain ⟨b2, hb2⟩ : ∃ b2, b2 = w.heap.size := ⟨_, rfl⟩
  obtain ⟨b3, hb3⟩ : ∃ b3, b3 = w1.heap.size := ⟨_, rfl⟩
  have q2 : Hid (w.heap.size ≤ b2) := Lib.hid (by rw [hb2]; exact Nat.le_refl _)
  have q3 : Hid (b2 < b3) := Lib.hid (by rw [hb2, hb3]; exact HR1.out.lt)
  rw [← hb2] at HR2 ⊢
  rw [← hb3] at HD2 ⊢
  clear hb2 hb3
  have HT := Lib.hid (refBytesR_n g f rem la lm lc 32 w2 (H.out.grown HG2.out) HB.out)
  go_wp2_with fail
  refine HT.out.mono ?_
  rintro e w3 ⟨a, n, c, ok, p, f', rem', la', lm', lc', rfl, hd, ho, hr, hg, hs⟩
  have HD := Lib.hid hd
  have HO := Lib.hid ho
  have HR := Lib.hid hr
  have HS := Lib.hid hs
  have hglt := H.out.row.lt
  have HQ2 := Lib.hid (BRow.grownNe HR2.out hg (by have := q2.out; omega))
  have HQ3 := Lib.hid (BRow.grownNe HD2.out hg (by have := q2.out; have := q3.out; omega))
  have HG3 := Lib.hid (grownBy_trans (grownBy_some HG2.out g) hg)
  have hn32 : n ≤ 32 := by
    have h1 := (Det.short (k := 32) hd).1
    have h2 := (show p.length = n from ho.len)
    rw [h2] at h1
    rw [h1]
    split <;> omega
  have HPL := Lib.hid (show p.length = n from ho.len)
  clear hd ho hr hg hs hglt HG1 HR1 HT
  go_wp2_with fail
  go_loopw [5] (fun vi wr => ∃ i : Nat, vi = .int .i64 (i : Int) ∧ i ≤ n ∧ w3.grownBy wr (some b3) ∧ BRow wr b3 74 (p.take i ++ z32.drop i)) (fun i _ => n - (intOf i).toNat)
  case atStart => exact ⟨0, rfl, by omega, World.grownBy.refl _ _, HQ3.out⟩
  case round =>
    obtain ⟨i, rfl, hi, hgr, hrow⟩ := hrel
    have HGR := Lib.hid hgr
    have HROW := Lib.hid hrow
    by_cases hlt : i < n
    · have hilt : i < p.length := by rw [HPL.out]; exact hlt
      have hls : BLies wr a p := BLies.ch HO.out.lies (Ch.ofSome (S := fun x => x = b3) hgr rfl) (fun b off e h => by
        subst h
        obtain ⟨q, e', h1, h2⟩ := Own.block HO.out (by have := HO.out.cap.1; omega)
        rw [e'] at e
        obtain rfl : q = b := by have := congrArg (fun z : Option Addr => z.map (·.block)) e; simpa using this
        have := HD2.out.lt
        omega)
      obtain ⟨b, off, rfl, hc⟩ := hls i hilt
      have hx := (p[i]'hilt).toNat_lt
      have cc := BRow.cell hrow i (by rw [List.length_append, List.length_take, List.length_drop]; unfold z32; rw [List.length_replicate]; omega)
      have ff := BRow.frozen hrow i
      have hi32 : (i : Int) < 32 := by omega
      have hi32' : i < 32 := by omega
      have HST := Lib.hid (d32_step hilt (by rw [HPL.out]; exact hn32))
      have HSR := Lib.hid (BRow.set hrow i (p[i]'hilt))
      clear hgr hrow hls
      go_wp2_with fail
      go_roundw
      case rel => exact ⟨i + 1, by go_num, by omega, grownBy_trans HGR.out (grownBy_setCell _ _ _ _), by rw [← HST.out]; exact HSR.out⟩
      case measure => simp [intOf]; omega
    · obtain rfl : i = n := by omega
      have e0 : p.take i ++ z32.drop i = d32 p := by unfold d32; rw [List.take_of_length_le (by rw [HPL.out]; exact Nat.le_refl _), HPL.out]
      rw [e0] at hrow
      have HRF := Lib.hid hrow
      have HQF := Lib.hid (BRow.grownNe HQ2.out hgr (by have := q3.out; omega))
      clear hgr hrow e0 HROW
      have hl32 : (d32 p).length = 32 := d32_len (by rw [HPL.out]; exact hn32)
      go_wp2_with (first
        | (refine wpList_load_row rfl 74 _ rfl b3 rfl 74 (rowB (d32 p)) (0, 0) _ HRF.out Try.underlying74 rfl (by rw [size_dig, rowB_size, hl32]) ?_)
        | (refine wpList_putrow rfl rfl b2 rfl (rowB (d32 p)) rfl HQF.out (by rw [size_dig, rowB_size, hl32]) (by rw [rowB_size, rowB_size, hl32]; rfl) (rowB_one _) ?_; intro w5 hg5 hr5; have HG5 := Lib.hid hg5; have HR5 := Lib.hid hr5; clear hg5 hr5))
      refine bodyPost_ret (v := .agg (rowB (d32 p))) (results_cell_row rfl _ _ b2 74 (rowB (d32 p)) (0, 0) _ rfl HR5.out Try.underlying74 rfl (by rw [size_dig, rowB_size, hl32])) rfl ?_
      have hb2 := q2.out
      have hb3 := q3.out
      have hlt2 := HD2.out.lt
      have hglt := H.out.row.lt
      have hch : Ch (fun x => x = b2 ∨ x = b3) w3 w5 := (Ch.ofSome (S := fun x => x = b2 ∨ x = b3) HGR.out (.inr rfl)).trans (Ch.ofSome (S := fun x => x = b2 ∨ x = b3) HG5.out (.inl rfl)) (fun _ _ h => h)
      refine ⟨ok, p, f', rem', la', lm', lc', rfl, HD.out, HR.out.ch hch (by omega) (fun h0 b off e => ?_), ?_, HS.out⟩
      · obtain ⟨o, e2⟩ := HS.out h0 b off e
        have hlr := (Det.short (k := 32) HD.out).2
        have h5 := HR.out.len
        have hblt := blies_lt (b := b) (off := o) (by rw [← e2]; exact H.out.lies) (by omega)
        omega
      · exact (Ch.then (Ch.mono hch (T := fun x => w.heap.size ≤ x) (fun x _ h => by omega)) (World.grownBy.refl _ _)) |> fun h => grown_above HG3.out h
set_option maxRecDepth 100000 in
set_option maxHeartbeats 1000000 in
theorem digest_n (g : Nat) (f : Bool) (rem : List UInt8) (la : Option Addr) (lm lc : Nat) (w : World) (h : Rdr w g f rem la lm lc) :
    Calls Try.prog 46 #[.pointer (some ⟨g, 0, none⟩)] w fun e w' => DigP w g f rem la e w' := by
  obtain ⟨iD, hiD, hiDz, hiDs⟩ := info_dig
  have H := Lib.hid h
  clear h
  go_enter Try.func46, Try.ntmps46
  go_upto_region 1 with (refine wpList_made rfl rfl hiD hiDz ?_; intro w1 hs1 hg1 hr1; have HG1 := Lib.hid hg1; have HR1 := Lib.hid (show BRow w1 w.heap.size 74 z32 from hr1); have HZ1 := Lib.hid hs1; clear hs1 hg1 hr1)
  obtain ⟨b2, hb2⟩ : ∃ b2, b2 = w.heap.size := ⟨_, rfl⟩
  have q2 : Hid (w.heap.size ≤ b2) := Lib.hid (by rw [hb2]; exact Nat.le_refl _)
  rw [← hb2] at HR1 ⊢
  clear hb2
  have HT := Lib.hid (take2_n g f rem la lm lc 32 w1 (H.out.grown HG1.out))
  go_upto_region 2 with (go_at_call 68; refine HT.out.mono ?_; rintro e w3 ⟨a, n, c, ok, p, f', rem', la', lm', lc', rfl, hd, ht⟩; have HD := Lib.hid hd; have HK := Lib.hid ht; clear hd ht)
  have hglt := H.out.row.lt
  have HQ2 := Lib.hid (BRow.grownNe HR1.out HK.out.grown (by have := q2.out; omega))
  have HG3 := Lib.hid (grownBy_trans (grownBy_some HG1.out g) HK.out.grown)
  have hpl := (Det.short (k := 32) HD.out).1
  have hlr := (Det.short (k := 32) HD.out).2
  have hkl := HK.out.len
  have hend : ∀ w5, w3.grownBy w5 (some b2) → Rdr w5 g f' rem' la' lm' lc' ∧ w.grownBy w5 (some g) := fun w5 hg5 => by
    have hb2 := q2.out
    have hch : Ch (fun x => x = b2) w3 w5 := Ch.ofSome (S := fun x => x = b2) hg5 rfl
    refine ⟨HK.out.rdr.ch hch (by omega) (fun h0 b off e => ?_), grown_above HG3.out (Ch.mono hch (fun x _ h => by omega))⟩
    obtain ⟨o, e2⟩ := HK.out.src h0 b off e
    have h5 := HK.out.rdr.len
    have hblt := blies_lt (b := b) (off := o) (by rw [← e2]; exact H.out.lies) (by omega)
    omega
  have HEND := Lib.hid hend
  clear hend hlr hglt HT HR1
  cases ok with
  | false =>
    rw [if_neg (by simp)] at hpl
    obtain rfl : p = [] := List.eq_nil_of_length_eq_zero hpl
    clear hpl hkl
    go_wp2_with (refine wpList_putrow rfl rfl b2 rfl (rowB z32) rfl HQ2.out (by rw [size_dig]; rfl) rfl (rowB_one _) ?_; intro w5 hg5 hr5; have HG5 := Lib.hid hg5; have HR5 := Lib.hid hr5; clear hg5 hr5)
    refine bodyPost_ret (v := .agg (rowB z32)) (results_cell_row rfl _ _ b2 74 (rowB z32) (0, 0) _ rfl HR5.out Try.underlying74 rfl (by rw [size_dig]; rfl)) rfl ?_
    exact ⟨false, [], f', rem', la', lm', lc', rfl, HD.out, (HEND.out _ HG5.out).1, (HEND.out _ HG5.out).2, HK.out.src⟩
  | true =>
    rw [if_pos rfl] at hpl
    obtain rfl : n = 32 := by omega
    obtain ⟨b, off, rfl⟩ := HK.out.lies.addr (by omega)
    have HPL := Lib.hid hpl
    clear hpl hkl
    have hrange : w3.rangeAt b off (p.map bval) := fun j v hj => by
      rw [List.getElem?_map] at hj
      obtain ⟨hjl, hjv⟩ : ∃ h : j < p.length, bval p[j] = v := by
        rcases Nat.lt_or_ge j p.length with h | h
        · rw [List.getElem?_eq_getElem h] at hj; exact ⟨h, by simpa using hj⟩
        · rw [List.getElem?_eq_none h] at hj; cases hj
      obtain ⟨b', o', e, hc⟩ := HK.out.lies j hjl
      injection e with e; injection e with e1 e2
      subst e1; subst e2
      rw [hc, ← hjv]
      rfl
    have HRG := Lib.hid hrange
    clear hrange
    go_wp2_with (first
      | (refine wpList_valp rfl (run_arrptr_op _ _ (.tmp 13) rfl (some ⟨b, off, none⟩) c rfl) ?_)
      | (refine wpList_load_mid rfl 74 _ rfl b off rfl (p.map bval) _ HRG.out Try.underlying74 rfl (by rw [size_dig, List.length_map, HPL.out]) ?_)
      | (refine wpList_putrow rfl rfl b2 rfl (rowB p) rfl HQ2.out (by rw [size_dig, rowB_size, HPL.out]) (by rw [rowB_size, rowB_size, HPL.out]; rfl) (rowB_one _) ?_; intro w5 hg5 hr5; have HG5 := Lib.hid hg5; have HR5 := Lib.hid hr5; clear hg5 hr5))
    refine bodyPost_ret (v := .agg (rowB p)) (results_cell_row rfl _ _ b2 74 (rowB p) (0, 0) _ rfl HR5.out Try.underlying74 rfl (by rw [size_dig, rowB_size, HPL.out])) rfl ?_
    exact ⟨true, p, f', rem', la', lm', lc', by rw [d32_full HPL.out], HD.out, (HEND.out _ HG5.out).1, (HEND.out _ HG5.out).2, HK.out.src⟩
end Go.Proofs.Ythemlaibjchjpaa
/- The readers' calls, by functions: octet's and the document's. -/
namespace Go.Proofs.Ythemlaibjchjpaa
open Go.RowKit

def okD (f : Bool) (rem : List UInt8) (x : Int) : Bool := !f && decide (0 ≤ x) && decide (x ≤ rem.length)
def pD (f : Bool) (rem : List UInt8) (x : Int) : List UInt8 := if okD f rem x = true then rem.take x.toNat else []
def fD (f : Bool) (rem : List UInt8) (x : Int) : Bool := !okD f rem x
def remD (f : Bool) (rem : List UInt8) (x : Int) : List UInt8 := if okD f rem x = true then rem.drop x.toNat else rem
def numD (f : Bool) (rem : List UInt8) (k : Nat) : Nat := if okD f rem k = true then smallL (pD f rem k) else 0
def leftD (f : Bool) (rem : List UInt8) : Nat := if f = true then 0 else rem.length
def endD (f : Bool) (rem : List UInt8) : Nat := if f = true then 10 else if 0 < rem.length then 11 else 0
theorem det_eq {f : Bool} {rem : List UInt8} {x : Int} {ok : Bool} {p : List UInt8} {f' : Bool} {rem' : List UInt8} (h : Det f rem x ok p f' rem') : ok = okD f rem x ∧ p = pD f rem x ∧ f' = fD f rem x ∧ rem' = remD f rem x := by
  rcases h with ⟨h0, h1, h2, h3, h4, h5, h6⟩ | ⟨h0, h1, h2, h3, h4⟩
  · have e : okD f rem x = true := by simp [okD, h1, h2, h3]
    simp [pD, fD, remD, e, h0, h4, h5, h6]
  · have e : okD f rem x = false := by
      rcases h1 with h1 | h1 | h1
      · simp [okD, h1]
      · have : ¬ (0 ≤ x) := by omega
        simp [okD, this]
      · have : ¬ (x ≤ rem.length) := by omega
        simp [okD, this]
    simp [pD, fD, remD, e, h0, h2, h3, h4]
theorem okD_len {f : Bool} {rem : List UInt8} {k : Nat} (h : okD f rem k = true) : (pD f rem k).length = k := by
  unfold pD
  rw [if_pos h]
  simp only [okD, Bool.and_eq_true, decide_eq_true_eq] at h
  rw [List.length_take]
  have : ((k : Int)).toNat = k := rfl
  omega
theorem numD_lt (f : Bool) (rem : List UInt8) (k : Nat) : numD f rem k < 256 ^ k := by
  unfold numD
  split
  · next h => exact smallL_lt k _ (okD_len h)
  · exact Nat.pow_pos (by decide)
theorem pD_len (f : Bool) (rem : List UInt8) (x : Int) : (pD f rem x).length ≤ rem.length := by
  unfold pD
  split
  · rw [List.length_take]; omega
  · simp
theorem pD32 (f : Bool) (rem : List UInt8) : (pD f rem 32).length ≤ 32 := by
  by_cases h : okD f rem 32 = true
  · exact Nat.le_of_eq (okD_len (k := 32) h)
  · unfold pD; rw [if_neg h]; simp
theorem remD_len (f : Bool) (rem : List UInt8) (x : Int) : (remD f rem x).length ≤ rem.length := by
  unfold remD
  split
  · rw [List.length_drop]; omega
  · exact Nat.le_refl _

/-- octet's reader at g, its bytes in the block b -/
def RA (w : World) (g b : Nat) (f : Bool) (rem : List UInt8) : Prop := ∃ la lm lc, Rdr w g f rem la lm lc ∧ (0 < lm → ∀ x off, la = some ⟨x, off, none⟩ → x = b) ∧ lm ≤ 4000000000
/-- the document's -/
def RB (w : World) (g b : Nat) (f : Bool) (rem : List UInt8) : Prop := ∃ la lm lc, RRdr w g f rem la lm lc ∧ (0 < lm → ∀ x off, la = some ⟨x, off, none⟩ → x = b) ∧ lm ≤ 4000000000
theorem RA.ch {S : Nat → Prop} {w w' : World} {g b : Nat} {f : Bool} {rem : List UInt8} (h : RA w g b f rem) (hc : Ch S w w') (hg : ¬ S g) (hb : ¬ S b) : RA w' g b f rem := by
  obtain ⟨la, lm, lc, h1, h2, h3⟩ := h
  exact ⟨la, lm, lc, h1.ch hc hg (fun h0 x off e => by rw [h2 h0 x off e]; exact hb), h2, h3⟩
theorem RB.ch {S : Nat → Prop} {w w' : World} {g b : Nat} {f : Bool} {rem : List UInt8} (h : RB w g b f rem) (hc : Ch S w w') (hg : ¬ S g) (hb : ¬ S b) : RB w' g b f rem := by
  obtain ⟨la, lm, lc, h1, h2, h3⟩ := h
  exact ⟨la, lm, lc, h1.ch hc hg (fun h0 x off e => by rw [h2 h0 x off e]; exact hb), h2, h3⟩
theorem RA.lt {w : World} {g b : Nat} {f : Bool} {rem : List UInt8} (h : RA w g b f rem) : g < w.heap.size := by
  obtain ⟨la, lm, lc, h1, _⟩ := h; exact h1.row.lt
theorem RB.lt {w : World} {g b : Nat} {f : Bool} {rem : List UInt8} (h : RB w g b f rem) : g < w.heap.size := by
  obtain ⟨la, lm, lc, h1, _⟩ := h; exact h1.row.lt

section
variable {w : World} {g b : Nat} {f : Bool} {rem : List UInt8}
theorem srcB {la la' : Option Addr} {lm lm' : Nat} (h1 : 0 < lm → ∀ x off, la = some ⟨x, off, none⟩ → x = b) (h2 : 0 < lm' → ∀ b off, la' = some ⟨b, off, none⟩ → ∃ o, la = some ⟨b, o, none⟩) (hle : lm' ≤ lm) : 0 < lm' → ∀ x off, la' = some ⟨x, off, none⟩ → x = b := fun h0 x off e => by
  obtain ⟨o, e2⟩ := h2 h0 x off e
  exact h1 (by omega) x o e2

theorem byteA (h : RA w g b f rem) : Calls Try.prog 43 #[.pointer (some ⟨g, 0, none⟩)] w fun e w' => e = .returned (.int .u8 (numD f rem 1 : Nat)) ∧ RA w' g b (fD f rem 1) (remD f rem 1) ∧ w.grownBy w' (some g) := by
  obtain ⟨la, lm, lc, h1, h2, h3⟩ := h
  refine (byte_n g f rem la lm lc w h1).mono ?_
  rintro e w' ⟨ok, p, f', rem', la', lm', lc', rfl, hd, hr, hg, hs⟩
  have hlr := (Det.short (k := 1) hd).2
  obtain ⟨rfl, rfl, rfl, rfl⟩ := det_eq hd
  have h5 := h1.len
  have h6 := hr.len
  exact ⟨rfl, ⟨la', lm', lc', hr, srcB h2 hs (by omega), by omega⟩, hg⟩
theorem wordA (h : RA w g b f rem) : Calls Try.prog 44 #[.pointer (some ⟨g, 0, none⟩)] w fun e w' => e = .returned (.int .u32 (numD f rem 4 : Nat)) ∧ RA w' g b (fD f rem 4) (remD f rem 4) ∧ w.grownBy w' (some g) := by
  obtain ⟨la, lm, lc, h1, h2, h3⟩ := h
  refine (word_n g f rem la lm lc w h1).mono ?_
  rintro e w' ⟨ok, p, f', rem', la', lm', lc', rfl, hd, hr, hg, hs⟩
  have hlr := (Det.short (k := 4) hd).2
  obtain ⟨rfl, rfl, rfl, rfl⟩ := det_eq hd
  have h5 := h1.len
  have h6 := hr.len
  exact ⟨rfl, ⟨la', lm', lc', hr, srcB h2 hs (by omega), by omega⟩, hg⟩
theorem longA (h : RA w g b f rem) : Calls Try.prog 45 #[.pointer (some ⟨g, 0, none⟩)] w fun e w' => e = .returned (.int .u64 (numD f rem 8 : Nat)) ∧ RA w' g b (fD f rem 8) (remD f rem 8) ∧ w.grownBy w' (some g) := by
  obtain ⟨la, lm, lc, h1, h2, h3⟩ := h
  refine (long_n g f rem la lm lc w h1).mono ?_
  rintro e w' ⟨ok, p, f', rem', la', lm', lc', rfl, hd, hr, hg, hs⟩
  have hlr := (Det.short (k := 8) hd).2
  obtain ⟨rfl, rfl, rfl, rfl⟩ := det_eq hd
  have h5 := h1.len
  have h6 := hr.len
  exact ⟨rfl, ⟨la', lm', lc', hr, srcB h2 hs (by omega), by omega⟩, hg⟩
theorem digA (h : RA w g b f rem) : Calls Try.prog 46 #[.pointer (some ⟨g, 0, none⟩)] w fun e w' => e = .returned (.agg (rowB (d32 (pD f rem 32)))) ∧ RA w' g b (fD f rem 32) (remD f rem 32) ∧ w.grownBy w' (some g) := by
  obtain ⟨la, lm, lc, h1, h2, h3⟩ := h
  refine (digest_n g f rem la lm lc w h1).mono ?_
  rintro e w' ⟨ok, p, f', rem', la', lm', lc', rfl, hd, hr, hg, hs⟩
  have hlr := (Det.short (k := 32) hd).2
  obtain ⟨rfl, rfl, rfl, rfl⟩ := det_eq hd
  have h5 := h1.len
  have h6 := hr.len
  exact ⟨rfl, ⟨la', lm', lc', hr, srcB h2 hs (by omega), by omega⟩, hg⟩
theorem bytesA (x : Int) (h : RA w g b f rem) : Calls Try.prog 34 #[.pointer (some ⟨g, 0, none⟩), .int .i64 x] w fun e w' => ∃ a n c, e = .returned (.slice a n c) ∧ BOwn w' w.heap.size a n c (pD f rem x) ∧ RA w' g b (fD f rem x) (remD f rem x) ∧ w.grownBy w' (some g) := by
  obtain ⟨la, lm, lc, h1, h2, h3⟩ := h
  refine (bytes2_n g f rem la lm lc x w h1 h3).mono ?_
  rintro e w' ⟨a, n, c, ok, p, f', rem', la', lm', lc', rfl, hd, ho, hr, hg, hs⟩
  obtain ⟨rfl, rfl, rfl, rfl⟩ := det_eq hd
  have hlr := remD_len f rem x
  have h5 := h1.len
  have h6 := hr.len
  exact ⟨a, n, c, rfl, ho, ⟨la', lm', lc', hr, srcB h2 hs (by omega), by omega⟩, hg⟩
theorem leftA (h : RA w g b f rem) : Calls Try.prog 33 #[.pointer (some ⟨g, 0, none⟩)] w fun e w' => e = .returned (.int .i64 (leftD f rem : Nat)) ∧ w = w' := by
  obtain ⟨la, lm, lc, h1, h2, h3⟩ := h
  refine (leftf_n g f rem la lm lc w h1).mono ?_
  rintro e w' ⟨rfl, rfl⟩
  unfold leftD
  rw [h1.len]
  exact ⟨rfl, rfl⟩
theorem endA (h : RA w g b f rem) : Calls Try.prog 36 #[.pointer (some ⟨g, 0, none⟩)] w fun e w' => e = .returned (.int .i64 (endD f rem : Nat)) ∧ w = w' := by
  obtain ⟨la, lm, lc, h1, h2, h3⟩ := h
  refine (end_n g f rem la lm lc w h1).mono ?_
  rintro e w' ⟨rfl, rfl⟩
  unfold endD
  rw [h1.len]
  exact ⟨rfl, rfl⟩

theorem numB (k : Nat) (hk1 : 1 ≤ k) (hk8 : k ≤ 8) (h : RB w g b f rem) : Calls Try.prog 70 #[.pointer (some ⟨g, 0, none⟩), .int .i64 (k : Int)] w fun e w' => e = .returned (.int .u64 (numD f rem k : Nat)) ∧ RB w' g b (fD f rem k) (remD f rem k) ∧ w.grownBy w' (some g) := by
  obtain ⟨la, lm, lc, h1, h2, h3⟩ := h
  refine (refNumber_n k hk1 hk8 g f rem la lm lc w h1 h3).mono ?_
  rintro e w' ⟨ok, p, f', rem', la', lm', lc', rfl, hd, hr, hg, hs⟩
  have hlr := (Det.short (k := k) hd).2
  obtain ⟨rfl, rfl, rfl, rfl⟩ := det_eq hd
  have h5 := h1.len
  have h6 := hr.len
  exact ⟨rfl, ⟨la', lm', lc', hr, srcB h2 hs (by omega), by omega⟩, hg⟩
theorem digB (h : RB w g b f rem) : Calls Try.prog 71 #[.pointer (some ⟨g, 0, none⟩)] w fun e w' => e = .returned (.agg (rowB (d32 (pD f rem 32)))) ∧ RB w' g b (fD f rem 32) (remD f rem 32) ∧ w.grownBy w' (some g) := by
  obtain ⟨la, lm, lc, h1, h2, h3⟩ := h
  refine (refDigest_n g f rem la lm lc w h1 h3).mono ?_
  rintro e w' ⟨ok, p, f', rem', la', lm', lc', rfl, hd, hr, hg, hs⟩
  have hlr := (Det.short (k := 32) hd).2
  obtain ⟨rfl, rfl, rfl, rfl⟩ := det_eq hd
  have h5 := h1.len
  have h6 := hr.len
  exact ⟨rfl, ⟨la', lm', lc', hr, srcB h2 hs (by omega), by omega⟩, hg⟩
theorem bytesB (x : Int) (h : RB w g b f rem) : Calls Try.prog 41 #[.pointer (some ⟨g, 0, none⟩), .int .i64 x] w fun e w' => ∃ a n c, e = .returned (.slice a n c) ∧ BOwn w' w.heap.size a n c (pD f rem x) ∧ RB w' g b (fD f rem x) (remD f rem x) ∧ w.grownBy w' (some g) := by
  obtain ⟨la, lm, lc, h1, h2, h3⟩ := h
  refine (refBytesR_n g f rem la lm lc x w h1 h3).mono ?_
  rintro e w' ⟨a, n, c, ok, p, f', rem', la', lm', lc', rfl, hd, ho, hr, hg, hs⟩
  obtain ⟨rfl, rfl, rfl, rfl⟩ := det_eq hd
  have hlr := remD_len f rem x
  have h5 := h1.len
  have h6 := hr.len
  exact ⟨a, n, c, rfl, ho, ⟨la', lm', lc', hr, srcB h2 hs (by omega), by omega⟩, hg⟩
theorem leftB (h : RB w g b f rem) : Calls Try.prog 40 #[.pointer (some ⟨g, 0, none⟩)] w fun e w' => e = .returned (.int .i64 (leftD f rem : Nat)) ∧ w = w' := by
  obtain ⟨la, lm, lc, h1, h2, h3⟩ := h
  refine (refLeft_n g f rem la lm lc w h1).mono ?_
  rintro e w' ⟨rfl, rfl⟩
  unfold leftD
  rw [h1.len]
  exact ⟨rfl, rfl⟩
theorem endB (h : RB w g b f rem) : Calls Try.prog 42 #[.pointer (some ⟨g, 0, none⟩)] w fun e w' => e = .returned (.int .i64 (endD f rem : Nat)) ∧ w = w' := by
  obtain ⟨la, lm, lc, h1, h2, h3⟩ := h
  refine (refEnd_n g f rem la lm lc w h1).mono ?_
  rintro e w' ⟨rfl, rfl⟩
  unfold endD
  rw [h1.len]
  exact ⟨rfl, rfl⟩
end
end Go.Proofs.Ythemlaibjchjpaa
/- Arrays of bytes (and arrays of such) are compared cell by cell. No walk. -/
namespace Go.Proofs.Ythemlaibjchjpaa
open Go.RowKit

def litB (x : UInt8) : Lit := .int .u8 (x.toNat : Int)
theorem litB_inj {a b : List UInt8} : a.map litB = b.map litB ↔ a = b := by
  constructor
  · intro h
    induction a generalizing b with
    | nil => cases b <;> simp_all
    | cons x a ih =>
      cases b with
      | nil => simp at h
      | cons y b =>
        simp only [List.map_cons, List.cons.injEq] at h
        obtain ⟨h1, h2⟩ := h
        unfold litB at h1
        injection h1 with _ h1
        have hxy : x = y := UInt8.toNat_inj.1 (by omega)
        rw [ih h2, hxy]
  · rintro rfl; rfl

theorem mapM_some {α β : Type} (f : α → Option β) (g : α → β) : ∀ (xs : List α), (∀ x ∈ xs, f x = some (g x)) → xs.mapM f = some (xs.map g)
  | [], _ => rfl
  | x :: xs, h => by
    rw [List.mapM_cons, h x (by simp), mapM_some f g xs (fun y hy => h y (by simp [hy]))]
    rfl

theorem flatten_parts {α : Type} (k : Nat) : ∀ (n : Nat) (L : List α), L.length = n * k → ((List.range n).map fun i => (L.drop (i * k)).take k).flatten = L
  | 0, L, h => by simp at h; simp [h]
  | n + 1, L, h => by
    rw [List.range_succ_eq_map, List.map_cons, List.flatten_cons, List.map_map]
    have e : ((List.range n).map ((fun i => (L.drop (i * k)).take k) ∘ Nat.succ)) = (List.range n).map fun i => ((L.drop k).drop (i * k)).take k := by
      apply List.map_congr_left
      intro i _
      simp only [Function.comp, List.drop_drop, Nat.succ_eq_add_one, Nat.add_mul, Nat.one_mul]
      rw [Nat.add_comm]
    rw [e, flatten_parts k n (L.drop k) (by rw [List.length_drop, h, Nat.add_mul]; omega)]
    simp

section
variable {P : Program}
theorem lits_arr {t e : TypeId} {n k D : Nat} (hu : P.underlying t = some (.array n e)) (hc : P.cellsOf t = n * k) (he : P.cellsOf e = k) (l : List UInt8) (hl : l.length = n * k)
    (h : ∀ m : List UInt8, m.length = k → P.keyLits D e (m.map bval) = some (m.map litB)) : P.keyLits (D + 1) t (l.map bval) = some (l.map litB) := by
  unfold Program.keyLits
  rw [hu]
  show (if (l.map bval).length = P.cellsOf t then Option.map List.flatten (List.mapM (fun i => P.keyLits D e (List.take (P.cellsOf e) (List.drop (i * P.cellsOf e) (l.map bval)))) (List.range n)) else none) = _
  rw [he, hc]
  simp only [List.length_map, hl, if_true]
  rw [mapM_some _ (fun i => ((l.map litB).drop (i * k)).take k)]
  · rw [Option.map_some, flatten_parts k n _ (by rw [List.length_map, hl])]
  · intro i hi
    have hi' : i < n := by simpa using hi
    rw [← List.map_drop, ← List.map_take, ← List.map_drop, ← List.map_take]
    refine h _ ?_
    rw [List.length_take, List.length_drop, hl]
    have : (i + 1) * k ≤ n * k := Nat.mul_le_mul_right k hi'
    rw [Nat.add_mul] at this
    omega

theorem lits_byte {e : TypeId} {D : Nat} (hu : P.underlying e = some (.int .u8)) (m : List UInt8) (hm : m.length = 1) : P.keyLits (D + 1) e (m.map bval) = some (m.map litB) := by
  obtain ⟨x, rfl⟩ : ∃ x, m = [x] := by
    match m, hm with
    | [x], _ => exact ⟨x, rfl⟩
  have := x.toNat_lt
  unfold Program.keyLits
  rw [hu]
  have hw : (Lit.int .u8 (x.toNat : Int)).wf = true := by simp [Lit.wf, show IntKind.u8.min = 0 from rfl, show IntKind.u8.max = 255 from rfl]; omega
  simp [bval, litB, hw]

theorem eql_lits {t : TypeId} {m D : Nat} (hm : m ≤ 10000) (hk : P.keyTypeAt m t = true) {l r : List UInt8} (fl : (Value.agg (l.map bval).toArray).formed P t = true) (fr : (Value.agg (r.map bval).toArray).formed P t = true)
    (hl : P.keyLits D t (l.map bval) = some (l.map litB)) (hr : P.keyLits D t (r.map bval) = some (r.map litB)) (w : World) :
    (binOp .eql t (.agg (l.map bval).toArray) (.agg (r.map bval).toArray)).run P w = .ok (.bool (decide (l = r))) w ∧ (binOp .neq t (.agg (l.map bval).toArray) (.agg (r.map bval).toArray)).run P w = .ok (.bool (!decide (l = r))) w := by
  obtain ⟨b, hb, hiff⟩ := run_equalIn_deep (P := P) (10000 - m) m t hk w D D _ _ _ _ fl fr (by simpa [Value.cells] using hl) (by simpa [Value.cells] using hr)
  rw [show 10000 - m + m = 10000 by omega] at hb
  have e : b = decide (l = r) := by
    rw [litB_inj] at hiff
    by_cases h : l = r
    · simp [h, hiff.2 h]
    · have : b = false := by
        cases b
        · rfl
        · exact absurd (hiff.1 rfl) h
      simp [h, this]
  rw [run_eql_struct, run_neq_struct, hb, e]
  exact ⟨rfl, rfl⟩
end

end Go.Proofs.Ythemlaibjchjpaa
/- The law OctetReads: one call (take). Printed by gens/take.py. -/
namespace Go.Proofs.Ythemlaibjchjpaa
open Go.RowKit

theorem LIs.chB {S : Nat → Prop} {w w' : World} {base : Nat} {a : Option Addr} {n c : Nat} {bs : List (List UInt8)} {L : List Sl} (h : LIs w base a n c bs L) (hc : Ch S w w') (hS : ∀ x, base ≤ x → ¬ S x) : LIs w' base a n c bs L :=
  ⟨Own.ch h.outer hc (fun h0 g e => by obtain ⟨g', e', h1, _⟩ := Own.block h.outer h0; rw [e'] at e; obtain rfl : g' = g := by simpa using e
                                       exact hS _ h1), h.len,
   fun i h1 h2 => Own.ch (h.inner i h1 h2) hc (fun h0 g e => by obtain ⟨g', e', h3, _⟩ := Own.block (h.inner i h1 h2) h0; rw [e'] at e; obtain rfl : g' = g := by simpa using e
                                                                exact hS _ h3), h.apart⟩
theorem LIs.grewOff {w w' : World} {base base' : Nat} {a a' a2 : Option Addr} {n n' c c' c2 : Nat} {bs : List (List UInt8)} {L : List Sl} {ys : List Value} (h : LIs w base a n c bs L) (h' : Own w base' 22 1 a' n' c' ys) (hg : GrewP w w' a' c' a2 c2) (hd : ∀ x, In a c x → In a' c' x → False) : LIs w' base a n c bs L :=
  ⟨Own.ch h.outer hg.ch (fun h0 g e hi => hd g ⟨h0, e⟩ hi), h.len, fun i h1 h2 => Own.grewOther (h.inner i h1 h2) h' hg (by decide), h.apart⟩

/-- the lists that were told, and what they must be -/
def Bks (w : World) (p3 p4 base : Nat) (bs : List (List UInt8)) : Prop :=
  ∃ a n c L a' c' L', Row w p3 24 #[.slice a n c] ∧ Row w p4 24 #[.slice a' n c'] ∧ LIs w base a n c bs L ∧ LIs w base a' n c' bs L' ∧ ∀ x, In a c x → In a' c' x → False
theorem Bks.ch {S : Nat → Prop} {w w' : World} {p3 p4 base : Nat} {bs : List (List UInt8)} (h : Bks w p3 p4 base bs) (hc : Ch S w w') (h3 : ¬ S p3) (h4 : ¬ S p4) (hS : ∀ x, base ≤ x → ¬ S x) : Bks w' p3 p4 base bs := by
  obtain ⟨a, n, c, L, a', c', L', k1, k2, k3, k4, k5⟩ := h
  exact ⟨a, n, c, L, a', c', L', k1.ch hc h3, k2.ch hc h4, k3.chB hc hS, k4.chB hc hS, k5⟩
/-- what a call of a script does -/
def TakeP (w : World) (g b g2 b2 p3 p4 base : Nat) (rem : List UInt8) (bs : List (List UInt8)) (e : Ending) (w' : World) : Prop :=
  e = .returned (.bool true) ∧ ∃ f' rem' bs', RA w' g b f' rem' ∧ RB w' g2 b2 f' rem' ∧ Bks w' p3 p4 base bs' ∧ bs'.length ≤ bs.length + 1 ∧ rem'.length ≤ rem.length ∧ (∀ x ∈ bs', x ∈ bs ∨ x.length ≤ rem.length) ∧ Ch (fun x => x = g ∨ x = g2 ∨ p3 ≤ x) w w'
theorem sizeLL : (Try.prog.info? 24).map (·.size) = some 1 := by kernel_rfl
theorem eq_dig (l : List UInt8) (hl : l.length = 32) (w : World) : (binOp .eql 74 (.agg (rowB l)) (.agg (rowB l))).run Try.prog w = .ok (.bool true) w := by
  have hlit := lits_arr (P := Try.prog) (n := 32) (k := 1) (D := 1) Try.underlying74 (by kernel_rfl) (by kernel_rfl) l hl (fun m hm => lits_byte Try.underlying5 m hm)
  have hfo : (Value.agg (l.map bval).toArray).formed Try.prog 74 = true := by
    simp [Value.formed, Try.underlying74, hl]; kernel_rfl
  have h := (eql_lits (P := Try.prog) (t := 74) (m := 5) (D := 2) (by decide) (by kernel_rfl) hfo hfo hlit hlit w).1
  rw [decide_eq_true rfl] at h
  exact h

set_option maxRecDepth 100000 in
set_option maxHeartbeats 4000000 in
theorem take_law (g b g2 b2 p3 p4 base : Nat) (f : Bool) (rem : List UInt8) (bs : List (List UInt8)) (on kind nn : Int) (w : World) (hA : RA w g b f rem) (hB : RB w g2 b2 f rem) (hK : Bks w p3 p4 base bs)
    (hbase : base ≤ w.heap.size) (hp : p3 < p4) (hpb : p4 < base) (hlt : g < p3 ∧ b < p3 ∧ g2 < p3 ∧ b2 < p3) (hne : g ≠ g2 ∧ g ≠ b2 ∧ g2 ≠ b) (hbs : bs.length ≤ 1048576) (hrl : rem.length ≤ 1048576) :
    Calls Try.prog 39 #[.pointer (some ⟨g, 0, none⟩), .pointer (some ⟨g2, 0, none⟩), .agg #[.int .i64 on, .int .i64 kind, .int .i64 nn], .pointer (some ⟨p3, 0, none⟩), .pointer (some ⟨p4, 0, none⟩)] w fun e w' => TakeP w g b g2 b2 p3 p4 base rem bs e w' := by
  have hgu : Try.prog.eqGuardType Try.prog.depth 74 = false := by kernel_rfl
  have HGU := Lib.hid hgu
  have HA0 := Lib.hid hA
  have HB0 := Lib.hid hB
  have HK0 := Lib.hid hK
  have HN := Lib.hid hne
  have HL := Lib.hid hlt
  have HBASE := Lib.hid hbase
  clear hA hB hK hgu hne hlt hbase
  go_enter Try.func39, Try.ntmps39
  go_upto_region 2 with (refine wpList_boxed rfl rfl #[.int .i64 on, .int .i64 kind, .int .i64 nn] rfl ?_; intro w0 hs0 hg0 hr0; have HG0 := Lib.hid hg0; have HR0 := Lib.hid hr0; have cK := Row.cell hr0 1; simp at cK; clear hs0 hg0 hr0)
  obtain ⟨b7, hb7⟩ : ∃ b7, b7 = w.heap.size := ⟨_, rfl⟩
  have q7 : Hid (w.heap.size ≤ b7) := Lib.hid (by rw [hb7]; exact Nat.le_refl _)
  rw [← hb7] at HR0 ⊢
  clear hb7
  have HA := Lib.hid (HA0.out.ch (Ch.ofNone HG0.out (fun _ => False)) (by simp) (by simp))
  have HB := Lib.hid (HB0.out.ch (Ch.ofNone HG0.out (fun _ => False)) (by simp) (by simp))
  have HK := Lib.hid (HK0.out.ch (Ch.ofNone HG0.out (fun _ => False)) (by simp) (by simp) (by simp))
  have HZ := Lib.hid HG0.out.size
  clear HA0 HB0 HK0 cK
  -- both readers behind a pair of calls
  have hfin : ∀ w1 w2 f' rem', RA w1 g b f' rem' → w0.grownBy w1 (some g) → RB w2 g2 b2 f' rem' → w1.grownBy w2 (some g2) → rem'.length ≤ rem.length → TakeP w g b g2 b2 p3 p4 base rem bs (.returned (.bool true)) w2 := fun w1 w2 f' rem' h1 h2 h3 h4 h5 => by
    have hn := HN.out
    have hl := HL.out
    have hbb := HBASE.out
    refine ⟨rfl, f', rem', bs, h1.ch (Ch.ofSome (S := fun x => x = g2) h4 rfl) hn.1 (fun h => hn.2.2 h.symm), h3, ?_, by omega, h5, fun x hx => .inl hx, ?_⟩
    · exact (HK.out.ch (Ch.ofSome (S := fun x => x = g) h2 rfl) (by omega) (by omega) (fun x hx => by omega)).ch (Ch.ofSome (S := fun x => x = g2) h4 rfl) (by omega) (by omega) (fun x hx => by omega)
    · exact ((Ch.ofNone HG0.out _).trans (Ch.ofSome (S := fun x => x = g ∨ x = g2 ∨ p3 ≤ x) h2 (.inl rfl)) (fun _ _ h => h)).trans (Ch.ofSome (S := fun x => x = g ∨ x = g2 ∨ p3 ≤ x) h4 (.inr (.inl rfl))) (fun _ _ h => h)
  have HFIN := Lib.hid hfin
  clear hfin
  have hsame : TakeP w g b g2 b2 p3 p4 base rem bs (.returned (.bool true)) w0 := ⟨rfl, f, rem, bs, HA.out, HB.out, HK.out, by omega, Nat.le_refl _, fun x hx => .inl hx, Ch.ofNone HG0.out _⟩
  have HSAME := Lib.hid hsame
  clear hsame
  have hB1 : ∀ w1, w0.grownBy w1 (some g) → RB w1 g2 b2 f rem := fun w1 h => by
    have hn := HN.out
    exact HB.out.ch (Ch.ofSome (S := fun x => x = g) h rfl) (fun h => hn.1 h.symm) (fun h => hn.2.1 h.symm)
  have HB1 := Lib.hid hB1
  clear hB1
  by_cases hk0 : kind = 0
  · subst hk0
    have cK := Row.cell HR0.out 1
    simp at cK
    obtain ⟨V, hV⟩ : ∃ V, V = numD f rem 1 := ⟨_, rfl⟩
    have hVlt : V < 256 := by have := numD_lt f rem 1; rw [hV]; simpa using this
    have hw64 : IntKind.u64.wrap (V : Int) = (V : Int) := IntWalk.u64_in _ (by omega)
    have HV := Lib.hid hV
    clear hV
    go_wp2_with (first
      | (go_at_call 43; refine (byteA HA.out).mono ?_; rintro e w1 ⟨rfl, h1, h2⟩; rw [← HV.out]; have H1 := Lib.hid h1; have H2 := Lib.hid h2; clear h1 h2)
      | (go_at_call 70; refine (numB 1 (by omega) (by omega) (HB1.out _ H2.out)).mono ?_; rintro e w2 ⟨rfl, h3, h4⟩; rw [← HV.out]; have H3 := Lib.hid h3; have H4 := Lib.hid h4; clear h3 h4))
    go_ret
    exact HFIN.out _ _ _ _ H1.out H2.out H3.out H4.out (remD_len _ _ _)
  by_cases hk1 : kind = 1
  · subst hk1
    have cK := Row.cell HR0.out 1
    simp at cK
    obtain ⟨V, hV⟩ : ∃ V, V = numD f rem 4 := ⟨_, rfl⟩
    have hVlt : V < 4294967296 := by have := numD_lt f rem 4; rw [hV]; simpa using this
    have hw64 : IntKind.u64.wrap (V : Int) = (V : Int) := IntWalk.u64_in _ (by omega)
    have HV := Lib.hid hV
    clear hV
    go_wp2_with (first
      | (go_at_call 44; refine (wordA HA.out).mono ?_; rintro e w1 ⟨rfl, h1, h2⟩; rw [← HV.out]; have H1 := Lib.hid h1; have H2 := Lib.hid h2; clear h1 h2)
      | (go_at_call 70; refine (numB 4 (by omega) (by omega) (HB1.out _ H2.out)).mono ?_; rintro e w2 ⟨rfl, h3, h4⟩; rw [← HV.out]; have H3 := Lib.hid h3; have H4 := Lib.hid h4; clear h3 h4))
    go_ret
    exact HFIN.out _ _ _ _ H1.out H2.out H3.out H4.out (remD_len _ _ _)
  by_cases hk2 : kind = 2
  · subst hk2
    have cK := Row.cell HR0.out 1
    simp at cK
    obtain ⟨V, hV⟩ : ∃ V, V = numD f rem 8 := ⟨_, rfl⟩
    have hVlt : V < 18446744073709551616 := by have := numD_lt f rem 8; rw [hV]; simpa using this
    have hw64 : IntKind.u64.wrap (V : Int) = (V : Int) := IntWalk.u64_in _ (by omega)
    have HV := Lib.hid hV
    clear hV
    go_wp2_with (first
      | (go_at_call 45; refine (longA HA.out).mono ?_; rintro e w1 ⟨rfl, h1, h2⟩; rw [← HV.out]; have H1 := Lib.hid h1; have H2 := Lib.hid h2; clear h1 h2)
      | (go_at_call 70; refine (numB 8 (by omega) (by omega) (HB1.out _ H2.out)).mono ?_; rintro e w2 ⟨rfl, h3, h4⟩; rw [← HV.out]; have H3 := Lib.hid h3; have H4 := Lib.hid h4; clear h3 h4))
    go_ret
    exact HFIN.out _ _ _ _ H1.out H2.out H3.out H4.out (remD_len _ _ _)
  by_cases hk3 : kind = 3
  · subst hk3
    have cK := Row.cell HR0.out 1
    simp at cK
    have hgu := HGU.out
    obtain ⟨l, hl⟩ : ∃ l, l = d32 (pD f rem 32) := ⟨_, rfl⟩
    have hl32 : l.length = 32 := by rw [hl]; exact d32_len (pD32 f rem)
    have heq := eq_dig l hl32
    have HLL := Lib.hid hl
    obtain ⟨R, hR⟩ : ∃ R, R = rowB l := ⟨_, rfl⟩
    rw [← hR] at heq
    have HRR := Lib.hid hR
    clear hl hR hl32
    go_wp2_with (first
      | (go_at_call 46; refine (digA HA.out).mono ?_; rintro e w1 ⟨rfl, h1, h2⟩; rw [← HLL.out, ← HRR.out]; have H1 := Lib.hid h1; have H2 := Lib.hid h2; clear h1 h2)
      | (go_at_call 71; refine (digB (HB1.out _ H2.out)).mono ?_; rintro e w2 ⟨rfl, h3, h4⟩; rw [← HLL.out, ← HRR.out]; have H3 := Lib.hid h3; have H4 := Lib.hid h4; clear h3 h4))
    go_ret
    exact HFIN.out _ _ _ _ H1.out H2.out H3.out H4.out (remD_len _ _ _)
  by_cases hk4 : kind = 4
  · subst hk4
    have cK := Row.cell HR0.out 1
    have cN := Row.cell HR0.out 2
    simp at cK cN
    have hn := HN.out
    have hl := HL.out
    have hbb := HBASE.out
    have hz := HZ.out
    have hq7 := q7.out
    obtain ⟨ag, m, cg, Lg, aw, cw, Lw, r30, r40, lg0, lw0, dj⟩ := HK.out
    have hm : bs.length = m := by have h1 := lg0.outer.len; have h2 := lg0.len; omega
    go_upto_region 11 with fail
    go_wp2_with fail
    refine (bytesA nn HA.out).mono ?_
    rintro e w1 ⟨a1, n1, c1, rfl, o1, h1, h2⟩
    have cN1 := Row.cell (HR0.out.grownNe h2 (by omega)) 2
    simp at cN1
    have H1 := Lib.hid h1
    have H2 := Lib.hid h2
    have O1 := Lib.hid o1
    clear cN h1 h2 o1
    go_wp2_with fail
    refine (bytesB nn (HB1.out _ H2.out)).mono ?_
    rintro e w2 ⟨a2, n2, c2, rfl, o2, h3, h4⟩
    have hsz1 := H2.out.size
    have hsz2 := h4.size
    have O1' := Lib.hid (show BOwn w2 w0.heap.size a1 n1 c1 (pD f rem nn) from Own.ch O1.out (Ch.ofSome (S := fun x => x = g2) h4 rfl) (fun h0 x e hx => by
      obtain ⟨q, e', k1, k2⟩ := Own.block O1.out h0
      rw [e'] at e
      obtain rfl : q = x := congrArg Addr.block (Option.some.inj e)
      omega))
    have O2 := Lib.hid o2
    have ch1 : Ch (fun x => x = g) w0 w1 := Ch.ofSome H2.out rfl
    have ch2 : Ch (fun x => x = g2) w1 w2 := Ch.ofSome h4 rfl
    have HA2 := Lib.hid (H1.out.ch ch2 hn.1 (fun h => hn.2.2 h.symm))
    have HB2 := Lib.hid h3
    have lw1 := lw0.chB ch1 (fun x hx => by omega)
    have LW1 := Lib.hid lw1
    have LG0 := Lib.hid lg0
    have LW0 := Lib.hid lw0
    have LG2 := Lib.hid ((lg0.chB ch1 (fun x hx => by omega)).chB ch2 (fun x hx => by omega))
    have LW2 := Lib.hid (lw1.chB ch2 (fun x hx => by omega))
    have r32 := (r30.ch ch1 (by omega)).ch ch2 (by omega)
    have R42 := Lib.hid ((r40.ch ch1 (by omega)).ch ch2 (by omega))
    have CH2 := Lib.hid (((Ch.ofNone HG0.out (fun x => x = g ∨ x = g2 ∨ p3 ≤ x)).trans ch1 (fun _ _ h => .inl h)).trans ch2 (fun _ _ h => .inr (.inl h)))
    have c13 := Row.cell r32 0
    simp at c13
    have R32 := Lib.hid r32
    have HZ12 := Lib.hid hsz1
    have HZ22 := Lib.hid hsz2
    have DJ := Lib.hid dj
    have hb2 : base ≤ w2.heap.size := by omega
    have HIN0 : ∀ x, In ag cg x → base ≤ x ∧ x < w0.heap.size := fun x h => Own.inn lg0.outer h
    have HIN0' := Lib.hid HIN0
    have HINW : ∀ x, In aw cw x → base ≤ x ∧ x < w0.heap.size := fun x h => Own.inn lw0.outer h
    have HINW' := Lib.hid HINW
    have HP := Lib.hid hp
    have HPB := Lib.hid hpb
    have HB2' := Lib.hid hb2
    have HQ7 := Lib.hid hq7
    clear hn hl hbb hz hq7 hsz1 hsz2 o2 ch1 ch2 h3 h4 lw1 lg0 lw0 r30 r40 r32 dj hb2 HIN0 HINW cN1 hp hpb H1 H2 O1 HA HB HB1 HFIN HSAME HK HR0
    go_upto_region 14 with (first
      | (at_builtin; refine wpList_push elS rfl (.tmp 58) (.tmp 60) rfl rfl LG2.out.outer (.slice a1 n1 c1) rfl rfl (by unfold maxLen; omega) (by omega) HB2'.out ?_; intro g7 c7 w7 hown7 hgr7; have HO7 := Lib.hid hown7; have HGR7 := Lib.hid hgr7; clear hown7 hgr7)
      | (refine wpList_put1 rfl rfl p3 rfl (.slice (some ⟨g7, 0, none⟩) (m + 1) c7) rfl (R32.out.ch HGR7.out.ch (fun h => by have := HIN0'.out _ h; have := HP.out; have := HPB.out; omega)) sizeLL rfl ?_; intro W1 hs1 hg1 hr1; have HS1 := Lib.hid hs1; have HG1 := Lib.hid hg1; have R3W := Lib.hid hr1; clear hs1 hg1 hr1))
    have hp := HP.out
    have hpb := HPB.out
    have hn := HN.out
    have hl := HL.out
    have hbb := HBASE.out
    have hz := HZ.out
    have hz1 := HZ12.out
    have hz2 := HZ22.out
    have ch7 := HGR7.out.ch
    have chp : Ch (fun x => x = p3) w7 W1 := Ch.ofSome HG1.out rfl
    have hin0 := HIN0'.out
    have hinw := HINW'.out
    have lg7 := LIs.pushC LG0.out (show base ≤ w0.heap.size by omega) LG2.out O1'.out HO7.out HGR7.out
    have LG1 := Lib.hid (lg7.chB chp (fun x hx => by omega))
    have lw7 := LIs.grewOff LW2.out LG2.out.outer HGR7.out (fun x h1 h2 => DJ.out x h2 h1)
    have LWW := Lib.hid (lw7.chB chp (fun x hx => by omega))
    have far : ∀ {a n c l q}, BOwn w2 q a n c l → w0.heap.size ≤ q → BOwn W1 q a n c l := fun {a n c l q} h hq => by
      have k1 : BOwn w7 q a n c l := Own.ch h ch7 (fun h0 x e hx => by
        obtain ⟨y, e', k1, k2⟩ := Own.block h h0
        rw [e'] at e
        obtain rfl : y = x := congrArg Addr.block (Option.some.inj e)
        have := hin0 _ hx
        omega)
      exact Own.ch k1 chp (fun h0 x e hx => by
        obtain ⟨y, e', k2, k3⟩ := Own.block h h0
        rw [e'] at e
        obtain rfl : y = x := congrArg Addr.block (Option.some.inj e)
        omega)
    have O1W := Lib.hid (far O1'.out (Nat.le_refl _))
    have O2W := Lib.hid (far O2.out hz1)
    have r4W := (R42.out.ch ch7 (fun h => by have := hin0 _ h; omega)).ch chp (by omega)
    have c14 := Row.cell r4W 0
    simp at c14
    have R4W := Lib.hid r4W
    have HAW := Lib.hid ((HA2.out.ch ch7 (fun h => by have := hin0 _ h; omega) (fun h => by have := hin0 _ h; omega)).ch chp (by omega) (by omega))
    have HBW := Lib.hid ((HB2.out.ch ch7 (fun h => by have := hin0 _ h; omega) (fun h => by have := hin0 _ h; omega)).ch chp (by omega) (by omega))
    have CHW := Lib.hid ((CH2.out.trans ch7 (fun x _ h => .inr (.inr (by have := hin0 _ h; omega)))).trans chp (fun x _ h => .inr (.inr (by omega))))
    have DJ1 : Hid (∀ x, In (some ⟨g7, 0, none⟩) c7 x → In aw cw x → False) := Lib.hid (fun x h1 h2 => by
      rcases HGR7.out.inn h1 with h | h
      · exact DJ.out x h h2
      · have := hinw _ h2
        omega)
    have hbW : base ≤ W1.heap.size := by have h1 := HS1.out; have h2 := ch7.size; omega
    have HBW' := Lib.hid hbW
    clear hp hpb hn hl hbb hz hz1 hz2 ch7 chp hin0 hinw lg7 lw7 far r4W c13 hbW
    go_upto_region 15 with (first
      | (at_builtin; refine wpList_push elS rfl (.tmp 66) (.tmp 68) rfl rfl LWW.out.outer (.slice a2 n2 c2) rfl rfl (by unfold maxLen; omega) (by omega) HBW'.out ?_; intro g8 c8 w8 hown8 hgr8; have HO8 := Lib.hid hown8; have HGR8 := Lib.hid hgr8; clear hown8 hgr8)
      | (refine wpList_put1 rfl rfl p4 rfl (.slice (some ⟨g8, 0, none⟩) (m + 1) c8) rfl (R4W.out.ch HGR8.out.ch (fun h => by have := HINW'.out _ h; have := HPB.out; omega)) sizeLL rfl ?_; intro W2 hs2 hg2 hr2; have HS2 := Lib.hid hs2; have HG2 := Lib.hid hg2; have R4X := Lib.hid hr2; clear hs2 hg2 hr2))
    have hp := HP.out
    have hpb := HPB.out
    have hn := HN.out
    have hl := HL.out
    have hbb := HBASE.out
    have hz := HZ.out
    have hz1 := HZ12.out
    have ch8 := HGR8.out.ch
    have chq : Ch (fun x => x = p4) w8 W2 := Ch.ofSome HG2.out rfl
    have hinw := HINW'.out
    have lw8 := LIs.pushC LW1.out (show base ≤ w1.heap.size by omega) LWW.out O2W.out HO8.out HGR8.out
    have LWX := Lib.hid (lw8.chB chq (fun x hx => by omega))
    have lg8 := LIs.grewOff LG1.out LWW.out.outer HGR8.out DJ1.out
    have LGX := Lib.hid (lg8.chB chq (fun x hx => by omega))
    have far : ∀ {a n c l q}, BOwn W1 q a n c l → w0.heap.size ≤ q → BOwn W2 q a n c l := fun {a n c l q} h hq => by
      have k1 : BOwn w8 q a n c l := Own.ch h ch8 (fun h0 x e hx => by
        obtain ⟨y, e', k1, k2⟩ := Own.block h h0
        rw [e'] at e
        obtain rfl : y = x := congrArg Addr.block (Option.some.inj e)
        have := hinw _ hx
        omega)
      exact Own.ch k1 chq (fun h0 x e hx => by
        obtain ⟨y, e', k2, k3⟩ := Own.block h h0
        rw [e'] at e
        obtain rfl : y = x := congrArg Addr.block (Option.some.inj e)
        omega)
    have o1x := far O1W.out (Nat.le_refl _)
    have o2x := far O2W.out hz1
    have R3X := Lib.hid ((R3W.out.ch ch8 (fun h => by have := hinw _ h; omega)).ch chq (by omega))
    have HAX := Lib.hid ((HAW.out.ch ch8 (fun h => by have := hinw _ h; omega) (fun h => by have := hinw _ h; omega)).ch chq (by omega) (by omega))
    have HBX := Lib.hid ((HBW.out.ch ch8 (fun h => by have := hinw _ h; omega) (fun h => by have := hinw _ h; omega)).ch chq (by omega) (by omega))
    have CHX := Lib.hid ((CHW.out.trans ch8 (fun x _ h => .inr (.inr (by have := hinw _ h; omega)))).trans chq (fun x _ h => .inr (.inr (by omega))))
    have DJX : Hid (∀ x, In (some ⟨g7, 0, none⟩) c7 x → In (some ⟨g8, 0, none⟩) c8 x → False) := Lib.hid (fun x h1 h2 => by
      rcases HGR8.out.inn h2 with h | h
      · exact DJ1.out x h1 h
      · have := Own.inn LG1.out.outer h1
        omega)
    have hpl := pD_len f rem nn
    have hl1 : (pD f rem nn).length = n1 := BOwn.len o1x
    have hl2 : (pD f rem nn).length = n2 := BOwn.len o2x
    have HSA := Lib.hid (same_n a1 a2 c1 c2 n1 n2 (pD f rem nn) (pD f rem nn) W2 (BOwn.lies o1x) (BOwn.lies o2x) hl1 hl2 (by unfold maxLen; omega))
    clear hp hpb hn hl hbb hz hz1 ch8 chq hinw lw8 lg8 far o1x o2x hl1 hl2 c14
    go_wp2_with fail
    refine HSA.out.mono ?_
    rintro e w9 ⟨rfl, q, rfl⟩
    go_wp2_with fail
    go_ret
    have cd : Ch (fun _ => False) W2 (W2.drewN q) := Ch.ofNone (grownBy_drewN W2 q none) _
    refine ⟨rfl, fD f rem nn, remD f rem nn, bs ++ [pD f rem nn], HAX.out.ch cd (by simp) (by simp), HBX.out.ch cd (by simp) (by simp), ⟨_, _, _, _, _, _, _, R3X.out.ch cd (by simp), R4X.out.ch cd (by simp), LGX.out.chB cd (by simp), LWX.out.chB cd (by simp), DJX.out⟩, by simp, remD_len _ _ _, fun x hx => ?_, CHX.out.then (grownBy_drewN W2 q none)⟩
    rw [List.mem_append, List.mem_singleton] at hx
    rcases hx with h | rfl
    · exact .inl h
    · exact .inr hpl
  by_cases hk5 : kind = 5
  · subst hk5
    have cK := Row.cell HR0.out 1
    simp at cK
    have hl := leftD f rem
    obtain ⟨V, hV⟩ : ∃ V, V = leftD f rem := ⟨_, rfl⟩
    have HV := Lib.hid hV
    clear hV hl
    go_wp2_with (first
      | (go_at_call 33; refine (leftA HA.out).mono ?_; rintro e w1 ⟨rfl, rfl⟩; rw [← HV.out])
      | (go_at_call 40; refine (leftB HB.out).mono ?_; rintro e w1 ⟨rfl, rfl⟩; rw [← HV.out]))
    go_ret
    exact HSAME.out
  have cK := Row.cell HR0.out 1
  simp at cK
  obtain ⟨V, hV⟩ : ∃ V, V = endD f rem := ⟨_, rfl⟩
  have HV := Lib.hid hV
  clear hV
  go_wp2_with (first
    | (go_at_call 36; refine (endA HA.out).mono ?_; rintro e w1 ⟨rfl, rfl⟩; rw [← HV.out])
    | (go_at_call 42; refine (endB HB.out).mono ?_; rintro e w1 ⟨rfl, rfl⟩; rw [← HV.out]))
  go_ret
  exact HSAME.out
end Go.Proofs.Ythemlaibjchjpaa
/- CopyBytes. -/
namespace Go.Proofs.Ythemlaibjchjpaa
open Go.RowKit

set_option maxRecDepth 100000 in
set_option maxHeartbeats 1000000 in
theorem copyB_n (a : Option Addr) (c n : Nat) (l : List UInt8) (w : World) (ha : BLies w a l) (hl : l.length = n) (hn : n ≤ 4000000000) :
    Calls Try.prog 37 #[.slice a n c] w fun e w' => ∃ a' c', e = .returned (.slice a' n c') ∧ BOwn w' w.heap.size a' n c' l ∧ w.grownBy w' none := by
  obtain ⟨a', c', w1, hr, ho, hc, _⟩ := run_appB w (base := w.heap.size) (a := none) (n := 0) (c := 0) (l := []) (Own.nil _ _ _ _ _) a n c l ha hl (by omega) (Nat.le_refl _) 22
  rw [Nat.zero_add, List.nil_append] at *
  have HR := Lib.hid hr
  have HO := Lib.hid ho
  have HG := Lib.hid (Ch.fresh (World.grownBy.refl w none) hc (fun g _ h => by have := h.1; omega))
  clear hr ho hc
  go_enter Try.func37, Try.ntmps37
  go_wp2_with (at_builtin; go_loud (refine Lib.wpList_append_run _ rfl _ _ _ _ rfl _ _ rfl rfl _ _ HR.out ?_))
  go_ret
  exact ⟨_, _, rfl, HO.out, HG.out⟩

end Go.Proofs.Ythemlaibjchjpaa
/- Pick. -/
namespace Go.Proofs.Ythemlaibjchjpaa
open Go.RowKit
set_option maxRecDepth 100000 in
set_option maxHeartbeats 1000000 in
theorem pick_n (x n : Int) (hn : 1 ≤ n) (hn2 : n ≤ 1000000000) (w : World) : Calls Try.prog 38 #[.int .i64 x, .int .i64 n] w fun e w' => (∃ r : Nat, e = .returned (.int .i64 (r : Int)) ∧ (r : Int) < n) ∧ w = w' := by
  obtain ⟨m, hm⟩ : ∃ m, m = x.tmod n := ⟨_, rfl⟩
  have h1 : m < n := by rw [hm]; exact Int.tmod_lt_of_pos x (by omega)
  have h2 : -n < m := by
    rw [hm]
    have := Int.lt_tmod_of_pos x (show 0 < n by omega)
    omega
  have w1 : IntKind.i64.wrap m = m := IntWalk.i64_in _ (by omega)
  have w2 : IntKind.i64.wrap (m + n) = m + n := IntWalk.i64_in _ (by omega)
  have hn0 : ¬ n = 0 := by omega
  have hm' : x.tmod n = m := hm.symm
  have w3 : IntKind.i64.wrap (x.tmod n) = m := by rw [hm', w1]
  clear hm
  by_cases h3 : m < 0
  · go_enter Try.func38, Try.ntmps38
    go_wp2_with fail
    go_ret
    exact ⟨⟨(m + n).toNat, by simp; omega, by omega⟩, rfl⟩
  · go_enter Try.func38, Try.ntmps38
    go_wp2_with fail
    go_ret
    exact ⟨⟨m.toNat, by simp; omega, by omega⟩, rfl⟩

end Go.Proofs.Ythemlaibjchjpaa
/- A script of Takes that came in, read: each of its three numbers; its length within the bulk. -/
namespace Go.Proofs.Ythemlaibjchjpaa
open Go.ChangeShapes Go.WideShapes Go.ChangeAt Go.RowKit

set_option maxRecDepth 100000 in
set_option maxHeartbeats 1000000 in
theorem rd_takeRows {H : Type} {enc : TypeId × Value → H} {W : World} {base : Nat} {spare : Nat → Bool} {held : Bool} {fuel : Nat} {a : Option Addr} {len cap : Nat} {d : DataW H} {p : List MemPlace}
    (h : DataW.trod enc Try.prog W base spare held fuel 56 [.slice a len cap] = some (d, p)) : len ≤ Rows.uptoBulk d ∧ ∀ i, i < len → ∃ b off x y z, a = some ⟨b, off, none⟩ ∧ W.rangeAt b (off + i * 3) [.int .i64 x, .int .i64 y, .int .i64 z] := by
  rcases Go.Deep.open_slice Try.underlying56 h with ⟨hcs, _⟩ | ⟨a', len', cap', m, n, D, Pl, hcs, hb, hl, hm, hmm, hx, hall⟩
  · injection hcs with hcs; injection hcs with h1 h2 h3
    subst h2
    exact ⟨by omega, fun i hi => absurd hi (by simp)⟩
  · injection hcs with hcs; injection hcs with h1 h2 h3
    subst h1 h2 h3
    have hlm : len ≤ m := by rw [hmm]; split <;> omega
    have hce : Try.prog.cellsOf 62 = 3 := by kernel_rfl
    injection hx with hx _
    subst hx
    have hbulk := bulk_slice (H := H) ((List.range len).map D) ((List.range (m - len)).map fun j => D (len + j))
    have hlen := bulk_length ((List.range len).map D)
    rw [List.length_map, List.length_range] at hlen
    refine ⟨by omega, fun i hi => ?_⟩
    obtain ⟨cs', h1, h2⟩ := hall i (by omega)
    rw [hce] at h1
    obtain ⟨_, hlen, hcell⟩ := World.cells?_some h1
    obtain ⟨xs, n', _, _, _, hxl, hf⟩ := DataW.trod_struct Try.underlying62 h2
    have hxl3 : xs.length = 3 := hxl
    have q0 := hf 0 _ rfl
    have q1 := hf 1 _ rfl
    have q2 := hf 2 _ rfl
    obtain ⟨y0, y1, y2, rfl⟩ : ∃ y0 y1 y2, xs = [y0, y1, y2] := by
      match xs, hxl3 with
      | [y0, y1, y2], _ => exact ⟨y0, y1, y2, rfl⟩
    obtain ⟨x, e0, _, _⟩ := DataW.trod_int (P := Try.prog) Try.underlying3 q0
    obtain ⟨y, e1, _, _⟩ := DataW.trod_int (P := Try.prog) Try.underlying3 q1
    obtain ⟨z, e2, _, _⟩ := DataW.trod_int (P := Try.prog) Try.underlying3 q2
    obtain ⟨c0, c1, c2, rfl⟩ : ∃ c0 c1 c2, cs' = [c0, c1, c2] := by
      match cs', hlen with
      | [c0, c1, c2], _ => exact ⟨c0, c1, c2, rfl⟩
    have f0 : [c0] = [.int .i64 x] := e0
    have f1 : [c1] = [.int .i64 y] := e1
    have f2 : [c2] = [.int .i64 z] := e2
    injection f0 with f0
    injection f1 with f1
    injection f2 with f2
    subst f0 f1 f2
    obtain ⟨b, off, spot⟩ := a'
    have hspot : spot = none := by
      obtain ⟨cs0, k1, _⟩ := hall 0 (by omega)
      rw [hce] at k1
      obtain ⟨_, klen, kcell⟩ := World.cells?_some k1
      have k0 := kcell 0 (by omega)
      rw [List.getElem?_eq_getElem (show 0 < cs0.length by omega)] at k0
      simpa [Addr.add] using World.cell?_spot k0
    subst hspot
    refine ⟨b, off, x, y, z, rfl, fun j v hj => ?_⟩
    have hj3 : j < 3 := by
      rcases Nat.lt_or_ge j 3 with h | h
      · exact h
      · rw [List.getElem?_eq_none (by simpa using h)] at hj; cases hj
    have hc : W.cell? (((⟨b, off, none⟩ : Addr).add (i * 3)).add j) = ([.int .i64 x, .int .i64 y, .int .i64 z] : List Value)[j]? := hcell j (by omega)
    rw [Go.WideShapes.add_plain, Go.WideShapes.add_plain] at hc
    rw [hc, hj]
end Go.Proofs.Ythemlaibjchjpaa
/- The law OctetReads. Printed by gens/octreads.py. -/
namespace Go.Proofs.Ythemlaibjchjpaa
open Go.RowKit

theorem RA.grown {w w' : World} {g b : Nat} {f : Bool} {rem : List UInt8} (h : RA w g b f rem) (hg : w.grownBy w' none) : RA w' g b f rem := h.ch (Ch.ofNone hg (fun _ => False)) (fun h => h) (fun h => h)
theorem RB.grown {w w' : World} {g b : Nat} {f : Bool} {rem : List UInt8} (h : RB w g b f rem) (hg : w.grownBy w' none) : RB w' g b f rem := h.ch (Ch.ofNone hg (fun _ => False)) (fun h => h) (fun h => h)
theorem RA.off {w w' : World} {g b q : Nat} {f : Bool} {rem : List UInt8} (h : RA w g b f rem) (hg : w.grownBy w' (some q)) (h1 : g ≠ q) (h2 : b ≠ q) : RA w' g b f rem := h.ch (Ch.ofSome (S := fun x => x = q) hg rfl) h1 h2
theorem RB.off {w w' : World} {g b q : Nat} {f : Bool} {rem : List UInt8} (h : RB w g b f rem) (hg : w.grownBy w' (some q)) (h1 : g ≠ q) (h2 : b ≠ q) : RB w' g b f rem := h.ch (Ch.ofSome (S := fun x => x = q) hg rfl) h1 h2
theorem Bks.grown {w w' : World} {p3 p4 base : Nat} {bs : List (List UInt8)} (h : Bks w p3 p4 base bs) (hg : w.grownBy w' none) : Bks w' p3 p4 base bs := h.ch (Ch.ofNone hg (fun _ => False)) (fun h => h) (fun h => h) (fun _ _ h => h)
theorem newRA (a : Option Addr) (c n : Nat) (l : List UInt8) (w : World) (ha : BLies w a l) (hl : l.length = n) (hn : n ≤ 4000000000) :
    Calls Try.prog 32 #[.slice a n c] w fun e w' => ∃ g b, e = .returned (.pointer (some ⟨g, 0, none⟩)) ∧ (w.heap.size ≤ b ∧ b ≤ g ∧ g < w'.heap.size) ∧ RA w' g b false l ∧ w.grownBy w' none := by
  refine (newReader2_n a c n l w ha hl (by omega)).mono ?_
  rintro e w' ⟨g, la, lc, rfl, hge, hr, hg, hb⟩
  rcases Nat.eq_zero_or_pos n with h0 | h0
  · exact ⟨g, g, rfl, ⟨hge, Nat.le_refl _, hr.row.lt⟩, ⟨la, n, lc, hr, fun h => by omega, hn⟩, hg⟩
  · obtain ⟨b, off, rfl⟩ := hr.lies.addr (by have := hr.len; omega)
    have h1 := hb h0 b off rfl
    exact ⟨g, b, rfl, ⟨h1.1, by omega, hr.row.lt⟩, ⟨_, n, lc, hr, fun _ x o e => by injection e with e; injection e with e; omega, hn⟩, hg⟩
theorem mkRB {w w2 : World} {base g : Nat} {a : Option Addr} {n c : Nat} {l : List UInt8} (ho : BOwn w base a n c l) (hg : w.grownBy w2 none) (hr : Row w2 g 59 #[.slice a n c, .bool false]) (hge : w.heap.size ≤ g) (hb : base ≤ g) (hn : n ≤ 4000000000) :
    ∃ b, base ≤ b ∧ b ≤ g ∧ RB w2 g b false l := by
  have hcp := ho.cap
  have hln := ho.len
  rcases Nat.eq_zero_or_pos n with h0 | h0
  · exact ⟨g, hb, Nat.le_refl _, a, n, c, ⟨hr, (BOwn.lies ho).grown hg, hln, hcp.1, hcp.2, fun h => by omega⟩, fun h => by omega, hn⟩
  · obtain ⟨q, rfl, h1, h2⟩ := Own.block ho (by omega)
    exact ⟨q, h1, by omega, _, n, c, ⟨hr, (BOwn.lies ho).grown hg, hln, hcp.1, hcp.2, fun _ x o e => by injection e with e; injection e with e; omega⟩, fun _ x o e => by injection e with e; injection e with e; omega, hn⟩
theorem size_take : (Try.prog.info? 62).map (·.size) = some 3 := by kernel_rfl
theorem info_ll : ∃ i, Try.prog.info? 24 = some i ∧ i.zero = some (.slice none 0 0) := by
  obtain ⟨i, h1, h2, _⟩ := info_parts (show (Try.prog.info? 24).map (fun i => (i.zero, i.size, i.bytes)) = some (some (.slice none 0 0), 1, 24) by kernel_rfl)
  exact ⟨i, h1, h2⟩

set_option maxRecDepth 100000 in
set_option maxHeartbeats 6000000 in
theorem reads_walk (a0 : Option Addr) (n0 c0 : Nat) (l0 : List UInt8) (a1 : Option Addr) (n1 c1 : Nat) (l1 : List UInt8) (a2 : Option Addr) (n2 c2 : Nat) (w : World) (ha0 : BLies w a0 l0) (hl0 : l0.length = n0) (hn0 : n0 ≤ 1048576) (ha1 : BLies w a1 l1) (hl1 : l1.length = n1) (hn1 : n1 ≤ 1048576)
    (hn2 : n2 ≤ 1048576) (hsc : ∀ i, i < n2 → ∃ b off x y z, a2 = some ⟨b, off, none⟩ ∧ w.rangeAt b (off + i * 3) [.int .i64 x, .int .i64 y, .int .i64 z]) :
    Calls Try.prog 7 #[.slice a0 n0 c0, .slice a1 n1 c1, .slice a2 n2 c2] w fun e w' => e = .returned (.bool true) ∧ w.grownBy w' none := by
  obtain ⟨iL, hiL, hiLz⟩ := info_ll
  have HA := Lib.hid ha0
  have HB := Lib.hid ha1
  have HLA := Lib.hid hl0
  have HLB := Lib.hid hl1
  have HSC := Lib.hid hsc
  clear ha0 ha1 hl0 hl1 hsc
  go_enter Try.func7, Try.ntmps7
  go_wp2_with fail
  refine (lent_n a0 c0 n0 l0 _ HA.out HLA.out (by omega)).mono ?_
  rintro e w1 ⟨gX, cX, rfl, o, g⟩
  have hccX := o.cap.1
  have YX : Hid (w.heap.size ≤ gX ∧ gX < w1.heap.size) := Lib.hid (by obtain ⟨g', e, h1, h2⟩ := Own.block o (by omega); injection e with e; injection e with e; subst e; exact ⟨h1, h2⟩)
  have OX := Lib.hid o
  clear o
  have Z1 := Lib.hid g.size
  have HG := Lib.hid g
  clear g
  go_wp2_with fail
  refine (lent_n a1 c1 n1 l1 _ (HB.out.grown HG.out) HLB.out (by omega)).mono ?_
  rintro e w2 ⟨gY, cY, rfl, o, g⟩
  have hccY := o.cap.1
  have YY : Hid (w1.heap.size ≤ gY ∧ gY < w2.heap.size) := Lib.hid (by obtain ⟨g', e, h1, h2⟩ := Own.block o (by omega); injection e with e; injection e with e; subst e; exact ⟨h1, h2⟩)
  have OY := Lib.hid o
  clear o
  have Z2 := Lib.hid g.size
  replace HG := Lib.hid (grownBy_trans HG.out g)
  replace OX := Lib.hid (BOwn.grown OX.out g)
  clear g
  go_wp2_with (refine wpList_valp rfl (run_pre_opA _ _ (.tmp 21) (.tmp 23) rfl (some ⟨gX, 0, none⟩) (n0 + 70) cX n0 rfl rfl (by omega)) ?_)
  refine (newRA (some ⟨gX, 0, none⟩) cX n0 l0 _ (by have h := (BOwn.lies OX.out).take n0; rwa [lent_take _ _ HLA.out] at h) HLA.out (by omega)).mono ?_
  rintro e w3 ⟨r1, b1, rfl, hy, h, g⟩
  have Yr1 : Hid (w2.heap.size ≤ b1 ∧ b1 ≤ r1 ∧ r1 < w3.heap.size) := Lib.hid hy
  have Hr1 := Lib.hid h
  clear hy h
  have Z3 := Lib.hid g.size
  replace HG := Lib.hid (grownBy_trans HG.out g)
  replace OX := Lib.hid (BOwn.grown OX.out g)
  replace OY := Lib.hid (BOwn.grown OY.out g)
  clear g
  go_wp2_with (refine wpList_valp rfl (run_pre_opA _ _ (.tmp 26) (.tmp 28) rfl (some ⟨gY, 0, none⟩) (n1 + 70) cY n1 rfl rfl (by omega)) ?_)
  refine (newRA (some ⟨gY, 0, none⟩) cY n1 l1 _ (by have h := (BOwn.lies OY.out).take n1; rwa [lent_take _ _ HLB.out] at h) HLB.out (by omega)).mono ?_
  rintro e w4 ⟨r2, b2, rfl, hy, h, g⟩
  have Yr2 : Hid (w3.heap.size ≤ b2 ∧ b2 ≤ r2 ∧ r2 < w4.heap.size) := Lib.hid hy
  have Hr2 := Lib.hid h
  clear hy h
  have Z4 := Lib.hid g.size
  replace HG := Lib.hid (grownBy_trans HG.out g)
  replace OX := Lib.hid (BOwn.grown OX.out g)
  replace OY := Lib.hid (BOwn.grown OY.out g)
  replace Hr1 := Lib.hid (Hr1.out.grown g)
  clear g
  go_wp2_with fail
  refine (kept_yes (some ⟨gX, 0, none⟩) a0 cX c0 n0 (n0 + 70) l0 _ (BOwn.lies OX.out) (HA.out.grown HG.out) HLA.out rfl (by omega)).mono ?_
  rintro e w5 ⟨rfl, g⟩
  have Z5 := Lib.hid g.size
  replace HG := Lib.hid (grownBy_trans HG.out g)
  replace OX := Lib.hid (BOwn.grown OX.out g)
  replace OY := Lib.hid (BOwn.grown OY.out g)
  replace Hr1 := Lib.hid (Hr1.out.grown g)
  replace Hr2 := Lib.hid (Hr2.out.grown g)
  clear g
  go_wp2_with fail
  refine (kept_yes (some ⟨gY, 0, none⟩) a1 cY c1 n1 (n1 + 70) l1 _ (BOwn.lies OY.out) (HB.out.grown HG.out) HLB.out rfl (by omega)).mono ?_
  rintro e w6 ⟨rfl, g⟩
  have Z6 := Lib.hid g.size
  replace HG := Lib.hid (grownBy_trans HG.out g)
  replace OX := Lib.hid (BOwn.grown OX.out g)
  replace OY := Lib.hid (BOwn.grown OY.out g)
  replace Hr1 := Lib.hid (Hr1.out.grown g)
  replace Hr2 := Lib.hid (Hr2.out.grown g)
  clear g
  go_wp2_with fail
  refine (over_n w.heap.size gX cX (n0 + 70) (lent l0) _ (Own.mono OX.out (by have z1 := Z1.out; have z2 := Z2.out; have z3 := Z3.out; have z4 := Z4.out; have z5 := Z5.out; have z6 := Z6.out; omega)) (by omega)).mono ?_
  rintro e w7 ⟨rfl, _, g⟩
  have Z7 := Lib.hid g.size
  obtain ⟨y1, y2⟩ := YX.out
  obtain ⟨y3, y4⟩ := YY.out
  obtain ⟨y5, y6, y7⟩ := Yr1.out
  obtain ⟨y8, y9, y10⟩ := Yr2.out
  have z1 := Z1.out
  have z2 := Z2.out
  have z3 := Z3.out
  have z4 := Z4.out
  have z5 := Z5.out
  have z6 := Z6.out
  replace HG := Lib.hid (grown_above HG.out ((Ch.ofSome (S := fun x => x = gX) g rfl).mono (T := fun x => w.heap.size ≤ x) (fun x _ h => by omega)))
  replace Hr1 := Lib.hid (Hr1.out.off g (by omega) (by omega))
  replace Hr2 := Lib.hid (Hr2.out.off g (by omega) (by omega))
  replace OY := Lib.hid (show BOwn w7 _ _ _ _ _ from Own.ch OY.out (Ch.ofSome (S := fun x => x = gX) g rfl) (fun _ q e hq => by injection e with e; injection e with e; omega))
  clear g y1 y2 y3 y4 y5 y6 y7 y8 y9 y10 z1 z2 z3 z4 z5 z6
  go_wp2_with fail
  refine (over_n w.heap.size gY cY (n1 + 70) (lent l1) _ (Own.mono OY.out (by have z1 := Z1.out; have z2 := Z2.out; have z3 := Z3.out; have z4 := Z4.out; have z5 := Z5.out; have z6 := Z6.out; have z7 := Z7.out; omega)) (by omega)).mono ?_
  rintro e w8 ⟨rfl, _, g⟩
  have Z8 := Lib.hid g.size
  obtain ⟨y1, y2⟩ := YX.out
  obtain ⟨y3, y4⟩ := YY.out
  obtain ⟨y5, y6, y7⟩ := Yr1.out
  obtain ⟨y8, y9, y10⟩ := Yr2.out
  have z1 := Z1.out
  have z2 := Z2.out
  have z3 := Z3.out
  have z4 := Z4.out
  have z5 := Z5.out
  have z6 := Z6.out
  have z7 := Z7.out
  replace HG := Lib.hid (grown_above HG.out ((Ch.ofSome (S := fun x => x = gY) g rfl).mono (T := fun x => w.heap.size ≤ x) (fun x _ h => by omega)))
  replace Hr1 := Lib.hid (Hr1.out.off g (by omega) (by omega))
  replace Hr2 := Lib.hid (Hr2.out.off g (by omega) (by omega))
  clear g y1 y2 y3 y4 y5 y6 y7 y8 y9 y10 z1 z2 z3 z4 z5 z6 z7
  go_wp2_with fail
  refine (copyB_n a0 c0 n0 l0 _ (HA.out.grown HG.out) HLA.out (by omega)).mono ?_
  rintro e w9 ⟨ac, cc, rfl, o, g⟩
  have OC := Lib.hid o
  clear o
  have Z9 := Lib.hid g.size
  replace HG := Lib.hid (grownBy_trans HG.out g)
  replace Hr1 := Lib.hid (Hr1.out.grown g)
  replace Hr2 := Lib.hid (Hr2.out.grown g)
  clear g
  go_upto_region 10 with (refine wpList_boxed rfl rfl #[.slice ac n0 cc, .bool false] rfl ?_; intro w10 hs g hr; have G0 := Lib.hid g; have HRW := Lib.hid hr; have HSZ := Lib.hid hs; clear hs g hr)
  obtain ⟨v1, hv1⟩ : ∃ v1, v1 = w9.heap.size := ⟨_, rfl⟩
  rw [← hv1] at HRW ⊢
  obtain ⟨d1, y1, y2, hb⟩ := mkRB OC.out G0.out HRW.out (by rw [hv1]; exact Nat.le_refl _) (by rw [hv1]; exact Z9.out) (by omega)
  have Yv1 : Hid (w8.heap.size ≤ d1 ∧ d1 ≤ v1 ∧ v1 < w10.heap.size) := Lib.hid ⟨y1, y2, hb.lt⟩
  have Hv1 := Lib.hid hb
  have g := G0.out
  clear y1 y2 hb hv1 OC HRW HSZ G0
  have Z10 := Lib.hid g.size
  replace HG := Lib.hid (grownBy_trans HG.out g)
  replace Hr1 := Lib.hid (Hr1.out.grown g)
  replace Hr2 := Lib.hid (Hr2.out.grown g)
  clear g
  go_wp2_with fail
  refine (copyB_n a1 c1 n1 l1 _ (HB.out.grown HG.out) HLB.out (by omega)).mono ?_
  rintro e w11 ⟨ac, cc, rfl, o, g⟩
  have OC := Lib.hid o
  clear o
  have Z11 := Lib.hid g.size
  replace HG := Lib.hid (grownBy_trans HG.out g)
  replace Hr1 := Lib.hid (Hr1.out.grown g)
  replace Hr2 := Lib.hid (Hr2.out.grown g)
  replace Hv1 := Lib.hid (Hv1.out.grown g)
  clear g
  go_upto_region 11 with (refine wpList_boxed rfl rfl #[.slice ac n1 cc, .bool false] rfl ?_; intro w12 hs g hr; have G0 := Lib.hid g; have HRW := Lib.hid hr; have HSZ := Lib.hid hs; clear hs g hr)
  obtain ⟨v2, hv2⟩ : ∃ v2, v2 = w11.heap.size := ⟨_, rfl⟩
  rw [← hv2] at HRW ⊢
  obtain ⟨d2, y1, y2, hb⟩ := mkRB OC.out G0.out HRW.out (by rw [hv2]; exact Nat.le_refl _) (by rw [hv2]; exact Z11.out) (by omega)
  have Yv2 : Hid (w10.heap.size ≤ d2 ∧ d2 ≤ v2 ∧ v2 < w12.heap.size) := Lib.hid ⟨y1, y2, hb.lt⟩
  have Hv2 := Lib.hid hb
  have g := G0.out
  clear y1 y2 hb hv2 OC HRW HSZ G0
  have Z12 := Lib.hid g.size
  replace HG := Lib.hid (grownBy_trans HG.out g)
  replace Hr1 := Lib.hid (Hr1.out.grown g)
  replace Hr2 := Lib.hid (Hr2.out.grown g)
  replace Hv1 := Lib.hid (Hv1.out.grown g)
  clear g
  go_upto_region 12 with (first
    | (refine wpList_made rfl rfl hiL hiLz ?_; intro w13 hs g hr; have G1 := Lib.hid g; have HP3 := Lib.hid (show Row w13 w12.heap.size 24 #[.slice none 0 0] from hr); have HS1 := Lib.hid hs; clear hs g hr)
    | (refine wpList_made rfl rfl hiL hiLz ?_; intro w14 hs g hr; have G2 := Lib.hid g; have HP4 := Lib.hid (show Row w14 w13.heap.size 24 #[.slice none 0 0] from hr); have HS2 := Lib.hid hs; clear hs g hr))
  obtain ⟨p3, hp3⟩ : ∃ p3, p3 = w12.heap.size := ⟨_, rfl⟩
  obtain ⟨p4, hp4⟩ : ∃ p4, p4 = w13.heap.size := ⟨_, rfl⟩
  rw [← hp3] at HP3 ⊢
  rw [← hp4] at HP4 ⊢
  have YP : Hid (w12.heap.size ≤ p3 ∧ p3 < p4 ∧ p4 < w14.heap.size) := Lib.hid (by have h1 := HS1.out; have h2 := HS2.out; exact ⟨by rw [hp3]; exact Nat.le_refl _, by rw [hp4]; exact HP3.out.lt, HP4.out.lt⟩)
  clear hp3 hp4
  have hbk : Bks w14 p3 p4 w14.heap.size [] := ⟨none, 0, 0, [], none, 0, [], HP3.out.grown G2.out, HP4.out, ⟨Own.nil _ _ _ _ _, rfl, fun i h => absurd h (by simp), fun i j h => absurd h (by simp)⟩, ⟨Own.nil _ _ _ _ _, rfl, fun i h => absurd h (by simp), fun i j h => absurd h (by simp)⟩, fun x h => absurd h.1 (by omega)⟩
  have HBK := Lib.hid hbk
  have g := grownBy_trans G1.out G2.out
  clear hbk HP3 HP4 G1 G2 HS1 HS2
  have Z14 := Lib.hid g.size
  replace HG := Lib.hid (grownBy_trans HG.out g)
  replace Hr1 := Lib.hid (Hr1.out.grown g)
  replace Hr2 := Lib.hid (Hr2.out.grown g)
  replace Hv1 := Lib.hid (Hv1.out.grown g)
  replace Hv2 := Lib.hid (Hv2.out.grown g)
  clear g
  obtain ⟨base, hbase⟩ : ∃ base, base = w14.heap.size := ⟨_, rfl⟩
  rw [← hbase] at HBK
  have ORD : Hid (w.heap.size ≤ b1 ∧ b1 ≤ r1 ∧ r1 < b2 ∧ b2 ≤ r2 ∧ r2 < d1 ∧ d1 ≤ v1 ∧ v1 < d2 ∧ d2 ≤ v2 ∧ v2 < p3 ∧ p3 < p4 ∧ p4 < base ∧ base ≤ w14.heap.size) := Lib.hid (by
    have z1 := Z1.out; have z2 := Z2.out; have z3 := Z3.out; have z4 := Z4.out; have z5 := Z5.out; have z6 := Z6.out; have z7 := Z7.out; have z8 := Z8.out; have z9 := Z9.out; have z10 := Z10.out; have z11 := Z11.out; have z12 := Z12.out; have z14 := Z14.out
    obtain ⟨y5, y6, y7⟩ := Yr1.out
    obtain ⟨y8, y9, y10⟩ := Yr2.out
    obtain ⟨y11, y12, y13⟩ := Yv1.out
    obtain ⟨y14, y15, y16⟩ := Yv2.out
    obtain ⟨y17, y18, y19⟩ := YP.out
    omega)
  clear hbase YX YY Yr1 Yr2 Yv1 Yv2 YP OX OY Z1 Z2 Z3 Z4 Z5 Z6 Z7 Z8 Z9 Z10 Z11 Z12 Z14
  go_wp2_with fail
  go_loopw [15] (fun vi wr => ∃ (i : Nat) (f1 : Bool) (m1 : List UInt8) (f2 : Bool) (m2 : List UInt8) (bs : List (List UInt8)), vi = .int .i64 (i : Int) ∧ i ≤ n2 ∧ RA wr r1 b1 f1 m1 ∧ RB wr v1 d1 f1 m1 ∧ RA wr r2 b2 f2 m2 ∧ RB wr v2 d2 f2 m2 ∧ Bks wr p3 p4 base bs ∧ bs.length ≤ i ∧ m1.length ≤ 1048576 ∧ m2.length ≤ 1048576 ∧ (∀ x ∈ bs, x.length ≤ 1048576) ∧ base ≤ wr.heap.size ∧ w.grownBy wr none) (fun i _ => n2 - (intOf i).toNat)
  case atStart => exact ⟨0, false, l0, false, l1, [], rfl, by omega, Hr1.out, Hv1.out, Hr2.out, Hv2.out, HBK.out, by simp, by have := HLA.out; omega, by have := HLB.out; omega, fun x h => absurd h (by simp), ORD.out.2.2.2.2.2.2.2.2.2.2.2, HG.out⟩
  case round =>
    obtain ⟨i, f1, m1, f2, m2, bs, rfl, hi, hra, hrb, hra2, hrb2, hbk, hbl, hm1, hm2, hbx, hbz, hgr⟩ := hrel
    clear Hr1 Hr2 Hv1 Hv2 HBK HG
    have RA1 := Lib.hid hra
    have RB1 := Lib.hid hrb
    have RA2 := Lib.hid hra2
    have RB2 := Lib.hid hrb2
    have BK := Lib.hid hbk
    have BX := Lib.hid hbx
    have BZ := Lib.hid hbz
    have GR := Lib.hid hgr
    by_cases hlt : i < n2
    · obtain ⟨bS, oS, x, y, z, rfl, hrow⟩ := HSC.out i hlt
      have hrow' : wr.rangeAt bS (oS + i * 3) [.int .i64 x, .int .i64 y, .int .i64 z] := fun j v hj => by
        have h1 := hrow j v hj
        exact (World.cell?_of_block (hgr.block bS (World.block_lt_of_cell? w _ h1) (by simp))).trans h1
      have cO : wr.cell? ⟨bS, oS + i * 3, none⟩ = some (.int .i64 x) := hrow' 0 _ rfl
      have HROW := Lib.hid hrow'
      clear hra hrb hra2 hrb2 hbk hbx hbz hgr hrow hrow'
      go_upto_region 16 with fail
      go_wp2_with fail
      refine (pick_n x 2 (by omega) (by omega) wr).mono ?_
      rintro e w' ⟨⟨pk, rfl, hpk⟩, rfl⟩
      clear hpk cO
      have hfit : ∀ (g b g2 b2' : Nat) (f : Bool) (m : List UInt8) (w2 : World), TakeP wr g b g2 b2' p3 p4 base m bs (.returned (.bool true)) w2 → (w.heap.size ≤ g ∧ w.heap.size ≤ g2) → m.length ≤ 1048576 → ∃ f' m' bs', RA w2 g b f' m' ∧ RB w2 g2 b2' f' m' ∧ Bks w2 p3 p4 base bs' ∧ bs'.length ≤ i + 1 ∧ m'.length ≤ 1048576 ∧ (∀ x ∈ bs', x.length ≤ 1048576) ∧ base ≤ w2.heap.size ∧ w.grownBy w2 none ∧ Ch (fun x => x = g ∨ x = g2 ∨ p3 ≤ x) wr w2 := fun g b g2 b2' f m w2 h hgs hm => by
        obtain ⟨_, f', m', bs', h1, h2, h3, h4, h5, h6, h7⟩ := h
        have ho := ORD.out
        refine ⟨f', m', bs', h1, h2, h3, by omega, by omega, fun x hx => ?_, Nat.le_trans BZ.out h7.size, Ch.fresh GR.out h7 (fun q hq hs => by omega), h7⟩
        rcases h6 x hx with h | h
        · exact BX.out x h
        · omega
      have HFIT := Lib.hid hfit
      clear hfit
      by_cases hpk0 : pk = 0
      · subst hpk0
        have HT := Lib.hid (take_law r1 b1 v1 d1 p3 p4 base f1 m1 bs x y z wr RA1.out RB1.out BK.out BZ.out (by have := ORD.out; omega) (by have := ORD.out; omega) (by have := ORD.out; omega) (by have := ORD.out; omega) (by omega) hm1)
        go_wp2_with (first
          | (refine wpList_load_mid rfl 62 _ rfl bS (oS + i * 3) rfl [.int .i64 x, .int .i64 y, .int .i64 z] _ HROW.out Try.underlying62 rfl (by rw [size_take]; rfl) ?_)
          | (go_at_call 39; refine HT.out.mono ?_; rintro e w2 ⟨rfl, ht⟩; have HT2 := Lib.hid ht; clear ht))
        go_roundw
        case rel =>
          have ho := ORD.out
          obtain ⟨f', m', bs', k1, k2, k3, k4, k5, k6, k7, k8, k9⟩ := HFIT.out r1 b1 v1 d1 f1 m1 _ ⟨rfl, HT2.out⟩ (by omega) hm1
          exact ⟨i + 1, f', m', f2, m2, bs', by go_num, by omega, k1, k2, RA2.out.ch k9 (by omega) (by omega), RB2.out.ch k9 (by omega) (by omega), k3, k4, k5, hm2, k6, k7, k8⟩
        case measure => simp [intOf]; omega
      · have HT := Lib.hid (take_law r2 b2 v2 d2 p3 p4 base f2 m2 bs x y z wr RA2.out RB2.out BK.out BZ.out (by have := ORD.out; omega) (by have := ORD.out; omega) (by have := ORD.out; omega) (by have := ORD.out; omega) (by omega) hm2)
        have hpd : decide (pk = 0) = false := by simp [hpk0]
        have hpd2 : decide ((pk : Int) = 0) = false := by simp [hpk0]
        go_wp2_with (first
          | (refine wpList_load_mid rfl 62 _ rfl bS (oS + i * 3) rfl [.int .i64 x, .int .i64 y, .int .i64 z] _ HROW.out Try.underlying62 rfl (by rw [size_take]; rfl) ?_)
          | (go_at_call 39; refine HT.out.mono ?_; rintro e w2 ⟨rfl, ht⟩; have HT2 := Lib.hid ht; clear ht))
        go_roundw
        case rel =>
          have ho := ORD.out
          obtain ⟨f', m', bs', k1, k2, k3, k4, k5, k6, k7, k8, k9⟩ := HFIT.out r2 b2 v2 d2 f2 m2 _ ⟨rfl, HT2.out⟩ (by omega) hm2
          exact ⟨i + 1, f1, m1, f', m', bs', by go_num, by omega, RA1.out.ch k9 (by omega) (by omega), RB1.out.ch k9 (by omega) (by omega), k1, k2, k3, k4, hm1, k5, k6, k7, k8⟩
        case measure => simp [intOf]; omega
    · obtain rfl : i = n2 := by omega
      obtain ⟨ag, m, cg, Lg, aw, cw, Lw, q3, q4, lg, lw, dj⟩ := hbk
      have hm : bs.length = m := by have h1 := lg.outer.len; have h2 := lg.len; omega
      have hLm : Lg.length = m := by have h2 := lg.len; omega
      have c13 := Row.cell q3 0
      have c14 := Row.cell q4 0
      simp at c13 c14
      have Q3 := Lib.hid q3
      have LG := Lib.hid lg
      have LW := Lib.hid lw
      have HM := Lib.hid hm
      have HLM := Lib.hid hLm
      clear hra hrb hra2 hrb2 hbx hbz hgr q3 q4 lg lw dj hm hLm
      go_upto_region 21 with fail
      go_wp2_with fail
      refine (sameLists_n ag aw cg cw m m Lg Lw bs bs _ (LIs.liesT LG.out) (LIs.liesT LW.out) HM.out HM.out (by have := HM.out; unfold maxLen; omega) (fun p hp => by have := BX.out p hp; unfold maxLen; omega)).mono ?_
      rintro e w5' ⟨rfl, qd, hq⟩
      have g : wr.grownBy w5' none := by rw [hq]; exact grownBy_drewN _ _ _
      clear hq
      replace RA1 := Lib.hid (RA1.out.grown g)
      replace RB1 := Lib.hid (RB1.out.grown g)
      replace RA2 := Lib.hid (RA2.out.grown g)
      replace RB2 := Lib.hid (RB2.out.grown g)
      replace LG := Lib.hid (LG.out.grown g)
      replace GR := Lib.hid (grownBy_trans GR.out g)
      have BZ5 := Lib.hid (Nat.le_trans BZ.out g.size)
      have c13' := Row.cell (Q3.out.grown g) 0
      simp at c13'
      clear c13 c14 g
      go_wp2_with fail
      have hall : ∀ q ∈ Lg, ∃ u, BOwn w5' base q.a q.n q.c u ∧ q.n ≤ 100000000 := fun q hm => by
        obtain ⟨i, hi, rfl⟩ := List.getElem_of_mem hm
        have hib : i < bs.length := by have h1 := HM.out; have h2 := HLM.out; omega
        have h1 := LG.out.inner i hi hib
        have h2 := BX.out _ (List.getElem_mem hib)
        have h3 := h1.len
        exact ⟨_, h1, by omega⟩
      have hst : TSt1 base ag cg Lg w5' 0 0 w5' := tst1_own LG.out.outer (fun j hj => by
        obtain ⟨u, h1, _⟩ := hall _ (List.getElem_mem hj)
        exact ⟨u, h1⟩)
      refine (apartT_n base ag cg m Lg w5' hst BZ5.out LG.out.apart HLM.out (by have := HM.out; omega) (fun j hj => (hall _ (List.getElem_mem hj)).choose_spec.2)).mono ?_
      rintro e w6' ⟨rfl, hbel⟩
      have ho := ORD.out
      have BZ6 := Lib.hid (Nat.le_trans BZ5.out hbel.toBelow.size)
      have chb : Ch (fun x => base ≤ x) w5' w6' := ⟨hbel.toBelow.os, hbel.toBelow.tape, hbel.toBelow.output, hbel.toBelow.size, fun k hk hn => hbel.toBelow.block k (by omega)⟩
      replace RA1 := Lib.hid (RA1.out.ch chb (by omega) (by omega))
      replace RB1 := Lib.hid (RB1.out.ch chb (by omega) (by omega))
      replace RA2 := Lib.hid (RA2.out.ch chb (by omega) (by omega))
      replace RB2 := Lib.hid (RB2.out.ch chb (by omega) (by omega))
      replace GR := Lib.hid (Ch.fresh GR.out chb (fun x hx h => by omega))
      clear hall hst hbel chb c13' LG LW BX BK Q3 HM HLM
      obtain ⟨V1, hV1⟩ : ∃ V1, V1 = leftD f1 m1 := ⟨_, rfl⟩
      obtain ⟨V2, hV2⟩ : ∃ V2, V2 = leftD f2 m2 := ⟨_, rfl⟩
      have HV1 := Lib.hid hV1
      have HV2 := Lib.hid hV2
      clear hV1 hV2 ho
      go_upto_region 23 with fail
      go_wp2_with fail
      refine (leftA RA1.out).mono ?_
      rintro e w' ⟨rfl, rfl⟩
      rw [← HV1.out]
      go_wp2_with fail
      refine (leftB RB1.out).mono ?_
      rintro e w' ⟨rfl, rfl⟩
      rw [← HV1.out]
      go_wp2_with fail
      refine (leftA RA2.out).mono ?_
      rintro e w' ⟨rfl, rfl⟩
      rw [← HV2.out]
      go_wp2_with fail
      refine (leftB RB2.out).mono ?_
      rintro e w' ⟨rfl, rfl⟩
      rw [← HV2.out]
      go_wp2_with fail
      refine (leftA RA1.out).mono ?_
      rintro e w' ⟨rfl, rfl⟩
      rw [← HV1.out]
      go_wp2_with fail
      refine (bytesA V1 RA1.out).mono ?_
      rintro e w7' ⟨ax, nx, cx, rfl, ox, rx, gx⟩
      have ho := ORD.out
      replace RA1 := Lib.hid rx
      have RB1o := Lib.hid (RB1.out.off gx (by omega) (by omega))
      replace RA2 := Lib.hid (RA2.out.off gx (by omega) (by omega))
      replace RB2 := Lib.hid (RB2.out.off gx (by omega) (by omega))
      have ZX := Lib.hid gx.size
      have hgsz := GR.out.size
      replace GR := Lib.hid (grown_above GR.out ((Ch.ofSome (S := fun x => x = r1) gx rfl).mono (T := fun x => w.heap.size ≤ x) (fun x _ h => by omega)))
      have OX := Lib.hid ox
      clear rx gx ox ho hgsz
      go_wp2_with fail
      refine (leftB RB1o.out).mono ?_
      rintro e w' ⟨rfl, rfl⟩
      rw [← HV1.out]
      go_wp2_with fail
      refine (bytesB V1 RB1o.out).mono ?_
      rintro e w8' ⟨ay, ny, cy, rfl, oy, ry, gy⟩
      have ho := ORD.out
      have bz := BZ6.out
      replace RB1 := Lib.hid ry
      replace RA1 := Lib.hid (RA1.out.off gy (by omega) (by omega))
      replace RA2 := Lib.hid (RA2.out.off gy (by omega) (by omega))
      replace RB2 := Lib.hid (RB2.out.off gy (by omega) (by omega))
      replace GR := Lib.hid (grown_above GR.out ((Ch.ofSome (S := fun x => x = v1) gy rfl).mono (T := fun x => w.heap.size ≤ x) (fun x _ h => by omega)))
      have ox8 : BOwn w8' w6'.heap.size ax nx cx (pD f1 m1 V1) := Own.ch OX.out (Ch.ofSome (S := fun x => x = v1) gy rfl) (fun h0 x e hx => by
        obtain ⟨q, e', k1, k2⟩ := Own.block OX.out h0
        rw [e'] at e
        obtain rfl : q = x := congrArg Addr.block (Option.some.inj e)
        omega)
      have hpl := pD_len f1 m1 (V1 : Int)
      have HSA := Lib.hid (same_n ax ay cx cy nx ny (pD f1 m1 V1) (pD f1 m1 V1) w8' (BOwn.lies ox8) (BOwn.lies oy) ox8.len oy.len (by have := ox8.len; unfold maxLen; omega))
      clear ho bz ry gy oy ox8 hpl
      go_wp2_with fail
      refine HSA.out.mono ?_
      rintro e w9' ⟨rfl, qd, hq⟩
      have g : w8'.grownBy w9' none := by rw [hq]; exact grownBy_drewN _ _ _
      replace RA1 := Lib.hid (RA1.out.grown g)
      replace RB1 := Lib.hid (RB1.out.grown g)
      replace RA2 := Lib.hid (RA2.out.grown g)
      replace RB2 := Lib.hid (RB2.out.grown g)
      replace GR := Lib.hid (grownBy_trans GR.out g)
      clear hq g
      obtain ⟨E1, hE1⟩ : ∃ E1, E1 = endD (fD f1 m1 V1) (remD f1 m1 V1) := ⟨_, rfl⟩
      obtain ⟨E2, hE2⟩ : ∃ E2, E2 = endD f2 m2 := ⟨_, rfl⟩
      have HE1 := Lib.hid hE1
      have HE2 := Lib.hid hE2
      clear hE1 hE2
      go_wp2_with fail
      refine (endA RA1.out).mono ?_
      rintro e w' ⟨rfl, rfl⟩
      rw [← HE1.out]
      go_wp2_with fail
      refine (endB RB1.out).mono ?_
      rintro e w' ⟨rfl, rfl⟩
      rw [← HE1.out]
      go_wp2_with fail
      refine (endA RA2.out).mono ?_
      rintro e w' ⟨rfl, rfl⟩
      rw [← HE2.out]
      go_wp2_with fail
      refine (endB RB2.out).mono ?_
      rintro e w' ⟨rfl, rfl⟩
      rw [← HE2.out]
      go_wp2_with fail
      go_ret
      exact ⟨rfl, GR.out⟩
end Go.Proofs.Ythemlaibjchjpaa
