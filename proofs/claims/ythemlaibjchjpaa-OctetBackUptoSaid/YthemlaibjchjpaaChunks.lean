/- octet.Chunks and the function that it gives. -/
import Derived.Test.YthemlaibjchjpaaIter
import Derived.Test.YthemlaibjchjpaaClone
import Derived.Test.YthemlaibjchjpaaLists
namespace Go.Proofs.Ythemlaibjchjpaa
open Go.RowKit Go.Shelf
attribute [local go_sem] Oper.semAt_some

/-- the pieces of a list, of Z + 1 bytes each, with their places -/
def chs (Z : Nat) (p : Nat) (l : List UInt8) : List (Nat × List UInt8) :=
  match l with
  | [] => []
  | x :: t => (p, (x :: t).take (Z + 1)) :: chs Z (p + min (Z + 1) (t.length + 1)) (t.drop Z)
termination_by l.length
decreasing_by simp; omega
theorem chs_nil (Z p : Nat) : chs Z p [] = [] := by rw [chs]
theorem chs_cons {Z p : Nat} {l : List UInt8} (h : l ≠ []) : chs Z p l = (p, l.take (Z + 1)) :: chs Z (p + min (Z + 1) l.length) (l.drop (Z + 1)) := by
  cases l with
  | nil => exact absurd rfl h
  | cons x t => rw [chs]; simp
/-- .. of a size -/
def chL (z : Int) (l : List UInt8) : List (Nat × List UInt8) := if z < 1 then [] else chs (z.toNat - 1) 0 l
/-- what came of a list of pieces -/
def flt (ps : List (Nat × List UInt8)) : List UInt8 := (ps.map (·.2)).flatten
theorem flt_nil : flt [] = [] := rfl
theorem flt_cons (x : Nat × List UInt8) (ps : List (Nat × List UInt8)) : flt (x :: ps) = x.2 ++ flt ps := by simp [flt]
theorem flt_app (ps qs : List (Nat × List UInt8)) : flt (ps ++ qs) = flt ps ++ flt qs := by simp [flt]
theorem flt_chs (Z : Nat) : ∀ (N p : Nat) (l : List UInt8), l.length ≤ N → flt (chs Z p l) = l := by
  intro N
  induction N with
  | zero => intro p l h; obtain rfl : l = [] := List.eq_nil_of_length_eq_zero (by omega); rw [chs_nil]; rfl
  | succ N ih =>
    intro p l h
    by_cases h0 : l = []
    · subst h0; rw [chs_nil]; rfl
    · rw [chs_cons h0, flt_cons, ih _ _ (by rw [List.length_drop]; omega)]
      exact List.take_append_drop _ _
/-- each piece stands where those ahead of it end -/
theorem chs_at (Z : Nat) : ∀ (ps : List (Nat × List UInt8)) (p t : Nat) (b : List UInt8) (r : List (Nat × List UInt8)) (l : List UInt8), ps ++ (t, b) :: r = chs Z p l → t = p + (flt ps).length
  | [], p, t, b, r, l, h => by
    by_cases h0 : l = []
    · subst h0; rw [chs_nil] at h; cases h
    · rw [chs_cons h0] at h
      simp only [List.nil_append, List.cons.injEq, Prod.mk.injEq] at h
      rw [h.1.1]; rfl
  | y :: ps, p, t, b, r, l, h => by
    by_cases h0 : l = []
    · subst h0; rw [chs_nil] at h; cases h
    · rw [chs_cons h0] at h
      simp only [List.cons_append, List.cons.injEq] at h
      have := chs_at Z ps _ t b r _ h.2
      rw [flt_cons, h.1, List.length_append, List.length_take, this]
      show _ = p + (min (Z + 1) l.length + (flt ps).length)
      omega

/-- a piece as it is told -/
structure Pce where
  at_ : Nat
  sl : Sl
  b : List UInt8
def Pce.vals (x : Pce) : Array Value := #[.int .i64 (x.at_ : Int), x.sl.val]
def Pce.pr (x : Pce) : Nat × List UInt8 := (x.at_, x.b)

/-- what the function that is given back holds -/
structure Chk (w : World) (B b1 b2 : Nat) (z : Int) (ao : Option Addr) (n co : Nat) (l : List UInt8) : Prop where
  size : Row w b1 3 #[.int .i64 z]
  box : Row w b2 22 #[.slice ao n co]
  own : BOwn w B ao n co l
  above : B ≤ b1 ∧ B ≤ b2
/-- its blocks -/
def Chk.S (b1 b2 : Nat) (ao : Option Addr) (co : Nat) (k : Nat) : Prop := k = b1 ∨ k = b2 ∨ In ao co k
/-- these lie as they lay -/
structure KeptS (S : Nat → Prop) (W W' : World) : Prop where
  size : W.heap.size ≤ W'.heap.size
  same : ∀ k, S k → k < W.heap.size → W'.heap[k]? = W.heap[k]?
theorem KeptS.refl (S : Nat → Prop) (W : World) : KeptS S W W := ⟨Nat.le_refl _, fun _ _ _ => rfl⟩
theorem KeptS.trans {S : Nat → Prop} {A B C : World} (h : KeptS S A B) (k : KeptS S B C) : KeptS S A C :=
  ⟨Nat.le_trans h.size k.size, fun i hi hl => (k.same i hi (Nat.lt_of_lt_of_le hl h.size)).trans (h.same i hi hl)⟩
theorem KeptS.of {S : Nat → Prop} {A B : World} (h : A.grownBy B none) : KeptS S A B := ⟨h.size, fun k _ hl => h.block k hl (by simp)⟩
theorem KeptS.put {S : Nat → Prop} (W : World) (l : Nat) (o' : Obj) (h : ¬ S l) : KeptS S W (W.putObj l o') :=
  ⟨(grownBy_putObj' W l o').size, fun k hk hl => World.putObj_heap_other (fun e => h (by first | exact e ▸ hk | exact e.symm ▸ hk))⟩
theorem KeptS.ch {S : Nat → Prop} {A B : World} {T : Nat → Prop} (h : Ch T A B) (hd : ∀ k, S k → ¬ T k) : KeptS S A B := ⟨h.size, fun k hk hl => h.block k hl (hd k hk)⟩
theorem Chk.kept {w w' : World} {B b1 b2 : Nat} {z : Int} {ao : Option Addr} {n co : Nat} {l : List UInt8} (h : Chk w B b1 b2 z ao n co l) (hk : KeptS (Chk.S b1 b2 ao co) w w') : Chk w' B b1 b2 z ao n co l :=
  ⟨(hk.same b1 (.inl rfl) h.size.lt).trans h.size, (hk.same b2 (.inr (.inl rfl)) h.box.lt).trans h.box, Own.kept' h.own fun h0 g e hl => hk.same g (.inr (.inr ⟨h0, e⟩)) hl, h.above⟩
theorem Chk.lt {w : World} {B b1 b2 : Nat} {z : Int} {ao : Option Addr} {n co : Nat} {l : List UInt8} (h : Chk w B b1 b2 z ao n co l) {k : Nat} (hk : Chk.S b1 b2 ao co k) : B ≤ k ∧ k < w.heap.size := by
  rcases hk with rfl | rfl | hk
  · exact ⟨h.above.1, h.size.lt⟩
  · exact ⟨h.above.2, h.box.lt⟩
  · exact Own.inn h.own hk

/-- what a round is told -/
structure ChOk (all : List (Nat × List UInt8)) (pre : List Pce) (x : Pce) (W0 W1 : World) : Prop where
  at_ : ∃ r, pre.map Pce.pr ++ x.pr :: r = all
  own : BOwn W1 W0.heap.size x.sl.a x.sl.n x.sl.c x.b
theorem ChOk.put {all : List (Nat × List UInt8)} {pre : List Pce} {x : Pce} {W0 W : World} (h : ChOk all pre x W0 W) (l : Nat) {o : Obj} (o' : Obj) (hl : W.heap[l]? = some o) (ho : o.isCells = false) : ChOk all pre x W0 (W.putObj l o') := by
  refine ⟨h.at_, ?_⟩
  rcases h.own.2 with h0 | ⟨g, cur, ha, hb, hh, rest⟩
  · exact ⟨h.own.1, .inl h0⟩
  · refine ⟨h.own.1, .inr ⟨g, cur, ha, hb, ?_, rest⟩⟩
    have hne : l ≠ g := fun e => by subst e; rw [hl] at hh; injection hh with hh; subst hh; cases ho
    first | exact (World.putObj_heap_other hne).trans hh | exact (World.putObj_heap_other hne.symm).trans hh

set_option maxRecDepth 100000 in
set_option maxHeartbeats 2000000 in
theorem chunks_n (a : Option Addr) (c n : Nat) (z : Int) (l : List UInt8) (w : World) (ha : BLies w a l) (hl : l.length = n) (hn : n ≤ 4000000100) :
    Calls Try.prog 15 #[.slice a n c, .int .i64 z] w fun e w' => ∃ b1 b2 ao co, e = .returned (.func (.func 61) #[] #[.pointer (some ⟨b1, 0, none⟩), .pointer (some ⟨b2, 0, none⟩)]) ∧
      Chk w' w.heap.size b1 b2 z ao n co l ∧ w.grownBy w' none := by
  obtain ⟨il, hi, hz, hsz, _⟩ := info_parts (show (Try.prog.info? 22).map (fun i => (i.zero, i.size, i.bytes)) = some (some (.slice none 0 0), 1, 24) by kernel_rfl)
  have HA := Lib.hid ha
  have HL := Lib.hid hl
  clear ha hl
  go_enter Try.func15, Try.ntmps15
  go_upto_region 1 with (refine wpList_box1 rfl rfl (.int .i64 z) rfl rfl ?_; intro W1 hs1 hg1 hr1; have HG1 := Lib.hid hg1; have HR1 := Lib.hid hr1; clear hs1 hg1 hr1)
  go_wp2_with (first | (go_at_call 60; refine (clone_n a c n l _ (HA.out.grown HG1.out) HL.out hn).mono ?_; rintro e W2 ⟨ao, co, rfl, ho, hg⟩; have HO := Lib.hid ho; have HG2 := Lib.hid hg; clear ho hg) | (refine wpList_fresh1 rfl rfl rfl rfl rfl hi hz hsz rfl (.slice ao n co) rfl rfl rfl ?_; intro W3 hs3 hg3 hr3; have HG3 := Lib.hid hg3; have HR3 := Lib.hid hr3; clear hs3 hg3 hr3))
  go_ret
  have h1 := HR1.out
  have h2 := HO.out
  have h3 := HR3.out
  have g1 := HG1.out
  have g2 := HG2.out
  have g3 := HG3.out
  exact ⟨_, _, ao, co, rfl, ⟨Row.grown (Row.grown h1 g2) g3, h3, BOwn.grown (BOwn.mono h2 g1.size) g3, Nat.le_refl _, Nat.le_trans g1.size g2.size⟩, grownBy_trans (grownBy_trans g1 g2) g3⟩

end Go.Proofs.Ythemlaibjchjpaa
