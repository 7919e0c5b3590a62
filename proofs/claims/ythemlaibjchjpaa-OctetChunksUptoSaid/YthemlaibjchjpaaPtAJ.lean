/- Helpers and contracts of the proofs over this seat: Thr, IterN. Each states what a function of the program answers, or is plain Lean; its conditions stand in each statement. -/
import Derived.RangeFuncNested
import Derived.Test.YthemlaibjchjpaaPtAA
import Derived.Test.YthemlaibjchjpaaPtAB
import Derived.Test.YthemlaibjchjpaaPtAD
import Derived.Test.YthemlaibjchjpaaPtAH
import Derived.Test.YthemlaibjchjpaaPtAI
set_option linter.unusedVariables false
/- through: goes through the pieces of a list up to a stop. Printed by gens/through.py. -/
namespace Go.Proofs.Ythemlaibjchjpaa
open Go.RowKit Go.Shelf
attribute [local go_sem] Oper.semAt_some

/-- what was asked for: pieces, as they lie -/
def WantOk (Lp : List Sl) (P : List (List UInt8)) (Lw : List Sl) (t : List (List UInt8)) : Prop :=
  Lw.length = t.length ∧ ∀ i (h : i < Lw.length) (h' : i < t.length), ∃ j, ∃ (hj : j < Lp.length) (hj' : j < P.length), Lw[i] = Lp[j] ∧ t[i] = P[j]
theorem distinct_app1 {L : List Sl} (h : Distinct L) {s : Sl} (hs : ∀ i (hi : i < L.length) g, (L[i]).blk = some g → s.blk = some g → False) : Distinct (L ++ [s]) := by
  intro i j hi hj hij g hgi hgj
  rw [List.length_append, List.length_singleton] at hi hj
  by_cases ei : i < L.length
  · rw [List.getElem_append_left ei] at hgi
    by_cases ej : j < L.length
    · rw [List.getElem_append_left ej] at hgj
      exact h i j ei ej hij g hgi hgj
    · obtain rfl : j = L.length := by omega
      have e2 : (L ++ [s])[L.length]'(by simp) = s := by simp
      rw [e2] at hgj
      exact hs i ei g hgi hgj
  · obtain rfl : i = L.length := by omega
    have e2 : (L ++ [s])[L.length]'(by simp) = s := by simp
    rw [e2] at hgi
    have ej : j < L.length := by omega
    rw [List.getElem_append_left ej] at hgj
    exact hs j ej g hgj hgi
theorem WantOk.push {Lp : List Sl} {P : List (List UInt8)} {Lw : List Sl} {t : List (List UInt8)} (h : WantOk Lp P Lw t) (j : Nat) (hj : j < Lp.length) (hj' : j < P.length) {s : Sl} {b : List UInt8} (hs : s = Lp[j]) (hb : b = P[j]) : WantOk Lp P (Lw ++ [s]) (t ++ [b]) := by
  obtain ⟨h1, h2⟩ := h
  refine ⟨by simp [h1], fun i hi hi' => ?_⟩
  by_cases e : i < Lw.length
  · obtain ⟨k, k1, k2, e1, e2⟩ := h2 i e (by omega)
    refine ⟨k, k1, k2, ?_, ?_⟩
    · rw [List.getElem_append_left e]; exact e1
    · rw [List.getElem_append_left (by omega)]; exact e2
  · have hi2 : i = Lw.length := by rw [List.length_append, List.length_singleton] at hi; omega
    subst hi2
    refine ⟨j, hj, hj', ?_, ?_⟩
    · simp [hs]
    · rw [List.getElem_append_right (by omega)]; simp [h1, hb]
structure Ckx where
  ga : Option Addr
  gc : Nat
  Lg : List Sl
  wa : Option Addr
  wc : Nat
  Lw : List Sl
/-- the struct of pieces that were told and asked for -/
def CkS (bc base : Nat) (Lp : List Sl) (P t : List (List UInt8)) (x : Ckx) (w : World) : Prop :=
  Row w bc 33 #[.slice x.ga t.length x.gc, .slice x.wa t.length x.wc] ∧ LIs w base x.ga t.length x.gc t x.Lg ∧ SOwn w base x.wa t.length x.wc x.Lw ∧ WantOk Lp P x.Lw t ∧ ∀ b, In x.ga x.gc b → In x.wa x.wc b → False
theorem CkS.nc {bc base : Nat} {Lp : List Sl} {P t : List (List UInt8)} {x : Ckx} {A B : World} {row : Option Nat} {b0 : Nat} (h : CkS bc base Lp P t x A) (hg : A.grownBy B row) (hr : ∀ r, row = some r → b0 ≤ r ∧ ∃ o : Obj, A.heap[r]? = some o ∧ o.isCells = false) : CkS bc base Lp P t x B :=
  ⟨h.1.nc hg hr, h.2.1.nc hg hr, Own.nc h.2.2.1 hg hr, h.2.2.2⟩
theorem wpListIn_valR {l n : Nat} {P : Program} {ops : Array Oper} {Q : Exit → Act → World → Prop} {o : Oper} {rest : List Oper} {a : Act} {w w1 : World} {v : Value}
    (hw : Region.wanted o (yielded ops a.tmps) = true) (hd : ∀ c, o.op ≠ .defer c) (hr : (execOp a.eval o).run P w = .ok (.value v) w1) (h : wpListIn (Fence.wide.inRound l) n P ops Q rest (a.put o.dst v) w1) : wpListIn (Fence.wide.inRound l) n P ops Q (o :: rest) a w := by
  unfold wpListIn
  rw [if_pos hw]
  refine ⟨fun _ _ => trivial, ?_⟩
  rw [Oper.semAt_eq _ _ _ hd, hr]
  simp only [Oper.uponIn]
  exact h
/-- a store of a round by its run -/
theorem wpListIn_skipR {l n : Nat} {P : Program} {ops : Array Oper} {Q : Exit → Act → World → Prop} {o : Oper} {rest : List Oper} {a : Act} {w w1 : World} (t : TypeId) (x y : Operand) (_ho : o.op = .store t x y)
    (hw : Region.wanted o (yielded ops a.tmps) = true) (hd : ∀ c, o.op ≠ .defer c) (hr : (execOp a.eval o).run P w = .ok .skip w1) (h : wpListIn (Fence.wide.inRound l) n P ops Q rest (a.put o.dst undef) w1) : wpListIn (Fence.wide.inRound l) n P ops Q (o :: rest) a w := by
  unfold wpListIn
  rw [if_pos hw]
  refine ⟨fun _ _ => trivial, ?_⟩
  rw [Oper.semAt_eq _ _ _ hd, hr]
  simp only [Oper.uponIn]
  exact h
theorem byte_notin {w : World} {b0 b1 n c n' c' : Nat} {a a' : Option Addr} {l : List UInt8} {xs : List Value} (h : BOwn w b0 a n c l) (h' : Own w b1 22 1 a' n' c' xs) : ∀ g, In a c g → ¬ In a' c' g := fun g ⟨h1, h2⟩ ⟨h3, h4⟩ => by
  have h : Own w b0 5 1 a n c _ := h
  rw [h2] at h
  rw [h4] at h'
  exact own_ne h h' h1 h3 (by decide) rfl
theorem LIs.inn {w : World} {base : Nat} {a : Option Addr} {n c : Nat} {bs : List (List UInt8)} {L : List Sl} (h : LIs w base a n c bs L) {i : Nat} (hi : i < L.length) {g : Nat} (hg : In (L[i]).a (L[i]).c g) : base ≤ g ∧ g < w.heap.size := Own.inn (h.inner i hi (by have := h.len; omega)) hg
/-- one list more, whatever has come up between -/
theorem LIs.pushR {W0 W W9 : World} {base bc : Nat} {a : Option Addr} {n c : Nat} {bs : List (List UInt8)} {L : List Sl} (h0 : LIs W0 base a n c bs L) (hb : base ≤ W0.heap.size) (h : LIs W base a n c bs L) {a' : Option Addr} {n' c' : Nat} {b : List UInt8} (ho : BOwn W W0.heap.size a' n' c' b) (hbc : bc < base)
    (hc : Ch (fun x => In a c x ∨ x = bc) W W9) {a2 : Option Addr} {c2 : Nat} (hs : Own W9 base 22 1 a2 (n + 1) c2 (L.map Sl.val ++ [.slice a' n' c'])) : LIs W9 base a2 (n + 1) c2 (bs ++ [b]) (L ++ [⟨a', n', c'⟩]) := by
  have hnew : BOwn W9 W0.heap.size a' n' c' b := Own.ch ho hc (fun k0 g e hS => by
    have h1 := (Own.inn ho (g := g) ⟨k0, e⟩).1
    rcases hS with hS | rfl
    · have := (Own.inn h0.outer hS).2; omega
    · omega)
  have hold : ∀ i (hi : i < L.length) (hi' : i < bs.length), BOwn W9 base (L[i]).a (L[i]).n (L[i]).c bs[i] := fun i hi hi' => Own.ch (h.inner i hi hi') hc (fun k0 g e hS => by
    rcases hS with hS | rfl
    · exact byte_notin (h.inner i hi hi') h.outer g ⟨k0, e⟩ hS
    · have h1 := (Own.inn (h.inner i hi hi') (g := g) ⟨k0, e⟩).1; omega)
  have hl := h.len
  refine ⟨by unfold SOwn; rw [List.map_append]; exact hs, by simp [hl], fun i hi hi' => ?_, ?_⟩
  · by_cases e : i < L.length
    · have e' : i < bs.length := by omega
      rw [List.getElem_append_left e']
      simp only [List.getElem_append_left e]
      exact hold i e e'
    · have hi2 : i = L.length := by rw [List.length_append, List.length_singleton] at hi; omega
      subst hi2
      have e2 : (L ++ [⟨a', n', c'⟩])[L.length] = (⟨a', n', c'⟩ : Sl) := by simp
      have e3 : (bs ++ [b])[L.length] = b := by simp [hl]
      rw [e2, e3]
      exact hnew.mono hb
  · apply distinct_app1 h.apart
    intro i hi g hgb hgn
    obtain ⟨hcp, ha⟩ := BOwn.blk (h0.inner i hi (by omega)) hgb
    obtain ⟨hcp2, ha2⟩ := BOwn.blk (s := ⟨a', n', c'⟩) hnew hgn
    have h1 := (Own.inn (h0.inner i hi (by omega)) (g := g) ⟨hcp, ha⟩).2
    have h2 := (Own.inn hnew (g := g) ⟨hcp2, ha2⟩).1
    omega

theorem func_nilT (fn : Fn) (a c : Array Value) (w : World) : (binOp .eql 29 (.func fn a c) .nilFunc).run Try.prog w = .ok (.bool false) w := by
  kernel_rfl
theorem sizeBO : (Try.prog.info? 4).map (·.size) = some 1 := by kernel_rfl
theorem CkS.ch {bc base b : Nat} {Lp : List Sl} {P t : List (List UInt8)} {x : Ckx} {A B : World} (h : CkS bc base Lp P t x A) (hc : Ch (fun y => y = b) A B) (hb : bc ≠ b) (_h : ∀ y : Nat, y = b → y ≠ bc) (h1 : ¬ In x.ga x.gc b) (h2 : ¬ In x.wa x.wc b) (h3 : ∀ i (hi : i < x.Lg.length), ¬ In (x.Lg[i]).a (x.Lg[i]).c b) : CkS bc base Lp P t x B :=
  ⟨h.1.ch hc hb, h.2.1.chS hc (fun g hi e => by subst e; exact h1 hi) (fun i hi g hg e => by subst e; exact h3 i hi hg), Own.ch h.2.2.1 hc (fun h0 g e e2 => by subst e2; exact h2 ⟨h0, e⟩), h.2.2.2⟩
/-- what stands while the pieces are gone through -/
def ThI (w : World) (hi b6 b9 b10 b11 b12 b14 bc base : Nat) (M : Int) (k : Nat) (pa : Option Addr) (pc : Nat) (qa : Option Addr) (qc : Nat) (Lp : List Sl) (P t0 : List (List UInt8)) (pre : List Pce) (W : World) : Prop :=
  ∃ x : Ckx, Row W b6 98 #[.pointer (some ⟨bc, 0, none⟩)] ∧ Row W b9 3 #[.int .i64 M] ∧ Row W b10 23 #[.slice pa k pc] ∧ Row W b11 24 #[.slice qa k qc] ∧ Row W b12 4 #[.bool false] ∧ Row W b14 3 #[.int .i64 (pre.length : Int)] ∧
    CkS bc base Lp P (t0 ++ pre.map Pce.b) x W ∧ Ch (fun x => bc ≤ x) w W ∧ hi ≤ W.heap.size ∧ ∀ y, In x.ga x.gc y ∨ In x.wa x.wc y → y < w.heap.size ∨ hi ≤ y
theorem Ch.putN {S : Nat → Prop} {A B : World} {row : Option Nat} {w : World} (h : Ch S w A) (hg : A.grownBy B row) (hr : ∀ r, row = some r → S r) : Ch S w B := by
  cases row with
  | none => exact h.then hg
  | some r => exact h.trans (Ch.ofSome (S := S) hg (hr r rfl)) (fun _ _ h => h)
theorem ThI.own {w : World} {hi b6 b9 b10 b11 b12 b14 bc base b0 : Nat} {M : Int} {k : Nat} {pa : Option Addr} {pc : Nat} {qa : Option Addr} {qc : Nat} {Lp : List Sl} {P t0 : List (List UInt8)} (hb : bc ≤ b0) : OwnFrom b0 (ThI w hi b6 b9 b10 b11 b12 b14 bc base M k pa pc qa qc Lp P t0) :=
  fun _ _ _ _ ⟨x, h1, h2, h3, h4, h5, h6, h7, h8, h9, h10⟩ hg hr => ⟨x, h1.nc hg hr, h2.nc hg hr, h3.nc hg hr, h4.nc hg hr, h5.nc hg hr, h6.nc hg hr, h7.nc hg hr, h8.putN hg (fun r e => Nat.le_trans hb (hr r e).1), Nat.le_trans h9 hg.size, h10⟩
/-- what stands where it is left -/
def ThX (w : World) (b12 bc base : Nat) (Lp : List Sl) (P t0 : List (List UInt8)) (cd : Code) (pre : List Pce) (W : World) : Prop :=
  cd = .ret ∧ ∃ x : Ckx, Row W b12 4 #[.bool true] ∧ CkS bc base Lp P (t0 ++ pre.map Pce.b) x W ∧ Ch (fun x => bc ≤ x) w W
theorem ThX.own {w : World} {b12 bc base b0 : Nat} {Lp : List Sl} {P t0 : List (List UInt8)} (hb : bc ≤ b0) (cd : Code) : OwnFrom b0 (ThX w b12 bc base Lp P t0 cd) :=
  fun _ _ _ _ ⟨h0, x, h1, h2, h3⟩ hg hr => ⟨h0, x, h1.nc hg hr, h2.nc hg hr, h3.putN hg (fun r e => Nat.le_trans hb (hr r e).1)⟩

set_option maxRecDepth 100000 in
set_option maxHeartbeats 4000000 in
theorem through_n (w : World) (bc base : Nat) (hbb : bc < base) (hbw : base ≤ w.heap.size) (a : Option Addr) (n c : Nat) (l : List UInt8) (z M : Int) (k : Nat) (pa : Option Addr) (pc : Nat) (qa : Option Addr) (qc : Nat) (Lp : List Sl) (x0 : Ckx) (t0 : List (List UInt8))
    (hln : l.length = n) (hn : n ≤ 4000) (hA : ∀ u, Ch (fun x => bc ≤ x) w u → BLies u a l) (hQ : ∀ u, Ch (fun x => bc ≤ x) w u → LLies u qa Lp (plB (chL z l))) (hP : ∀ u, Ch (fun x => bc ≤ x) w u → Lies u pa (IV (plN (chL z l))))
    (hk : (chL z l).length = k) (hc : CkS bc base Lp (plB (chL z l)) t0 x0 w) (ht : t0.length ≤ 100000) (hk4 : k ≤ 4000) (hpl : ∀ b ∈ plB (chL z l), b.length ≤ 4000) :
    Calls Try.prog 17 #[.pointer (some ⟨bc, 0, none⟩), .slice a n c, .int .i64 z, .int .i64 M, .slice pa k pc, .slice qa k qc] w fun e w' =>
      e = .returned (.bool true) ∧ ∃ (t : List (List UInt8)) (x : Ckx) (j : Nat), CkS bc base Lp (plB (chL z l)) t x w' ∧ t = t0 ++ (plB (chL z l)).take j ∧ Ch (fun x => bc ≤ x) w w' := by
  obtain ⟨ib, hib, hibz, hibs, _⟩ := info_parts (show (Try.prog.info? 4).map (fun i => (i.zero, i.size, i.bytes)) = some (some (.bool false), 1, 1) by kernel_rfl)
  obtain ⟨ii, hii, hiiz, hiis, _⟩ := info_parts (show (Try.prog.info? 3).map (fun i => (i.zero, i.size, i.bytes)) = some (some (.int .i64 0), 1, 8) by kernel_rfl)
  have HA := Lib.hid hA
  have HQ := Lib.hid hQ
  have HP := Lib.hid hP
  have HLN := Lib.hid hln
  have HK := Lib.hid hk
  have HC0 := Lib.hid hc
  have HPL := Lib.hid hpl
  have HT := Lib.hid ht
  clear hA hQ hP hln hk hc hpl ht
  obtain ⟨P, hPP⟩ : ∃ P, P = plB (chL z l) := ⟨_, rfl⟩
  have HPP := Lib.hid hPP
  rw [← hPP] at HQ HC0 HPL ⊢
  clear hPP
  refine calls_of_wp_marks Try.func17 rfl ?_
  simp only [Try.ntmps17, List.size_toArray, List.length_cons, List.length_nil, Nat.reduceAdd, Nat.reduceSub, Array.replicate_succ, Array.replicate_zero, List.push_toArray, List.append_toArray, List.nil_append, List.cons_append]
  go_upto_region 1 with (first
    | (refine wpList_box1 rfl rfl (.pointer (some ⟨bc, 0, none⟩)) rfl rfl ?_; intro w1 hs g hr; have Gw1 := Lib.hid g; have Rb6 := Lib.hid (show Row w1 w.heap.size 98 #[.pointer (some ⟨bc, 0, none⟩)] from hr); have HZ1 := Lib.hid hs; clear hs g hr)
    | (refine wpList_box1 rfl rfl (.int .i64 M) rfl rfl ?_; intro w2 hs g hr; have Gw2 := Lib.hid (grownBy_trans Gw1.out g); replace Rb6 := Lib.hid (Rb6.out.grown g); have Rb9 := Lib.hid (show Row w2 w1.heap.size 3 #[.int .i64 M] from hr); have HZ2 := Lib.hid hs; clear hs g hr)
    | (refine wpList_box1 rfl rfl (.slice pa k pc) rfl rfl ?_; intro w3 hs g hr; have Gw3 := Lib.hid (grownBy_trans Gw2.out g); replace Rb6 := Lib.hid (Rb6.out.grown g); replace Rb9 := Lib.hid (Rb9.out.grown g); have Rb10 := Lib.hid (show Row w3 w2.heap.size 23 #[.slice pa k pc] from hr); have HZ3 := Lib.hid hs; clear hs g hr)
    | (refine wpList_box1 rfl rfl (.slice qa k qc) rfl rfl ?_; intro w4 hs g hr; have Gw4 := Lib.hid (grownBy_trans Gw3.out g); replace Rb6 := Lib.hid (Rb6.out.grown g); replace Rb9 := Lib.hid (Rb9.out.grown g); replace Rb10 := Lib.hid (Rb10.out.grown g); have Rb11 := Lib.hid (show Row w4 w3.heap.size 24 #[.slice qa k qc] from hr); have HZ4 := Lib.hid hs; clear hs g hr)
    | (refine wpList_made rfl rfl hib hibz ?_; intro w5 hs g hr; have Gw5 := Lib.hid (grownBy_trans Gw4.out g); replace Rb6 := Lib.hid (Rb6.out.grown g); replace Rb9 := Lib.hid (Rb9.out.grown g); replace Rb10 := Lib.hid (Rb10.out.grown g); replace Rb11 := Lib.hid (Rb11.out.grown g); have Rb12 := Lib.hid (show Row w5 w4.heap.size 4 #[.bool false] from hr); clear hs g hr))
  obtain ⟨b6, hb6⟩ : ∃ b6, b6 = w.heap.size := ⟨_, rfl⟩
  obtain ⟨b9, hb9⟩ : ∃ b9, b9 = w1.heap.size := ⟨_, rfl⟩
  obtain ⟨b10, hb10⟩ : ∃ b10, b10 = w2.heap.size := ⟨_, rfl⟩
  obtain ⟨b11, hb11⟩ : ∃ b11, b11 = w3.heap.size := ⟨_, rfl⟩
  obtain ⟨b12, hb12⟩ : ∃ b12, b12 = w4.heap.size := ⟨_, rfl⟩
  have q6 : w.heap.size ≤ b6 := by rw [hb6]; exact Nat.le_refl _
  rw [← hb6] at Rb6 ⊢
  rw [← hb9] at Rb9 ⊢
  rw [← hb10] at Rb10 ⊢
  rw [← hb11] at Rb11 ⊢
  rw [← hb12] at Rb12 ⊢
  have Q9 := Lib.hid (show b6 < b9 ∧ b9 < b10 ∧ b10 < b11 ∧ b11 < b12 from by
    have e1 := HZ1.out; have e2 := HZ2.out; have e3 := HZ3.out; have e4 := HZ4.out
    omega)
  have q12 : b12 < w5.heap.size := Rb12.out.lt
  obtain ⟨q69, q910, q1011, q1112⟩ := Q9.out
  clear hb6 hb9 hb10 hb11 hb12 HZ1 HZ2 HZ3 HZ4
  have HCH5 := Lib.hid (Ch.ofNone Gw5.out (fun x => bc ≤ x))
  go_upto_region 2 with (go_at_call 15; refine (chunks_n a c n z l w5 (HA.out w5 HCH5.out) HLN.out (by omega)).mono ?_; rintro e w6 ⟨b1, b2, ao, co, rfl, hck, g⟩; have HCK := Lib.hid hck; have G6 := Lib.hid g; clear hck g)
  have G6w := Lib.hid (grownBy_trans Gw5.out G6.out)
  have hnf := func_nilT (.func 61) #[] #[.pointer (some ⟨b1, 0, none⟩), .pointer (some ⟨b2, 0, none⟩)]
  go_upto_region 5 with (refine wpList_fresh1 rfl rfl rfl rfl rfl hii hiiz hiis rfl (.int .i64 0) rfl rfl rfl ?_; intro w7 hs g hr; have G7 := Lib.hid g; have Rb14 := Lib.hid (show Row w7 w6.heap.size 3 #[.int .i64 0] from hr); clear hs g hr)
  have G7w := Lib.hid (grownBy_trans G6w.out G7.out)
  obtain ⟨b14, hb14⟩ : ∃ b14, b14 = w6.heap.size := ⟨_, rfl⟩
  have q14 : b14 < w7.heap.size := by rw [hb14]; exact Rb14.out.lt
  have hbp : ∀ g, Chk.S b1 b2 ao co g → w5.heap.size ≤ g ∧ g < b14 := fun g hg => by have := HCK.out.lt hg; rw [hb14]; exact this
  have z14 : w5.heap.size ≤ b14 := by rw [hb14]; exact G6.out.size
  rw [← hb14] at Rb14 ⊢
  have HBP := Lib.hid hbp
  have HC7 := Lib.hid (HCK.out.kept (KeptS.of G7.out))
  have g57 := grownBy_trans G6.out G7.out
  replace Rb6 := Lib.hid (Rb6.out.grown g57)
  replace Rb9 := Lib.hid (Rb9.out.grown g57)
  replace Rb10 := Lib.hid (Rb10.out.grown g57)
  replace Rb11 := Lib.hid (Rb11.out.grown g57)
  replace Rb12 := Lib.hid (Rb12.out.grown g57)
  have HIN := Lib.hid (show ∀ y, In x0.ga x0.gc y → y < w.heap.size ∧ base ≤ y from fun y h => (Own.inn HC0.out.2.1.outer h).symm)
  have HIN2 := Lib.hid (show ∀ y, In x0.wa x0.wc y → y < w.heap.size ∧ base ≤ y from fun y h => (Own.inn HC0.out.2.2.1 h).symm)
  have HC0' := Lib.hid (show CkS bc base Lp P t0 x0 w7 from HC0.out.nc (b0 := 0) G7w.out (fun r e => by cases e))
  have HZ7 := Lib.hid G7w.out.size
  have z7 : w.heap.size ≤ w7.heap.size := HZ7.out
  clear hb14 hbp HCK g57 Gw1 Gw2 Gw3 Gw4 Gw5 G6 G6w HCH5 HC0 G7 hnf
  go_wp2_with fail
  refine (wpIn_wide (n := 3)).1 ?_
  refine wpIn_rangeOkA (F := Fence.wide) (n := 3) (fun t x => (((t.setIfInBounds 23 (.int .i64 (x.at_ : Int))).setIfInBounds 24 x.sl.val).setIfInBounds 15 (.int .i64 (x.at_ : Int))).setIfInBounds 16 x.sl.val) rfl (by omega) (gf := 61) (lb := #[.pointer (some ⟨b1, 0, none⟩), .pointer (some ⟨b2, 0, none⟩)]) rfl trivial (enters_of Try.func61 (by kernel_rfl) rfl)
    (chunks1_in 2 _ b1 b2 z ao n co l w7 HC7.out (by omega)) KeptS.trans (fun W l o o' hl _ _ _ => KeptS.put W l o' (fun hs => by have := (HBP.out _ hs).2; omega))
    (fun pre x W0 W l o o' h hl ho => h.put l o' hl ho) (Below.refl _ _) (fun _ => rfl)
    (ThI w w7.heap.size b6 b9 b10 b11 b12 b14 bc base M k pa pc qa qc Lp P t0) (ThX w b12 bc base Lp P t0) (ThI.own (by omega)) (fun cd => ThX.own (by omega) cd)
    ⟨x0, Rb6.out, Rb9.out, Rb10.out, Rb11.out, Rb12.out, Rb14.out, by simpa using HC0'.out, Ch.ofNone G7w.out _, Nat.le_refl _, fun y hy => .inl (hy.elim (fun h => (HIN.out y h).1) (fun h => (HIN2.out y h).1))⟩ ?assign ?body ?done ?stop
  case assign =>
    intro lp x W K hK
    simp only [Pce.vals]
    gi_wp2
    exact hK
  case stop =>
    rintro D cd pre W hD ⟨r, hr⟩ ⟨rfl, x, r12, hck, hch⟩ hK
    refine wpIn_ret ?_
    have htk : P.take pre.length = pre.map Pce.b := by
      rw [HPP.out, plB, ← hr, List.map_append, List.map_map, List.take_left' (by simp)]
      rfl
    refine ⟨by simp, .inl ⟨_, _, rfl, run_takeDeferred hK, ?_⟩⟩
    have hnc : ∀ r, some D = some r → 0 ≤ r ∧ ∃ o : Obj, W.heap[r]? = some o ∧ o.isCells = false := fun r e => by cases e; exact ⟨Nat.zero_le _, _, hK, rfl⟩
    exact ⟨_, results_cell1 rfl _ _ b12 _ rfl (r12.nc (b0 := 0) (grownBy_putObj' _ D _) hnc), rfl, _, x, pre.length, hck.nc (b0 := 0) (grownBy_putObj' _ D _) hnc, by rw [htk], hch.putN (grownBy_putObj' _ D _) (fun r e => by cases e; have := HZ7.out; omega)⟩
  case done =>
    rintro D xs W hD hS ⟨x, r6, r9, r10, r11, r12, r14, hck, hch, hbz, _⟩ hK
    have hxl : xs.length = k := by have h := congrArg List.length hS; rw [List.length_map, HK.out] at h; exact h
    have htk : P.take k = xs.map Pce.b := by
      rw [HPP.out, plB, ← hS, List.map_map, List.take_of_length_le (by rw [List.length_map]; omega)]
      rfl
    have c14 := Row.cell r14 0
    have c11 := Row.cell r11 0
    simp at c14 c11
    rw [hxl] at c14
    have hkk : ((k : Int) == (k : Int)) = true := by rw [beq_iff_eq]
    have R12 := Lib.hid r12
    have HKD := Lib.hid hK
    have HCK := Lib.hid hck
    have HCH := Lib.hid hch
    have HDW := Lib.hid hD
    have HTK := Lib.hid htk
    clear hS hck hch hK hD htk hbz r6 r9 r10 r11 r12 r14
    go_wp2_with (refine wpList_put1 rfl rfl b12 rfl (.bool true) rfl R12.out sizeBO rfl ?_; intro W1 hs g hr; have RR := Lib.hid (show Row W1 b12 4 #[.bool true] from hr); have GG := Lib.hid g; clear hs g hr)
    refine ⟨by simp, .inl ⟨_, _, rfl, run_takeDeferred (((GG.out.block D (Array.getElem?_eq_some_iff.1 HKD.out).1 (fun e => by injection e with e; have := HDW.out; omega)).trans HKD.out)), ?_⟩⟩
    have hKD1 := (GG.out.block D (Array.getElem?_eq_some_iff.1 HKD.out).1 (fun e => by injection e with e; have := HDW.out; omega)).trans HKD.out
    have hnc : ∀ r, some D = some r → 0 ≤ r ∧ ∃ o : Obj, W1.heap[r]? = some o ∧ o.isCells = false := fun r e => by cases e; exact ⟨Nat.zero_le _, _, hKD1, rfl⟩
    have hck1 : CkS bc base Lp P (t0 ++ xs.map Pce.b) x W1 := HCK.out.ch (Ch.ofSome (S := fun y => y = b12) GG.out rfl) (by omega) (fun y hy e => by omega) (row_in R12.out HCK.out.2.1.outer (by decide)) (row_in R12.out HCK.out.2.2.1 (by decide)) (fun i hi h => row_in R12.out (HCK.out.2.1.inner i hi (by have := HCK.out.2.1.len; omega)) (by decide) h)
    exact ⟨_, results_cell1 rfl _ _ b12 _ rfl (RR.out.nc (b0 := 0) (grownBy_putObj' _ D _) hnc), rfl, _, x, k, hck1.nc (b0 := 0) (grownBy_putObj' _ D _) hnc, by rw [HTK.out], (HCH.out.trans (Ch.ofSome (S := fun y => bc ≤ y) GG.out (by omega)) (fun _ _ h => h)).putN (grownBy_putObj' _ D _) (fun r e => by cases e; have := HDW.out; omega)⟩
  case body =>
    rintro lp pre ⟨at_, ⟨sa, sm, sc⟩, pb⟩ W0 W hI0 hI hkc hok
    obtain ⟨⟨ga, gc, Lg, wa, wc, Lw⟩, r6, r9, r10, r11, r12, r14, ⟨rc, lg0, sw0, wok, dj⟩, _, hz0, hfar⟩ := hI0
    obtain ⟨_, _, _, _, _, _, _, _, hchW, hzW, _⟩ := hI
    simp only at rc lg0 sw0 wok dj hfar
    obtain ⟨rr, hrr⟩ := hok.at_
    obtain ⟨np, hnp⟩ : ∃ np, np = pre.length := ⟨_, rfl⟩
    have hnk : np < k := by rw [← HK.out, ← hrr, hnp]; simp
    have hPn : np < P.length := by rw [HPP.out, plB, List.length_map, HK.out]; exact hnk
    have hPe : pb = P[np] := by
      have h : P[np]? = some pb := by
        rw [HPP.out, plB, ← hrr, List.map_append, List.getElem?_append_right (by simp [hnp])]
        simp [hnp, Pce.pr]
      rw [List.getElem?_eq_getElem hPn] at h
      injection h with h
      exact h.symm
    have hat : (plN (chL z l)).getD np 0 = (at_ : Int) := by
      rw [List.getD_eq_getElem?_getD, plN, ← hrr, List.map_append, List.getElem?_append_right (by simp [hnp])]
      simp [hnp, Pce.pr]
    have hown : BOwn W W0.heap.size sa sm sc pb := hok.own
    have hsm : pb.length = sm := BOwn.len hown
    have hpb4 : pb.length ≤ 4000 := HPL.out pb (by rw [hPe]; exact List.getElem_mem _)
    obtain ⟨hl1, hl2, hl3⟩ := HQ.out W hchW
    have hLn : np < Lp.length := by rw [hl2]; exact hPn
    obtain ⟨qb, qo, hqa, hq0⟩ := hl1 np (by rw [List.length_map]; exact hLn)
    clear hq0
    subst hqa
    obtain ⟨⟨xa, xn, xc⟩, hs⟩ : ∃ s, s = Lp[np] := ⟨_, rfl⟩
    have hqc : ∀ u, Ch (fun x => bc ≤ x) w u → u.cell? ⟨qb, qo + np, none⟩ = some (.slice xa xn xc) := fun u hu => by
      obtain ⟨b', o', e, hc⟩ := (HQ.out u hu).1 np (by rw [List.length_map]; exact hLn)
      injection e with e; injection e with e1 e2
      subst e1; subst e2
      rw [hc, List.getElem_map, ← hs]
      rfl
    have HQC := Lib.hid hqc
    have hcq := hqc W hchW
    obtain ⟨hxl, hxn⟩ := hl3 np hLn hPn
    rw [← hs, ← hPe] at hxl hxn
    simp only at hxl hxn
    obtain ⟨ib2, io2, hpa, hpc⟩ := ints_cells (HP.out W hchW) (by rw [plN, List.length_map, HK.out]; omega)
    subst hpa
    have hcp := hpc np (by rw [plN, List.length_map, HK.out]; exact hnk)
    rw [hat] at hcp
    rw [← hnp] at r14
    obtain ⟨T, hT⟩ : ∃ T, T = t0 ++ pre.map Pce.b := ⟨_, rfl⟩
    obtain ⟨m, hm⟩ : ∃ m, m = T.length := ⟨_, rfl⟩
    rw [← hT] at rc lg0 sw0 wok
    rw [← hm] at rc lg0 sw0
    have hm4 : m ≤ 104000 := by rw [hm, hT, List.length_append, List.length_map, ← hnp]; have := HT.out; omega
    have HSAME := Lib.hid (same_yes sa xa sc xc sm xn pb W hown.lies hxl hsm hxn.symm (by unfold maxLen; omega))
    have LG0 := Lib.hid lg0
    have LG := Lib.hid (lg0.keptC hkc)
    have SW := Lib.hid (show SOwn W base wa m wc Lw from Own.keptC sw0 hkc)
    have RC := Lib.hid (rc.keptC hkc)
    have R6 := Lib.hid (r6.keptC hkc)
    have R9 := Lib.hid (r9.keptC hkc)
    have R10 := Lib.hid (r10.keptC hkc)
    have R11 := Lib.hid (r11.keptC hkc)
    have R12 := Lib.hid (r12.keptC hkc)
    have R14 := Lib.hid (r14.keptC hkc)
    have HOWN := Lib.hid hown
    have HCW := Lib.hid hchW
    have HZW := Lib.hid hzW
    have HZ0 := Lib.hid (show base ≤ W0.heap.size by omega)
    have HZ0' := Lib.hid hz0
    have HFAR := Lib.hid hfar
    have HKZ := Lib.hid hkc.size
    have HOK := Lib.hid hok.at_
    have HWOK := Lib.hid wok
    have DJ := Lib.hid dj
    have HNP := Lib.hid hnp
    have HSX := Lib.hid hs
    have HPE := Lib.hid hPe
    have HTT := Lib.hid hT
    have HM := Lib.hid hm
    have c14 := Row.cell R14.out 0
    have c11 := Row.cell R11.out 0
    have c10 := Row.cell R10.out 0
    simp at c14 c11 c10
    have hge : decide ((k : Int) ≤ (np : Int)) = false := decide_eq_false (by omega)
    have hge2 : decide (k ≤ np) = false := decide_eq_false (by omega)
    have hne : ((at_ : Int) != (at_ : Int)) = false := by simp
    clear hfar hrr hok hown hl1 hl2 hl3 hqc hxl hpc lg0 sw0 rc r6 r9 r10 r11 r12 r14 hchW hzW hz0 hkc wok dj hnp hs hPe hT hm hat hxn rr
    simp only [List.setIfInBounds_toArray, List.set_cons_zero, List.set_cons_succ, Sl.val]
    gi_wp2_with ((with_reducible refine And.intro ?hh ?_); (case hh => exact trivial); gi_at_call 19; refine (calls_wide HSAME.out).mono ?_; rintro e W1 ⟨rfl, q5, hq5⟩; have GW1 := Lib.hid (show W.grownBy W1 none from hq5 ▸ grownBy_drewN _ _ _); clear hq5 q5)
    clear c14 c11 c10 hcp hcq hge hge2 hne
    have RCw := RC
    have SWw := SW
    have R14w := R14
    have R12w := R12
    have LG1 := Lib.hid (LG.out.grown GW1.out)
    have OG := Lib.hid (show Own W1 base 22 1 ga m gc (Lg.map Sl.val) from LG1.out.outer)
    replace SW := Lib.hid (show SOwn W1 base wa m wc Lw from Own.grownNone SW.out GW1.out)
    replace RC := Lib.hid (RC.out.grown GW1.out)
    replace R6 := Lib.hid (R6.out.grown GW1.out)
    replace R9 := Lib.hid (R9.out.grown GW1.out)
    replace R10 := Lib.hid (R10.out.grown GW1.out)
    replace R11 := Lib.hid (R11.out.grown GW1.out)
    replace R12 := Lib.hid (R12.out.grown GW1.out)
    replace R14 := Lib.hid (R14.out.grown GW1.out)
    replace HOWN := Lib.hid (BOwn.grown HOWN.out GW1.out)
    have HC1 := Lib.hid (HCW.out.then GW1.out)
    have ZB := Lib.hid (show base ≤ W1.heap.size from Nat.le_trans (show base ≤ W.heap.size by have := HZW.out; omega) GW1.out.size)
    have HGB := Lib.hid (show ∀ g, In ga gc g → bc ≤ g from fun g h => by have := (Own.inn OG.out h).1; omega)
    have HWB := Lib.hid (show ∀ g, In wa wc g → bc ≤ g from fun g h => by have := (Own.inn SW.out h).1; omega)
    refine wpIn_regionX (AppS W1 base 22 ga m gc (Lg.map Sl.val)) 10 (by kernel_rfl) (by kernel_rfl) ⟨Ch.ofNone (grownBy_drewN W1 1 none) _, Own.grownNone OG.out (grownBy_drewN W1 1 none)⟩ ?_
    refine wpX_take 0 (v := .pointer (some ⟨bc, 0, none⟩)) (oi := { dst := some 46, op := Op.load 98 (Operand.tmp 6), type := 98, pos := "law.go:132", after := #[], guard := none }) (oL := { dst := none, op := Op.store 24 (Operand.tmp 55) (Operand.tmp 53), type := 0, pos := "law.go:132", after := #[{ on := 9, ground := Ground.data }, { on := 7, ground := Ground.data }, { on := 7, ground := Ground.chain }, { on := 0, ground := Ground.phase }, { on := 1, ground := Ground.phase }, { on := 2, ground := Ground.phase }, { on := 3, ground := Ground.phase }, { on := 4, ground := Ground.phase }, { on := 5, ground := Ground.phase }, { on := 6, ground := Ground.phase }, { on := 7, ground := Ground.phase }], guard := none }) (clo_app _ _ _ _ _ _ _) rfl rfl rfl (by kernel_rfl) (by kernel_rfl) (by kernel_rfl) (by kernel_rfl) (by kernel_rfl) (fun _ _ _ h => by cases h.1) (YG.val (by rfl) (fun u hu => by have c := Row.cell (R6.out.ch hu.1 (row_in R6.out OG.out (by decide))) 0; simp at c; go_simp)) ?_
    simp only [Act.put, List.setIfInBounds_toArray, List.set_cons_zero, List.set_cons_succ]
    refine wpX_take 1 (v := .pointer (some ⟨bc, 0, none⟩)) (oi := { dst := some 47, op := Op.load 98 (Operand.tmp 6), type := 98, pos := "law.go:132", after := #[], guard := none }) (oL := { dst := none, op := Op.store 24 (Operand.tmp 55) (Operand.tmp 53), type := 0, pos := "law.go:132", after := #[{ on := 9, ground := Ground.data }, { on := 7, ground := Ground.data }, { on := 7, ground := Ground.chain }, { on := 0, ground := Ground.phase }, { on := 1, ground := Ground.phase }, { on := 2, ground := Ground.phase }, { on := 3, ground := Ground.phase }, { on := 4, ground := Ground.phase }, { on := 5, ground := Ground.phase }, { on := 6, ground := Ground.phase }, { on := 7, ground := Ground.phase }], guard := none }) (clo_app _ _ _ _ _ _ _) rfl rfl rfl (by kernel_rfl) (by kernel_rfl) (by kernel_rfl) (by kernel_rfl) (by kernel_rfl) (fun _ _ _ h => by cases h.1) (YG.val (by rfl) (fun u hu => by have c := Row.cell (R6.out.ch hu.1 (row_in R6.out OG.out (by decide))) 0; simp at c; go_simp)) ?_
    simp only [Act.put, List.setIfInBounds_toArray, List.set_cons_zero, List.set_cons_succ]
    refine wpX_take 2 (v := .pointer (some ⟨bc, 0, none⟩)) (oi := { dst := some 48, op := Op.nilCheck (Operand.tmp 47), type := 0, pos := "law.go:132", after := #[{ on := 1, ground := Ground.data }], guard := none }) (oL := { dst := none, op := Op.store 24 (Operand.tmp 55) (Operand.tmp 53), type := 0, pos := "law.go:132", after := #[{ on := 9, ground := Ground.data }, { on := 7, ground := Ground.data }, { on := 7, ground := Ground.chain }, { on := 0, ground := Ground.phase }, { on := 1, ground := Ground.phase }, { on := 2, ground := Ground.phase }, { on := 3, ground := Ground.phase }, { on := 4, ground := Ground.phase }, { on := 5, ground := Ground.phase }, { on := 6, ground := Ground.phase }, { on := 7, ground := Ground.phase }], guard := none }) (clo_app _ _ _ _ _ _ _) rfl rfl rfl (by kernel_rfl) (by kernel_rfl) (by kernel_rfl) (by kernel_rfl) (by kernel_rfl) (fun _ _ _ h => by cases h.1) (YG.val (by rfl) (fun _ _ => by go_simp)) ?_
    simp only [Act.put, List.setIfInBounds_toArray, List.set_cons_zero, List.set_cons_succ]
    refine wpX_take 3 (v := .pointer (some ⟨bc, 0, none⟩)) (oi := { dst := some 49, op := Op.fieldAddr 33 (Operand.tmp 48) 0, type := 0, pos := "law.go:132", after := #[{ on := 2, ground := Ground.data }], guard := none }) (oL := { dst := none, op := Op.store 24 (Operand.tmp 55) (Operand.tmp 53), type := 0, pos := "law.go:132", after := #[{ on := 9, ground := Ground.data }, { on := 7, ground := Ground.data }, { on := 7, ground := Ground.chain }, { on := 0, ground := Ground.phase }, { on := 1, ground := Ground.phase }, { on := 2, ground := Ground.phase }, { on := 3, ground := Ground.phase }, { on := 4, ground := Ground.phase }, { on := 5, ground := Ground.phase }, { on := 6, ground := Ground.phase }, { on := 7, ground := Ground.phase }], guard := none }) (clo_app _ _ _ _ _ _ _) rfl rfl rfl (by kernel_rfl) (by kernel_rfl) (by kernel_rfl) (by kernel_rfl) (by kernel_rfl) (fun _ _ _ h => by cases h.1) (YG.val (by rfl) (fun _ _ => by go_simp)) ?_
    simp only [Act.put, List.setIfInBounds_toArray, List.set_cons_zero, List.set_cons_succ]
    refine wpX_take 4 (v := .slice ga m gc) (oi := { dst := some 50, op := Op.load 24 (Operand.tmp 49), type := 24, pos := "law.go:132", after := #[{ on := 3, ground := Ground.data }], guard := none }) (oL := { dst := none, op := Op.store 24 (Operand.tmp 55) (Operand.tmp 53), type := 0, pos := "law.go:132", after := #[{ on := 9, ground := Ground.data }, { on := 7, ground := Ground.data }, { on := 7, ground := Ground.chain }, { on := 0, ground := Ground.phase }, { on := 1, ground := Ground.phase }, { on := 2, ground := Ground.phase }, { on := 3, ground := Ground.phase }, { on := 4, ground := Ground.phase }, { on := 5, ground := Ground.phase }, { on := 6, ground := Ground.phase }, { on := 7, ground := Ground.phase }], guard := none }) (clo_app _ _ _ _ _ _ _) rfl rfl rfl (by kernel_rfl) (by kernel_rfl) (by kernel_rfl) (by kernel_rfl) (by kernel_rfl) (fun _ _ _ h => by cases h.1) (YG.val (by rfl) (fun u hu => by have c := Row.cell (RC.out.ch hu.1 (row_in RC.out OG.out (by decide))) 0; simp at c; go_simp)) ?_
    simp only [Act.put, List.setIfInBounds_toArray, List.set_cons_zero, List.set_cons_succ]
    refine wpX_take 5 (v := .slice sa sm sc) (oi := { dst := some 51, op := Op.move (Operand.tmp 16), type := 22, pos := "law.go:132", after := #[], guard := none }) (oL := { dst := none, op := Op.store 24 (Operand.tmp 55) (Operand.tmp 53), type := 0, pos := "law.go:132", after := #[{ on := 9, ground := Ground.data }, { on := 7, ground := Ground.data }, { on := 7, ground := Ground.chain }, { on := 0, ground := Ground.phase }, { on := 1, ground := Ground.phase }, { on := 2, ground := Ground.phase }, { on := 3, ground := Ground.phase }, { on := 4, ground := Ground.phase }, { on := 5, ground := Ground.phase }, { on := 6, ground := Ground.phase }, { on := 7, ground := Ground.phase }], guard := none }) (clo_app _ _ _ _ _ _ _) rfl rfl rfl (by kernel_rfl) (by kernel_rfl) (by kernel_rfl) (by kernel_rfl) (by kernel_rfl) (fun _ _ _ h => by cases h.1) (YG.val (by rfl) (fun _ _ => by go_simp)) ?_
    simp only [Act.put, List.setIfInBounds_toArray, List.set_cons_zero, List.set_cons_succ]
    refine wpX_step 6 (o := { dst := some 52, op := Op.buildSlice 24 1 #[(0, Operand.tmp 51)], type := 24, pos := "law.go:132", after := #[{ on := 5, ground := Ground.data }], guard := none }) rfl rfl (by kernel_rfl) (by rfl) (fun u2 hS2 K hK => ?_)
    have HKK := Lib.hid hK
    have HS2 := Lib.hid hS2
    clear hK hS2
    have ha2 := World.grownBy_alloc u2 (.cells #[.slice sa sm sc] 22) none
    refine wp_val_op (v := .slice (some ⟨u2.heap.size, 0, none⟩) 1 1) (w1 := u2.alloc (.cells #[.slice sa sm sc] 22)) (by go_simp) ?_
    have hrw2 : Row (u2.alloc (.cells #[.slice sa sm sc] 22)) u2.heap.size 22 #[.slice sa sm sc] := heap_alloc_new u2 _
    refine HKK.out (fun u => AppS W1 base 22 ga m gc (Lg.map Sl.val) u ∧ Row u u2.heap.size 22 #[.slice sa sm sc]) _ _ ⟨clo_app _ _ _ _ _ _ _ _ _ HS2.out ha2, hrw2⟩ (fun u h => h.1) (clo_and (clo_app _ _ _ _ _ _ _) (clo_row _ _ _)) ?_
    simp only [Act.put, List.setIfInBounds_toArray, List.set_cons_zero, List.set_cons_succ]
    clear ha2 hrw2
    have hu26 : W1.heap.size ≤ u2.heap.size := HS2.out.1.size
    refine wpX_step 7 (o := { dst := some 53, op := Op.call { callee := Callee.builtin Builtin.append, args := #[Operand.tmp 50, Operand.tmp 52], argTypes := #[24, 24] }, type := 24, pos := "law.go:132", after := #[{ on := 4, ground := Ground.data }, { on := 6, ground := Ground.data }], guard := none }) rfl rfl (by kernel_rfl) (by rfl) (fun u3 hS3 K3 hK3 => ?_)
    have HK3 := Lib.hid hK3
    have HS3 := Lib.hid hS3
    clear hK3 hS3
    have hnews : ∀ j u, ([.slice sa sm sc] : List Value)[j]? = some u → u3.cell? ((⟨u2.heap.size, 0, none⟩ : Addr).add j) = some u := by
      intro j u hu
      have h2 : ((⟨u2.heap.size, 0, none⟩ : Addr).add j) = ⟨u2.heap.size, j, none⟩ := by unfold Addr.add; split <;> simp_all
      rw [h2, Row.cell HS3.out.2]
      simpa using hu
    have hzb : base ≤ u3.heap.size := by
      have h1 := ZB.out
      have h2 := HS3.out.1.1.size
      omega
    have hFn : ¬ In ga gc u2.heap.size := fun h => by
      have := (Own.inn OG.out h).2
      omega
    obtain ⟨gW2, cW2, w8, hrun, hown8, hgr8⟩ := run_app (P := Try.prog) (ty := 24) u3 elS HS3.out.1.2 ⟨u2.heap.size, 0, none⟩ 1 1 [.slice sa sm sc] rfl hnews (by simp [Value.oneCell']) (by unfold maxLen; omega) (by omega) hzb (fun _ _ _ => trivial) (by omega)
    refine wp_val_op (v := .slice (some ⟨gW2, 0, none⟩) (m + 1) cW2) (w1 := w8) (run_app_op u3 w8 _ (.tmp 50) (.tmp 52) rfl _ hrun) ?_
    refine HK3.out (fun u => (AppS W1 base 22 ga m gc (Lg.map Sl.val) u ∧ Row u u2.heap.size 22 #[.slice sa sm sc]) ∧ w8.grownBy u none) _ _ ⟨⟨⟨HS3.out.1.1.trans hgr8.ch (fun _ _ h => h), own_behind HS3.out.1.2 hown8 hgr8⟩, Row.ch HS3.out.2 hgr8.ch hFn⟩, World.grownBy.refl _ _⟩ (fun u h => h.1) (clo_and (clo_and (clo_app _ _ _ _ _ _ _) (clo_row _ _ _)) (clo_grown _)) ?_
    simp only [Act.put, List.setIfInBounds_toArray, List.set_cons_zero, List.set_cons_succ]
    refine wpX_take 8 (v := .pointer (some ⟨bc, 0, none⟩)) (oi := { dst := some 54, op := Op.nilCheck (Operand.tmp 46), type := 0, pos := "law.go:132", after := #[{ on := 0, ground := Ground.data }, { on := 0, ground := Ground.phase }, { on := 1, ground := Ground.phase }, { on := 2, ground := Ground.phase }, { on := 3, ground := Ground.phase }, { on := 4, ground := Ground.phase }, { on := 5, ground := Ground.phase }, { on := 6, ground := Ground.phase }, { on := 7, ground := Ground.phase }], guard := none }) (oL := { dst := none, op := Op.store 24 (Operand.tmp 55) (Operand.tmp 53), type := 0, pos := "law.go:132", after := #[{ on := 9, ground := Ground.data }, { on := 7, ground := Ground.data }, { on := 7, ground := Ground.chain }, { on := 0, ground := Ground.phase }, { on := 1, ground := Ground.phase }, { on := 2, ground := Ground.phase }, { on := 3, ground := Ground.phase }, { on := 4, ground := Ground.phase }, { on := 5, ground := Ground.phase }, { on := 6, ground := Ground.phase }, { on := 7, ground := Ground.phase }], guard := none }) (clo_and (clo_and (clo_app _ _ _ _ _ _ _) (clo_row _ _ _)) (clo_grown _)) rfl rfl rfl (by kernel_rfl) (by kernel_rfl) (by kernel_rfl) (by kernel_rfl) (by kernel_rfl) (fun _ _ _ h => by cases h.1) (YG.val (by rfl) (fun _ _ => by go_simp)) ?_
    simp only [Act.put, List.setIfInBounds_toArray, List.set_cons_zero, List.set_cons_succ]
    refine wpX_take 9 (v := .pointer (some ⟨bc, 0, none⟩)) (oi := { dst := some 55, op := Op.fieldAddr 33 (Operand.tmp 54) 0, type := 0, pos := "law.go:132", after := #[{ on := 8, ground := Ground.data }, { on := 0, ground := Ground.phase }, { on := 1, ground := Ground.phase }, { on := 2, ground := Ground.phase }, { on := 3, ground := Ground.phase }, { on := 4, ground := Ground.phase }, { on := 5, ground := Ground.phase }, { on := 6, ground := Ground.phase }, { on := 7, ground := Ground.phase }], guard := none }) (oL := { dst := none, op := Op.store 24 (Operand.tmp 55) (Operand.tmp 53), type := 0, pos := "law.go:132", after := #[{ on := 9, ground := Ground.data }, { on := 7, ground := Ground.data }, { on := 7, ground := Ground.chain }, { on := 0, ground := Ground.phase }, { on := 1, ground := Ground.phase }, { on := 2, ground := Ground.phase }, { on := 3, ground := Ground.phase }, { on := 4, ground := Ground.phase }, { on := 5, ground := Ground.phase }, { on := 6, ground := Ground.phase }, { on := 7, ground := Ground.phase }], guard := none }) (clo_and (clo_and (clo_app _ _ _ _ _ _ _) (clo_row _ _ _)) (clo_grown _)) rfl rfl rfl (by kernel_rfl) (by kernel_rfl) (by kernel_rfl) (by kernel_rfl) (by kernel_rfl) (fun _ _ _ h => by cases h.1) (YG.val (by rfl) (fun _ _ => by go_simp)) ?_
    simp only [Act.put, List.setIfInBounds_toArray, List.set_cons_zero, List.set_cons_succ]
    refine wpX_last (oL := { dst := none, op := Op.store 24 (Operand.tmp 55) (Operand.tmp 53), type := 0, pos := "law.go:132", after := #[{ on := 9, ground := Ground.data }, { on := 7, ground := Ground.data }, { on := 7, ground := Ground.chain }, { on := 0, ground := Ground.phase }, { on := 1, ground := Ground.phase }, { on := 2, ground := Ground.phase }, { on := 3, ground := Ground.phase }, { on := 4, ground := Ground.phase }, { on := 5, ground := Ground.phase }, { on := 6, ground := Ground.phase }, { on := 7, ground := Ground.phase }], guard := none }) rfl (by kernel_rfl) (by kernel_rfl) (by rfl) (fun u4 hS4 K4 hK4 => ?_)
    have hrow4 := RC.out.ch hS4.1.1.1 (row_in RC.out OG.out (by decide))
    have hc4 := Row.cell hrow4 0
    have hf4 := Row.frozen hrow4 0
    simp at hc4
    refine wp_skip_op (w1 := u4.setCell ⟨bc, 0, none⟩ (.slice (some ⟨gW2, 0, none⟩) (m + 1) cW2)) (by go_simp) (hK4 _ _ ?_)
    simp only [Act.put]
    obtain ⟨W2, hw9⟩ : ∃ W2, W2 = u4.setCell ⟨bc, 0, none⟩ (.slice (some ⟨gW2, 0, none⟩) (m + 1) cW2) := ⟨_, rfl⟩
    rw [← hw9]
    have hg9 : u4.grownBy W2 (some bc) := hw9 ▸ grownBy_setCell _ _ _ _
    have RW2 := Lib.hid (show Row W2 bc 33 #[.slice (some ⟨gW2, 0, none⟩) (m + 1) cW2, .slice wa m wc] from hw9 ▸ Row.setc hrow4 0 _)
    have hown4 : Own u4 base 22 1 (some ⟨gW2, 0, none⟩) (m + 1) cW2 (Lg.map Sl.val ++ [.slice sa sm sc]) := Own.grownNone hown8 hS4.2
    have hnb := row_in hrow4 hown4 (by decide)
    have OW2 := Lib.hid (Own.ch hown4 (Ch.ofSome (S := fun x => x = bc) hg9 rfl) (fun h0 g e h => by subst h; exact hnb ⟨h0, e⟩))
    have CW2 := Lib.hid (show Ch (fun x => In ga gc x ∨ x = bc) W1 W2 from (hS4.1.1.1.mono (fun _ _ h => .inl h)).trans (Ch.ofSome (S := fun x => In ga gc x ∨ x = bc) hg9 (.inr rfl)) (fun _ _ h => h))
    have IW2 := Lib.hid (show ∀ x, In (some ⟨gW2, 0, none⟩) cW2 x → In ga gc x ∨ W1.heap.size ≤ x from fun x hx => (hgr8.inn hx).imp id (fun h => Nat.le_trans (show W1.heap.size ≤ u3.heap.size from HS3.out.1.1.size) h))
    clear HKK HS2 HK3 HS3 hnews hzb hFn hrun hown8 hgr8 hS4 hK4 hrow4 hc4 hf4 hw9 hg9 hown4 hnb hu26
    refine ⟨rfl, ?_⟩
    show Exit.then _ _ _ _ _
    have n2 : ∀ y cs (T' : TypeId), Row W1 y T' cs → T' ≠ 22 → y ≠ bc → ¬ (In ga gc y ∨ y = bc) := fun y cs T' hr hT h h2 => h2.elim (row_in hr OG.out hT) h
    have R62 := Lib.hid (R6.out.ch CW2.out (n2 _ _ _ R6.out (by decide) (by omega)))
    have R92 := Lib.hid (R9.out.ch CW2.out (n2 _ _ _ R9.out (by decide) (by omega)))
    have R102 := Lib.hid (R10.out.ch CW2.out (n2 _ _ _ R10.out (by decide) (by omega)))
    have R112 := Lib.hid (R11.out.ch CW2.out (n2 _ _ _ R11.out (by decide) (by omega)))
    have R122 := Lib.hid (R12.out.ch CW2.out (n2 _ _ _ R12.out (by decide) (by omega)))
    have R142 := Lib.hid (R14.out.ch CW2.out (n2 _ _ _ R14.out (by decide) (by omega)))
    have LG2 := Lib.hid (LIs.pushR LG0.out HZ0.out LG1.out HOWN.out hbb CW2.out OW2.out)
    have HGS := OW2
    have RW2' := RW2
    have SW2 := Lib.hid (show SOwn W2 base wa m wc Lw from Own.ch SW.out CW2.out (fun h0 g e h => by
      rcases h with h | rfl
      · exact DJ.out g h ⟨h0, e⟩
      · have := (Own.inn SW.out (g := g) ⟨h0, e⟩).1; omega))
    have HC2 := Lib.hid (HC1.out.trans (CW2.out.mono (fun y _ h => h.elim (fun h => HGB.out _ h) (fun h => by omega))) (fun _ _ h => h))
    have ZB2 := Lib.hid (show base ≤ W2.heap.size from Nat.le_trans ZB.out CW2.out.size)
    have DJ2 := Lib.hid (show ∀ y, In (some ⟨gW2, 0, none⟩) cW2 y → In wa wc y → False from fun y h1 h2 => (IW2.out y h1).elim (fun h => DJ.out y h h2) (fun h => by have := (Own.inn SW.out h2).2; omega))
    clear n2 OW2
    have OW2 := Lib.hid (show Own W2 base 22 1 wa m wc (Lw.map Sl.val) from SW2.out)
    gi_wp2
    refine wpIn_regionX (AppS W2 base 22 wa m wc (Lw.map Sl.val)) 13 (by kernel_rfl) (by kernel_rfl) ⟨Ch.ofNone (grownBy_drewN W2 1 none) _, Own.grownNone OW2.out (grownBy_drewN W2 1 none)⟩ ?_
    refine wpX_take 0 (v := .pointer (some ⟨bc, 0, none⟩)) (oi := { dst := some 56, op := Op.load 98 (Operand.tmp 6), type := 98, pos := "law.go:133", after := #[], guard := none }) (oL := { dst := none, op := Op.store 24 (Operand.tmp 68) (Operand.tmp 66), type := 0, pos := "law.go:133", after := #[{ on := 12, ground := Ground.data }, { on := 10, ground := Ground.data }, { on := 10, ground := Ground.chain }, { on := 0, ground := Ground.phase }, { on := 1, ground := Ground.phase }, { on := 2, ground := Ground.phase }, { on := 3, ground := Ground.phase }, { on := 4, ground := Ground.phase }, { on := 5, ground := Ground.phase }, { on := 6, ground := Ground.phase }, { on := 7, ground := Ground.phase }, { on := 8, ground := Ground.phase }, { on := 9, ground := Ground.phase }, { on := 10, ground := Ground.phase }], guard := none }) (clo_app _ _ _ _ _ _ _) rfl rfl rfl (by kernel_rfl) (by kernel_rfl) (by kernel_rfl) (by kernel_rfl) (by kernel_rfl) (fun _ _ _ h => by cases h.1) (YG.val (by rfl) (fun u hu => by have c := Row.cell (R62.out.ch hu.1 (row_in R62.out OW2.out (by decide))) 0; simp at c; go_simp)) ?_
    simp only [Act.put, List.setIfInBounds_toArray, List.set_cons_zero, List.set_cons_succ]
    refine wpX_take 1 (v := .pointer (some ⟨bc, 0, none⟩)) (oi := { dst := some 57, op := Op.load 98 (Operand.tmp 6), type := 98, pos := "law.go:133", after := #[], guard := none }) (oL := { dst := none, op := Op.store 24 (Operand.tmp 68) (Operand.tmp 66), type := 0, pos := "law.go:133", after := #[{ on := 12, ground := Ground.data }, { on := 10, ground := Ground.data }, { on := 10, ground := Ground.chain }, { on := 0, ground := Ground.phase }, { on := 1, ground := Ground.phase }, { on := 2, ground := Ground.phase }, { on := 3, ground := Ground.phase }, { on := 4, ground := Ground.phase }, { on := 5, ground := Ground.phase }, { on := 6, ground := Ground.phase }, { on := 7, ground := Ground.phase }, { on := 8, ground := Ground.phase }, { on := 9, ground := Ground.phase }, { on := 10, ground := Ground.phase }], guard := none }) (clo_app _ _ _ _ _ _ _) rfl rfl rfl (by kernel_rfl) (by kernel_rfl) (by kernel_rfl) (by kernel_rfl) (by kernel_rfl) (fun _ _ _ h => by cases h.1) (YG.val (by rfl) (fun u hu => by have c := Row.cell (R62.out.ch hu.1 (row_in R62.out OW2.out (by decide))) 0; simp at c; go_simp)) ?_
    simp only [Act.put, List.setIfInBounds_toArray, List.set_cons_zero, List.set_cons_succ]
    refine wpX_take 2 (v := .pointer (some ⟨bc, 0, none⟩)) (oi := { dst := some 58, op := Op.nilCheck (Operand.tmp 57), type := 0, pos := "law.go:133", after := #[{ on := 1, ground := Ground.data }], guard := none }) (oL := { dst := none, op := Op.store 24 (Operand.tmp 68) (Operand.tmp 66), type := 0, pos := "law.go:133", after := #[{ on := 12, ground := Ground.data }, { on := 10, ground := Ground.data }, { on := 10, ground := Ground.chain }, { on := 0, ground := Ground.phase }, { on := 1, ground := Ground.phase }, { on := 2, ground := Ground.phase }, { on := 3, ground := Ground.phase }, { on := 4, ground := Ground.phase }, { on := 5, ground := Ground.phase }, { on := 6, ground := Ground.phase }, { on := 7, ground := Ground.phase }, { on := 8, ground := Ground.phase }, { on := 9, ground := Ground.phase }, { on := 10, ground := Ground.phase }], guard := none }) (clo_app _ _ _ _ _ _ _) rfl rfl rfl (by kernel_rfl) (by kernel_rfl) (by kernel_rfl) (by kernel_rfl) (by kernel_rfl) (fun _ _ _ h => by cases h.1) (YG.val (by rfl) (fun _ _ => by go_simp)) ?_
    simp only [Act.put, List.setIfInBounds_toArray, List.set_cons_zero, List.set_cons_succ]
    refine wpX_take 3 (v := .pointer (some ⟨bc, 1, none⟩)) (oi := { dst := some 59, op := Op.fieldAddr 33 (Operand.tmp 58) 1, type := 0, pos := "law.go:133", after := #[{ on := 2, ground := Ground.data }], guard := none }) (oL := { dst := none, op := Op.store 24 (Operand.tmp 68) (Operand.tmp 66), type := 0, pos := "law.go:133", after := #[{ on := 12, ground := Ground.data }, { on := 10, ground := Ground.data }, { on := 10, ground := Ground.chain }, { on := 0, ground := Ground.phase }, { on := 1, ground := Ground.phase }, { on := 2, ground := Ground.phase }, { on := 3, ground := Ground.phase }, { on := 4, ground := Ground.phase }, { on := 5, ground := Ground.phase }, { on := 6, ground := Ground.phase }, { on := 7, ground := Ground.phase }, { on := 8, ground := Ground.phase }, { on := 9, ground := Ground.phase }, { on := 10, ground := Ground.phase }], guard := none }) (clo_app _ _ _ _ _ _ _) rfl rfl rfl (by kernel_rfl) (by kernel_rfl) (by kernel_rfl) (by kernel_rfl) (by kernel_rfl) (fun _ _ _ h => by cases h.1) (YG.val (by rfl) (fun _ _ => by go_simp)) ?_
    simp only [Act.put, List.setIfInBounds_toArray, List.set_cons_zero, List.set_cons_succ]
    refine wpX_take 4 (v := .slice wa m wc) (oi := { dst := some 60, op := Op.load 24 (Operand.tmp 59), type := 24, pos := "law.go:133", after := #[{ on := 3, ground := Ground.data }], guard := none }) (oL := { dst := none, op := Op.store 24 (Operand.tmp 68) (Operand.tmp 66), type := 0, pos := "law.go:133", after := #[{ on := 12, ground := Ground.data }, { on := 10, ground := Ground.data }, { on := 10, ground := Ground.chain }, { on := 0, ground := Ground.phase }, { on := 1, ground := Ground.phase }, { on := 2, ground := Ground.phase }, { on := 3, ground := Ground.phase }, { on := 4, ground := Ground.phase }, { on := 5, ground := Ground.phase }, { on := 6, ground := Ground.phase }, { on := 7, ground := Ground.phase }, { on := 8, ground := Ground.phase }, { on := 9, ground := Ground.phase }, { on := 10, ground := Ground.phase }], guard := none }) (clo_app _ _ _ _ _ _ _) rfl rfl rfl (by kernel_rfl) (by kernel_rfl) (by kernel_rfl) (by kernel_rfl) (by kernel_rfl) (fun _ _ _ h => by cases h.1) (YG.val (by rfl) (fun u hu => by have c := Row.cell (RW2.out.ch hu.1 (row_in RW2.out OW2.out (by decide))) 1; simp at c; go_simp)) ?_
    simp only [Act.put, List.setIfInBounds_toArray, List.set_cons_zero, List.set_cons_succ]
    refine wpX_take 5 (v := .slice (some ⟨qb, qo, none⟩) k qc) (oi := { dst := some 61, op := Op.load 24 (Operand.tmp 11), type := 24, pos := "law.go:133", after := #[], guard := none }) (oL := { dst := none, op := Op.store 24 (Operand.tmp 68) (Operand.tmp 66), type := 0, pos := "law.go:133", after := #[{ on := 12, ground := Ground.data }, { on := 10, ground := Ground.data }, { on := 10, ground := Ground.chain }, { on := 0, ground := Ground.phase }, { on := 1, ground := Ground.phase }, { on := 2, ground := Ground.phase }, { on := 3, ground := Ground.phase }, { on := 4, ground := Ground.phase }, { on := 5, ground := Ground.phase }, { on := 6, ground := Ground.phase }, { on := 7, ground := Ground.phase }, { on := 8, ground := Ground.phase }, { on := 9, ground := Ground.phase }, { on := 10, ground := Ground.phase }], guard := none }) (clo_app _ _ _ _ _ _ _) rfl rfl rfl (by kernel_rfl) (by kernel_rfl) (by kernel_rfl) (by kernel_rfl) (by kernel_rfl) (fun _ _ _ h => by cases h.1) (YG.val (by rfl) (fun u hu => by have c := Row.cell (R112.out.ch hu.1 (row_in R112.out OW2.out (by decide))) 0; simp at c; go_simp)) ?_
    simp only [Act.put, List.setIfInBounds_toArray, List.set_cons_zero, List.set_cons_succ]
    refine wpX_take 6 (v := .int .i64 (np : Int)) (oi := { dst := some 62, op := Op.load 3 (Operand.tmp 14), type := 3, pos := "law.go:133", after := #[], guard := none }) (oL := { dst := none, op := Op.store 24 (Operand.tmp 68) (Operand.tmp 66), type := 0, pos := "law.go:133", after := #[{ on := 12, ground := Ground.data }, { on := 10, ground := Ground.data }, { on := 10, ground := Ground.chain }, { on := 0, ground := Ground.phase }, { on := 1, ground := Ground.phase }, { on := 2, ground := Ground.phase }, { on := 3, ground := Ground.phase }, { on := 4, ground := Ground.phase }, { on := 5, ground := Ground.phase }, { on := 6, ground := Ground.phase }, { on := 7, ground := Ground.phase }, { on := 8, ground := Ground.phase }, { on := 9, ground := Ground.phase }, { on := 10, ground := Ground.phase }], guard := none }) (clo_app _ _ _ _ _ _ _) rfl rfl rfl (by kernel_rfl) (by kernel_rfl) (by kernel_rfl) (by kernel_rfl) (by kernel_rfl) (fun _ _ _ h => by cases h.1) (YG.val (by rfl) (fun u hu => by have c := Row.cell (R142.out.ch hu.1 (row_in R142.out OW2.out (by decide))) 0; simp at c; go_simp)) ?_
    simp only [Act.put, List.setIfInBounds_toArray, List.set_cons_zero, List.set_cons_succ]
    refine wpX_take 7 (v := .pointer (some ⟨qb, qo + np, none⟩)) (oi := { dst := some 63, op := Op.indexAddr 24 (Operand.tmp 61) (Operand.tmp 62), type := 0, pos := "law.go:133", after := #[{ on := 5, ground := Ground.data }, { on := 6, ground := Ground.data }], guard := none }) (oL := { dst := none, op := Op.store 24 (Operand.tmp 68) (Operand.tmp 66), type := 0, pos := "law.go:133", after := #[{ on := 12, ground := Ground.data }, { on := 10, ground := Ground.data }, { on := 10, ground := Ground.chain }, { on := 0, ground := Ground.phase }, { on := 1, ground := Ground.phase }, { on := 2, ground := Ground.phase }, { on := 3, ground := Ground.phase }, { on := 4, ground := Ground.phase }, { on := 5, ground := Ground.phase }, { on := 6, ground := Ground.phase }, { on := 7, ground := Ground.phase }, { on := 8, ground := Ground.phase }, { on := 9, ground := Ground.phase }, { on := 10, ground := Ground.phase }], guard := none }) (clo_app _ _ _ _ _ _ _) rfl rfl rfl (by kernel_rfl) (by kernel_rfl) (by kernel_rfl) (by kernel_rfl) (by kernel_rfl) (fun _ _ _ h => by cases h.1) (YG.val (by rfl) (fun _ _ => by go_simp)) ?_
    simp only [Act.put, List.setIfInBounds_toArray, List.set_cons_zero, List.set_cons_succ]
    refine wpX_take 8 (v := .slice xa xn xc) (oi := { dst := some 64, op := Op.load 22 (Operand.tmp 63), type := 22, pos := "law.go:133", after := #[{ on := 7, ground := Ground.data }], guard := none }) (oL := { dst := none, op := Op.store 24 (Operand.tmp 68) (Operand.tmp 66), type := 0, pos := "law.go:133", after := #[{ on := 12, ground := Ground.data }, { on := 10, ground := Ground.data }, { on := 10, ground := Ground.chain }, { on := 0, ground := Ground.phase }, { on := 1, ground := Ground.phase }, { on := 2, ground := Ground.phase }, { on := 3, ground := Ground.phase }, { on := 4, ground := Ground.phase }, { on := 5, ground := Ground.phase }, { on := 6, ground := Ground.phase }, { on := 7, ground := Ground.phase }, { on := 8, ground := Ground.phase }, { on := 9, ground := Ground.phase }, { on := 10, ground := Ground.phase }], guard := none }) (clo_app _ _ _ _ _ _ _) rfl rfl rfl (by kernel_rfl) (by kernel_rfl) (by kernel_rfl) (by kernel_rfl) (by kernel_rfl) (fun _ _ _ h => by cases h.1) (YG.val (by rfl) (fun u hu => by have c := HQC.out u (HC2.out.trans (hu.1.mono (fun _ h1 h2 => HWB.out _ h2)) (fun _ _ h => h)); go_simp)) ?_
    simp only [Act.put, List.setIfInBounds_toArray, List.set_cons_zero, List.set_cons_succ]
    refine wpX_step 9 (o := { dst := some 65, op := Op.buildSlice 24 1 #[(0, Operand.tmp 64)], type := 24, pos := "law.go:133", after := #[{ on := 8, ground := Ground.data }], guard := none }) rfl rfl (by kernel_rfl) (by rfl) (fun u2 hS2 K hK => ?_)
    have HKK := Lib.hid hK
    have HS2 := Lib.hid hS2
    clear hK hS2
    have ha2 := World.grownBy_alloc u2 (.cells #[.slice xa xn xc] 22) none
    refine wp_val_op (v := .slice (some ⟨u2.heap.size, 0, none⟩) 1 1) (w1 := u2.alloc (.cells #[.slice xa xn xc] 22)) (by go_simp) ?_
    have hrw2 : Row (u2.alloc (.cells #[.slice xa xn xc] 22)) u2.heap.size 22 #[.slice xa xn xc] := heap_alloc_new u2 _
    refine HKK.out (fun u => AppS W2 base 22 wa m wc (Lw.map Sl.val) u ∧ Row u u2.heap.size 22 #[.slice xa xn xc]) _ _ ⟨clo_app _ _ _ _ _ _ _ _ _ HS2.out ha2, hrw2⟩ (fun u h => h.1) (clo_and (clo_app _ _ _ _ _ _ _) (clo_row _ _ _)) ?_
    simp only [Act.put, List.setIfInBounds_toArray, List.set_cons_zero, List.set_cons_succ]
    clear ha2 hrw2
    have hu26 : W2.heap.size ≤ u2.heap.size := HS2.out.1.size
    refine wpX_step 10 (o := { dst := some 66, op := Op.call { callee := Callee.builtin Builtin.append, args := #[Operand.tmp 60, Operand.tmp 65], argTypes := #[24, 24] }, type := 24, pos := "law.go:133", after := #[{ on := 4, ground := Ground.data }, { on := 9, ground := Ground.data }], guard := none }) rfl rfl (by kernel_rfl) (by rfl) (fun u3 hS3 K3 hK3 => ?_)
    have HK3 := Lib.hid hK3
    have HS3 := Lib.hid hS3
    clear hK3 hS3
    have hnews : ∀ j u, ([.slice xa xn xc] : List Value)[j]? = some u → u3.cell? ((⟨u2.heap.size, 0, none⟩ : Addr).add j) = some u := by
      intro j u hu
      have h2 : ((⟨u2.heap.size, 0, none⟩ : Addr).add j) = ⟨u2.heap.size, j, none⟩ := by unfold Addr.add; split <;> simp_all
      rw [h2, Row.cell HS3.out.2]
      simpa using hu
    have hzb : base ≤ u3.heap.size := by
      have h1 := ZB2.out
      have h2 := HS3.out.1.1.size
      omega
    have hFn : ¬ In wa wc u2.heap.size := fun h => by
      have := (Own.inn OW2.out h).2
      omega
    obtain ⟨gW3, cW3, w8, hrun, hown8, hgr8⟩ := run_app (P := Try.prog) (ty := 24) u3 elS HS3.out.1.2 ⟨u2.heap.size, 0, none⟩ 1 1 [.slice xa xn xc] rfl hnews (by simp [Value.oneCell']) (by unfold maxLen; omega) (by omega) hzb (fun _ _ _ => trivial) (by omega)
    refine wp_val_op (v := .slice (some ⟨gW3, 0, none⟩) (m + 1) cW3) (w1 := w8) (run_app_op u3 w8 _ (.tmp 60) (.tmp 65) rfl _ hrun) ?_
    refine HK3.out (fun u => (AppS W2 base 22 wa m wc (Lw.map Sl.val) u ∧ Row u u2.heap.size 22 #[.slice xa xn xc]) ∧ w8.grownBy u none) _ _ ⟨⟨⟨HS3.out.1.1.trans hgr8.ch (fun _ _ h => h), own_behind HS3.out.1.2 hown8 hgr8⟩, Row.ch HS3.out.2 hgr8.ch hFn⟩, World.grownBy.refl _ _⟩ (fun u h => h.1) (clo_and (clo_and (clo_app _ _ _ _ _ _ _) (clo_row _ _ _)) (clo_grown _)) ?_
    simp only [Act.put, List.setIfInBounds_toArray, List.set_cons_zero, List.set_cons_succ]
    refine wpX_take 11 (v := .pointer (some ⟨bc, 0, none⟩)) (oi := { dst := some 67, op := Op.nilCheck (Operand.tmp 56), type := 0, pos := "law.go:133", after := #[{ on := 0, ground := Ground.data }, { on := 0, ground := Ground.phase }, { on := 1, ground := Ground.phase }, { on := 2, ground := Ground.phase }, { on := 3, ground := Ground.phase }, { on := 4, ground := Ground.phase }, { on := 5, ground := Ground.phase }, { on := 6, ground := Ground.phase }, { on := 7, ground := Ground.phase }, { on := 8, ground := Ground.phase }, { on := 9, ground := Ground.phase }, { on := 10, ground := Ground.phase }], guard := none }) (oL := { dst := none, op := Op.store 24 (Operand.tmp 68) (Operand.tmp 66), type := 0, pos := "law.go:133", after := #[{ on := 12, ground := Ground.data }, { on := 10, ground := Ground.data }, { on := 10, ground := Ground.chain }, { on := 0, ground := Ground.phase }, { on := 1, ground := Ground.phase }, { on := 2, ground := Ground.phase }, { on := 3, ground := Ground.phase }, { on := 4, ground := Ground.phase }, { on := 5, ground := Ground.phase }, { on := 6, ground := Ground.phase }, { on := 7, ground := Ground.phase }, { on := 8, ground := Ground.phase }, { on := 9, ground := Ground.phase }, { on := 10, ground := Ground.phase }], guard := none }) (clo_and (clo_and (clo_app _ _ _ _ _ _ _) (clo_row _ _ _)) (clo_grown _)) rfl rfl rfl (by kernel_rfl) (by kernel_rfl) (by kernel_rfl) (by kernel_rfl) (by kernel_rfl) (fun _ _ _ h => by cases h.1) (YG.val (by rfl) (fun _ _ => by go_simp)) ?_
    simp only [Act.put, List.setIfInBounds_toArray, List.set_cons_zero, List.set_cons_succ]
    refine wpX_take 12 (v := .pointer (some ⟨bc, 1, none⟩)) (oi := { dst := some 68, op := Op.fieldAddr 33 (Operand.tmp 67) 1, type := 0, pos := "law.go:133", after := #[{ on := 11, ground := Ground.data }, { on := 0, ground := Ground.phase }, { on := 1, ground := Ground.phase }, { on := 2, ground := Ground.phase }, { on := 3, ground := Ground.phase }, { on := 4, ground := Ground.phase }, { on := 5, ground := Ground.phase }, { on := 6, ground := Ground.phase }, { on := 7, ground := Ground.phase }, { on := 8, ground := Ground.phase }, { on := 9, ground := Ground.phase }, { on := 10, ground := Ground.phase }], guard := none }) (oL := { dst := none, op := Op.store 24 (Operand.tmp 68) (Operand.tmp 66), type := 0, pos := "law.go:133", after := #[{ on := 12, ground := Ground.data }, { on := 10, ground := Ground.data }, { on := 10, ground := Ground.chain }, { on := 0, ground := Ground.phase }, { on := 1, ground := Ground.phase }, { on := 2, ground := Ground.phase }, { on := 3, ground := Ground.phase }, { on := 4, ground := Ground.phase }, { on := 5, ground := Ground.phase }, { on := 6, ground := Ground.phase }, { on := 7, ground := Ground.phase }, { on := 8, ground := Ground.phase }, { on := 9, ground := Ground.phase }, { on := 10, ground := Ground.phase }], guard := none }) (clo_and (clo_and (clo_app _ _ _ _ _ _ _) (clo_row _ _ _)) (clo_grown _)) rfl rfl rfl (by kernel_rfl) (by kernel_rfl) (by kernel_rfl) (by kernel_rfl) (by kernel_rfl) (fun _ _ _ h => by cases h.1) (YG.val (by rfl) (fun _ _ => by go_simp)) ?_
    simp only [Act.put, List.setIfInBounds_toArray, List.set_cons_zero, List.set_cons_succ]
    refine wpX_last (oL := { dst := none, op := Op.store 24 (Operand.tmp 68) (Operand.tmp 66), type := 0, pos := "law.go:133", after := #[{ on := 12, ground := Ground.data }, { on := 10, ground := Ground.data }, { on := 10, ground := Ground.chain }, { on := 0, ground := Ground.phase }, { on := 1, ground := Ground.phase }, { on := 2, ground := Ground.phase }, { on := 3, ground := Ground.phase }, { on := 4, ground := Ground.phase }, { on := 5, ground := Ground.phase }, { on := 6, ground := Ground.phase }, { on := 7, ground := Ground.phase }, { on := 8, ground := Ground.phase }, { on := 9, ground := Ground.phase }, { on := 10, ground := Ground.phase }], guard := none }) rfl (by kernel_rfl) (by kernel_rfl) (by rfl) (fun u4 hS4 K4 hK4 => ?_)
    have hrow4 := RW2.out.ch hS4.1.1.1 (row_in RW2.out OW2.out (by decide))
    have hc4 := Row.cell hrow4 1
    have hf4 := Row.frozen hrow4 1
    simp at hc4
    refine wp_skip_op (w1 := u4.setCell ⟨bc, 1, none⟩ (.slice (some ⟨gW3, 0, none⟩) (m + 1) cW3)) (by go_simp) (hK4 _ _ ?_)
    simp only [Act.put]
    obtain ⟨W3, hw9⟩ : ∃ W3, W3 = u4.setCell ⟨bc, 1, none⟩ (.slice (some ⟨gW3, 0, none⟩) (m + 1) cW3) := ⟨_, rfl⟩
    rw [← hw9]
    have hg9 : u4.grownBy W3 (some bc) := hw9 ▸ grownBy_setCell _ _ _ _
    have RW3 := Lib.hid (show Row W3 bc 33 #[.slice (some ⟨gW2, 0, none⟩) (m + 1) cW2, .slice (some ⟨gW3, 0, none⟩) (m + 1) cW3] from hw9 ▸ Row.setc hrow4 1 _)
    have hown4 : Own u4 base 22 1 (some ⟨gW3, 0, none⟩) (m + 1) cW3 (Lw.map Sl.val ++ [.slice xa xn xc]) := Own.grownNone hown8 hS4.2
    have hnb := row_in hrow4 hown4 (by decide)
    have OW3 := Lib.hid (Own.ch hown4 (Ch.ofSome (S := fun x => x = bc) hg9 rfl) (fun h0 g e h => by subst h; exact hnb ⟨h0, e⟩))
    have CW3 := Lib.hid (show Ch (fun x => In wa wc x ∨ x = bc) W2 W3 from (hS4.1.1.1.mono (fun _ _ h => .inl h)).trans (Ch.ofSome (S := fun x => In wa wc x ∨ x = bc) hg9 (.inr rfl)) (fun _ _ h => h))
    have IW3 := Lib.hid (show ∀ x, In (some ⟨gW3, 0, none⟩) cW3 x → In wa wc x ∨ W2.heap.size ≤ x from fun x hx => (hgr8.inn hx).imp id (fun h => Nat.le_trans (show W2.heap.size ≤ u3.heap.size from HS3.out.1.1.size) h))
    clear HKK HS2 HK3 HS3 hnews hzb hFn hrun hown8 hgr8 hS4 hK4 hrow4 hc4 hf4 hw9 hg9 hown4 hnb hu26
    refine ⟨rfl, ?_⟩
    show Exit.then _ _ _ _ _
    have n3 : ∀ y cs (T' : TypeId), Row W2 y T' cs → T' ≠ 22 → y ≠ bc → ¬ (In wa wc y ∨ y = bc) := fun y cs T' hr hT h h2 => h2.elim (row_in hr OW2.out hT) h
    have R63 := Lib.hid (R62.out.ch CW3.out (n3 _ _ _ R62.out (by decide) (by omega)))
    have R93 := Lib.hid (R92.out.ch CW3.out (n3 _ _ _ R92.out (by decide) (by omega)))
    have R103 := Lib.hid (R102.out.ch CW3.out (n3 _ _ _ R102.out (by decide) (by omega)))
    have R113 := Lib.hid (R112.out.ch CW3.out (n3 _ _ _ R112.out (by decide) (by omega)))
    have R123 := Lib.hid (R122.out.ch CW3.out (n3 _ _ _ R122.out (by decide) (by omega)))
    have R143 := Lib.hid (R142.out.ch CW3.out (n3 _ _ _ R142.out (by decide) (by omega)))
    have LG3 := Lib.hid (LG2.out.chS CW3.out (fun g hi h => by
        rcases h with h | rfl
        · exact DJ2.out g hi h
        · have := (Own.inn LG2.out.outer hi).1; omega) (fun i hi g hg h => by
        rcases h with h | rfl
        · exact byte_notin (LG2.out.inner i hi (by have := LG2.out.len; omega)) OW2.out g hg h
        · have := (LG2.out.inn hi hg).1; omega))
    have HC3 := Lib.hid (HC2.out.trans (CW3.out.mono (fun y _ h => h.elim (fun h => HWB.out _ h) (fun h => by omega))) (fun _ _ h => h))
    have DJ3 := Lib.hid (show ∀ y, In (some ⟨gW2, 0, none⟩) cW2 y → In (some ⟨gW3, 0, none⟩) cW3 y → False from fun y h1 h2 => (IW3.out y h2).elim (fun h => DJ2.out y h1 h) (fun h => by have := (Own.inn LG2.out.outer h1).2; omega))
    clear n3
    have SW3 := Lib.hid (show SOwn W3 base (some ⟨gW3, 0, none⟩) (m + 1) cW3 (Lw ++ [⟨xa, xn, xc⟩]) from by
      have h := OW3.out
      show Own _ _ _ _ _ _ _ _
      rw [List.map_append]
      exact h)
    have hTl : (T ++ [pb]).length = m + 1 := by rw [HM.out]; simp
    have CK3 : CkS bc base Lp P (T ++ [pb]) ⟨some ⟨gW2, 0, none⟩, cW2, Lg ++ [⟨sa, sm, sc⟩], some ⟨gW3, 0, none⟩, cW3, Lw ++ [⟨xa, xn, xc⟩]⟩ W3 := by
      refine ⟨?_, ?_, ?_, HWOK.out.push np hLn hPn HSX.out HPE.out, DJ3.out⟩
      · show Row _ _ _ #[.slice _ (T ++ [pb]).length _, .slice _ (T ++ [pb]).length _]
        rw [hTl]; exact RW3.out
      · show LIs _ _ _ (T ++ [pb]).length _ _ _
        rw [hTl]; exact LG3.out
      · show SOwn _ _ _ (T ++ [pb]).length _ _
        rw [hTl]; exact SW3.out
    have N14 := Lib.hid (fun i hi h => row_in R143.out (LG3.out.inner i hi (by have := LG3.out.len; omega)) (by decide) h : ∀ i (hi : i < (Lg ++ [(⟨sa, sm, sc⟩ : Sl)]).length), ¬ In ((Lg ++ [(⟨sa, sm, sc⟩ : Sl)])[i]).a ((Lg ++ [(⟨sa, sm, sc⟩ : Sl)])[i]).c b14)
    have N12 := Lib.hid (fun i hi h => row_in R123.out (LG3.out.inner i hi (by have := LG3.out.len; omega)) (by decide) h : ∀ i (hi : i < (Lg ++ [(⟨sa, sm, sc⟩ : Sl)]).length), ¬ In ((Lg ++ [(⟨sa, sm, sc⟩ : Sl)])[i]).a ((Lg ++ [(⟨sa, sm, sc⟩ : Sl)])[i]).c b12)
    have HCT := Lib.hid (show Ch (fun g => g = bc ∨ In ga gc g ∨ In wa wc g ∨ g = b14 ∨ g = b12) W W3 from ((Ch.ofNone GW1.out _).trans (CW2.out.mono (fun _ _ h => by rcases h with h | h <;> simp [h])) (fun _ _ h => h)).trans (CW3.out.mono (fun _ _ h => by rcases h with h | h <;> simp [h])) (fun _ _ h => h))
    have HCK3 := Lib.hid CK3
    clear CK3 hTl
    have c14 := Row.cell R143.out 0
    have f14 := Row.frozen R143.out 0
    have c9 := Row.cell R93.out 0
    simp at c14 c9
    obtain ⟨np1, hnp1⟩ : ∃ np1, np1 = np + 1 := ⟨_, rfl⟩
    have hw1 : IntKind.i64.wrap ((np : Int) + 1) = (np1 : Int) := by rw [IntWalk.i64_in _ (by omega)]; omega
    have hw2 : (np : Int) + 1 = (np1 : Int) := by omega
    have HNP1 := Lib.hid hnp1
    clear hnp1
    rcases Classical.em (M = (np1 : Int)) with hM | hM
    · have heq : ((np1 : Int) == M) = true := by rw [beq_iff_eq]; omega
      have HM1 := Lib.hid hM
      clear hM
      gi_wp2_with (first
        | (refine wpListIn_skipR (w1 := W3.setCell ⟨b14, 0, none⟩ (.int .i64 (np1 : Int))) 3 (.tmp 14) (.tmp 70) rfl rfl (fun c h => by cases h) (by go_simp) ?_; obtain ⟨W4, hW4⟩ : ∃ W4, W4 = W3.setCell ⟨b14, 0, none⟩ (.int .i64 (np1 : Int)) := ⟨_, rfl⟩; rw [← hW4]; have GW4 := Lib.hid (show W3.grownBy W4 (some b14) from hW4 ▸ grownBy_setCell _ _ _ _); have R144 := Lib.hid (show Row W4 b14 3 #[.int .i64 (np1 : Int)] from hW4 ▸ Row.setc R143.out 0 _); have R124 := Lib.hid (R123.out.grownNe GW4.out (by omega)); have c144 := Row.cell R144.out 0; have c94 := Row.cell (R93.out.grownNe GW4.out (by omega)) 0; have c124 := Row.cell R124.out 0; have f124 := Row.frozen R124.out 0; simp at c144 c94 c124; clear hW4 c14 f14 c9)
        | (refine wpListIn_skipR (w1 := W4.setCell ⟨b12, 0, none⟩ (.bool true)) 4 (.tmp 12) (.const (.bool true)) rfl rfl (fun c h => by cases h) (by go_simp) ?_; obtain ⟨W5, hW5⟩ : ∃ W5, W5 = W4.setCell ⟨b12, 0, none⟩ (.bool true) := ⟨_, rfl⟩; rw [← hW5]; have GW5 := Lib.hid (show W4.grownBy W5 (some b12) from hW5 ▸ grownBy_setCell _ _ _ _); have R125 := Lib.hid (show Row W5 b12 4 #[.bool true] from hW5 ▸ Row.setc R124.out 0 _); clear hW5 c144 c94 c124 f124))
      have hch45 : Ch (fun g => g = b14 ∨ g = b12) W3 W5 := (Ch.ofSome (S := fun g => g = b14 ∨ g = b12) GW4.out (.inl rfl)).trans (Ch.ofSome (S := fun g => g = b14 ∨ g = b12) GW5.out (.inr rfl)) (fun _ _ h => h)
      have hck3 := (show CkS bc base Lp P (T ++ [pb]) ⟨some ⟨gW2, 0, none⟩, cW2, Lg ++ [⟨sa, sm, sc⟩], some ⟨gW3, 0, none⟩, cW3, Lw ++ [⟨xa, xn, xc⟩]⟩ W3 from HCK3.out)
      have hck4 := hck3.ch (Ch.ofSome (S := fun y => y = b14) GW4.out rfl) (by omega) (fun y hy e => by omega) (row_in R143.out LG3.out.outer (by decide)) (row_in R143.out SW3.out (by decide)) (fun i hi h => N14.out i hi h)
      have hck5 := hck4.ch (Ch.ofSome (S := fun y => y = b12) GW5.out rfl) (by omega) (fun y hy e => by omega) (row_in R124.out hck4.2.1.outer (by decide)) (row_in R124.out hck4.2.2.1 (by decide)) (fun i hi h => N12.out i hi h)
      have hch : Ch (fun g => g = bc ∨ In ga gc g ∨ In wa wc g ∨ g = b14 ∨ g = b12) W W5 := HCT.out.trans (hch45.mono (fun _ _ h => by rcases h with h | h <;> simp [h])) (fun _ _ h => h)
      refine ⟨KeepsFrom.ch hch (fun g hS => ?_), rfl, ⟨some ⟨gW2, 0, none⟩, cW2, Lg ++ [⟨sa, sm, sc⟩], some ⟨gW3, 0, none⟩, cW3, Lw ++ [⟨xa, xn, xc⟩]⟩, R125.out, ?_, HC3.out.trans (hch45.mono (fun y _ h => by rcases h with h | h <;> omega)) (fun _ _ h => h)⟩
      · rcases hS with rfl | h | h | rfl | rfl
        · exact ⟨_, _, _, RCw.out⟩
        · exact Own.cellsAt LG.out.outer h
        · exact Own.cellsAt SWw.out h
        · exact ⟨_, _, _, R14w.out⟩
        · exact ⟨_, _, _, R12w.out⟩
      · rw [show t0 ++ (pre ++ [(⟨at_, ⟨sa, sm, sc⟩, pb⟩ : Pce)]).map Pce.b = T ++ [pb] by rw [HTT.out]; simp]
        exact hck5
    · have heq : ((np1 : Int) == M) = false := by rw [beq_eq_false_iff_ne]; omega
      clear hM
      gi_wp2_with (refine wpListIn_skipR (w1 := W3.setCell ⟨b14, 0, none⟩ (.int .i64 (np1 : Int))) 3 (.tmp 14) (.tmp 70) rfl rfl (fun c h => by cases h) (by go_simp) ?_; obtain ⟨W4, hW4⟩ : ∃ W4, W4 = W3.setCell ⟨b14, 0, none⟩ (.int .i64 (np1 : Int)) := ⟨_, rfl⟩; rw [← hW4]; have GW4 := Lib.hid (show W3.grownBy W4 (some b14) from hW4 ▸ grownBy_setCell _ _ _ _); have R144 := Lib.hid (show Row W4 b14 3 #[.int .i64 (np1 : Int)] from hW4 ▸ Row.setc R143.out 0 _); have c144 := Row.cell R144.out 0; have c94 := Row.cell (R93.out.grownNe GW4.out (by omega)) 0; simp at c144 c94; clear hW4 c14 f14 c9)
      have hck3 := (show CkS bc base Lp P (T ++ [pb]) ⟨some ⟨gW2, 0, none⟩, cW2, Lg ++ [⟨sa, sm, sc⟩], some ⟨gW3, 0, none⟩, cW3, Lw ++ [⟨xa, xn, xc⟩]⟩ W3 from HCK3.out)
      have hck4 := hck3.ch (Ch.ofSome (S := fun y => y = b14) GW4.out rfl) (by omega) (fun y hy e => by omega) (row_in R143.out LG3.out.outer (by decide)) (row_in R143.out SW3.out (by decide)) (fun i hi h => N14.out i hi h)
      have hch4 : Ch (fun g => g = b14) W3 W4 := Ch.ofSome (S := fun g => g = b14) GW4.out rfl
      have hch : Ch (fun g => g = bc ∨ In ga gc g ∨ In wa wc g ∨ g = b14 ∨ g = b12) W W4 := HCT.out.trans (hch4.mono (fun _ _ h => by simp [h])) (fun _ _ h => h)
      refine ⟨KeepsFrom.ch hch (fun g hS => ?_), KeptS.ch hch (fun g hs hS => ?_), ⟨some ⟨gW2, 0, none⟩, cW2, Lg ++ [⟨sa, sm, sc⟩], some ⟨gW3, 0, none⟩, cW3, Lw ++ [⟨xa, xn, xc⟩]⟩, R63.out.grownNe GW4.out (by omega), R93.out.grownNe GW4.out (by omega), R103.out.grownNe GW4.out (by omega), R113.out.grownNe GW4.out (by omega), R123.out.grownNe GW4.out (by omega), ?_, ?_, HC3.out.trans (hch4.mono (fun y _ h => by omega)) (fun _ _ h => h), ?_, ?_⟩
      · rcases hS with rfl | h | h | rfl | rfl
        · exact ⟨_, _, _, RCw.out⟩
        · exact Own.cellsAt LG.out.outer h
        · exact Own.cellsAt SWw.out h
        · exact ⟨_, _, _, R14w.out⟩
        · exact ⟨_, _, _, R12w.out⟩
      · have h1 := HBP.out g hs
        have h2 := HFAR.out g
        rcases hS with h | h | h | h | h
        · omega
        · rcases h2 (.inl h) with h3 | h3 <;> omega
        · rcases h2 (.inr h) with h3 | h3 <;> omega
        · omega
        · omega
      · rw [show ((pre ++ [(⟨at_, ⟨sa, sm, sc⟩, pb⟩ : Pce)]).length : Int) = (np1 : Int) by have := HNP.out; have := HNP1.out; simp; omega]
        exact R144.out
      · rw [show t0 ++ (pre ++ [(⟨at_, ⟨sa, sm, sc⟩, pb⟩ : Pce)]).map Pce.b = T ++ [pb] by rw [HTT.out]; simp]
        exact hck4
      · have h1 := HZW.out; have h2 := hch.size; omega
      · intro y hy
        rcases hy with hy | hy
        · rcases IW2.out y hy with h | h
          · exact HFAR.out y (.inl h)
          · exact .inr (by have h1 := HZW.out; have h2 := GW1.out.size; omega)
        · rcases IW3.out y hy with h | h
          · exact HFAR.out y (.inr h)
          · exact .inr (by have h1 := HZW.out; have h2 := GW1.out.size; have h3 := CW2.out.size; omega)
end Go.Proofs.Ythemlaibjchjpaa
/- A range over a function within a round of another, the iterator telling each round what it has made. Printed by gens/itern.py. -/
namespace Go.Proofs.Ythemlaibjchjpaa
open Go.RowKit Go.Shelf

variable {F : Fence} {n : Nat} {P : Program}

set_option maxHeartbeats 1000000 in
/-- the caller's law, its body told of the loop's own record -/
theorem wpIn_rangeOkL {α : Type} {g : Operand} {ps : Array Tmp} {assign body : Code} {Q : Exit → Act → World → Prop} {a : Act} {w : World}
    (hro : F.round = none) (h1 : 1 ≤ n) {gf : Nat} {lb : Array Value} (hg : a.eval g = .func (.func gf) #[] lb) (hFg : F.fn gf) (eg : ∀ args w, (callFunc gf args).run P w = .ok (.enter gf args) w)
    {encs : α → Array Value} {Kp : World → World → Prop} {Ok : List α → α → World → World → Prop} {S Sp : List α → Prop} {w0 : World} (hseq : SeqOk F (n - 1) P gf lb encs Kp Ok S Sp w0)
    (hKt : ∀ {A B C : World}, Kp A B → Kp B C → Kp A C) (hKb : ∀ (W : World) (l : Nat) (o o' : Obj), w.heap.size ≤ l → W.heap[l]? = some o → o.isCells = false → o.isWalk = false → Kp W (W.putObj l o'))
    (hOk : ∀ pre x (W0 W : World) (l : Nat) (o o' : Obj), Ok pre x W0 W → W.heap[l]? = some o → o.isCells = false → Ok pre x W0 (W.putObj l o'))
    (hb0 : Below w0.heap.size w0 w) (hps : ∀ x, (encs x).size = ps.size)
    (I : List α → World → Prop) (Ix : Code → List α → World → Prop) (hI : OwnFrom w.heap.size I) (hIx : ∀ c, OwnFrom w.heap.size (Ix c)) (h0 : I [] w) (asg : Array Value → α → Array Value)
    (hassign : ∀ (l : Nat) (x : α) (W : World) (K : Act → World → Prop), K { tmps := asg a.tmps x, defers := [] } W →
      assign.wpIn (F.inRound l) (n - 1 - 1) P (Exit.then K (fun _ _ _ => False)) { tmps := (ps.zip (encs x)).foldl (fun t (p, v) => t.setIfInBounds p v) a.tmps, defers := [] } W)
    (hbody : ∀ (l : Nat) (pre : List α) (x : α) (W0 W : World), w.heap.size ≤ l → (∃ r, W.heap[l]? = some (.loop r)) → I pre W0 → I pre W → KeptC W0 W → Ok pre x W0 W → body.wpIn (F.inRound l) (n - 1 - 1) P (ownPostG w.heap.size Kp I Ix (pre ++ [x]) W) { tmps := asg a.tmps x, defers := [] } W)
    (hdone : ∀ (D : Nat) (xs : List α) (W : World), w.heap.size ≤ D → S xs → I xs W → W.heap[D]? = some (.deferred (some [])) → Q .normal { a with defers := { target := .collected D, args := #[] } :: a.defers } W)
    (hstop : ∀ (D : Nat) (c : Code) (pre : List α) (W : World), w.heap.size ≤ D → Sp pre → Ix c pre W → W.heap[D]? = some (.deferred (some [])) → c.wpIn F n P Q { a with defers := { target := .collected D, args := #[] } :: a.defers } W) :
    (Code.rangeFunc g ps assign body).wpIn F n P Q a w := by
  refine wpIn_rangeFunc fun fn hfn => ?_
  rw [hro]
  -- D the block for the rounds' deferred calls, R the loop's record
  obtain ⟨D, hD⟩ : ∃ D, D = w.heap.size := ⟨_, rfl⟩
  obtain ⟨rec, hrec⟩ : ∃ rec : LoopState → Option Code → Loop, rec = fun st pe => { state := st, pending := pe, fn, tmps := a.tmps, params := ps, assign, body, defers := D } := ⟨_, rfl⟩
  obtain ⟨V, hV⟩ : ∃ V, V = (w.alloc (.deferred (some []))).alloc (.loop (rec .ready none)) := ⟨_, rfl⟩
  have hsz : V.heap.size = D + 2 := by rw [hV, hD]; simp
  have hrun : (Instr.enterLoop fn a.tmps ps assign body none).run P w = .ok (D + 1, [{ target := .collected D, args := #[] }]) V := by
    rw [hV, hrec, hD]; exact run_enterLoop_outer _ _ _ _ _
  have hVl : V.heap[D + 1]? = some (.loop (rec .ready none)) := by
    have h := World.alloc_heap_new (w.alloc (.deferred (some []))) (.loop (rec .ready none))
    rw [World.size_alloc, ← hD] at h
    rw [hV]; exact h
  have hVd : V.heap[D]? = some (.deferred (some [])) := by
    rw [hV, hD]; exact (Below.heap_alloc _ _ _ (by simp)).trans (World.alloc_heap_new w _)
  have hVI : I [] V := by rw [hV]; exact hI.alloc _ (hI.alloc _ h0)
  have hVb : Below w0.heap.size w0 V := by
    rw [hV]; exact hb0.trans ((((Below.refl _ w).alloc (Nat.le_refl _) _).alloc (by simp) _).mono hb0.size)
  have hDw : w.heap.size ≤ D := by omega
  clear hV
  -- the two facts of the law's own, kept by what turns other blocks
  have two : ∀ {A B : World} {row : Option Nat} (o1 o2 : Obj), o1.isCells = false → o2.isCells = false → o1.isWalk = false → o2.isWalk = false → A.grownBy B row → (∀ r, row = some r → V.heap.size ≤ r ∧ ∃ o : Obj, A.heap[r]? = some o ∧ o.isWalk = true) →
      A.heap[D + 1]? = some o1 → A.heap[D]? = some o2 → B.heap[D + 1]? = some o1 ∧ B.heap[D]? = some o2 := by
    intro A B row o1 o2 _ _ _ _ hgr hr e1 e2
    have ne : ∀ k, k < V.heap.size → row ≠ some k := fun k hk e => by have := (hr k e).1; omega
    have h1 := (Array.getElem?_eq_some_iff.1 e1).1
    have h2 := (Array.getElem?_eq_some_iff.1 e2).1
    exact ⟨(hgr.block _ h1 (Ne.symm (ne (D + 1) (by omega)))).trans e1, (hgr.block _ h2 (Ne.symm (ne D (by omega)))).trans e2⟩
  have nw : ∀ {A : World} {row : Option Nat}, (∀ r, row = some r → V.heap.size ≤ r ∧ ∃ o : Obj, A.heap[r]? = some o ∧ o.isWalk = true) → (∀ r, row = some r → w.heap.size ≤ r ∧ ∃ o : Obj, A.heap[r]? = some o ∧ o.isCells = false) :=
    fun hr r e => by obtain ⟨hB, o, ho, hw⟩ := hr r e; exact ⟨by omega, o, ho, Obj.not_cells_of_walk hw⟩
  refine ⟨D + 1, _, V, { target := .fn (.func gf) lb, args := #[.func (.yield (D + 1)) #[] #[]] }, V, gf, #[.func (.yield (D + 1)) #[] #[]] ++ lb, V, hrun, ?_, ?_, ?_, fun _ => h1, ?_⟩
  · simp only [resolve, hg]
    simp [go_sem]
  · intro f' hf'
    simp [Target.leads] at hf'
    subst hf'
    exact hFg
  · simp [invoke, go_sem, eg]
  refine CallsIn.mono (hseq (D + 1) (fun pre W => I pre W ∧ W.heap[D + 1]? = some (.loop (rec .ready none)) ∧ W.heap[D]? = some (.deferred (some [])))
    (fun pre W => ∃ c, Ix c pre W ∧ W.heap[D + 1]? = some (.loop (rec .done (some c))) ∧ W.heap[D]? = some (.deferred (some []))) V hVb
    (fun s A B row hs hgr hr => ⟨hI s A B row hs.1 hgr (nw hr), two _ _ rfl rfl rfl rfl hgr hr hs.2.1 hs.2.2⟩)
    (fun s A B row ⟨c, hc, e1, e2⟩ hgr hr => ⟨c, hIx c s A B row hc hgr (nw hr), two _ _ rfl rfl rfl rfl hgr hr e1 e2⟩) ?_ ⟨hVI, hVl, hVd⟩) ?_
  · rintro pre x W0 W ⟨hi0, _, _⟩ ⟨hi, hl, hk⟩ hkc hok
    obtain ⟨U, hU⟩ : ∃ U, U = W.putObj (D + 1) (.loop { rec .ready none with state := .busy }) := ⟨_, rfl⟩
    have hy := run_yield (P := P) (args := encs x) hl (by rw [hrec]; exact hps x)
    rw [hrec] at hy
    have hbeg : (Instr.beginRound (D + 1)).run P W = .ok () U := by rw [hU]; exact run_beginRound hl (by rw [hrec])
    refine ⟨fn, _, assign, body, hy, roundIn_of_wpIn hfn (hassign _ x W _ ⟨U, hbeg, ?_⟩)⟩
    have hUl : U.heap[D + 1]? = some (.loop { rec .ready none with state := .busy }) := by rw [hU]; exact World.putObj_heap_same (Array.getElem?_eq_some_iff.1 hl).1
    have hUd : U.heap[D]? = some (.deferred (some [])) := by rw [hU]; exact (World.putObj_heap_other (by omega)).trans hk
    have hUK : Kp W U := by rw [hU]; exact hKb _ _ _ _ (by omega) hl rfl rfl
    have hUI : I pre U := by rw [hU]; exact hI.putObj _ hi (by omega) hl rfl
    have hUC : KeptC W0 U := by rw [hU]; exact hkc.put _ _ hl rfl
    have hUO : Ok pre x W0 U := by rw [hU]; exact hOk _ _ _ _ _ _ _ hok hl rfl
    clear hU hbeg
    refine wpIn_mono (hbody _ pre x W0 U (by omega) ⟨_, hUl⟩ hi0 hUI hUC hUO) ?_
    -- the round's end
    have fin : ∀ (j : Option Code) (X : World), KeepsFrom w.heap.size U X → ∃ Y, Y = X.putObj (D + 1) (.loop (rec (if j.isNone then .ready else .done) j)) ∧
        (Instr.endRound (D + 1) j).run P X = .ok (.bool j.isNone) Y ∧ X.heap[D + 1]? = some (.loop { rec .ready none with state := .busy }) ∧ Y.heap[D + 1]? = some (.loop (rec (if j.isNone then .ready else .done) j)) ∧ Y.heap[D]? = some (.deferred (some [])) := by
      intro j X hX
      have e1 := hX.same _ _ (by omega) hUl rfl
      have e2 := hX.same _ _ hDw hUd rfl
      have hr := run_endRound (P := P) j e1
      rw [hrec] at hr
      refine ⟨_, rfl, ?_, e1, World.putObj_heap_same (Array.getElem?_eq_some_iff.1 e1).1, (World.putObj_heap_other (by omega)).trans e2⟩
      rw [hrec]
      exact hr
    have leave : ∀ (c : Code) (X : World), KeepsFrom w.heap.size U X → Ix c (pre ++ [x]) X → ∃ Y, (Instr.endRound (D + 1) (some c)).run P X = .ok (.bool false) Y ∧ Ix c (pre ++ [x]) Y ∧ Y.heap[D + 1]? = some (.loop (rec .done (some c))) ∧ Y.heap[D]? = some (.deferred (some [])) := by
      intro c X hX hx
      obtain ⟨Y, hY, hr, e0, e1, e2⟩ := fin (some c) X hX
      refine ⟨Y, hr, ?_, e1, e2⟩
      rw [hY]
      exact (hIx c).putObj _ hx (by omega) e0 rfl
    rintro e a3 X hp
    cases e with
    | normal =>
      obtain ⟨hX, hXK, hXI⟩ := hp
      obtain ⟨Y, hY, hr, e0, e1, e2⟩ := fin none X hX
      refine ⟨_, _, hr, .inl ⟨rfl, ⟨?_, e1, e2⟩, ?_⟩⟩
      · rw [hY]; exact hI.putObj _ hXI (by omega) e0 rfl
      · rw [hY]; exact hKt (hKt hUK hXK) (hKb _ _ _ _ (by omega) e0 rfl rfl)
    | ret => obtain ⟨Y, hr, h2, h3, h4⟩ := leave .ret X hp.1 hp.2; exact ⟨_, _, hr, .inr ⟨rfl, .ret, h2, h3, h4⟩⟩
    | exit id => obtain ⟨Y, hr, h2, h3, h4⟩ := leave (.exit id) X hp.1 hp.2; exact ⟨_, _, hr, .inr ⟨rfl, .exit id, h2, h3, h4⟩⟩
    | goto t => obtain ⟨Y, hr, h2, h3, h4⟩ := leave (.goto t) X hp.1 hp.2; exact ⟨_, _, hr, .inr ⟨rfl, .goto t, h2, h3, h4⟩⟩
    | panic ch => exact hp.elim
    | outgrown => exact hp.elim
  · rintro e X ⟨⟨v, rfl⟩, (⟨xs, hS, hi, hl, hk⟩ | ⟨pre, hSp, c, hi, hl, hk⟩)⟩
    · have hr := run_endLoop (P := P) hl (by rw [hrec]; simp)
      rw [hrec] at hr
      exact ⟨none, _, hr, hdone _ xs _ hDw hS (hI.putObj _ hi (by omega) hl rfl) ((World.putObj_heap_other (by omega)).trans hk)⟩
    · have hr := run_endLoop (P := P) hl (by rw [hrec]; simp)
      rw [hrec] at hr
      exact ⟨some c, _, hr, hstop _ c pre _ hDw hSp ((hIx c).putObj _ hi (by omega) hl rfl) ((World.putObj_heap_other (by omega)).trans hk)⟩

set_option maxHeartbeats 1000000 in
/-- the law within a round of loop l₀ -/
theorem wpIn_rangeOkN {α : Type} {g : Operand} {ps : Array Tmp} {assign body : Code} {Q : Exit → Act → World → Prop} {a : Act} {w : World}
    {l₀ : Nat} {r₀ : Loop} (hro : F.round = some l₀) (hl₀ : w.heap[l₀]? = some (.loop r₀)) (h1 : 1 ≤ n) {gf : Nat} {lb : Array Value} (hg : a.eval g = .func (.func gf) #[] lb) (hFg : F.fn gf) (eg : ∀ args w, (callFunc gf args).run P w = .ok (.enter gf args) w)
    {encs : α → Array Value} {Kp : World → World → Prop} {Ok : List α → α → World → World → Prop} {S Sp : List α → Prop} {w0 : World} (hseq : SeqOk F (n - 1) P gf lb encs Kp Ok S Sp w0)
    (hKt : ∀ {A B C : World}, Kp A B → Kp B C → Kp A C) (hKb : ∀ (W : World) (l : Nat) (o o' : Obj), w.heap.size ≤ l → W.heap[l]? = some o → o.isCells = false → o.isWalk = false → Kp W (W.putObj l o'))
    (hOk : ∀ pre x (W0 W : World) (l : Nat) (o o' : Obj), Ok pre x W0 W → W.heap[l]? = some o → o.isCells = false → Ok pre x W0 (W.putObj l o'))
    (hb0 : Below w0.heap.size w0 w) (hps : ∀ x, (encs x).size = ps.size)
    (I : List α → World → Prop) (Ix : Code → List α → World → Prop) (hI : OwnFrom w.heap.size I) (hIx : ∀ c, OwnFrom w.heap.size (Ix c)) (h0 : I [] w) (asg : Array Value → α → Array Value)
    (hassign : ∀ (l : Nat) (x : α) (W : World) (K : Act → World → Prop), K { tmps := asg a.tmps x, defers := [] } W →
      assign.wpIn (F.inRound l) (n - 1 - 1) P (Exit.then K (fun _ _ _ => False)) { tmps := (ps.zip (encs x)).foldl (fun t (p, v) => t.setIfInBounds p v) a.tmps, defers := [] } W)
    (hbody : ∀ (l : Nat) (pre : List α) (x : α) (W0 W : World), w.heap.size ≤ l → (∃ r, W.heap[l]? = some (.loop r)) → I pre W0 → I pre W → KeptC W0 W → Ok pre x W0 W → body.wpIn (F.inRound l) (n - 1 - 1) P (ownPostG w.heap.size Kp I Ix (pre ++ [x]) W) { tmps := asg a.tmps x, defers := [] } W)
    (hdone : ∀ (xs : List α) (W : World), S xs → I xs W → Q .normal a W)
    (hstop : ∀ (c : Code) (pre : List α) (W : World), Sp pre → Ix c pre W → c.wpIn F n P Q a W) :
    (Code.rangeFunc g ps assign body).wpIn F n P Q a w := by
  refine wpIn_rangeFunc fun fn hfn => ?_
  rw [hro]
  obtain ⟨D, hD⟩ : ∃ D, D = w.heap.size := ⟨_, rfl⟩
  obtain ⟨rec, hrec⟩ : ∃ rec : LoopState → Option Code → Loop, rec = fun st pe => { state := st, pending := pe, fn, tmps := a.tmps, params := ps, assign, body, defers := r₀.defers } := ⟨_, rfl⟩
  obtain ⟨V, hV⟩ : ∃ V, V = w.alloc (.loop (rec .ready none)) := ⟨_, rfl⟩
  have hsz : V.heap.size = D + 1 := by rw [hV, hD]; simp
  have hrun : (Instr.enterLoop fn a.tmps ps assign body (some l₀)).run P w = .ok (D, []) V := by
    rw [hV, hrec, hD]; exact run_enterLoop_inner hl₀ _ _ _ _ _
  have hVl : V.heap[D]? = some (.loop (rec .ready none)) := by rw [hV, hD]; exact World.alloc_heap_new w _
  have hVI : I [] V := by rw [hV]; exact hI.alloc _ h0
  have hVb : Below w0.heap.size w0 V := by
    rw [hV]; exact hb0.trans (((Below.refl _ w).alloc (Nat.le_refl _) _).mono hb0.size)
  have hDw : w.heap.size ≤ D := by omega
  clear hV
  have one : ∀ {A B : World} {row : Option Nat} (o1 : Obj), A.grownBy B row → (∀ r, row = some r → V.heap.size ≤ r ∧ ∃ o : Obj, A.heap[r]? = some o ∧ o.isWalk = true) → A.heap[D]? = some o1 → B.heap[D]? = some o1 := by
    intro A B row o1 hgr hr e1
    have h1 := (Array.getElem?_eq_some_iff.1 e1).1
    exact (hgr.block _ h1 (fun e => by have := (hr D e.symm).1; omega)).trans e1
  have nw : ∀ {A : World} {row : Option Nat}, (∀ r, row = some r → V.heap.size ≤ r ∧ ∃ o : Obj, A.heap[r]? = some o ∧ o.isWalk = true) → (∀ r, row = some r → w.heap.size ≤ r ∧ ∃ o : Obj, A.heap[r]? = some o ∧ o.isCells = false) :=
    fun hr r e => by obtain ⟨hB, o, ho, hw⟩ := hr r e; exact ⟨by omega, o, ho, Obj.not_cells_of_walk hw⟩
  refine ⟨D, _, V, { target := .fn (.func gf) lb, args := #[.func (.yield D) #[] #[]] }, V, gf, #[.func (.yield D) #[] #[]] ++ lb, V, hrun, ?_, ?_, ?_, fun _ => h1, ?_⟩
  · simp only [resolve, hg]
    simp [go_sem]
  · intro f' hf'
    simp [Target.leads] at hf'
    subst hf'
    exact hFg
  · simp [invoke, go_sem, eg]
  refine CallsIn.mono (hseq D (fun pre W => I pre W ∧ W.heap[D]? = some (.loop (rec .ready none)))
    (fun pre W => ∃ c, Ix c pre W ∧ W.heap[D]? = some (.loop (rec .done (some c)))) V hVb
    (fun s A B row hs hgr hr => ⟨hI s A B row hs.1 hgr (nw hr), one _ hgr hr hs.2⟩)
    (fun s A B row ⟨c, hc, e1⟩ hgr hr => ⟨c, hIx c s A B row hc hgr (nw hr), one _ hgr hr e1⟩) ?_ ⟨hVI, hVl⟩) ?_
  · rintro pre x W0 W ⟨hi0, _⟩ ⟨hi, hl⟩ hkc hok
    obtain ⟨U, hU⟩ : ∃ U, U = W.putObj D (.loop { rec .ready none with state := .busy }) := ⟨_, rfl⟩
    have hy := run_yield (P := P) (args := encs x) hl (by rw [hrec]; exact hps x)
    rw [hrec] at hy
    have hbeg : (Instr.beginRound D).run P W = .ok () U := by rw [hU]; exact run_beginRound hl (by rw [hrec])
    refine ⟨fn, _, assign, body, hy, roundIn_of_wpIn hfn (hassign _ x W _ ⟨U, hbeg, ?_⟩)⟩
    have hUl : U.heap[D]? = some (.loop { rec .ready none with state := .busy }) := by rw [hU]; exact World.putObj_heap_same (Array.getElem?_eq_some_iff.1 hl).1
    have hUK : Kp W U := by rw [hU]; exact hKb _ _ _ _ (by omega) hl rfl rfl
    have hUI : I pre U := by rw [hU]; exact hI.putObj _ hi (by omega) hl rfl
    have hUC : KeptC W0 U := by rw [hU]; exact hkc.put _ _ hl rfl
    have hUO : Ok pre x W0 U := by rw [hU]; exact hOk _ _ _ _ _ _ _ hok hl rfl
    clear hU hbeg
    refine wpIn_mono (hbody _ pre x W0 U (by omega) ⟨_, hUl⟩ hi0 hUI hUC hUO) ?_
    -- the round's end
    have fin : ∀ (j : Option Code) (X : World), KeepsFrom w.heap.size U X → ∃ Y, Y = X.putObj D (.loop (rec (if j.isNone then .ready else .done) j)) ∧
        (Instr.endRound D j).run P X = .ok (.bool j.isNone) Y ∧ X.heap[D]? = some (.loop { rec .ready none with state := .busy }) ∧ Y.heap[D]? = some (.loop (rec (if j.isNone then .ready else .done) j)) := by
      intro j X hX
      have e1 := hX.same _ _ (by omega) hUl rfl
      have hr := run_endRound (P := P) j e1
      rw [hrec] at hr
      refine ⟨_, rfl, ?_, e1, World.putObj_heap_same (Array.getElem?_eq_some_iff.1 e1).1⟩
      rw [hrec]
      exact hr
    have leave : ∀ (c : Code) (X : World), KeepsFrom w.heap.size U X → Ix c (pre ++ [x]) X → ∃ Y, (Instr.endRound D (some c)).run P X = .ok (.bool false) Y ∧ Ix c (pre ++ [x]) Y ∧ Y.heap[D]? = some (.loop (rec .done (some c))) := by
      intro c X hX hx
      obtain ⟨Y, hY, hr, e0, e1⟩ := fin (some c) X hX
      refine ⟨Y, hr, ?_, e1⟩
      rw [hY]
      exact (hIx c).putObj _ hx (by omega) e0 rfl
    rintro e a3 X hp
    cases e with
    | normal =>
      obtain ⟨hX, hXK, hXI⟩ := hp
      obtain ⟨Y, hY, hr, e0, e1⟩ := fin none X hX
      refine ⟨_, _, hr, .inl ⟨rfl, ⟨?_, e1⟩, ?_⟩⟩
      · rw [hY]; exact hI.putObj _ hXI (by omega) e0 rfl
      · rw [hY]; exact hKt (hKt hUK hXK) (hKb _ _ _ _ (by omega) e0 rfl rfl)
    | ret => obtain ⟨Y, hr, h2, h3⟩ := leave .ret X hp.1 hp.2; exact ⟨_, _, hr, .inr ⟨rfl, .ret, h2, h3⟩⟩
    | exit id => obtain ⟨Y, hr, h2, h3⟩ := leave (.exit id) X hp.1 hp.2; exact ⟨_, _, hr, .inr ⟨rfl, .exit id, h2, h3⟩⟩
    | goto t => obtain ⟨Y, hr, h2, h3⟩ := leave (.goto t) X hp.1 hp.2; exact ⟨_, _, hr, .inr ⟨rfl, .goto t, h2, h3⟩⟩
    | panic ch => exact hp.elim
    | outgrown => exact hp.elim
  · rintro e X ⟨⟨v, rfl⟩, (⟨xs, hS, hi, hl⟩ | ⟨pre, hSp, c, hi, hl⟩)⟩
    · have hr := run_endLoop (P := P) hl (by rw [hrec]; simp)
      rw [hrec] at hr
      exact ⟨none, _, hr, hdone xs _ hS (hI.putObj _ hi (by omega) hl rfl)⟩
    · have hr := run_endLoop (P := P) hl (by rw [hrec]; simp)
      rw [hrec] at hr
      exact ⟨some c, _, hr, hstop c pre _ hSp ((hIx c).putObj _ hi (by omega) hl rfl)⟩
/-- an iterator's contract goes into a round as it is -/
theorem SeqOk.inRound {α : Type} {g : Nat} {lb : Array Value} {encs : α → Array Value} {Kp : World → World → Prop} {Ok : List α → α → World → World → Prop} {S Sp : List α → Prop} {w : World} (l : Nat)
    (h : SeqOk F n P g lb encs Kp Ok S Sp w) : SeqOk (F.inRound l) n P g lb encs Kp Ok S Sp w := h
end Go.Proofs.Ythemlaibjchjpaa
