/- The law GfThrough. -/
import Derived.Test.YtfikeilpgnahkaaGfPts
import Derived.Test.YtfikeilpgnahkaaGfRefThrough
import Derived.Test.YtfikeilpgnahkaaRegS
import Derived.Test.YtfikeilpgnahkaaEqArr
import Derived.Test.YtfikeilpgnahkaaApart2
import Derived.Test.YtfikeilpgnahkaaReach
namespace Go.Proofs.Ytfikeilpgnahkaa
open Go.ChangeShapes Go.WideShapes Go.ChangeAt Go.RowKit Go.Shelf

theorem lit_news (w : World) (xs : List Value) (t : TypeId) : ∀ j u, xs[j]? = some u → (w.alloc (.cells xs.toArray t)).cell? ((⟨w.heap.size, 0, none⟩ : Addr).add j) = some u := by
  intro j u hu
  have hadd : (⟨w.heap.size, 0, none⟩ : Addr).add j = ⟨w.heap.size, j, none⟩ := by unfold Addr.add; split <;> simp_all
  rw [hadd, Row.cell (show Row (w.alloc (.cells xs.toArray t)) w.heap.size t xs.toArray from heap_alloc_new w _)]
  simpa using hu
theorem run_app_noneP (w : World) (a : Option Addr) (c : Nat) (ty : TypeId) : (Builtin.append_ #[52, 52] ty #[.slice none 0 0, .slice a 0 c]).run Try.prog w = .ok (.slice none 0 0) w := by
  obtain ⟨i, hi, hz, hs, hb⟩ := elP.info
  cases a <;> simp [Builtin.append_, run_underlying Try.underlying52, sizeOf, typeInfo, hi, hs, Builtin.lenOf, Builtin.firstCells, loadCells, loadCellsFrom]

/- a point held against a point -/
theorem lits_u8 (x : UInt8) (D : Nat) : Try.prog.keyLits (D + 1) 5 [.int .u8 (x.toNat : Int)] = some [.int .u8 (x.toNat : Int)] := by
  unfold Program.keyLits
  rw [Try.underlying5]
  have hw : (Lit.int .u8 (x.toNat : Int)).wf = true := by
    have := x.toNat_lt
    simp [Lit.wf, show IntKind.u8.min = 0 from rfl, show IntKind.u8.max = 255 from rfl]
    omega
  simp [hw]
theorem lits_pt (x y : UInt8) : Try.prog.keyLits 2 54 [.int .u8 (x.toNat : Int), .int .u8 (y.toNat : Int)] = some [.int .u8 (x.toNat : Int), .int .u8 (y.toNat : Int)] := by
  unfold Program.keyLits
  rw [Try.underlying54]
  have hc : Try.prog.cellsOf 5 = 1 := by kernel_rfl
  have hn : Try.prog.cellsOf 54 = 2 := by kernel_rfl
  simp [hc, hn, lits_u8 x 0, lits_u8 y 0]
theorem formed_pt (x y : Int) : (Value.agg #[.int .u8 x, .int .u8 y]).formed Try.prog 54 = true := by
  simp [Value.formed, Try.underlying54]; kernel_rfl
theorem same_pt (x y : UInt8) (w : World) : (binOp .neq 54 (.agg #[.int .u8 (x.toNat : Int), .int .u8 (y.toNat : Int)]) (.agg #[.int .u8 (x.toNat : Int), .int .u8 (y.toNat : Int)])).run Try.prog w = .ok (.bool false) w := by
  obtain ⟨b, hb, hiff⟩ := run_equalIn_deep (P := Try.prog) 9995 5 54 (by kernel_rfl) w 2 2 _ _ _ _ (formed_pt _ _) (formed_pt _ _) (lits_pt x y) (lits_pt x y)
  have e : b = true := hiff.2 rfl
  rw [run_neq_struct, hb, e]
  rfl
theorem eq_guard_pt : Try.prog.eqGuardType Try.prog.depth 54 = false := by kernel_rfl
section
variable {P : Program}
theorem run_neq_op (w : World) (ev : Operand → Value) {o : Oper} {t ty : TypeId} (hgu : P.eqGuardType P.depth t = false) {x y : Operand} (ho : o.op = .binOp .neq t x y ty) (xs ys : Array Value) (hx : ev x = .agg xs) (hy : ev y = .agg ys) {v : Value} (h : (binOp .neq t (.agg xs) (.agg ys)).run P w = .ok v w) : (execOp ev o).run P w = .ok (.value v) w := by
  unfold execOp
  simp [ho, hx, hy, run_eqGuard_agg w .neq t x y xs ys hgu, h]
theorem run_loadmid_op (w : World) (ev : Operand → Value) {o : Oper} (ty : TypeId) (x : Operand) (ho : o.op = .load ty x) (b k : Nat) (hx : ev x = .pointer (some ⟨b, k, none⟩)) (cs : List Value) (d : TypeDesc) (hc : w.rangeAt b k cs)
    (hu : P.underlying ty = some d) (hd : d.isRow = true) (hi : (P.info? ty).map (·.size) = some cs.length) : (execOp ev o).run P w = .ok (.value (.agg cs.toArray)) w := by
  unfold execOp
  simp only [ho, hx, Instr.loadAt, Instr.sureAddr, Sem.run_bind, Sem.run_pure, Result.andThen_ok, run_loadVar_mid w b k ty cs d hc hu hd hi]
theorem wpList_load_midW {ops : Array Oper} {rest : List Oper} {o : Oper} {a : Act} {w : World} {Q : Exit → Act → World → Prop} (hw : Region.wanted o (yielded ops a.tmps) = true) (ty : TypeId) (x : Operand) (ho : o.op = .load ty x)
    (b k : Nat) (hx : a.eval x = .pointer (some ⟨b, k, none⟩)) (cs : List Value) (d : TypeDesc) (hc : w.rangeAt b k cs)
    (hu : P.underlying ty = some d) (hd : d.isRow = true) (hi : (P.info? ty).map (·.size) = some cs.length)
    (h : wpList P ops Q rest (a.put o.dst (.agg cs.toArray)) w) : wpList P ops Q (o :: rest) a w := by
  unfold wpList
  rw [if_pos hw]
  exact .inl (wp_load_mid ty x ho b k hx cs d hc hu hd hi h)
end

/-- the points, one after the other written over -/
def ovP (l : List (UInt8 × UInt8)) : Nat → List (UInt8 × UInt8)
  | 0 => l ++ [(77, 1), (78, 2)]
  | i + 1 => (ovP l i).set i (1, 1)
theorem ovP_len (l : List (UInt8 × UInt8)) : ∀ i, (ovP l i).length = l.length + 2
  | 0 => by simp [ovP]
  | i + 1 => by rw [ovP, List.length_set, ovP_len l i]
theorem ovP_get (l : List (UInt8 × UInt8)) (k : Nat) : ∀ i, i ≤ k → (ovP l i)[k]? = (l ++ [(77, 1), (78, 2)])[k]?
  | 0, _ => rfl
  | i + 1, h => by rw [ovP, List.getElem?_set_ne (by omega), ovP_get l k i (by omega)]
theorem pcells_set (p : UInt8 × UInt8) : ∀ (l : List (UInt8 × UInt8)) (i : Nat), pcells (l.set i p) = ((pcells l).set (i * 2) (bval p.1)).set (i * 2 + 1) (bval p.2)
  | [], i => by simp [pcells]
  | q :: l, 0 => by simp [pcells_cons]
  | q :: l, i + 1 => by
    rw [List.set_cons_succ, pcells_cons, pcells_cons, pcells_set p l i, show (i + 1) * 2 = i * 2 + 1 + 1 by omega]
    simp
theorem PLies.pre {w : World} {a : Option Addr} {l m : List (UInt8 × UInt8)} (h : PLies w a (l ++ m)) : PLies w a l := by
  intro k hk
  obtain ⟨b, off, e, hc⟩ := h k (by rw [List.length_append]; omega)
  refine ⟨b, off, e, ?_⟩
  rwa [List.getElem_append_left hk] at hc
theorem PLies.at {w : World} {g : Nat} {l : List (UInt8 × UInt8)} (h : PLies w (some ⟨g, 0, none⟩) l) (k : Nat) (p : UInt8 × UInt8) (hp : l[k]? = some p) : w.rangeAt g (k * 2) [bval p.1, bval p.2] := by
  obtain ⟨hk, rfl⟩ := List.getElem?_eq_some_iff.1 hp
  obtain ⟨b, off, e, hc⟩ := h k hk
  injection e with e; injection e with e1 e2
  subst e1; subst e2
  rwa [Nat.zero_add] at hc
theorem throughV_len (l : List (UInt8 × UInt8)) : (throughV l).length ≤ 256 := by
  unfold throughV
  split
  · next h =>
    have hl : l.length ≤ 256 := by
      unfold throughE at h
      split at h
      · exact absurd h (by omega)
      · omega
    have h1 := th_len l l.length
    have h2 : (trimL (thSQ l l.length).1).length ≤ (thSQ l l.length).1.length := by rw [trimL_len]; exact trimN_le _ _
    omega
  · simp
theorem bytes_pt : Try.prog.bytesOf 54 = 2 := by kernel_rfl
theorem rd_pts {H : Type} {enc : TypeId × Value → H} {W : World} {base : Nat} {spare : Nat → Bool} {held : Bool} {fuel : Nat} {a : Option Addr} {len cap : Nat} {d : DataW H} {p : List MemPlace}
    (h : DataW.trod enc Try.prog W base spare held fuel 52 [.slice a len cap] = some (d, p)) {ts : List TypeId} {ds : List (DataW H)} (hsz : (DataW.weightsEach Try.prog ts ds).all (· ≤ reachBytes) = true) (j : Nat) (ht : ts[j]? = some 52) (hd : ds[j]? = some d) :
    len ≤ 70368744175616 ∧ len ≤ cap ∧ ∃ L : List (UInt8 × UInt8), L.length = len ∧ PLies W a L := by
  rcases Go.Deep.open_slice Try.underlying52 h with ⟨hcs, _⟩ | ⟨a', len', cap', m, n, D, Pl, hcs, hb, hl, hm, hmm, hx, hall⟩
  · injection hcs with hcs; injection hcs with h1 h2 h3
    subst h2
    exact ⟨by omega, by omega, [], rfl, fun i hi => absurd hi (by simp)⟩
  · injection hcs with hcs; injection hcs with h1 h2 h3
    subst h1 h2 h3
    have hlm : len ≤ m := by rw [hmm]; split <;> omega
    injection hx with hx _
    subst hx
    have hr := sized_slice hsz ht hd Try.underlying52
    rw [bytes_pt] at hr
    simp at hr
    unfold reachBytes at hr
    have hce : Try.prog.cellsOf 54 = 2 := by kernel_rfl
    have each : ∀ i, i < len → ∃ s : UInt8 × UInt8, ∀ j v, ([bval s.1, bval s.2] : List Value)[j]? = some v → W.cell? ((a'.add (i * 2)).add j) = some v := by
      intro i hi
      obtain ⟨cs', h1, h2⟩ := hall i (by omega)
      rw [hce] at h1
      obtain ⟨_, hlen, hcell⟩ := World.cells?_some h1
      obtain ⟨xs, n', _, _, _, hxl, hf⟩ := DataW.trod_struct Try.underlying54 h2
      have hxl3 : xs.length = 2 := hxl
      have q0 := hf 0 _ rfl
      have q1 := hf 1 _ rfl
      obtain ⟨y0, y1, rfl⟩ : ∃ y0 y1, xs = [y0, y1] := by
        match xs, hxl3 with
        | [y0, y1], _ => exact ⟨y0, y1, rfl⟩
      obtain ⟨x0, e0, _, w0⟩ := DataW.trod_int (P := Try.prog) Try.underlying5 q0
      obtain ⟨x1, e1, _, w1⟩ := DataW.trod_int (P := Try.prog) Try.underlying5 q1
      obtain ⟨u0, rfl⟩ := byte_of_wf w0
      obtain ⟨u1, rfl⟩ := byte_of_wf w1
      match cs', hlen with
      | [c0, c1], hlen =>
        have f0 : [c0] = [.int .u8 (u0.toNat : Int)] := e0
        have f1 : [c1] = [.int .u8 (u1.toNat : Int)] := e1
        injection f0 with f0; injection f1 with f1
        subst f0 f1
        refine ⟨(u0, u1), fun j v hj => ?_⟩
        have hj2 : j < 2 := by
          have := (List.getElem?_eq_some_iff.1 hj).1
          simpa using this
        rw [hcell j hj2]
        exact hj
    obtain ⟨S, hS⟩ := Go.Deep.choose_lt each
    by_cases h0 : len = 0
    · subst h0
      exact ⟨by omega, by omega, [], rfl, fun i hi => absurd hi (by simp)⟩
    · have hcell0 := hS 0 (by omega) 0 (bval (S 0).1) rfl
      obtain ⟨b, off, spot⟩ := a'
      have hspot : spot = none := by simpa [Addr.add] using World.cell?_spot hcell0
      subst hspot
      refine ⟨by omega, hl, (List.range len).map S, by simp, fun i hi => ⟨b, off, rfl, fun j v hj => ?_⟩⟩
      have hi2 : i < len := by simpa using hi
      have e : ((List.range len).map S)[i] = S i := by simp
      rw [e] at hj
      have := hS i hi2 j v hj
      rw [Go.WideShapes.add_plain, Go.WideShapes.add_plain] at this
      exact this

set_option maxRecDepth 100000 in
set_option maxHeartbeats 4000000 in
theorem through_walk (a : Option Addr) (c n : Nat) (l : List (UInt8 × UInt8)) (w : World) (ha : PLies w a l) (hl : l.length = n) (hn : n ≤ 70368744175616) (hnc : n ≤ c) :
    Calls Try.prog 7 #[.slice a n c] w fun e w' => e = .returned (.bool true) ∧ w.grownBy w' none := by
  have hth := fun (a : Option Addr) (c : Nat) (W : World) (ha : PLies W a l) => through_n a c n l W ha hl (by omega)
  have hrt := refThrough_n a c n l
  have hpb := throughV_len l
  obtain ⟨E, hE⟩ : ∃ E, E = throughE l := ⟨_, rfl⟩
  obtain ⟨P, hP⟩ : ∃ P, P = throughV l := ⟨_, rfl⟩
  rw [← hE, ← hP] at hth
  rw [← hE, ← hP] at hrt
  rw [← hP] at hpb
  have hov0 : ovP l 0 = l ++ [(77, 1), (78, 2)] := rfl
  have hovl := ovP_len l
  have hovg := ovP_get l
  have hpl := pcells_len l
  rw [hl] at hovl hpl
  have HTH := Lib.hid hth
  have HRT := Lib.hid (fun W ha => hrt W ha hl (by omega))
  have HPB := Lib.hid hpb
  have HA := Lib.hid ha
  have HL := Lib.hid hl
  have HOV := Lib.hid hovl
  have HOVG := Lib.hid hovg
  have HPL := Lib.hid hpl
  have HGU := Lib.hid eq_guard_pt
  have hgu := eq_guard_pt
  clear hth hrt hpb ha hl hE hP hovl hovg hpl hov0
  rcases Nat.eq_zero_or_pos n with hn0 | hpos
  · have hl0 : l = [] := List.eq_nil_of_length_eq_zero (by rw [HL.out, hn0])
    subst hn0
    go_enter Try.func7, Try.ntmps7
    go_upto_region 3 with (at_builtin; refine Lib.wpList_append_run _ rfl _ _ _ _ rfl _ _ rfl rfl _ _ (run_app_noneP _ _ _ _) ?_)
    have HO1 : Hid (Own w w.heap.size 54 2 none 0 0 (pcells l)) := Lib.hid (by rw [hl0]; exact Own.nil _ _ _ _ _)
    have HG1 := Lib.hid (World.grownBy.refl w none)
    clear hl0
    go_upto_region 4 with (at_builtin; refine wpList_app elP rfl (.tmp 14) (.tmp 17) rfl rfl (Own.ch HO1.out (Ch.ofNone (World.grownBy_alloc w (.cells #[.int .u8 77, .int .u8 1, .int .u8 78, .int .u8 2] 54) none) (fun _ => False)) (fun _ _ _ h => h)) ⟨w.heap.size, 0, none⟩ 2 2 [.int .u8 77, .int .u8 1, .int .u8 78, .int .u8 2] rfl rfl (lit_news w _ 54) (by intro u hu; simp at hu; rcases hu with rfl | rfl | rfl | rfl <;> rfl) (by unfold maxLen; omega) (by omega) (by have := HG1.out.size; rw [World.size_alloc]; omega) (by omega) ?_; intro gF cF w2 hown2 hgr2; have HO2 := Lib.hid hown2; have HG2 := Lib.hid (hgr2.grew.grown (Own.ch HO1.out (Ch.ofNone (World.grownBy_alloc w (.cells #[.int .u8 77, .int .u8 1, .int .u8 78, .int .u8 2] 54) none) (fun _ => False)) (fun _ _ _ h => h)) (grownBy_trans HG1.out (World.grownBy_alloc w (.cells #[.int .u8 77, .int .u8 1, .int .u8 78, .int .u8 2] 54) none)) (Nat.le_refl _)); clear hown2 hgr2)
    have ho2 : Own w2 w.heap.size 54 2 (some ⟨gF, 0, none⟩) (0 + 2) cF (pcells (ovP l 0)) := by
      have h := HO2.out
      rw [show pcells (ovP l 0) = pcells l ++ [.int .u8 77, .int .u8 1, .int .u8 78, .int .u8 2] from pcells_append l [(77, 1), (78, 2)]]
      exact h
    replace HO2 := Lib.hid ho2
    have hcF := ho2.cap.1
    have hin2 := Own.inn ho2 (g := gF) ⟨by omega, rfl⟩
    have hpre : PLies w2 (some ⟨gF, 0, none⟩) l := PLies.pre (show PLies w2 (some ⟨gF, 0, none⟩) (l ++ [(77, 1), (78, 2)]) from Own.plies ho2)
    have HPRE := Lib.hid hpre
    have HIN2 := Lib.hid hin2
    have hb1 : (0 : Int) ≤ (cF : Int) := by omega
    clear ho2 hin2 hpre HO1 HG1
    go_wp2_with fail
    refine (HTH.out _ _ _ HPRE.out).mono ?_
    rintro e w3 ⟨ap, np, cp, rfl, op, g⟩
    obtain rfl := op.len
    have OP := Lib.hid op
    have WP := Lib.hid op.within
    have HG3 := Lib.hid (grownBy_trans HG2.out g)
    have HO3 := Lib.hid (Own.ch HO2.out (Ch.ofNone g (fun _ => False)) (fun _ _ _ h => h))
    replace HPRE := Lib.hid (HPRE.out.grown g)
    have Z3 := Lib.hid g.size
    clear op g HG2 HO2
    go_wp2_with fail
    refine (HTH.out _ _ _ HPRE.out).mono ?_
    rintro e w4 ⟨aq, nq, cq, rfl, oq, g⟩
    obtain rfl := oq.len
    have OQ := Lib.hid oq
    have WQ := Lib.hid oq.within
    have HG4 := Lib.hid (grownBy_trans HG3.out g)
    have HO4 := Lib.hid (Own.ch HO3.out (Ch.ofNone g (fun _ => False)) (fun _ _ _ h => h))
    replace OP := Lib.hid (BOwn.grown OP.out g)
    have Z4 := Lib.hid g.size
    clear oq g HG3 HO3 HPRE
    go_wp2_with fail
    go_loopw [8] (fun vi wr => ∃ i : Nat, i ≤ 0 ∧ vi = .int .i64 i ∧ Own wr w.heap.size 54 2 (some ⟨gF, 0, none⟩) (0 + 2) cF (pcells (ovP l i)) ∧ w4.grownBy wr (some gF)) (fun vi _ => 0 - (intOf vi).toNat)
    case atStart => exact ⟨0, by omega, rfl, HO4.out, World.grownBy.refl _ _⟩
    case round =>
      obtain ⟨i, hi, rfl, ho, hg⟩ := hrel
      have HO := Lib.hid ho
      have HGF := Lib.hid hg
      have HGW := Lib.hid (grownBy_old HG4.out hg HIN2.out.1)
      clear ho hg
      by_cases hlt : i < 0
      · exact absurd hlt (by omega)
      · obtain rfl : i = 0 := by omega
        have hat1 := PLies.at (Own.plies HO.out) 0 (77, 1) (by rw [HOVG.out _ _ (Nat.le_refl _), List.getElem?_append_right (by rw [HL.out]; exact Nat.le_refl _), HL.out, Nat.sub_self]; rfl)
        have hat2 := PLies.at (Own.plies HO.out) (0 + 1) (78, 2) (by rw [HOVG.out _ _ (by omega), List.getElem?_append_right (by rw [HL.out]; omega), HL.out]; simp)
        have HAT1 := Lib.hid hat1
        have HAT2 := Lib.hid hat2
        have hq1 : ∀ W, (binOp .neq 54 (.agg #[.int .u8 77, .int .u8 1]) (.agg #[.int .u8 77, .int .u8 1])).run Try.prog W = .ok (.bool false) W := fun W => same_pt 77 1 W
        have hq2 : ∀ W, (binOp .neq 54 (.agg #[.int .u8 78, .int .u8 2]) (.agg #[.int .u8 78, .int .u8 2])).run Try.prog W = .ok (.bool false) W := fun W => same_pt 78 2 W
        clear hat1 hat2
        have hop := Own.grownNe OP.out HGF.out (fun q hc hq hr => by
          obtain ⟨g', e1, h1, _⟩ := Own.block OP.out hc
          rw [hq] at e1; injection e1 with e1; injection e1 with e1; injection hr with hr
          have h2 := HIN2.out
          omega)
        have hoq := Own.grownNe OQ.out HGF.out (fun q hc hq hr => by
          obtain ⟨g', e1, h1, _⟩ := Own.block OQ.out hc
          rw [hq] at e1; injection e1 with e1; injection e1 with e1; injection hr with hr
          have h2 := HIN2.out
          have h3 := Z3.out
          omega)
        have HOP : Hid (BOwn wr w2.heap.size ap P.length cp P) := Lib.hid hop
        have HOQ : Hid (BOwn wr w3.heap.size aq P.length cq P) := Lib.hid hoq
        have Z5 := Lib.hid HGF.out.size
        have hix1 : IntKind.i64.wrap ((0 : Int) + 1) = (0 : Int) + 1 := IntWalk.i64_in _ (by omega)
        have hix2 : (0 : Int) + 1 < (((0 : Nat) + 2 : Nat) : Int) := by omega
        have hix3 : ((0 : Int) + 1).toNat = 0 + 1 := by omega
        have hix4 : (0 : Int) < (((0 : Nat) + 2 : Nat) : Int) := by omega
        have hix5 : (0 : Int) + 1 < (0 : Int) + 2 := by omega
        have hix6 : (0 : Int) < (0 : Int) + 2 := by omega
        have hix7 : (0 : Int) ≤ (0 : Int) + 1 := by omega
        clear hop hoq OP OQ HO HGF HG4
        go_wp2_with (first | (refine wpList_load_midW (by rfl) 54 _ rfl gF (0 * 2) rfl [.int .u8 77, .int .u8 1] _ HAT1.out Try.underlying54 rfl (by rw [size54]; rfl) ?_) | (refine wpList_load_midW (by rfl) 54 _ rfl gF ((0 + 1) * 2) rfl [.int .u8 78, .int .u8 2] _ HAT2.out Try.underlying54 rfl (by rw [size54]; rfl) ?_))
        refine (HRT.out _ (HA.out.grown HGW.out)).mono ?_
        rintro e w6 ⟨aw, nw, cw, rfl, ow, g⟩
        obtain rfl := ow.len
        have OW := Lib.hid ow
        have HG6 := Lib.hid (grownBy_trans HGW.out g)
        replace HOP := Lib.hid (BOwn.grown HOP.out g)
        replace HOQ := Lib.hid (BOwn.grown HOQ.out g)
        have Z6 := Lib.hid g.size
        clear ow g HGW HAT1 HAT2 hq1 hq2 hix1 hix2 hix3 hix4 hix5 hix6 hix7
        go_wp2_with fail
        refine (same_yes _ _ _ _ _ _ P _ (BOwn.lies HOP.out) (BOwn.lies OW.out) rfl rfl (Nat.le_trans HPB.out (by decide))).mono ?_
        rintro e w7 ⟨rfl, q1, hq1⟩
        have g : w6.grownBy w7 none := by rw [hq1]; exact grownBy_drewN _ _ _
        have HG7 := Lib.hid (grownBy_trans HG6.out g)
        replace HOP := Lib.hid (BOwn.grown HOP.out g)
        replace HOQ := Lib.hid (BOwn.grown HOQ.out g)
        replace OW := Lib.hid (BOwn.grown OW.out g)
        have Z7 := Lib.hid g.size
        clear g hq1 q1 HG6
        go_wp2_with fail
        refine (same_yes _ _ _ _ _ _ P _ (BOwn.lies HOQ.out) (BOwn.lies OW.out) rfl rfl (Nat.le_trans HPB.out (by decide))).mono ?_
        rintro e w8 ⟨rfl, q1, hq1⟩
        have g : w7.grownBy w8 none := by rw [hq1]; exact grownBy_drewN _ _ _
        have HG8 := Lib.hid (grownBy_trans HG7.out g)
        replace HOP := Lib.hid (BOwn.grown HOP.out g)
        replace HOQ := Lib.hid (BOwn.grown HOQ.out g)
        have Z8 := Lib.hid g.size
        clear g hq1 q1 HG7 OW
        go_wp2_with fail
        have zr : w.heap.size ≤ w8.heap.size := HG8.out.size
        have z3 := Z3.out
        have z4 := Z4.out
        have z5 := Z5.out
        have z6 := Z6.out
        have z7 := Z7.out
        have z8 := Z8.out
        have zi := HIN2.out
        have hst := st1_lit (w := w8) (base := w.heap.size) (L := [⟨ap, P.length, cp⟩, ⟨aq, P.length, cq⟩])
          (fun j hj => match j, hj with
            | 0, _ => ⟨_, HOP.out.mono (by omega)⟩
            | 1, _ => ⟨_, HOQ.out.mono (by omega)⟩) zr 2 rfl (by decide)
        have hd : Distinct [⟨ap, P.length, cp⟩, ⟨aq, P.length, cq⟩] := distinct_of _ (fun | 0 => w2.heap.size | 1 => w3.heap.size | _ => w4.heap.size)
          (fun i hi => match i, hi with
            | 0, _ => z3
            | 1, _ => z4)
          (fun i hi => match i, hi with
            | 0, _ => WP.out
            | 1, _ => WQ.out)
        refine (apart_n _ _ _ 2 _ _ hst (by simp; omega) hd rfl (by omega) (fun j hj => match j, hj with
            | 0, _ => (by show P.length ≤ 100000000; have := HPB.out; omega)
            | 1, _ => (by show P.length ≤ 100000000; have := HPB.out; omega))).mono ?_
        rintro e w9 ⟨rfl, hbel⟩
        have G9 := Lib.hid (grown_below (grownBy_trans HG8.out (World.grownBy_alloc w8 (.cells ([(⟨ap, P.length, cp⟩ : Sl), ⟨aq, P.length, cq⟩].map Sl.val).toArray 33) none)) hbel (Nat.le_refl _))
        clear hbel hd hst
        go_wp2_with fail
        refine (awake_n _).mono ?_
        rintro e w10 ⟨rfl, g⟩
        have G10 := Lib.hid (grownBy_trans G9.out g)
        clear g
        go_wp2_with fail
        go_ret
        exact ⟨rfl, G10.out⟩
  · obtain ⟨ga, oa, haa⟩ : ∃ g o, a = some ⟨g, o, none⟩ := by
      obtain ⟨g, o, e, _⟩ := HA.out 0 (by rw [HL.out]; omega)
      exact ⟨g, o, e⟩
    subst haa
    go_enter Try.func7, Try.ntmps7
    go_upto_region 3 with (at_builtin; refine wpList_app elP rfl (.tmp 11) (.tmp 12) rfl rfl (Own.nil w w.heap.size 54 2 none) ⟨ga, oa, none⟩ n c (pcells l) rfl HPL.out (PLies.src HA.out) (pcells_one l) (by unfold maxLen; omega) (by omega) (Nat.le_refl _) hpos ?_; intro g1 c1 w1 hown1 hgr1; have HO1 := Lib.hid hown1; have HG1 := Lib.hid (hgr1.grew.grown (Own.nil w w.heap.size 54 2 none) (World.grownBy.refl _ _) (Nat.le_refl _)); clear hown1 hgr1)
    have ho1 := HO1.out
    rw [Nat.zero_add, List.nil_append] at ho1
    replace HO1 := Lib.hid ho1
    clear ho1
    try simp only [Nat.zero_add]
    go_upto_region 4 with (at_builtin; refine wpList_app elP rfl (.tmp 14) (.tmp 17) rfl rfl (Own.ch HO1.out (Ch.ofNone (World.grownBy_alloc w1 (.cells #[.int .u8 77, .int .u8 1, .int .u8 78, .int .u8 2] 54) none) (fun _ => False)) (fun _ _ _ h => h)) ⟨w1.heap.size, 0, none⟩ 2 2 [.int .u8 77, .int .u8 1, .int .u8 78, .int .u8 2] rfl rfl (lit_news w1 _ 54) (by intro u hu; simp at hu; rcases hu with rfl | rfl | rfl | rfl <;> rfl) (by unfold maxLen; omega) (by omega) (by have := HG1.out.size; rw [World.size_alloc]; omega) (by omega) ?_; intro gF cF w2 hown2 hgr2; have HO2 := Lib.hid hown2; have HG2 := Lib.hid (hgr2.grew.grown (Own.ch HO1.out (Ch.ofNone (World.grownBy_alloc w1 (.cells #[.int .u8 77, .int .u8 1, .int .u8 78, .int .u8 2] 54) none) (fun _ => False)) (fun _ _ _ h => h)) (grownBy_trans HG1.out (World.grownBy_alloc w1 (.cells #[.int .u8 77, .int .u8 1, .int .u8 78, .int .u8 2] 54) none)) (Nat.le_refl _)); clear hown2 hgr2)
    have ho2 : Own w2 w.heap.size 54 2 (some ⟨gF, 0, none⟩) (n + 2) cF (pcells (ovP l 0)) := by
      have h := HO2.out
      rw [show pcells (ovP l 0) = pcells l ++ [.int .u8 77, .int .u8 1, .int .u8 78, .int .u8 2] from pcells_append l [(77, 1), (78, 2)]]
      exact h
    replace HO2 := Lib.hid ho2
    have hcF := ho2.cap.1
    have hin2 := Own.inn ho2 (g := gF) ⟨by omega, rfl⟩
    have hpre : PLies w2 (some ⟨gF, 0, none⟩) l := PLies.pre (show PLies w2 (some ⟨gF, 0, none⟩) (l ++ [(77, 1), (78, 2)]) from Own.plies ho2)
    have HPRE := Lib.hid hpre
    have HIN2 := Lib.hid hin2
    have hb1 : (n : Int) ≤ (cF : Int) := by omega
    clear ho2 hin2 hpre HO1 HG1
    go_wp2_with fail
    refine (HTH.out _ _ _ HPRE.out).mono ?_
    rintro e w3 ⟨ap, np, cp, rfl, op, g⟩
    obtain rfl := op.len
    have OP := Lib.hid op
    have WP := Lib.hid op.within
    have HG3 := Lib.hid (grownBy_trans HG2.out g)
    have HO3 := Lib.hid (Own.ch HO2.out (Ch.ofNone g (fun _ => False)) (fun _ _ _ h => h))
    replace HPRE := Lib.hid (HPRE.out.grown g)
    have Z3 := Lib.hid g.size
    clear op g HG2 HO2
    go_wp2_with fail
    refine (HTH.out _ _ _ HPRE.out).mono ?_
    rintro e w4 ⟨aq, nq, cq, rfl, oq, g⟩
    obtain rfl := oq.len
    have OQ := Lib.hid oq
    have WQ := Lib.hid oq.within
    have HG4 := Lib.hid (grownBy_trans HG3.out g)
    have HO4 := Lib.hid (Own.ch HO3.out (Ch.ofNone g (fun _ => False)) (fun _ _ _ h => h))
    replace OP := Lib.hid (BOwn.grown OP.out g)
    have Z4 := Lib.hid g.size
    clear oq g HG3 HO3 HPRE
    go_wp2_with fail
    go_loopw [8] (fun vi wr => ∃ i : Nat, i ≤ n ∧ vi = .int .i64 i ∧ Own wr w.heap.size 54 2 (some ⟨gF, 0, none⟩) (n + 2) cF (pcells (ovP l i)) ∧ w4.grownBy wr (some gF)) (fun vi _ => n - (intOf vi).toNat)
    case atStart => exact ⟨0, by omega, rfl, HO4.out, World.grownBy.refl _ _⟩
    case round =>
      obtain ⟨i, hi, rfl, ho, hg⟩ := hrel
      have HO := Lib.hid ho
      have HGF := Lib.hid hg
      have HGW := Lib.hid (grownBy_old HG4.out hg HIN2.out.1)
      clear ho hg
      by_cases hlt : i < n
      · obtain ⟨b, off, hbo, hc⟩ := HA.out.grown HGW.out i (by rw [HL.out]; exact hlt)
        injection hbo with hbo; injection hbo with e1 e2
        subst e1; subst e2
        obtain ⟨x, y, hxy⟩ : ∃ x y, l[i]'(by rw [HL.out]; exact hlt) = (x, y) := ⟨_, _, rfl⟩
        rw [hxy] at hc
        have hat := PLies.at (Own.plies HO.out) i (x, y) (by rw [HOVG.out i i (Nat.le_refl _), List.getElem?_append_left (by rw [HL.out]; exact hlt), List.getElem?_eq_getElem (by rw [HL.out]; exact hlt), hxy])
        have hin3 : i < n + 2 := by omega
        have HIN3 := Lib.hid hin3
        have HC := Lib.hid hc
        have HAT := Lib.hid hat
        clear hc hat hxy hin3
        go_upto_region 9 with fail
        refine wp_regionS (fun u => u.rangeAt gF (i * 2) [bval x, bval y] ∧ u.rangeAt ga (oa + i * 2) [bval x, bval y] ∧ Own u w.heap.size 54 2 (some ⟨gF, 0, none⟩) (n + 2) cF (pcells (ovP l i)) ∧ w4.grownBy u (some gF)) (by kernel_rfl) ⟨HAT.out, HC.out, HO.out, ⟨HGF.out.os, HGF.out.tape, HGF.out.output, HGF.out.size, HGF.out.block⟩⟩ ?_
        refine wpS_take 0 (v := .slice (some ⟨gF, 0, none⟩) (n + 2) cF) (oi := { dst := some 41, op := Op.move (Operand.tmp 3), type := 52, pos := "law.go:94", after := #[], guard := none }) rfl (by kernel_rfl) (by kernel_rfl) (by kernel_rfl) (fun _ _ _ h => h) (YS.val (by rfl) (fun _ _ => rfl)) ?_
        simp only [Act.put, List.setIfInBounds_toArray, List.set_cons_zero, List.set_cons_succ]
        refine wpS_take 1 (v := .int .i64 (i : Int)) (oi := { dst := some 42, op := Op.move (Operand.tmp 8), type := 3, pos := "law.go:94", after := #[], guard := none }) rfl (by kernel_rfl) (by kernel_rfl) (by kernel_rfl) (fun _ _ _ h => h) (YS.val (by rfl) (fun _ _ => rfl)) ?_
        simp only [Act.put, List.setIfInBounds_toArray, List.set_cons_zero, List.set_cons_succ]
        refine wpS_take 2 (v := .pointer (some ⟨gF, i * 2, none⟩)) (oi := { dst := some 43, op := Op.indexAddr 52 (Operand.tmp 41) (Operand.tmp 42), type := 0, pos := "law.go:94", after := #[{ on := 0, ground := Ground.data }, { on := 1, ground := Ground.data }], guard := none }) rfl (by kernel_rfl) (by kernel_rfl) (by kernel_rfl) (fun _ _ _ h => h) (YS.val (by rfl) (fun _ _ => by have h3 := HIN3.out; have hb3 : (i : Int) < ((n + 2 : Nat) : Int) := (by omega); have hb4 : (i : Int) < (n : Int) + 2 := (by omega); go_simp)) ?_
        simp only [Act.put, List.setIfInBounds_toArray, List.set_cons_zero, List.set_cons_succ]
        refine wpS_take 3 (v := .agg #[.int .u8 (x.toNat : Int), .int .u8 (y.toNat : Int)]) (oi := { dst := some 44, op := Op.load 54 (Operand.tmp 43), type := 54, pos := "law.go:94", after := #[{ on := 2, ground := Ground.data }], guard := none }) rfl (by kernel_rfl) (by kernel_rfl) (by kernel_rfl) (fun _ _ _ h => h) (YS.val (by rfl) (fun u hS => run_loadmid_op u _ 54 _ rfl gF (i * 2) rfl [bval x, bval y] _ hS.1 Try.underlying54 rfl (by rw [size54]; rfl))) ?_
        simp only [Act.put, List.setIfInBounds_toArray, List.set_cons_zero, List.set_cons_succ]
        refine wpS_take 4 (v := .slice (some ⟨ga, oa, none⟩) n c) (oi := { dst := some 45, op := Op.move (Operand.tmp 0), type := 52, pos := "law.go:94", after := #[], guard := none }) rfl (by kernel_rfl) (by kernel_rfl) (by kernel_rfl) (fun _ _ _ h => h) (YS.val (by rfl) (fun _ _ => rfl)) ?_
        simp only [Act.put, List.setIfInBounds_toArray, List.set_cons_zero, List.set_cons_succ]
        refine wpS_take 5 (v := .int .i64 (i : Int)) (oi := { dst := some 46, op := Op.move (Operand.tmp 8), type := 3, pos := "law.go:94", after := #[], guard := none }) rfl (by kernel_rfl) (by kernel_rfl) (by kernel_rfl) (fun _ _ _ h => h) (YS.val (by rfl) (fun _ _ => rfl)) ?_
        simp only [Act.put, List.setIfInBounds_toArray, List.set_cons_zero, List.set_cons_succ]
        refine wpS_take 6 (v := .pointer (some ⟨ga, oa + i * 2, none⟩)) (oi := { dst := some 47, op := Op.indexAddr 52 (Operand.tmp 45) (Operand.tmp 46), type := 0, pos := "law.go:94", after := #[{ on := 4, ground := Ground.data }, { on := 5, ground := Ground.data }], guard := none }) rfl (by kernel_rfl) (by kernel_rfl) (by kernel_rfl) (fun _ _ _ h => h) (YS.val (by rfl) (fun _ _ => by go_simp)) ?_
        simp only [Act.put, List.setIfInBounds_toArray, List.set_cons_zero, List.set_cons_succ]
        refine wpS_take 7 (v := .agg #[.int .u8 (x.toNat : Int), .int .u8 (y.toNat : Int)]) (oi := { dst := some 48, op := Op.load 54 (Operand.tmp 47), type := 54, pos := "law.go:94", after := #[{ on := 6, ground := Ground.data }], guard := none }) rfl (by kernel_rfl) (by kernel_rfl) (by kernel_rfl) (fun _ _ _ h => h) (YS.val (by rfl) (fun u hS => run_loadmid_op u _ 54 _ rfl ga (oa + i * 2) rfl [bval x, bval y] _ hS.2.1 Try.underlying54 rfl (by rw [size54]; rfl))) ?_
        simp only [Act.put, List.setIfInBounds_toArray, List.set_cons_zero, List.set_cons_succ]
        refine wpS_take 8 (v := .bool false) (oi := { dst := some 49, op := Op.binOp BinOp.neq 54 (Operand.tmp 44) (Operand.tmp 48) 54, type := 4, pos := "law.go:94", after := #[{ on := 3, ground := Ground.data }, { on := 7, ground := Ground.data }], guard := none }) rfl (by kernel_rfl) (by kernel_rfl) (by kernel_rfl) (fun _ _ _ h => h) (YS.val (by rfl) (fun w' _ => run_neq_op w' _ HGU.out (x := .tmp 44) (y := .tmp 48) rfl _ _ rfl rfl (same_pt x y w'))) ?_
        simp only [Act.put, List.setIfInBounds_toArray, List.set_cons_zero, List.set_cons_succ]
        refine wpS_done (by kernel_rfl) (fun w5 hw5 => ?_) _
        have ho5 := hw5.2.2.1
        have hl5 : (pcells (ovP l i)).length = (n + 2) * 2 := ho5.1
        have hth : w5.there gF (i * 2) 2 := by
          intro j hj
          have h3 := HIN3.out
          obtain ⟨g', e1, _, _, h4, h5⟩ := Own.cell ho5 (i * 2 + j) (by omega)
          injection e1 with e1; injection e1 with e1
          subst e1
          exact ⟨by rw [h4]; rfl, h5⟩
        have HTHE := Lib.hid hth
        have HW5 := Lib.hid hw5
        have HL5 := Lib.hid hl5
        have hb3 : (i : Int) < ((n + 2 : Nat) : Int) := by have := HIN3.out; omega
        have hb4 : (i : Int) < (n : Int) + 2 := by have := HIN3.out; omega
        clear hw5 ho5 hl5 hth HO HGF HGW HAT HC
        go_wp2_with (refine wpList_store_mid rfl 54 _ _ rfl gF (i * 2) #[.int .u8 1, .int .u8 1] rfl rfl HTHE.out (by rw [size54]; rfl) (by simp [Value.oneCell']) ?_)
        go_roundw
        case rel =>
          refine ⟨i + 1, by omega, by go_num, ?_, ?_⟩
          · have h1 := Own.set HW5.out.2.2.1 (i * 2) (by rw [HL5.out]; omega) (.int .u8 1)
            have h2 := Own.set h1 (i * 2 + 1) (by rw [List.length_set, HL5.out]; have := HIN3.out; omega) (.int .u8 1)
            rw [ovP, pcells_set]
            exact h2
          · exact grownBy_trans HW5.out.2.2.2 (grownBy_trans (grownBy_setCell _ _ _ (.int .u8 1)) (grownBy_setCell _ _ _ (.int .u8 1)))
        case measure => simp [intOf]; omega
      · obtain rfl : i = n := by omega
        have hat1 := PLies.at (Own.plies HO.out) i (77, 1) (by rw [HOVG.out _ _ (Nat.le_refl _), List.getElem?_append_right (by rw [HL.out]; exact Nat.le_refl _), HL.out, Nat.sub_self]; rfl)
        have hat2 := PLies.at (Own.plies HO.out) (i + 1) (78, 2) (by rw [HOVG.out _ _ (by omega), List.getElem?_append_right (by rw [HL.out]; omega), HL.out]; simp)
        have HAT1 := Lib.hid hat1
        have HAT2 := Lib.hid hat2
        have hq1 : ∀ W, (binOp .neq 54 (.agg #[.int .u8 77, .int .u8 1]) (.agg #[.int .u8 77, .int .u8 1])).run Try.prog W = .ok (.bool false) W := fun W => same_pt 77 1 W
        have hq2 : ∀ W, (binOp .neq 54 (.agg #[.int .u8 78, .int .u8 2]) (.agg #[.int .u8 78, .int .u8 2])).run Try.prog W = .ok (.bool false) W := fun W => same_pt 78 2 W
        clear hat1 hat2
        have hop := Own.grownNe OP.out HGF.out (fun q hc hq hr => by
          obtain ⟨g', e1, h1, _⟩ := Own.block OP.out hc
          rw [hq] at e1; injection e1 with e1; injection e1 with e1; injection hr with hr
          have h2 := HIN2.out
          omega)
        have hoq := Own.grownNe OQ.out HGF.out (fun q hc hq hr => by
          obtain ⟨g', e1, h1, _⟩ := Own.block OQ.out hc
          rw [hq] at e1; injection e1 with e1; injection e1 with e1; injection hr with hr
          have h2 := HIN2.out
          have h3 := Z3.out
          omega)
        have HOP : Hid (BOwn wr w2.heap.size ap P.length cp P) := Lib.hid hop
        have HOQ : Hid (BOwn wr w3.heap.size aq P.length cq P) := Lib.hid hoq
        have Z5 := Lib.hid HGF.out.size
        have hix1 : IntKind.i64.wrap ((i : Int) + 1) = (i : Int) + 1 := IntWalk.i64_in _ (by omega)
        have hix2 : (i : Int) + 1 < (((i : Nat) + 2 : Nat) : Int) := by omega
        have hix3 : ((i : Int) + 1).toNat = i + 1 := by omega
        have hix4 : (i : Int) < (((i : Nat) + 2 : Nat) : Int) := by omega
        have hix5 : (i : Int) + 1 < (i : Int) + 2 := by omega
        have hix6 : (i : Int) < (i : Int) + 2 := by omega
        have hix7 : (0 : Int) ≤ (i : Int) + 1 := by omega
        clear hop hoq OP OQ HO HGF HG4
        go_wp2_with (first | (refine wpList_load_midW (by rfl) 54 _ rfl gF (i * 2) rfl [.int .u8 77, .int .u8 1] _ HAT1.out Try.underlying54 rfl (by rw [size54]; rfl) ?_) | (refine wpList_load_midW (by rfl) 54 _ rfl gF ((i + 1) * 2) rfl [.int .u8 78, .int .u8 2] _ HAT2.out Try.underlying54 rfl (by rw [size54]; rfl) ?_))
        refine (HRT.out _ (HA.out.grown HGW.out)).mono ?_
        rintro e w6 ⟨aw, nw, cw, rfl, ow, g⟩
        obtain rfl := ow.len
        have OW := Lib.hid ow
        have HG6 := Lib.hid (grownBy_trans HGW.out g)
        replace HOP := Lib.hid (BOwn.grown HOP.out g)
        replace HOQ := Lib.hid (BOwn.grown HOQ.out g)
        have Z6 := Lib.hid g.size
        clear ow g HGW HAT1 HAT2 hq1 hq2 hix1 hix2 hix3 hix4 hix5 hix6 hix7
        go_wp2_with fail
        refine (same_yes _ _ _ _ _ _ P _ (BOwn.lies HOP.out) (BOwn.lies OW.out) rfl rfl (Nat.le_trans HPB.out (by decide))).mono ?_
        rintro e w7 ⟨rfl, q1, hq1⟩
        have g : w6.grownBy w7 none := by rw [hq1]; exact grownBy_drewN _ _ _
        have HG7 := Lib.hid (grownBy_trans HG6.out g)
        replace HOP := Lib.hid (BOwn.grown HOP.out g)
        replace HOQ := Lib.hid (BOwn.grown HOQ.out g)
        replace OW := Lib.hid (BOwn.grown OW.out g)
        have Z7 := Lib.hid g.size
        clear g hq1 q1 HG6
        go_wp2_with fail
        refine (same_yes _ _ _ _ _ _ P _ (BOwn.lies HOQ.out) (BOwn.lies OW.out) rfl rfl (Nat.le_trans HPB.out (by decide))).mono ?_
        rintro e w8 ⟨rfl, q1, hq1⟩
        have g : w7.grownBy w8 none := by rw [hq1]; exact grownBy_drewN _ _ _
        have HG8 := Lib.hid (grownBy_trans HG7.out g)
        replace HOP := Lib.hid (BOwn.grown HOP.out g)
        replace HOQ := Lib.hid (BOwn.grown HOQ.out g)
        have Z8 := Lib.hid g.size
        clear g hq1 q1 HG7 OW
        go_wp2_with fail
        have zr : w.heap.size ≤ w8.heap.size := HG8.out.size
        have z3 := Z3.out
        have z4 := Z4.out
        have z5 := Z5.out
        have z6 := Z6.out
        have z7 := Z7.out
        have z8 := Z8.out
        have zi := HIN2.out
        have hst := st1_lit (w := w8) (base := w.heap.size) (L := [⟨ap, P.length, cp⟩, ⟨aq, P.length, cq⟩])
          (fun j hj => match j, hj with
            | 0, _ => ⟨_, HOP.out.mono (by omega)⟩
            | 1, _ => ⟨_, HOQ.out.mono (by omega)⟩) zr 2 rfl (by decide)
        have hd : Distinct [⟨ap, P.length, cp⟩, ⟨aq, P.length, cq⟩] := distinct_of _ (fun | 0 => w2.heap.size | 1 => w3.heap.size | _ => w4.heap.size)
          (fun i hi => match i, hi with
            | 0, _ => z3
            | 1, _ => z4)
          (fun i hi => match i, hi with
            | 0, _ => WP.out
            | 1, _ => WQ.out)
        refine (apart_n _ _ _ 2 _ _ hst (by simp; omega) hd rfl (by omega) (fun j hj => match j, hj with
            | 0, _ => (by show P.length ≤ 100000000; have := HPB.out; omega)
            | 1, _ => (by show P.length ≤ 100000000; have := HPB.out; omega))).mono ?_
        rintro e w9 ⟨rfl, hbel⟩
        have G9 := Lib.hid (grown_below (grownBy_trans HG8.out (World.grownBy_alloc w8 (.cells ([(⟨ap, P.length, cp⟩ : Sl), ⟨aq, P.length, cq⟩].map Sl.val).toArray 33) none)) hbel (Nat.le_refl _))
        clear hbel hd hst
        go_wp2_with fail
        refine (awake_n _).mono ?_
        rintro e w10 ⟨rfl, g⟩
        have G10 := Lib.hid (grownBy_trans G9.out g)
        clear g
        go_wp2_with fail
        go_ret
        exact ⟨rfl, G10.out⟩

end Go.Proofs.Ytfikeilpgnahkaa
