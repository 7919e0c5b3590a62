/- octet.Xor. -/
import Derived.Test.YthemlaibjchjpaaChunks1
import Derived.Test.YthemlaibjchjpaaAppS
import Derived.Laws.BitsAllLaws
namespace Go.Proofs.Ythemlaibjchjpaa
open Go.RowKit Go.Shelf
attribute [local go_sem] Oper.semAt_some

/-- a contract from a body that ranges over a function; the walk is the plain one -/
theorem calls_of_wp_marks {P : Program} {f : FuncId} {fn : Func} {c : Code} {args : Array Value} {w : World} {R : Ending → World → Prop} (hf : P.funcs[f]? = some fn) (hb : fn.body = some c)
    (h : c.wp P (bodyPostM Fence.wide 3 P fn R) { tmps := args ++ Array.replicate (fn.ntmps - args.size) undef, defers := [] } w) : Calls P f args w R :=
  (callsIn_wide (n := 3)).1 (callsIn_of_wp_marks hf hb trivial (wpIn_wide.2 h) rfl)
theorem xor_u8' (a b : UInt8) : bits .xor .u8 (a.toNat : Int) (b.toNat : Int) = ((a ^^^ b).toNat : Int) := by
  rw [u8_xor_nat _ _ a.toNat_lt b.toNat_lt, UInt8.toNat_xor]

/-- what a turn of another block, no cells, leaves -/
theorem Row.nc {A B : World} {g : Nat} {t : TypeId} {cs : Array Value} {row : Option Nat} {b0 : Nat} (h : Row A g t cs) (hg : A.grownBy B row) (hr : ∀ r, row = some r → b0 ≤ r ∧ ∃ o : Obj, A.heap[r]? = some o ∧ o.isCells = false) : Row B g t cs := by
  refine (hg.block g h.lt (fun e => ?_)).trans h
  obtain ⟨_, o, ho, hc⟩ := hr g e.symm
  have h' : A.heap[g]? = some (.cells cs t (0, 0)) := h
  rw [h'] at ho
  injection ho with ho
  subst ho
  cases hc
theorem Own.nc {A B : World} {base : Nat} {e : TypeId} {size : Nat} {a : Option Addr} {n c : Nat} {xs : List Value} {row : Option Nat} {b0 : Nat} (h : Own A base e size a n c xs) (hg : A.grownBy B row) (hr : ∀ r, row = some r → b0 ≤ r ∧ ∃ o : Obj, A.heap[r]? = some o ∧ o.isCells = false) : Own B base e size a n c xs := by
  refine ⟨h.1, ?_⟩
  rcases h.2 with h0 | ⟨g, cur, ha, hb, hh, rest⟩
  · exact .inl h0
  · exact .inr ⟨g, cur, ha, hb, Row.nc (show Row A g e cur from hh) hg hr, rest⟩
theorem grown_nc {w A B : World} {row : Option Nat} {b0 : Nat} (h : w.grownBy A none) (hg : A.grownBy B row) (hb : w.heap.size ≤ b0) (hr : ∀ r, row = some r → b0 ≤ r ∧ ∃ o : Obj, A.heap[r]? = some o ∧ o.isCells = false) : w.grownBy B none :=
  grownBy_none (grownBy_trans (grownBy_some h row) hg) (fun g e => Nat.le_trans hb (hr g e).1)
/-- no cells lie as they lay where cells alone were changed -/
theorem KeepsFrom.ch {A B : World} {S : Nat → Prop} {b0 : Nat} (h : Ch S A B) (hS : ∀ k, S k → ∃ cs t m, A.heap[k]? = some (.cells cs t m)) : KeepsFrom b0 A B :=
  ⟨h.size, fun k o _ hk ho => (h.block k (Array.getElem?_eq_some_iff.1 hk).1 (fun hs => by
    obtain ⟨cs, t, m, e⟩ := hS k hs
    rw [e] at hk
    injection hk with hk
    subst hk
    cases ho)).trans hk⟩
theorem Own.cellsAt {w : World} {base : Nat} {e : TypeId} {size : Nat} {a : Option Addr} {n c : Nat} {xs : List Value} (h : Own w base e size a n c xs) {g : Nat} (hi : In a c g) : ∃ cs t m, w.heap[g]? = some (.cells cs t m) := by
  obtain ⟨hc, ha⟩ := hi
  rcases h.2 with ⟨_, h0⟩ | ⟨g', cur, ha', _, hh, _⟩
  · omega
  · rw [ha] at ha'
    injection ha' with ha'; injection ha' with ha'
    subst ha'
    exact ⟨_, _, _, hh⟩
theorem Own.adr {w : World} {base : Nat} {e : TypeId} {a : Option Addr} {n c : Nat} {xs : List Value} (h : Own w base e 1 a n c xs) (hn : 0 < n) : ∃ g, a = some ⟨g, 0, none⟩ ∧ In a c g := by
  rcases h.2 with ⟨h0, _⟩ | ⟨g, cur, ha, _, _, hnc, _⟩
  · omega
  · exact ⟨g, ha, by omega, ha⟩

/-- byte by byte in one another -/
def xorL (a b : List UInt8) : List UInt8 := List.zipWith (· ^^^ ·) a b
theorem xorL_len {a b : List UInt8} (h : a.length = b.length) : (xorL a b).length = a.length := by simp [xorL, h]

/-- what stands between two rounds -/
structure XorI (w : World) (bb bo : Nat) (ab : Option Addr) (cb go n : Nat) (X : List UInt8) (pre : List Pce) (W : World) : Prop where
  bx : Row W bb 22 #[.slice ab n cb]
  ob : Row W bo 22 #[.slice (some ⟨go, 0, none⟩) (flt (pre.map Pce.pr)).length n]
  oo : BOwn W w.heap.size (some ⟨go, 0, none⟩) (flt (pre.map Pce.pr)).length n (X.take (flt (pre.map Pce.pr)).length)
  gr : w.grownBy W none
theorem XorI.own {w : World} {bb bo : Nat} {ab : Option Addr} {cb go n : Nat} {X : List UInt8} {b0 : Nat} (hb : w.heap.size ≤ b0) : OwnFrom b0 (XorI w bb bo ab cb go n X) :=
  fun _ _ _ _ hs hg hr => ⟨hs.bx.nc hg hr, hs.ob.nc hg hr, Own.nc hs.oo hg hr, grown_nc hs.gr hg hb hr⟩

set_option maxRecDepth 100000 in
set_option maxHeartbeats 2000000 in
theorem xor_eq (aa ab : Option Addr) (n ca cb : Nat) (l1 l2 : List UInt8) (w : World) (ha : BLies w aa l1) (hb : BLies w ab l2) (hl1 : l1.length = n) (hl2 : l2.length = n) (hn : n ≤ 4000000000) (X : List UInt8) (hX : X = xorL l1 l2) :
    Calls Try.prog 28 #[.slice aa n ca, .slice ab n cb] w fun e w' => ∃ ao no co, e = .returned (.tuple #[.slice ao no co, .int .i64 0]) ∧ BOwn w' w.heap.size ao no co X ∧ w.grownBy w' none := by
  obtain ⟨il, hi, hz, hsz, _⟩ := info_parts (show (Try.prog.info? 22).map (fun i => (i.zero, i.size, i.bytes)) = some (some (.slice none 0 0), 1, 24) by kernel_rfl)
  have hXn : X.length = n := by rw [hX, xorL_len (by rw [hl1, hl2]), hl1]
  have HX := Lib.hid hX
  have HXN := Lib.hid hXn
  clear hX hXn
  have HA := Lib.hid ha
  have HB := Lib.hid hb
  have HL1 := Lib.hid hl1
  have HL2 := Lib.hid hl2
  clear ha hb hl1 hl2
  refine calls_of_wp_marks Try.func28 rfl ?_
  simp only [Try.ntmps28, List.size_toArray, List.length_cons, List.length_nil, Nat.reduceAdd, Nat.reduceSub, Array.replicate_succ, Array.replicate_zero, List.push_toArray, List.append_toArray, List.nil_append, List.cons_append]
  go_upto_region 1 with (refine wpList_box1 rfl rfl (.slice ab n cb) rfl rfl ?_; intro W1 hs1 hg1 hr1; have HG1 := Lib.hid hg1; have HR1 := Lib.hid hr1; have HS1 := Lib.hid hs1; have c1 := Row.cell hr1 0; simp at c1; clear hs1 hg1 hr1)
  go_wp2_with (first
    | (refine wpList_mkRoom elB rfl _ _ rfl n rfl rfl (by omega) (by unfold maxLen; omega) ?_; intro W2 hs2 hg2 ho2; have HS2 := Lib.hid hs2; have HG2 := Lib.hid hg2; have HO2 := Lib.hid (show BOwn W2 W1.heap.size (some ⟨W1.heap.size, 0, none⟩) 0 n [] from ho2); clear hs2 hg2 ho2)
    | (refine wpList_fresh1 rfl rfl rfl rfl rfl hi hz hsz rfl (.slice (some ⟨W1.heap.size, 0, none⟩) 0 n) rfl rfl rfl ?_; intro W3 hs3 hg3 hr3; have HS3 := Lib.hid hs3; have HG3 := Lib.hid hg3; have HR3 := Lib.hid hr3; clear hs3 hg3 hr3)
    | (go_at_call 15; refine (chunks_n aa ca n 64 l1 _ (((HA.out.grown HG1.out).grown HG2.out).grown HG3.out) HL1.out (by omega)).mono ?_; rintro e W4 ⟨b1, b2, ac, cc, rfl, hc, hg4⟩; have HC := Lib.hid hc; have HG4 := Lib.hid hg4; clear hc hg4))
  have HR4 := Lib.hid (HR3.out.grown HG4.out)
  have HB4 := Lib.hid (((HR1.out.grown HG2.out).grown HG3.out).grown HG4.out)
  have HW4 := Lib.hid (grownBy_trans (grownBy_trans (grownBy_trans HG1.out HG2.out) HG3.out) HG4.out)
  have ho4 : BOwn W4 w.heap.size (some ⟨W1.heap.size, 0, none⟩) 0 n [] := ((HO2.out.grown HG3.out).grown HG4.out).mono HG1.out.size
  have HO4 := Lib.hid ho4
  have hz3 : w.heap.size < W2.heap.size ∧ W1.heap.size < W2.heap.size ∧ W2.heap.size < W3.heap.size := by
    have h1 := HS1.out
    have h2 := HS2.out
    have h3 := HS3.out
    omega
  have HZ3 := Lib.hid hz3
  have hne : W2.heap.size ≠ W1.heap.size := by omega
  obtain ⟨bb, hbb⟩ : ∃ bb, bb = w.heap.size := ⟨_, rfl⟩
  obtain ⟨go, hgo⟩ : ∃ go, go = W1.heap.size := ⟨_, rfl⟩
  obtain ⟨bo, hbo⟩ : ∃ bo, bo = W2.heap.size := ⟨_, rfl⟩
  rw [← hgo] at HO4
  have hrb : Row W4 bb 22 #[.slice ab n cb] := hbb ▸ HB4.out
  have hro : Row W4 bo 22 #[.slice (some ⟨go, 0, none⟩) 0 n] := by rw [hbo, hgo]; exact HR4.out
  have HRB := Lib.hid hrb
  have HRO := Lib.hid hro
  have hzz : bb < bo ∧ go < W3.heap.size ∧ bo < W3.heap.size ∧ W3.heap.size ≤ W4.heap.size ∧ bb < W3.heap.size ∧ w.heap.size ≤ go ∧ w.heap.size ≤ bo := by
    have h1 := HG4.out.size
    have h2 := HG1.out.size
    omega
  have HZZ := Lib.hid hzz
  rw [← hbb, ← hgo, ← hbo]
  clear hbb hgo hbo hne hz3 hrb hro hzz ho4 HR4 HB4 HR1 HR3 HG1 HG2 HG3 HG4 HS1 HS2 HS3 HZ3 HO2 c1
  refine (wpIn_wide (n := 3)).1 ?_
  refine wpIn_rangeOk (F := Fence.wide) (n := 3) rfl (by omega) (gf := 61) (lb := #[.pointer (some ⟨b1, 0, none⟩), .pointer (some ⟨b2, 0, none⟩)]) rfl trivial (enters_of Try.func61 (by kernel_rfl) rfl)
    (chunks1_in 2 W3.heap.size b1 b2 64 ac n cc l1 W4 HC.out hn) KeptS.trans (fun W l o o' hl _ _ _ => KeptS.put W l o' (fun hs => by have := (HC.out.lt hs).2; omega))
    (fun pre x W0 W l o o' h hl ho => h.put l o' hl ho) (Below.refl _ _) (fun _ => rfl)
    (XorI w bb bo ab cb go n X) (fun _ _ _ => False) (XorI.own HW4.out.size) (fun _ _ _ _ _ h _ _ => h)
    ⟨HRB.out, HRO.out, HO4.out, HW4.out⟩
    (fun x => { tmps := #[.slice aa n ca, .slice ab n cb, undef, .pointer (some ⟨bb, 0, none⟩), .slice none 0 0, .int .i64 0, .pointer (some ⟨bo, 0, none⟩), .int .i64 (x.at_ : Int), x.sl.val, undef, undef, .slice aa n ca, .int .i64 (n : Int), .slice ab n cb, .int .i64 (n : Int), .bool false, .slice aa n ca, .int .i64 (n : Int), .slice (some ⟨go, 0, none⟩) 0 n, .slice aa n ca, .func (.func 61) #[] #[.pointer (some ⟨b1, 0, none⟩), .pointer (some ⟨b2, 0, none⟩)], .int .i64 (x.at_ : Int), x.sl.val, undef, undef, undef, undef, undef, undef, undef, undef, undef, undef, undef, undef, undef, undef, undef, undef, undef, undef, undef, undef], defers := [] }) ?assign ?body ?done ?stop
  case assign =>
    intro lp x W K hK
    simp only [Pce.vals]
    gi_wp2
    exact hK
  case stop =>
    rintro D c pre W _ _ h _
    exact h.elim
  case done =>
    rintro D xs W hD hS hI hK
    have hfl : flt (xs.map Pce.pr) = l1 := by rw [hS]; exact flt_chs 63 l1.length 0 l1 (Nat.le_refl _)
    have hob := hI.ob
    have hoo := hI.oo
    have hgr := hI.gr
    rw [hfl, HL1.out] at hob hoo
    rw [List.take_of_length_le (by rw [HXN.out]; exact Nat.le_refl _)] at hoo
    have hcb := Row.cell hob 0
    simp at hcb
    have HOO := Lib.hid hoo
    have HGR := Lib.hid hgr
    have HWW := Lib.hid HW4.out.size
    have HD := Lib.hid hD
    have HK := Lib.hid hK
    clear hob hoo hgr hI hS hfl hD hK
    go_wp2_with fail
    have hr : ∀ r, some D = some r → w.heap.size ≤ r ∧ ∃ o : Obj, W.heap[r]? = some o ∧ o.isCells = false := fun r e => by
      cases e
      exact ⟨Nat.le_trans HWW.out HD.out, _, HK.out, rfl⟩
    refine ⟨by simp, .inl ⟨_, _, rfl, run_takeDeferred HK.out, ?_⟩⟩
    exact ⟨_, results_tmp2 rfl _ _ _, _, _, _, rfl, Own.nc HOO.out (grownBy_putObj' W D _) hr, grown_nc HGR.out (grownBy_putObj' W D _) (Nat.le_refl _) hr⟩
  case body =>
    rintro lp pre ⟨at_, ⟨sa, sm, sc⟩, pb⟩ W0 W hI0 hI hkc hok
    obtain ⟨r, hr⟩ := hok.at_
    have hat : at_ = (flt (pre.map Pce.pr)).length := by have := chs_at 63 _ 0 at_ pb r l1 hr; omega
    have hfl : flt (pre.map Pce.pr) ++ (pb ++ flt r) = l1 := by
      have h := flt_chs 63 l1.length 0 l1 (Nat.le_refl _)
      have hr' : pre.map Pce.pr ++ (at_, pb) :: r = chs 63 0 l1 := hr
      rw [← hr', flt_app, flt_cons] at h
      exact h
    have hown : BOwn W W0.heap.size sa sm sc pb := hok.own
    have hpl : pb.length = sm := BOwn.len hown
    have hnx : (flt ((pre ++ [(⟨at_, ⟨sa, sm, sc⟩, pb⟩ : Pce)]).map Pce.pr)).length = (flt (pre.map Pce.pr)).length + sm := by
      rw [List.map_append, flt_app, List.length_append, List.map_cons, List.map_nil, flt_cons, flt_nil, List.append_nil]
      rw [show (Pce.pr ⟨at_, ⟨sa, sm, sc⟩, pb⟩).2 = pb from rfl, hpl]
    obtain ⟨k, hk⟩ : ∃ k, k = (flt (pre.map Pce.pr)).length := ⟨_, rfl⟩
    have hob := hI.ob
    have hoo := hI.oo
    have hb0 : bo < W0.heap.size := hI0.ob.lt
    have hgo0 : 0 < n → go < W0.heap.size := fun h => (Own.inn hI0.oo ⟨h, rfl⟩).2
    rw [← hk] at hat hnx hob hoo
    subst hat
    have hkm : at_ + sm ≤ n := by
      have h := congrArg List.length hfl
      rw [List.length_append, List.length_append, HL1.out, hpl, ← hk] at h
      omega
    have hget : ∀ (i : Nat) (hi : i < pb.length) (hi2 : at_ + i < l1.length), l1[at_ + i] = pb[i] := fun i hi hi2 => by
      have e : l1[at_ + i]? = pb[i]? := by
        rw [← hfl, List.getElem?_append_right (by omega), ← hk, Nat.add_sub_cancel_left, List.getElem?_append_left hi]
      rw [List.getElem?_eq_getElem hi2, List.getElem?_eq_getElem hi] at e
      exact Option.some.inj e
    obtain ⟨k, hkk⟩ : ∃ k, k = at_ := ⟨_, rfl⟩
    rw [← hkk] at hnx hob hoo hkm hget hk ⊢
    have HBX := Lib.hid hI.bx
    have HOB := Lib.hid hob
    have HOO := Lib.hid hoo
    have HGR := Lib.hid hI.gr
    have HNX := Lib.hid hnx
    have HOWN := Lib.hid hown
    have HPL := Lib.hid hpl
    have HGET := Lib.hid hget
    have HB0 := Lib.hid hb0
    have HG0 := Lib.hid hgo0
    have HKC := Lib.hid hkc.size
    clear hI hI0 hok hkc hr hfl hown hpl hnx hob hoo hget hk hb0 hgo0 hkk
    have hbo : ¬ In (some ⟨go, 0, none⟩) n bo := row_in HOB.out HOO.out (by decide)
    have hbb : bb ≠ bo := by have := HZZ.out; omega
    have hbg : ¬ In (some ⟨go, 0, none⟩) n bb := row_in HBX.out HOO.out (by decide)
    have HBO := Lib.hid hbo
    have HBB := Lib.hid hbb
    have HBG := Lib.hid hbg
    clear hbo hbb hbg
    simp only [Sl.val]
    gi_wp2
    gi_loopw [25] (fun vi wr => ∃ i : Nat, i ≤ sm ∧ vi = .int .i64 i ∧ Row wr bo 22 #[.slice (some ⟨go, 0, none⟩) (k + i) n] ∧ BOwn wr w.heap.size (some ⟨go, 0, none⟩) (k + i) n (X.take (k + i)) ∧ Ch (fun g => g = bo ∨ In (some ⟨go, 0, none⟩) n g) W wr) (fun vi _ => sm - (intOf vi).toNat)
    case atStart => exact ⟨0, Nat.zero_le _, rfl, HOB.out, HOO.out, Ch.refl _ _⟩
    case round =>
      obtain ⟨i, hi, rfl, hobr, hoor, hch⟩ := hrel
      have HOBR := Lib.hid hobr
      have HOOR := Lib.hid hoor
      have HCH := Lib.hid hch
      clear hobr hoor hch
      by_cases hlt : i < sm
      · obtain ⟨gs, rfl, hgs1, hgs2⟩ := Own.block HOWN.out (by have := HOWN.out.cap; omega)
        have hipb : i < pb.length := by rw [HPL.out]; exact hlt
        have hil2 : k + i < l2.length := by rw [HL2.out]; omega
        have hil1 : k + i < l1.length := by rw [HL1.out]; omega
        obtain ⟨gb, ob, rfl⟩ := BLies.addr HB.out (by omega)
        obtain ⟨xb, hxb⟩ : ∃ xb, xb = pb[i] := ⟨_, rfl⟩
        obtain ⟨yb, hyb⟩ : ∃ yb, yb = l2[k + i] := ⟨_, rfl⟩
        have hnotS : ∀ g, W0.heap.size ≤ g → ¬ (g = bo ∨ In (some ⟨go, 0, none⟩) n g) := fun g hg h => by
          rcases h with h | h
          · have := HB0.out; omega
          · have h1 := HG0.out h.1
            have h2 := h.2
            injection h2 with h2; injection h2 with h2
            omega
        have hnotw : ∀ g, g < w.heap.size → ¬ (g = bo ∨ In (some ⟨go, 0, none⟩) n g) := fun g hg h => by
          have hz := HZZ.out
          rcases h with h | h
          · omega
          · have h2 := h.2
            injection h2 with h2; injection h2 with h2
            omega
        have hpc : wr.cell? ⟨gs, i, none⟩ = some (.int .u8 (xb.toNat : Int)) := by
          obtain ⟨b, off, e, hc⟩ := ((BOwn.lies HOWN.out).ch HCH.out (fun b off e hS => by
            injection e with e; injection e with e1 e2
            subst e1
            exact hnotS _ hgs1 hS)) i hipb
          injection e with e; injection e with e1 e2
          subst e1; subst e2
          rw [Nat.zero_add] at hc
          rw [hc, hxb]
        have hlc : wr.cell? ⟨gb, ob + (k + i), none⟩ = some (.int .u8 (yb.toNat : Int)) := by
          have hgb : gb < w.heap.size := by
            obtain ⟨b, off, e, hc⟩ := HB.out (k + i) hil2
            injection e with e; injection e with e1 e2
            subst e1
            exact World.block_lt_of_cell? w _ hc
          obtain ⟨b, off, e, hc⟩ := ((HB.out.grown HGR.out).ch HCH.out (fun b off e hS => by
            injection e with e; injection e with e1 e2
            subst e1
            exact hnotw _ hgb hS)) (k + i) hil2
          injection e with e; injection e with e1 e2
          subst e1; subst e2
          rw [hc, hyb]
        have hgbo : ¬ In (some ⟨go, 0, none⟩) n gb := fun h => by
          obtain ⟨b, off, e, hc⟩ := HB.out (k + i) hil2
          injection e with e; injection e with e1 e2
          subst e1
          exact hnotw _ (World.block_lt_of_cell? w _ hc) (.inr h)
        have hbxr : Row wr bb 22 #[.slice (some ⟨gb, ob, none⟩) n cb] := HBX.out.ch HCH.out (fun h => by
          rcases h with h | h
          · exact HBB.out h
          · exact HBG.out h)
        have hc0 : ∀ u, Ch (In (some ⟨go, 0, none⟩) n) wr u → u.cell? ⟨bo, 0, none⟩ = some (.slice (some ⟨go, 0, none⟩) (k + i) n) := fun u hu => by
          have h := Row.cell (HOBR.out.ch hu HBO.out) 0
          simpa using h
        have hc1 : ∀ u, Ch (In (some ⟨go, 0, none⟩) n) wr u → u.cell? ⟨bb, 0, none⟩ = some (.slice (some ⟨gb, ob, none⟩) n cb) := fun u hu => by
          have h := Row.cell (hbxr.ch hu HBG.out) 0
          simpa using h
        have hc2 : ∀ u, Ch (In (some ⟨go, 0, none⟩) n) wr u → u.cell? ⟨gb, ob + (k + i), none⟩ = some (.int .u8 (yb.toNat : Int)) := fun u hu =>
          (World.cell?_of_block (hu.block gb (World.block_lt_of_cell? wr _ hlc) hgbo)).trans hlc
        have hxo : bits .xor .u8 (xb.toNat : Int) (yb.toNat : Int) = ((xb ^^^ yb).toNat : Int) := xor_u8' xb yb
        have htk : (X.take (k + i)).map bval ++ [.int .u8 ((xb ^^^ yb).toNat : Int)] = (X.take (k + (i + 1))).map bval := by
          have hXi : k + i < X.length := by rw [HXN.out]; omega
          have e : X[k + i] = xb ^^^ yb := by
            have e2 : X[k + i]? = some (l1[k + i] ^^^ l2[k + i]) := by
              rw [HX.out, xorL, List.getElem?_zipWith, List.getElem?_eq_getElem hil1, List.getElem?_eq_getElem hil2]
            rw [List.getElem?_eq_getElem hXi] at e2
            rw [Option.some.inj e2, HGET.out i hipb hil1, hxb, hyb]
          rw [show k + (i + 1) = k + i + 1 from rfl, List.take_succ_eq_append_getElem hXi, List.map_append, e]
          rfl
        have HC0 := Lib.hid hc0
        have HC1 := Lib.hid hc1
        have HC2 := Lib.hid hc2
        have HXO := Lib.hid hxo
        have HTK := Lib.hid htk
        have HWA : Hid (IntKind.i64.wrap ((k : Int) + (i : Int)) = (k : Int) + (i : Int)) := by
          unfold Hid
          rw [IntWalk.i64_in _ (by omega)]
        have HLB2 : Hid ((0 : Int) ≤ (k : Int) + (i : Int) ∧ (k : Int) + (i : Int) < (n : Int)) := by unfold Hid; omega
        have HLT : Hid (((k : Int) + (i : Int)).toNat = k + i) := by unfold Hid; omega
        have HLB : Hid (k + i < n) := by unfold Hid; omega
        have hd : decide ((i : Int) < (sm : Int)) = true := by simp; omega
        have hd3 : decide (i < sm) = true := by simp; omega
        clear hnotS hnotw hlc hgbo hbxr hc0 hc1 hc2 hxo htk hyb hxb hgs1 hgs2 hil2 hil1 hipb
        gi_wp2
        refine wpIn_regionX (AppS wr w.heap.size 5 (some ⟨go, 0, none⟩) (k + i) n ((X.take (k + i)).map bval)) 11 (by kernel_rfl) (by kernel_rfl) ⟨Ch.ofNone (grownBy_drewN wr 1 none) _, HOOR.out⟩ ?_
        refine wpX_take 0 (v := .slice (some ⟨go, 0, none⟩) (k + i) n) (oi := { dst := some 30, op := Op.load 22 (Operand.tmp 6), type := 22, pos := "octet.go:92", after := #[], guard := none }) (oL := { dst := none, op := Op.store 22 (Operand.tmp 6) (Operand.tmp 40), type := 0, pos := "octet.go:92", after := #[{ on := 10, ground := Ground.data }, { on := 10, ground := Ground.chain }, { on := 0, ground := Ground.phase }, { on := 1, ground := Ground.phase }, { on := 2, ground := Ground.phase }, { on := 3, ground := Ground.phase }, { on := 4, ground := Ground.phase }, { on := 5, ground := Ground.phase }, { on := 6, ground := Ground.phase }, { on := 7, ground := Ground.phase }, { on := 8, ground := Ground.phase }, { on := 9, ground := Ground.phase }, { on := 10, ground := Ground.phase }], guard := none }) (clo_app _ _ _ _ _ _ _) rfl rfl rfl (by kernel_rfl) (by kernel_rfl) (by kernel_rfl) (by kernel_rfl) (by kernel_rfl) (fun _ _ _ h => by cases h.1) (YG.val (by rfl) (fun u hu => by have hc := HC0.out u hu.1; go_simp)) ?_
        simp only [Act.put, List.setIfInBounds_toArray, List.set_cons_zero, List.set_cons_succ]
        refine wpX_take 1 (v := .int .u8 (xb.toNat : Int)) (oi := { dst := some 31, op := Op.move (Operand.tmp 10), type := 5, pos := "octet.go:92", after := #[], guard := none }) (oL := { dst := none, op := Op.store 22 (Operand.tmp 6) (Operand.tmp 40), type := 0, pos := "octet.go:92", after := #[{ on := 10, ground := Ground.data }, { on := 10, ground := Ground.chain }, { on := 0, ground := Ground.phase }, { on := 1, ground := Ground.phase }, { on := 2, ground := Ground.phase }, { on := 3, ground := Ground.phase }, { on := 4, ground := Ground.phase }, { on := 5, ground := Ground.phase }, { on := 6, ground := Ground.phase }, { on := 7, ground := Ground.phase }, { on := 8, ground := Ground.phase }, { on := 9, ground := Ground.phase }, { on := 10, ground := Ground.phase }], guard := none }) (clo_app _ _ _ _ _ _ _) rfl rfl rfl (by kernel_rfl) (by kernel_rfl) (by kernel_rfl) (by kernel_rfl) (by kernel_rfl) (fun _ _ _ h => by cases h.1) (YG.val (by rfl) (fun _ _ => rfl)) ?_
        simp only [Act.put, List.setIfInBounds_toArray, List.set_cons_zero, List.set_cons_succ]
        refine wpX_take 2 (v := .slice (some ⟨gb, ob, none⟩) n cb) (oi := { dst := some 32, op := Op.load 22 (Operand.tmp 3), type := 22, pos := "octet.go:92", after := #[], guard := none }) (oL := { dst := none, op := Op.store 22 (Operand.tmp 6) (Operand.tmp 40), type := 0, pos := "octet.go:92", after := #[{ on := 10, ground := Ground.data }, { on := 10, ground := Ground.chain }, { on := 0, ground := Ground.phase }, { on := 1, ground := Ground.phase }, { on := 2, ground := Ground.phase }, { on := 3, ground := Ground.phase }, { on := 4, ground := Ground.phase }, { on := 5, ground := Ground.phase }, { on := 6, ground := Ground.phase }, { on := 7, ground := Ground.phase }, { on := 8, ground := Ground.phase }, { on := 9, ground := Ground.phase }, { on := 10, ground := Ground.phase }], guard := none }) (clo_app _ _ _ _ _ _ _) rfl rfl rfl (by kernel_rfl) (by kernel_rfl) (by kernel_rfl) (by kernel_rfl) (by kernel_rfl) (fun _ _ _ h => by cases h.1) (YG.val (by rfl) (fun u hu => by have hc := HC1.out u hu.1; go_simp)) ?_
        simp only [Act.put, List.setIfInBounds_toArray, List.set_cons_zero, List.set_cons_succ]
        refine wpX_take 3 (v := .int .i64 (k : Int)) (oi := { dst := some 33, op := Op.move (Operand.tmp 7), type := 3, pos := "octet.go:92", after := #[], guard := none }) (oL := { dst := none, op := Op.store 22 (Operand.tmp 6) (Operand.tmp 40), type := 0, pos := "octet.go:92", after := #[{ on := 10, ground := Ground.data }, { on := 10, ground := Ground.chain }, { on := 0, ground := Ground.phase }, { on := 1, ground := Ground.phase }, { on := 2, ground := Ground.phase }, { on := 3, ground := Ground.phase }, { on := 4, ground := Ground.phase }, { on := 5, ground := Ground.phase }, { on := 6, ground := Ground.phase }, { on := 7, ground := Ground.phase }, { on := 8, ground := Ground.phase }, { on := 9, ground := Ground.phase }, { on := 10, ground := Ground.phase }], guard := none }) (clo_app _ _ _ _ _ _ _) rfl rfl rfl (by kernel_rfl) (by kernel_rfl) (by kernel_rfl) (by kernel_rfl) (by kernel_rfl) (fun _ _ _ h => by cases h.1) (YG.val (by rfl) (fun _ _ => rfl)) ?_
        simp only [Act.put, List.setIfInBounds_toArray, List.set_cons_zero, List.set_cons_succ]
        refine wpX_take 4 (v := .int .i64 (i : Int)) (oi := { dst := some 34, op := Op.move (Operand.tmp 9), type := 3, pos := "octet.go:92", after := #[], guard := none }) (oL := { dst := none, op := Op.store 22 (Operand.tmp 6) (Operand.tmp 40), type := 0, pos := "octet.go:92", after := #[{ on := 10, ground := Ground.data }, { on := 10, ground := Ground.chain }, { on := 0, ground := Ground.phase }, { on := 1, ground := Ground.phase }, { on := 2, ground := Ground.phase }, { on := 3, ground := Ground.phase }, { on := 4, ground := Ground.phase }, { on := 5, ground := Ground.phase }, { on := 6, ground := Ground.phase }, { on := 7, ground := Ground.phase }, { on := 8, ground := Ground.phase }, { on := 9, ground := Ground.phase }, { on := 10, ground := Ground.phase }], guard := none }) (clo_app _ _ _ _ _ _ _) rfl rfl rfl (by kernel_rfl) (by kernel_rfl) (by kernel_rfl) (by kernel_rfl) (by kernel_rfl) (fun _ _ _ h => by cases h.1) (YG.val (by rfl) (fun _ _ => rfl)) ?_
        simp only [Act.put, List.setIfInBounds_toArray, List.set_cons_zero, List.set_cons_succ]
        refine wpX_take 5 (v := .int .i64 ((k + i : Nat) : Int)) (oi := { dst := some 35, op := Op.binOp BinOp.add 3 (Operand.tmp 33) (Operand.tmp 34) 3, type := 3, pos := "octet.go:92", after := #[{ on := 3, ground := Ground.data }, { on := 4, ground := Ground.data }], guard := none }) (oL := { dst := none, op := Op.store 22 (Operand.tmp 6) (Operand.tmp 40), type := 0, pos := "octet.go:92", after := #[{ on := 10, ground := Ground.data }, { on := 10, ground := Ground.chain }, { on := 0, ground := Ground.phase }, { on := 1, ground := Ground.phase }, { on := 2, ground := Ground.phase }, { on := 3, ground := Ground.phase }, { on := 4, ground := Ground.phase }, { on := 5, ground := Ground.phase }, { on := 6, ground := Ground.phase }, { on := 7, ground := Ground.phase }, { on := 8, ground := Ground.phase }, { on := 9, ground := Ground.phase }, { on := 10, ground := Ground.phase }], guard := none }) (clo_app _ _ _ _ _ _ _) rfl rfl rfl (by kernel_rfl) (by kernel_rfl) (by kernel_rfl) (by kernel_rfl) (by kernel_rfl) (fun _ _ _ h => by cases h.1) (YG.val (by rfl) (fun _ _ => by have hwa := HWA.out; go_simp)) ?_
        simp only [Act.put, List.setIfInBounds_toArray, List.set_cons_zero, List.set_cons_succ]
        refine wpX_take 6 (v := .pointer (some ⟨gb, ob + (k + i), none⟩)) (oi := { dst := some 36, op := Op.indexAddr 22 (Operand.tmp 32) (Operand.tmp 35), type := 0, pos := "octet.go:92", after := #[{ on := 2, ground := Ground.data }, { on := 5, ground := Ground.data }], guard := none }) (oL := { dst := none, op := Op.store 22 (Operand.tmp 6) (Operand.tmp 40), type := 0, pos := "octet.go:92", after := #[{ on := 10, ground := Ground.data }, { on := 10, ground := Ground.chain }, { on := 0, ground := Ground.phase }, { on := 1, ground := Ground.phase }, { on := 2, ground := Ground.phase }, { on := 3, ground := Ground.phase }, { on := 4, ground := Ground.phase }, { on := 5, ground := Ground.phase }, { on := 6, ground := Ground.phase }, { on := 7, ground := Ground.phase }, { on := 8, ground := Ground.phase }, { on := 9, ground := Ground.phase }, { on := 10, ground := Ground.phase }], guard := none }) (clo_app _ _ _ _ _ _ _) rfl rfl rfl (by kernel_rfl) (by kernel_rfl) (by kernel_rfl) (by kernel_rfl) (by kernel_rfl) (fun _ _ _ h => by cases h.1) (YG.val (by rfl) (fun _ _ => by go_simp; rw [if_pos HLB2.out, HLT.out])) ?_
        simp only [Act.put, List.setIfInBounds_toArray, List.set_cons_zero, List.set_cons_succ]
        refine wpX_take 7 (v := .int .u8 ((yb).toNat : Int)) (oi := { dst := some 37, op := Op.load 5 (Operand.tmp 36), type := 5, pos := "octet.go:92", after := #[{ on := 6, ground := Ground.data }], guard := none }) (oL := { dst := none, op := Op.store 22 (Operand.tmp 6) (Operand.tmp 40), type := 0, pos := "octet.go:92", after := #[{ on := 10, ground := Ground.data }, { on := 10, ground := Ground.chain }, { on := 0, ground := Ground.phase }, { on := 1, ground := Ground.phase }, { on := 2, ground := Ground.phase }, { on := 3, ground := Ground.phase }, { on := 4, ground := Ground.phase }, { on := 5, ground := Ground.phase }, { on := 6, ground := Ground.phase }, { on := 7, ground := Ground.phase }, { on := 8, ground := Ground.phase }, { on := 9, ground := Ground.phase }, { on := 10, ground := Ground.phase }], guard := none }) (clo_app _ _ _ _ _ _ _) rfl rfl rfl (by kernel_rfl) (by kernel_rfl) (by kernel_rfl) (by kernel_rfl) (by kernel_rfl) (fun _ _ _ h => by cases h.1) (YG.val (by rfl) (fun u hu => by have hc := HC2.out u hu.1; go_simp)) ?_
        simp only [Act.put, List.setIfInBounds_toArray, List.set_cons_zero, List.set_cons_succ]
        refine wpX_take 8 (v := .int .u8 ((xb ^^^ yb).toNat : Int)) (oi := { dst := some 38, op := Op.binOp BinOp.xor 5 (Operand.tmp 31) (Operand.tmp 37) 5, type := 5, pos := "octet.go:92", after := #[{ on := 1, ground := Ground.data }, { on := 7, ground := Ground.data }], guard := none }) (oL := { dst := none, op := Op.store 22 (Operand.tmp 6) (Operand.tmp 40), type := 0, pos := "octet.go:92", after := #[{ on := 10, ground := Ground.data }, { on := 10, ground := Ground.chain }, { on := 0, ground := Ground.phase }, { on := 1, ground := Ground.phase }, { on := 2, ground := Ground.phase }, { on := 3, ground := Ground.phase }, { on := 4, ground := Ground.phase }, { on := 5, ground := Ground.phase }, { on := 6, ground := Ground.phase }, { on := 7, ground := Ground.phase }, { on := 8, ground := Ground.phase }, { on := 9, ground := Ground.phase }, { on := 10, ground := Ground.phase }], guard := none }) (clo_app _ _ _ _ _ _ _) rfl rfl rfl (by kernel_rfl) (by kernel_rfl) (by kernel_rfl) (by kernel_rfl) (by kernel_rfl) (fun _ _ _ h => by cases h.1) (YG.val (by rfl) (fun _ _ => by have hxo := HXO.out; go_simp)) ?_
        simp only [Act.put, List.setIfInBounds_toArray, List.set_cons_zero, List.set_cons_succ]
        refine wpX_step 9 (o := { dst := some 39, op := Op.buildSlice 22 1 #[(0, Operand.tmp 38)], type := 22, pos := "octet.go:92", after := #[{ on := 8, ground := Ground.data }], guard := none }) rfl rfl (by kernel_rfl) (by rfl) (fun u2 hS2 K hK => ?_)
        have HK := Lib.hid hK
        have HS2 := Lib.hid hS2
        clear hK hS2
        have ha2 := World.grownBy_alloc u2 (.cells #[.int .u8 ((xb ^^^ yb).toNat : Int)] 5) none
        refine wp_val_op (v := .slice (some ⟨u2.heap.size, 0, none⟩) 1 1) (w1 := u2.alloc (.cells #[.int .u8 ((xb ^^^ yb).toNat : Int)] 5)) (by go_simp) ?_
        have hrw2 : Row (u2.alloc (.cells #[.int .u8 ((xb ^^^ yb).toNat : Int)] 5)) u2.heap.size 5 #[.int .u8 ((xb ^^^ yb).toNat : Int)] := heap_alloc_new u2 _
        refine HK.out (fun u => AppS wr w.heap.size 5 (some ⟨go, 0, none⟩) (k + i) n ((X.take (k + i)).map bval) u ∧ Row u u2.heap.size 5 #[.int .u8 ((xb ^^^ yb).toNat : Int)]) _ _ ⟨clo_app _ _ _ _ _ _ _ _ _ HS2.out ha2, hrw2⟩ (fun u h => h.1) (clo_and (clo_app _ _ _ _ _ _ _) (clo_row _ _ _)) ?_
        simp only [Act.put, List.setIfInBounds_toArray, List.set_cons_zero, List.set_cons_succ]
        clear ha2 hrw2
        have hu26 : wr.heap.size ≤ u2.heap.size := HS2.out.1.size
        refine wpX_step 10 (o := { dst := some 40, op := Op.call { callee := Callee.builtin Builtin.append, args := #[Operand.tmp 30, Operand.tmp 39], argTypes := #[22, 22] }, type := 22, pos := "octet.go:92", after := #[{ on := 0, ground := Ground.data }, { on := 9, ground := Ground.data }], guard := none }) rfl rfl (by kernel_rfl) (by rfl) (fun u3 hS3 K3 hK3 => ?_)
        have HK3 := Lib.hid hK3
        have HS3 := Lib.hid hS3
        clear hK3 hS3
        have hnews : ∀ j u, ([.int .u8 ((xb ^^^ yb).toNat : Int)] : List Value)[j]? = some u → u3.cell? ((⟨u2.heap.size, 0, none⟩ : Addr).add j) = some u := by
          intro j u hu
          have h2 : ((⟨u2.heap.size, 0, none⟩ : Addr).add j) = ⟨u2.heap.size, j, none⟩ := by unfold Addr.add; split <;> simp_all
          rw [h2, Row.cell HS3.out.2]
          simpa using hu
        have hFn : ¬ In (some ⟨go, 0, none⟩) n u2.heap.size := fun h => by
          have := (Own.inn HOOR.out h).2
          omega
        have hroom := HLB.out
        obtain ⟨w8, hrun, hown8, hgr8⟩ := run_app_room (P := Try.prog) (ty := 22) u3 elB HS3.out.1.2 ⟨u2.heap.size, 0, none⟩ 1 1 [.int .u8 ((xb ^^^ yb).toNat : Int)] rfl hnews (by simp [Value.oneCell']) (by omega) (by omega)
        refine wp_val_op (v := .slice (some ⟨go, 0, none⟩) (k + i + 1) n) (w1 := w8) (run_app_op u3 w8 _ (.tmp 30) (.tmp 39) rfl _ hrun) ?_
        refine HK3.out (fun u => (AppS wr w.heap.size 5 (some ⟨go, 0, none⟩) (k + i) n ((X.take (k + i)).map bval) u ∧ Row u u2.heap.size 5 #[.int .u8 ((xb ^^^ yb).toNat : Int)]) ∧ w8.grownBy u none) _ _ ⟨⟨⟨HS3.out.1.1.trans hgr8.ch (fun _ _ h => h), own_behind HS3.out.1.2 hown8 hgr8⟩, Row.ch HS3.out.2 hgr8.ch hFn⟩, World.grownBy.refl _ _⟩ (fun u h => h.1) (clo_and (clo_and (clo_app _ _ _ _ _ _ _) (clo_row _ _ _)) (clo_grown _)) ?_
        simp only [Act.put, List.setIfInBounds_toArray, List.set_cons_zero, List.set_cons_succ]
        refine wpX_last (oL := { dst := none, op := Op.store 22 (Operand.tmp 6) (Operand.tmp 40), type := 0, pos := "octet.go:92", after := #[{ on := 10, ground := Ground.data }, { on := 10, ground := Ground.chain }, { on := 0, ground := Ground.phase }, { on := 1, ground := Ground.phase }, { on := 2, ground := Ground.phase }, { on := 3, ground := Ground.phase }, { on := 4, ground := Ground.phase }, { on := 5, ground := Ground.phase }, { on := 6, ground := Ground.phase }, { on := 7, ground := Ground.phase }, { on := 8, ground := Ground.phase }, { on := 9, ground := Ground.phase }, { on := 10, ground := Ground.phase }], guard := none }) rfl (by kernel_rfl) (by kernel_rfl) (by rfl) (fun u4 hS4 K4 hK4 => ?_)
        have hrow4 : Row u4 bo 22 #[.slice (some ⟨go, 0, none⟩) (k + i) n] := HOBR.out.ch hS4.1.1.1 HBO.out
        have c14 := Row.cell hrow4 0
        have f14 := Row.frozen hrow4 0
        simp at c14
        refine wp_skip_op (w1 := u4.setCell ⟨bo, 0, none⟩ (.slice (some ⟨go, 0, none⟩) (k + i + 1) n)) (by go_simp) (hK4 _ _ ⟨rfl, ?_⟩)
        simp only [Act.put, List.setIfInBounds_toArray, List.set_cons_zero, List.set_cons_succ]
        obtain ⟨w9, hw9⟩ : ∃ w9, w9 = u4.setCell ⟨bo, 0, none⟩ (.slice (some ⟨go, 0, none⟩) (k + i + 1) n) := ⟨_, rfl⟩
        rw [← hw9]
        have hg9 : u4.grownBy w9 (some bo) := hw9 ▸ grownBy_setCell _ _ _ _
        have hrow9 : Row w9 bo 22 #[.slice (some ⟨go, 0, none⟩) (k + (i + 1)) n] := hw9 ▸ Row.setc hrow4 0 _
        have hch9 : Ch (fun g => g = bo ∨ In (some ⟨go, 0, none⟩) n g) W w9 := (HCH.out.trans hS4.1.1.1 (fun _ _ h => .inr h)).trans (Ch.ofSome (S := fun g => g = bo) hg9 rfl) (fun _ _ h => .inl h)
        have hown9 : BOwn w9 w.heap.size (some ⟨go, 0, none⟩) (k + (i + 1)) n (X.take (k + (i + 1))) := by
          have h4 : Own u4 w.heap.size 5 1 (some ⟨go, 0, none⟩) (k + i + 1) n ((X.take (k + i)).map bval ++ [.int .u8 ((xb ^^^ yb).toNat : Int)]) := Own.ch hown8 (Ch.ofNone hS4.2 (fun _ => False)) (fun _ _ _ h => h)
          rw [HTK.out] at h4
          exact Own.ch h4 (Ch.ofSome (S := fun g => g = bo) hg9 rfl) (fun h0 g e h => HBO.out (h ▸ ⟨h0, e⟩))
        have HROW9 := Lib.hid hrow9
        have HCH9 := Lib.hid hch9
        have HOWN9 := Lib.hid hown9
        clear hw9 hg9 hrow9 hch9 hown9 hrow4 c14 f14 hS4 hgr8 hown8 hrun hFn hnews hu26 HK3 HK HS2 HS3 HC0 HC1 HC2 HXO HTK HOBR HOOR HCH hK4 hroom
        gi_wp2
        refine ⟨⟨i + 1, by omega, by go_num, HROW9.out, HOWN9.out, HCH9.out⟩, ?_⟩
        simp only [intOf]
        omega
      · obtain rfl : i = sm := by omega
        have hd : decide ((i : Int) < (i : Int)) = false := by simp
        gi_wp2
        refine ⟨KeepsFrom.ch HCH.out (fun g hS => ?_), KeptS.ch HCH.out (fun g hs hT => ?_), HBX.out.ch HCH.out (fun h => ?_), ?_, ?_, Ch.fresh HGR.out HCH.out (fun g hg hT => ?_)⟩
        · rcases hS with rfl | h
          · exact ⟨_, _, _, HOB.out⟩
          · exact Own.cellsAt HOO.out h
        · have hz := HZZ.out
          have hl := (HC.out.lt hs).1
          rcases hT with h | h
          · omega
          · have h2 := h.2
            injection h2 with h2; injection h2 with h2
            omega
        · rcases h with h | h
          · exact HBB.out h
          · exact HBG.out h
        · rw [HNX.out]; exact HOBR.out
        · rw [HNX.out]; exact HOOR.out
        · have hz := HZZ.out
          rcases hT with h | h
          · omega
          · have h2 := h.2
            injection h2 with h2; injection h2 with h2
            omega

set_option maxRecDepth 100000 in
set_option maxHeartbeats 2000000 in
theorem xor_ne (aa ab : Option Addr) (n m ca cb : Nat) (l1 l2 : List UInt8) (w : World) (hl1 : l1.length = n) (hl2 : l2.length = m) (he : n ≠ m) :
    Calls Try.prog 28 #[.slice aa n ca, .slice ab m cb] w fun e w' => e = .returned (.tuple #[.slice none 0 0, .int .i64 12]) ∧ w.grownBy w' none := by
  obtain ⟨il, hi, hz, hsz, _⟩ := info_parts (show (Try.prog.info? 22).map (fun i => (i.zero, i.size, i.bytes)) = some (some (.slice none 0 0), 1, 24) by kernel_rfl)
  have HL1 := Lib.hid hl1
  have HL2 := Lib.hid hl2
  clear hl1 hl2
  refine calls_of_wp_marks Try.func28 rfl ?_
  simp only [Try.ntmps28, List.size_toArray, List.length_cons, List.length_nil, Nat.reduceAdd, Nat.reduceSub, Array.replicate_succ, Array.replicate_zero, List.push_toArray, List.append_toArray, List.nil_append, List.cons_append]
  go_upto_region 1 with (refine wpList_box1 rfl rfl (.slice ab m cb) rfl rfl ?_; intro W1 hs1 hg1 hr1; have HG1 := Lib.hid hg1; have HR1 := Lib.hid hr1; have HS1 := Lib.hid hs1; have c1 := Row.cell hr1 0; simp at c1; clear hs1 hg1 hr1)
  have hd : decide ((n : Int) = (m : Int)) = false := by simp; omega
  have hd2 : ((n : Int) == (m : Int)) = false := by simp; omega
  go_wp2_with fail
  exact ⟨_, results_tmp2 rfl _ _ _, rfl, HG1.out⟩

end Go.Proofs.Ythemlaibjchjpaa

