/- Helpers and contracts of the proofs over this seat: RegY, RdActs, SameLists, ApartT, LisM. Each states what a function of the program answers, or is plain Lean; its conditions stand in each statement. -/
import Derived.Deep.Slices
import Derived.Deep.MidRow
import Derived.Test.YtblgdfamomlklaaPtAA
import Derived.Test.YtblgdfamomlklaaPtAD
import Derived.Test.YtblgdfamomlklaaPtAH
set_option linter.unusedVariables false
/- As XRegX, where operations that read nothing stand behind the last one that writes. -/
namespace Go.Proofs.Ytblgdfamomlklaa
open Go.RowKit
section
variable {P : Program} {ops : Array Oper} {Q : Exit → Act → World → Prop} {md : Region.Mode} {L : Nat}

/-- i stands ahead of o, over so many steps -/
def aheadD (md : Region.Mode) (ops : Array Oper) (i : Nat) : Nat → Oper → Bool
  | 0, o => o.after.any (fun e => Region.binds md e && e.on == i)
  | d + 1, o => o.after.any (fun e => Region.binds md e && (e.on == i || (match ops[e.on]? with
    | some o' => aheadD md ops i d o'
    | none => false)))
theorem aheadD_listed {listed : Array Bool} {i : Nat} (hc : Closed md ops listed) : ∀ (d : Nat) (o : Oper), aheadD md ops i d o = true → (∀ e ∈ o.after, Region.binds md e = true → listed.getD e.on false = true) → listed.getD i false = true
  | 0, o, h, hall => by
    obtain ⟨e, he, hb⟩ := Array.any_eq_true'.1 h
    simp only [Bool.and_eq_true, beq_iff_eq] at hb
    rw [← hb.2]
    exact hall e he hb.1
  | d + 1, o, h, hall => by
    obtain ⟨e, he, hb⟩ := Array.any_eq_true'.1 h
    simp only [Bool.and_eq_true, Bool.or_eq_true, beq_iff_eq] at hb
    rcases hb.2 with h1 | h1
    · rw [← h1]
      exact hall e he hb.1
    · cases ho : ops[e.on]? with
      | none => rw [ho] at h1; cases h1
      | some o' =>
        rw [ho] at h1
        exact aheadD_listed hc d o' h1 (fun f hf hb2 => hc e.on o' ho (hall e he hb.1) f hf hb2)
def wpY (P : Program) (md : Region.Mode) (ops : Array Oper) (Q : Exit → Act → World → Prop) (L : Nat) : Nat → (World → Prop) → Array Bool → Act → Prop
  | 0, _, _, _ => False
  | n + 1, S, listed, a => Region.ready md ops listed ≠ [] ∧
    ∀ i ∈ Region.ready md ops listed, ∀ w, S w → wpOp P ops Q i (fun a' w' => if i = L then wpAny P md ops Q n (listed.setIfInBounds i true) a' w' else
      ∃ S' : World → Prop, S' w' ∧ (∀ w, S' w → S w) ∧ Clo S' ∧ wpY P md ops Q L n S' (listed.setIfInBounds i true) a') a w

theorem wpY_any : ∀ (n : Nat) (S : World → Prop) (listed : Array Bool) (a : Act) (w : World), wpY P md ops Q L n S listed a → S w → wpAny P md ops Q n listed a w
  | 0, _, _, _, _, h, _ => h.elim
  | n + 1, S, listed, a, w, h, hS => by
    refine ⟨fun h0 => absurd h0 h.1, fun i hi => wpOp_mono (fun a' w' h' => ?_) (h.2 i hi w hS)⟩
    by_cases hL : i = L
    · rw [if_pos hL] at h'
      exact h'
    · rw [if_neg hL] at h'
      obtain ⟨S', hs, _, _, hw⟩ := h'
      exact wpY_any n S' _ a' w' hw hs

theorem wpY_first {D i : Nat} {oi oL : Oper} {v : Value} (hi : ops[i]? = some oi) (hoL : ops[L]? = some oL) (hiL : i ≠ L) (hLi : aheadD md ops i D oL = true) (hsel : ∀ (j : Nat) (o : Oper) cs b, ops[j]? = some o → o.op ≠ .select cs b)
    (hQ : ∀ c a w, Q (.panic c) (a.put oi.dst v) w → Q (.panic c) a w) : ∀ (n : Nat) (S : World → Prop) (listed : Array Bool) (a : Act), Clo S → Closed md ops listed →
      (∀ j oj, ops[j]? = some oj → j ≠ i → listed.getD j true = false → (∀ e ∈ oj.after, Region.binds md e = true → e.on ≠ i) → oi.apart ops oj = true) →
      i ∈ Region.ready md ops listed → YG P ops S oi v a → wpY P md ops Q L n S (listed.setIfInBounds i true) (a.put oi.dst v) → wpY P md ops Q L (n + 1) S listed a := by
  intro n
  induction n with
  | zero => intro S listed a _ _ _ _ _ H; exact H.elim
  | succ n ih =>
    intro S listed a hclo hcl hfree hr hy H
    refine ⟨fun h => (by rw [h] at hr; cases hr), fun j hj w hS => ?_⟩
    obtain ⟨hjun, oj, hoj, hall⟩ := mem_ready.1 hj
    have hnot : ∀ e ∈ oj.after, Region.binds md e = true → e.on ≠ i := by
      intro e he hb heq
      have h1 := hall e he hb
      have h0 := (mem_ready.1 hr).1
      rw [heq] at h1
      rcases Nat.lt_or_ge i listed.size with h' | h'
      · simp [h'] at h0 h1; rw [h0] at h1; cases h1
      · simp [Array.getElem?_eq_none h'] at h1
    by_cases hji : j = i
    · subst hji
      refine hy.op hi hS fun w' hg => ?_
      rw [if_neg hiL]
      exact ⟨S, hclo w w' hS hg, fun _ h => h, hclo, H⟩
    · have hjL : j ≠ L := by
        rintro rfl
        rw [hoL] at hoj
        injection hoj with hoj
        subst hoj
        have h1 := aheadD_listed hcl _ _ hLi hall
        have h0 := (mem_ready.1 hr).1
        rcases Nat.lt_or_ge i listed.size with h' | h'
        · simp [h'] at h0 h1; rw [h0] at h1; cases h1
        · simp [Array.getElem?_eq_none h'] at h1
      have h1 := H.2 j (ready_mono hj hji) w hS
      have h2 := wpX_put hoj (hfree j oj hoj hji hjun hnot) (fun cs b => hsel i oi cs b hi) (fun cs b => hsel j oj cs b hoj) hQ hy h1
      refine wpOp_mono (fun a' w' h3 => ?_) h2
      rw [if_neg hjL] at h3 ⊢
      obtain ⟨hya, S', hs', hsub, hclo', hwx⟩ := h3
      refine ⟨S', hs', hsub, hclo', ih S' (listed.setIfInBounds j true) a' hclo' (hcl.set hj) (fun k ok hk hki hun hno => ?_) (ready_mono hr (Ne.symm hji)) (hya.sub hsub) ?_⟩
      · refine hfree k ok hk hki ?_ hno
        by_cases hjk : j = k
        · subst hjk; exact hjun
        · rw [getD_set_ne true hjk] at hun; exact hun
      · rw [Array.setIfInBounds_comm _ _ hji]
        exact hwx

/-- number i first -/
theorem wpY_take (D i : Nat) {S : World → Prop} {oi oL : Oper} {v : Value} {n : Nat} {listed : Array Bool} {a : Act} (hclo : Clo S) (hi : ops[i]? = some oi) (hoL : ops[L]? = some oL) (hiL : (i == L) = false) (hLi : aheadD md ops i D oL = true) (hcl : closedB md ops listed = true)
    (hs : Region.noSelect ops = true) (hf : Region.free md ops listed i = true) (hr : (Region.ready md ops listed).contains i = true)
    (hQ : ∀ c a w, Q (.panic c) (a.put oi.dst v) w → Q (.panic c) a w) (hy : YG P ops S oi v a)
    (h : wpY P md ops Q L n S (listed.setIfInBounds i true) (a.put oi.dst v)) : wpY P md ops Q L (n + 1) S listed a :=
  wpY_first hi hoL (by simpa using hiL) hLi (Region.noSelect_spec hs) hQ n S listed a hclo (closed_of hcl) (Region.free_spec hi hf) (by simpa using hr) hy h
/-- the one that may come up alone is carried out; the condition may grow stronger -/
theorem wpY_step (k : Nat) {S : World → Prop} {o : Oper} {n : Nat} {listed : Array Bool} {a : Act} (ho : ops[k]? = some o) (hkL : (k == L) = false) (hr : Region.ready md ops listed = [k]) (hw : Region.wanted o (yielded ops a.tmps) = true)
    (h : ∀ w, S w → ∀ K : Act → World → Prop, (∀ (S' : World → Prop) a' w', S' w' → (∀ w, S' w → S w) → Clo S' → wpY P md ops Q L n S' (listed.setIfInBounds k true) a' → K a' w') → o.wp P a w K Q) : wpY P md ops Q L (n + 1) S listed a := by
  refine ⟨by rw [hr]; simp, fun i hi w hS => ?_⟩
  rw [hr] at hi
  obtain rfl : i = k := by simpa using hi
  have hne : i ≠ L := by simpa using hkL
  unfold wpOp
  simp only [ho, hw, if_true]
  refine .inl (h w hS _ fun S' a' w' h1 h2 h3 h4 => ?_)
  rw [if_neg hne]
  exact ⟨S', h1, h2, h3, h4⟩
/-- the last one that writes, carried out -/
theorem wpY_last {S : World → Prop} {oL : Oper} {n : Nat} {listed : Array Bool} {a : Act} (hoL : ops[L]? = some oL) (hr : Region.ready md ops listed = [L]) (hw : Region.wanted oL (yielded ops a.tmps) = true)
    (h : ∀ w, S w → ∀ K : Act → World → Prop, (∀ a' w', wpAny P md ops Q n (listed.setIfInBounds L true) a' w' → K a' w') → oL.wp P a w K Q) : wpY P md ops Q L (n + 1) S listed a := by
  refine ⟨by rw [hr]; simp, fun i hi w hS => ?_⟩
  rw [hr] at hi
  obtain rfl : i = L := by simpa using hi
  unfold wpOp
  simp only [hoL, hw, if_true]
  refine .inl (h w hS _ fun a' w' hq => ?_)
  first | exact hq | (simp only [if_true]; exact hq)
/-- one that comes up alone -/
theorem wpAny_one (k : Nat) {o : Oper} {n : Nat} {listed : Array Bool} {a : Act} {w : World} (ho : ops[k]? = some o) (hr : Region.ready md ops listed = [k]) (hw : Region.wanted o (yielded ops a.tmps) = true)
    {v : Value} (hv : (execOp a.eval o).run P w = .ok (.value v) w) (h : wpAny P md ops Q n (listed.setIfInBounds k true) (a.put o.dst v) w) : wpAny P md ops Q (n + 1) listed a w := by
  refine ⟨fun h0 => (by rw [hr] at h0; cases h0), fun i hi => ?_⟩
  rw [hr] at hi
  obtain rfl : i = k := by simpa using hi
  unfold wpOp
  simp only [ho, hw, if_true]
  refine .inl ?_
  unfold Oper.wp
  rw [hv]
  exact h
theorem wp_regionY (S : World → Prop) (L : Nat) {id : Nat} {a : Act} {w : World} (hm : P.follows .mixedOrders = true) (hS : S w.drew)
    (h : wpY P .any ops Q L ops.size S (Array.replicate ops.size false) a) : (Code.region id ops true).wp P Q a w :=
  wp_region_any hm (wpY_any _ _ _ _ _ h hS)

end
end Go.Proofs.Ytblgdfamomlklaa
/- A script of Acts that came in, read: its numbers, its bytes; its length within the bulk. -/
namespace Go.Proofs.Ytblgdfamomlklaa
open Go.ChangeShapes Go.WideShapes Go.ChangeAt Go.RowKit

set_option maxRecDepth 100000 in
set_option maxHeartbeats 1000000 in
theorem rd_acts {H : Type} {enc : TypeId × Value → H} {W : World} {base : Nat} {spare : Nat → Bool} {held : Bool} {fuel : Nat} {a : Option Addr} {len cap : Nat} {d : DataW H} {p : List MemPlace}
    (h : DataW.trod enc Try.prog W base spare held fuel 48 [.slice a len cap] = some (d, p)) : len ≤ Rows.uptoBulk d ∧ ∀ i, i < len → ∃ b off x y z sa sn sc l, a = some ⟨b, off, none⟩ ∧ W.rangeAt b (off + i * 4) [.int .i64 x, .int .i64 y, .int .i64 z, .slice sa sn sc] ∧ BLies W sa l ∧ l.length = sn ∧ sn ≤ sc := by
  rcases Go.Deep.open_slice Try.underlying48 h with ⟨hcs, _⟩ | ⟨a', len', cap', m, n, D, Pl, hcs, hb, hl, hm, hmm, hx, hall⟩
  · injection hcs with hcs; injection hcs with h1 h2 h3
    subst h2
    exact ⟨by omega, fun i hi => absurd hi (by simp)⟩
  · injection hcs with hcs; injection hcs with h1 h2 h3
    subst h1 h2 h3
    have hlm : len ≤ m := by rw [hmm]; split <;> omega
    have hce : Try.prog.cellsOf 55 = 4 := by kernel_rfl
    injection hx with hx _
    subst hx
    have hbulk := bulk_slice (H := H) ((List.range len).map D) ((List.range (m - len)).map fun j => D (len + j))
    have hlen := bulk_length ((List.range len).map D)
    rw [List.length_map, List.length_range] at hlen
    refine ⟨by omega, fun i hi => ?_⟩
    obtain ⟨cs', h1, h2⟩ := hall i (by omega)
    rw [hce] at h1
    obtain ⟨_, hlen, hcell⟩ := World.cells?_some h1
    obtain ⟨xs, n', _, _, _, hxl, hf⟩ := DataW.trod_struct Try.underlying55 h2
    have hxl3 : xs.length = 4 := hxl
    have q0 := hf 0 _ rfl
    have q1 := hf 1 _ rfl
    have q2 := hf 2 _ rfl
    have q3 := hf 3 _ rfl
    obtain ⟨y0, y1, y2, y3, rfl⟩ : ∃ y0 y1 y2 y3, xs = [y0, y1, y2, y3] := by
      match xs, hxl3 with
      | [y0, y1, y2, y3], _ => exact ⟨y0, y1, y2, y3, rfl⟩
    obtain ⟨x, e0, _, _⟩ := DataW.trod_int (P := Try.prog) Try.underlying3 q0
    obtain ⟨y, e1, _, _⟩ := DataW.trod_int (P := Try.prog) Try.underlying3 q1
    obtain ⟨z, e2, _, _⟩ := DataW.trod_int (P := Try.prog) Try.underlying3 q2
    obtain ⟨c0, c1, c2, c3, rfl⟩ : ∃ c0 c1 c2 c3, cs' = [c0, c1, c2, c3] := by
      match cs', hlen with
      | [c0, c1, c2, c3], _ => exact ⟨c0, c1, c2, c3, rfl⟩
    have q3' : DataW.trod enc Try.prog W base spare held n' 34 [c3] = some y3 := q3
    obtain ⟨sa, sn, sc, hcs3⟩ : ∃ sa sn sc, c3 = .slice sa sn sc := by
      rcases open_ints Try.underlying34 Try.underlying5 (by kernel_rfl) q3' with ⟨hv, _⟩ | ⟨x, len', cap', zs, hv, _⟩
      · injection hv with hv; exact ⟨_, _, _, hv⟩
      · injection hv with hv; exact ⟨_, _, _, hv⟩
    subst hcs3
    obtain ⟨l, hl1, hl2, _, hl4, _⟩ := rd_bytes q3'
    have f0 : [c0] = [.int .i64 x] := e0
    have f1 : [c1] = [.int .i64 y] := e1
    have f2 : [c2] = [.int .i64 z] := e2
    injection f0 with f0
    injection f1 with f1
    injection f2 with f2
    subst f0 f1 f2
    obtain ⟨b, off, spot⟩ := a'
    have hspot : spot = none := by
      obtain ⟨cs0, k1, _⟩ := hall 0 (by omega)
      rw [hce] at k1
      obtain ⟨_, klen, kcell⟩ := World.cells?_some k1
      have k0 := kcell 0 (by omega)
      rw [List.getElem?_eq_getElem (show 0 < cs0.length by omega)] at k0
      simpa [Addr.add] using World.cell?_spot k0
    subst hspot
    refine ⟨b, off, x, y, z, sa, sn, sc, l, rfl, fun j v hj => ?_, hl2, hl1, hl4⟩
    have hj3 : j < 4 := by
      rcases Nat.lt_or_ge j 4 with h | h
      · exact h
      · rw [List.getElem?_eq_none (by simpa using h)] at hj; cases hj
    have hc : W.cell? (((⟨b, off, none⟩ : Addr).add (i * 4)).add j) = ([.int .i64 x, .int .i64 y, .int .i64 z, .slice sa sn sc] : List Value)[j]? := hcell j (by omega)
    rw [Go.WideShapes.add_plain, Go.WideShapes.add_plain] at hc
    rw [hc, hj]
end Go.Proofs.Ytblgdfamomlklaa
/- SameLists: what it tells. -/
namespace Go.Proofs.Ytblgdfamomlklaa
open Go.RowKit

theorem quietSL {P : Program} {f : FuncId} {args : Array Value} {w : World} {n : Nat} {v : Value} (h : Calls P f args (w.drewN n) fun e w' => e = .returned v ∧ ∃ q, w' = (w.drewN n).drewN q) : Calls P f args (w.drewN n) fun e w'' => e = .returned v ∧ ∃ m, w'' = w.drewN m :=
  h.mono fun _ _ ⟨he, q, hw⟩ => ⟨he, n + q, by rw [hw, World.drewN_drewN]⟩

/-- where list i lies -/
theorem LLies.atS {w : World} {a : Option Addr} {L : List Sl} {bs : List (List UInt8)} (h : LLies w a L bs) (i : Nat) (hi : i < bs.length) : ∃ g o sa m sc, a = some ⟨g, o, none⟩ ∧ w.cell? ⟨g, o + i, none⟩ = some (.slice sa m sc) ∧ BLies w sa bs[i] ∧ (bs[i]).length = m := by
  have hiL : i < L.length := by rw [h.2.1]; exact hi
  obtain ⟨g, o, e, hc⟩ := h.1 i (by rw [List.length_map]; exact hiL)
  obtain ⟨h1, h2⟩ := h.2.2 i hiL hi
  refine ⟨g, o, (L[i]).a, (L[i]).n, (L[i]).c, e, ?_, h1, h2.symm⟩
  rw [hc]
  simp [Sl.val]


set_option maxRecDepth 100000 in
set_option maxHeartbeats 1000000 in
theorem sameLists_n (a a' : Option Addr) (c c' n n' : Nat) (L L' : List Sl) (bs cs : List (List UInt8)) (w : World) (ha : LLies w a L bs) (hb : LLies w a' L' cs) (hn : bs.length = n) (hn' : cs.length = n') (hm : n ≤ maxLen) (hl : ∀ b ∈ bs, b.length ≤ maxLen) :
    Calls Try.prog 32 #[.slice a n c, .slice a' n' c'] w fun e w' => e = .returned (.bool (decide (bs = cs))) ∧ ∃ q, w' = w.drewN q := by
  unfold maxLen at hm
  have HA := Lib.hid ha
  have HB := Lib.hid hb
  have HN := Lib.hid hn
  have HN' := Lib.hid hn'
  have HL := Lib.hid hl
  clear ha hb hn hn' hl
  by_cases hnn : n = n'
  · subst hnn
    go_enter Try.func32, Try.ntmps32
    go_wp2_with fail
    go_loopw [5] (fun vi wr => ∃ i q : Nat, i ≤ n ∧ vi = .int .i64 i ∧ wr = w.drewN q ∧ bs.take i = cs.take i) (fun vi _ => n - (intOf vi).toNat)
    case atStart => exact ⟨0, 0, by omega, rfl, rfl, by simp⟩
    case round =>
      obtain ⟨i, q0, hi, rfl, hq0, ht⟩ := hrel
      have hgw : w.grownBy wr none := by rw [hq0]; exact grownBy_drewN _ _ _
      have HGW := Lib.hid hgw
      have HQ0 := Lib.hid hq0
      have HT := Lib.hid ht
      clear hgw hq0 ht
      by_cases hlt : i < n
      · have hib : i < bs.length := by rw [HN.out]; exact hlt
        have hic : i < cs.length := by rw [HN'.out]; exact hlt
        obtain ⟨g, o, sa, m, sc, rfl, c1, l1, h1⟩ := (HA.out.grown HGW.out).atS i hib
        obtain ⟨g', o', sa', m', sc', rfl, c2, l2, h2⟩ := (HB.out.grown HGW.out).atS i hic
        have hmx : (bs[i]).length ≤ maxLen := HL.out _ (List.getElem_mem _)
        have L1 := Lib.hid l1
        have L2 := Lib.hid l2
        have H1 := Lib.hid h1
        have H2 := Lib.hid h2
        have HMX := Lib.hid hmx
        clear l1 l2 h1 h2 hmx
        obtain ⟨r, hr⟩ : ∃ r, r = decide (bs[i] = cs[i]) := ⟨_, rfl⟩
        have HR := Lib.hid hr
        clear hr
        cases r with
        | true =>
          have he : bs[i] = cs[i] := of_decide_eq_true HR.out.symm
          have HE := Lib.hid he
          clear he
          go_wp2_with fail
          go_quiet ((go_at_call 24; exact quietSL ((same_n sa sa' sc sc' m m' _ _ _ (L1.out.drewN _) (L2.out.drewN _) H1.out H2.out (by rw [← H1.out]; exact HMX.out)).mono (fun e w' h => ⟨by rw [h.1, ← HR.out], h.2⟩))))
          go_wp2_with fail
          go_roundw
          case rel => exact ⟨i + 1, q0 + nq, by omega, by go_num, by rw [HQ0.out, World.drewN_drewN], by rw [List.take_succ_eq_append_getElem hib, List.take_succ_eq_append_getElem hic, HT.out, HE.out]⟩
          case measure => simp [intOf]; omega
        | false =>
          have he : bs[i] ≠ cs[i] := of_decide_eq_false HR.out.symm
          have HE := Lib.hid he
          clear he
          go_wp2_with fail
          go_quiet ((go_at_call 24; exact quietSL ((same_n sa sa' sc sc' m m' _ _ _ (L1.out.drewN _) (L2.out.drewN _) H1.out H2.out (by rw [← H1.out]; exact HMX.out)).mono (fun e w' h => ⟨by rw [h.1, ← HR.out], h.2⟩))))
          go_wp2_with fail
          go_ret
          exact ⟨ret_bool (by rw [eq_comm, decide_eq_false_iff_not]; intro h; exact HE.out (by simp [h])), q0 + nq, by rw [HQ0.out, World.drewN_drewN]⟩
      · obtain rfl : i = n := by omega
        go_wp2_with fail
        go_ret
        exact ⟨ret_bool (by have h1 := HT.out; have h2 := HN.out; have h3 := HN'.out; rw [eq_comm, decide_eq_true_iff]; rwa [List.take_of_length_le (by omega), List.take_of_length_le (by omega)] at h1), _, HQ0.out⟩
  · have hlb : ((n : Int) != (n' : Int)) = true := by rw [bne_iff_ne]; omega
    go_enter Try.func32, Try.ntmps32
    go_wp2_with fail
    go_ret
    exact ⟨ret_bool (by rw [eq_comm, decide_eq_false_iff_not]; intro h; exact hnn (by rw [← HN.out, ← HN'.out, h])), 0, rfl⟩
end Go.Proofs.Ytblgdfamomlklaa
/- ApartBytes, with a stronger word: blocks that hold other things than bytes stay as they were. Printed by gens/apartt.py. -/
namespace Go.Proofs.Ytblgdfamomlklaa
open Go.RowKit

/-- block k holds other things than bytes -/
def NB (w : World) (k : Nat) : Prop := ∃ cs e fr, w.heap[k]? = some (.cells cs e fr) ∧ e ≠ 5
theorem NB.lt {w : World} {k : Nat} (h : NB w k) : k < w.heap.size := by
  obtain ⟨cs, e, fr, h1, _⟩ := h
  exact (Array.getElem?_eq_some_iff.1 h1).1
theorem BOwn.notNB {w : World} {base : Nat} {a : Option Addr} {n c g : Nat} {l : List UInt8} (h : BOwn w base a n c l) (hc : 0 < c) (ha : a = some ⟨g, 0, none⟩) (hn : NB w g) : False := by
  obtain ⟨cs, e, fr, h1, h2⟩ := hn
  rcases h.2 with ⟨_, h0⟩ | ⟨g', cur, ha', hb, hh, _⟩
  · omega
  · rw [ha] at ha'
    injection ha' with ha'; injection ha' with ha'
    subst ha'
    rw [hh] at h1
    injection h1 with h1
    injection h1 with _ h3 _
    exact h2 h3.symm
/-- block k holds other things than bytes, or is none of these lists' -/
def Off (L : List Sl) (w : World) (k : Nat) : Prop := NB w k ∨ (k < w.heap.size ∧ ∀ j (hj : j < L.length), (L[j]).blk ≠ some k)
theorem Off.lt {L : List Sl} {w : World} {k : Nat} (h : Off L w k) : k < w.heap.size := h.elim (fun h => h.lt) (fun h => h.1)
structure BelowT (base : Nat) (L : List Sl) (w w' : World) : Prop extends Below base w w' where
  off : ∀ k, Off L w k → w'.heap[k]? = w.heap[k]?
theorem BelowT.other {base : Nat} {L : List Sl} {w w' : World} (h : BelowT base L w w') (k : Nat) (hk : NB w k) : w'.heap[k]? = w.heap[k]? := h.off k (.inl hk)
theorem BelowT.refl (base : Nat) (L : List Sl) (w : World) : BelowT base L w w := ⟨Below.refl _ _, fun _ _ => rfl⟩
theorem BelowT.trans {base : Nat} {L : List Sl} {a b c : World} (h : BelowT base L a b) (k : BelowT base L b c) : BelowT base L a c :=
  ⟨h.toBelow.trans k.toBelow, fun i hi => (k.off i (by
    rcases hi with ⟨cs, e, fr, h1, h2⟩ | ⟨h1, h2⟩
    · exact .inl ⟨cs, e, fr, (h.off i (.inl ⟨cs, e, fr, h1, h2⟩)).trans h1, h2⟩
    · exact .inr ⟨Nat.lt_of_lt_of_le h1 h.toBelow.size, h2⟩)).trans (h.off i hi)⟩
theorem BelowT.drewN {base : Nat} {L : List Sl} {a b : World} (h : BelowT base L a b) (n : Nat) : BelowT base L a (b.drewN n) :=
  ⟨h.toBelow.trans ⟨rfl, rfl, rfl, Nat.le_refl _, fun _ _ => rfl⟩, h.off⟩
theorem BelowT.setCell {base : Nat} {L : List Sl} {a b : World} (h : BelowT base L a b) {g : Nat} (hb : base ≤ g) (hn : Off L b g → False) (i : Nat) (u : Value) : BelowT base L a (b.setCell ⟨g, i, none⟩ u) :=
  h.trans ⟨(Below.refl base b).setCell (p := ⟨g, i, none⟩) hb _, fun k hk => Below.heap_setCell _ _ _ _ (by rintro rfl; exact hn hk)⟩
theorem BelowT.grown {base : Nat} {L : List Sl} {a b c : World} {row : Option Nat} (h : BelowT base L a b) (hg : b.grownBy c row) (hB : base ≤ b.heap.size) (hr : ∀ k, row = some k → base ≤ k ∧ a.heap.size ≤ k) : BelowT base L a c :=
  ⟨h.toBelow.grown hg hB (fun k hk => (hr k hk).1), fun k hk => (hg.block k (Nat.lt_of_lt_of_le hk.lt h.toBelow.size) (fun e => by have := (hr k e.symm).2; have := hk.lt; omega)).trans (h.off k hk)⟩
/-- phase 1: the lists below k bear their marks, list k the first i of them -/
structure TSt1 (base : Nat) (als : Option Addr) (cls : Nat) (L : List Sl) (w : World) (k i : Nat) (wr : World) : Prop where
  outer : SOwn wr base als L.length cls L
  inner : ∀ j (hj : j < L.length), ∃ l, BOwn wr base (L[j]).a (L[j]).n (L[j]).c l ∧ (j < k → l = mkl j (L[j]).n) ∧ (j = k → l.take i = mkl k i)
  below : BelowT base L w wr

theorem TSt1.drewN {base : Nat} {als : Option Addr} {cls : Nat} {L : List Sl} {w : World} {k i : Nat} {wr : World} (h : TSt1 base als cls L w k i wr) (n : Nat) : TSt1 base als cls L w k i (wr.drewN n) :=
  ⟨h.outer, h.inner, h.below.drewN n⟩
theorem TSt1.drew {base : Nat} {als : Option Addr} {cls : Nat} {L : List Sl} {w : World} {k i : Nat} {wr : World} (h : TSt1 base als cls L w k i wr) : TSt1 base als cls L w k i wr.drew := h.drewN 1

theorem TSt1.next {base : Nat} {als : Option Addr} {cls : Nat} {L : List Sl} {w : World} {k i : Nat} {wr : World} (h : TSt1 base als cls L w k i wr) (hk : k < L.length) (hi : i = (L[k]).n) : TSt1 base als cls L w (k + 1) 0 wr := by
  refine ⟨h.outer, fun j hj => ?_, h.below⟩
  obtain ⟨l, ho, h1, h2⟩ := h.inner j hj
  refine ⟨l, ho, fun hjk => ?_, fun _ => by simp [mkl]⟩
  by_cases e : j = k
  · subst e
    have := h2 rfl
    rw [hi, List.take_of_length_le (by rw [ho.len]; omega)] at this
    exact this
  · exact h1 (by omega)

theorem TSt1.store {base : Nat} {als : Option Addr} {cls : Nat} {L : List Sl} {w : World} {k i : Nat} {wr : World} (h : TSt1 base als cls L w k i wr) (hd : Distinct L) (hk : k < L.length) (hi : i < (L[k]).n) :
    ∃ g, (L[k]).a = some ⟨g, 0, none⟩ ∧ (∃ u, wr.cell? ⟨g, i, none⟩ = some u) ∧ wr.frozen? ⟨g, i, none⟩ = false ∧ TSt1 base als cls L w k (i + 1) (wr.setCell ⟨g, i, none⟩ (.int .u8 ((mrk ((k : Int) + 1) (i : Int)).toNat : Int))) := by
  obtain ⟨l, ho, _, h2⟩ := h.inner k hk
  have hlen := ho.len
  obtain ⟨g, ha, hb, hlt, hc, hf⟩ := Own.cell ho i (by simp; omega)
  have hpos : 0 < (L[k]).c := by
    rcases ho.2 with ⟨h0, _⟩ | ⟨_, _, _, _, _, hn, _⟩ <;> omega
  have hblk : (L[k]).blk = some g := by simp [Sl.blk, Nat.ne_of_gt hpos, ha]
  refine ⟨g, ha, ⟨_, hc⟩, hf, ?_, fun j hj => ?_, h.below.setCell hb (fun hn => hn.elim (BOwn.notNB ho hpos ha) (fun h => h.2 k hk hblk)) _ _⟩
  · exact Own.setOther h.outer (by rw [ha] at ho; exact ho) hpos (by decide) _ _
  · by_cases e : j = k
    · subst e
      refine ⟨l.set i (mrk ((j : Int) + 1) (i : Int)), ?_, fun hj' => by omega, fun _ => ?_⟩
      · rw [ha] at ho ⊢
        have := Own.set ho i (by simp; omega) (.int .u8 ((mrk ((j : Int) + 1) (i : Int)).toNat : Int))
        unfold BOwn
        rw [List.map_set]
        exact this
      · rw [take_set_succ (by omega), h2 rfl, mkl_succ]
    · obtain ⟨lj, hoj, h1j, _⟩ := h.inner j hj
      refine ⟨lj, ?_, h1j, fun e' => absurd e' e⟩
      refine hoj.kept' fun hcj g' hg' _ => Below.heap_setCell _ _ _ _ ?_
      rintro rfl
      exact hd j k hj hk e g' (by simp [Sl.blk, Nat.ne_of_gt hcj, hg']) hblk

/-- phase 2: to the copies below k the marks behind their lists have been appended -/
structure TSt2 (base : Nat) (als : Option Addr) (cls : Nat) (L : List Sl) (w : World) (B : Nat) (k : Nat) (ags : Option Addr) (cgs : Nat) (G : List Sl) (wr : World) : Prop where
  outer : SOwn wr base als L.length cls L
  gs : SOwn wr B ags k cgs G
  lists : ∀ j (hj : j < L.length), BOwn wr base (L[j]).a (L[j]).n (L[j]).c (mkl j (L[j]).n)
  done : ∀ j (hj : j < L.length) (hG : j < G.length), (G[j]).n = (L[j]).n + 70 ∧ BOwn wr base (G[j]).a (G[j]).n (G[j]).c (mkl j ((L[j]).n + 70)) ∧ ∀ g, (G[j]).blk = some g → (L[j]).blk = some g ∨ B ≤ g
  below : BelowT base L w wr
  size : B ≤ wr.heap.size
  wB : w.heap.size ≤ B
  baseB : base ≤ B
  oldO : ∀ g, 0 < cls → als = some ⟨g, 0, none⟩ → g < B
  oldL : ∀ j (hj : j < L.length) g, (L[j]).blk = some g → g < B

theorem TSt2.start {base : Nat} {als : Option Addr} {cls : Nat} {L : List Sl} {w wr : World} (h : TSt1 base als cls L w L.length 0 wr) (hb : base ≤ w.heap.size) : TSt2 base als cls L w wr.heap.size 0 none 0 [] wr where
  outer := h.outer
  gs := Own.nil _ _ _ _ _
  lists := fun j hj => by
    obtain ⟨l, ho, h1, _⟩ := h.inner j hj
    rw [h1 hj] at ho
    exact ho
  done := fun j hj hG => absurd hG (by simp)
  below := h.below
  size := Nat.le_refl _
  wB := h.below.size
  baseB := Nat.le_trans hb h.below.size
  oldO := fun g hc ha => by
    obtain ⟨g', ha', _, hlt⟩ := Own.block h.outer hc
    rw [ha] at ha'
    injection ha' with ha'; injection ha' with ha'
    omega
  oldL := fun j hj g hg => by
    obtain ⟨l, ho, _, _⟩ := h.inner j hj
    obtain ⟨hc, ha⟩ := ho.blk hg
    obtain ⟨g', ha', _, hlt⟩ := Own.block ho hc
    rw [ha] at ha'
    injection ha' with ha'; injection ha' with ha'
    omega

theorem In2.startT {base : Nat} {als : Option Addr} {cls : Nat} {L : List Sl} {w : World} {B k : Nat} {ags : Option Addr} {cgs : Nat} {G : List Sl} {wr : World} (h : TSt2 base als cls L w B k ags cgs G wr) (hk : k < L.length) : In2 base L k hk wr 0 (L[k]).a (L[k]).c wr :=
  ⟨h.lists k hk, World.grownBy.refl _ _, fun g hc ha => .inl (Sl.blk_some hc ha), h.lists k hk⟩

theorem TSt2.outerIn {base : Nat} {als : Option Addr} {cls : Nat} {L : List Sl} {w : World} {B k : Nat} {ags : Option Addr} {cgs : Nat} {G : List Sl} {wk wr : World} (h : TSt2 base als cls L w B k ags cgs G wk) (hk : k < L.length) (hf : wk.grownBy wr (L[k]).blk) : SOwn wr base als L.length cls L := by
  refine Own.grownNe h.outer hf fun g1 hc1 ha1 hb1 => ?_
  obtain ⟨hc2, ha2⟩ := (h.lists k hk).blk hb1
  have h3 := h.outer
  have h4 := h.lists k hk
  rw [ha1] at h3
  rw [ha2] at h4
  exact own_ne h3 h4 hc1 hc2 (by decide) rfl

/-- the copy is laid among the others -/
theorem TSt2.next {base : Nat} {als : Option Addr} {cls : Nat} {L : List Sl} {w : World} {B k : Nat} {ags : Option Addr} {cgs : Nat} {G : List Sl} {wk wr w1 : World} (h : TSt2 base als cls L w B k ags cgs G wk) (hk : k < L.length) (hd : Distinct L) {a : Option Addr} {c : Nat} (h2 : In2 base L k hk wk 70 a c wr)
    {g cg : Nat} (ho : Own w1 B 34 1 (some ⟨g, 0, none⟩) (k + 1) cg (G.map Sl.val ++ [.slice a ((L[k]).n + 70) c])) (hg : GrewP wr w1 ags cgs (some ⟨g, 0, none⟩) cg) : TSt2 base als cls L w B (k + 1) (some ⟨g, 0, none⟩) cg (G ++ [⟨a, (L[k]).n + 70, c⟩]) w1 := by
  have hGl : G.length = k := h.gs.len
  have gs' : SOwn wr B ags k cgs G := by
    refine Own.grownNe h.gs h2.frame fun g1 hc1 ha1 hb1 => ?_
    obtain ⟨hc2, ha2⟩ := (h.lists k hk).blk hb1
    have h3 := h.gs
    have h4 := h.lists k hk
    rw [ha1] at h3
    rw [ha2] at h4
    exact own_ne h3 h4 hc1 hc2 (by decide) rfl
  have lists' : ∀ j (hj : j < L.length), BOwn wr base (L[j]).a (L[j]).n (L[j]).c (mkl j (L[j]).n) := by
    intro j hj
    by_cases e : j = k
    · subst e; exact h2.list
    · exact Own.grownNe (h.lists j hj) h2.frame fun g1 hc1 ha1 hb1 => hd j k hj hk e g1 (Sl.blk_some hc1 ha1) hb1
  refine ⟨?_, by unfold SOwn; rw [List.map_append]; exact ho, fun j hj => Own.grewOther (lists' j hj) gs' hg (by decide), fun j hj hG => ?_, ?_, ?_, ?_, h.baseB, h.oldO, h.oldL⟩
  · have o1 := h.outerIn hk h2.frame
    rcases hg with ⟨g1, e1, rfl, hc, hcc, hg⟩ | ⟨g1, e1, hs, hg⟩
    · refine Own.grownNe o1 hg fun g2 hc2 ha2 e2 => ?_
      injection e2 with e2
      subst e2
      have := h.oldO _ hc2 ha2
      obtain ⟨g3, e3, hb3, _⟩ := Own.block gs' hc
      rw [e1] at e3
      injection e3 with e3; injection e3 with e3
      omega
    · exact Own.grownNone o1 hg
  · by_cases e : j = k
    · subst e
      have eG : (G ++ [(⟨a, (L[j]).n + 70, c⟩ : Sl)])[j] = ⟨a, (L[j]).n + 70, c⟩ := by
        rw [List.getElem_append_right (by omega)]; simp [hGl]
      rw [eG]
      refine ⟨rfl, Own.grewOther h2.row gs' hg (by decide), fun g1 hb1 => ?_⟩
      have hb2 : c ≠ 0 ∧ ∃ x, a = some x ∧ x.block = g1 := by
        simp only [Sl.blk] at hb1
        split at hb1
        · cases hb1
        · rename_i hc
          exact ⟨hc, by simpa [Option.map_eq_some_iff] using hb1⟩
      obtain ⟨hc, x, rfl, rfl⟩ := hb2
      obtain ⟨g3, e3, _, _⟩ := Own.block h2.row (by omega)
      injection e3 with e3
      subst e3
      rcases h2.place g3 (by omega) rfl with hp | hp
      · exact .inl hp
      · exact .inr (Nat.le_trans h.size hp)
    · have hjk : j < k := by simp at hG; omega
      have eG : (G ++ [(⟨a, (L[k]).n + 70, c⟩ : Sl)])[j] = G[j]'(by omega) := List.getElem_append_left (by omega)
      rw [eG]
      obtain ⟨e1, e2, e3⟩ := h.done j hj (by omega)
      refine ⟨e1, Own.grewOther (Own.grownNe e2 h2.frame fun g1 hc1 ha1 hb1 => ?_) gs' hg (by decide), e3⟩
      rcases e3 g1 (Sl.blk_some hc1 ha1) with h5 | h5
      · exact hd j k hj hk e g1 h5 hb1
      · have := h.oldL k hk g1 hb1
        omega
  · have f1 : BelowT base L wk wr := by
      refine ⟨⟨h2.frame.os, h2.frame.tape, h2.frame.output, h2.frame.size, fun b hb => h2.frame.block b (by have := h.size; have := h.baseB; omega) fun e => ?_⟩, fun b hb => h2.frame.block b hb.lt fun e => ?_⟩
      · obtain ⟨hc2, ha2⟩ := (h.lists k hk).blk e.symm
        obtain ⟨g3, e3, hb3, _⟩ := Own.block (h.lists k hk) hc2
        rw [ha2] at e3
        injection e3 with e3; injection e3 with e3
        omega
      · obtain ⟨hc2, ha2⟩ := (h.lists k hk).blk e.symm
        exact hb.elim (BOwn.notNB (h.lists k hk) hc2 ha2) (fun h => h.2 k hk e.symm)
    have f2 := h.below.trans f1
    have hs := h.size
    have hbB := h.baseB
    have hwB := h.wB
    have hfs := h2.frame.size
    rcases hg with ⟨g1, e1, rfl, hc, hcc, hg⟩ | ⟨g1, e1, hs1, hg⟩
    · obtain ⟨g3, e3, hb3, _⟩ := Own.block gs' hc
      rw [e1] at e3
      injection e3 with e3; injection e3 with e3
      exact f2.grown hg (by omega) (fun b hb => by injection hb with hb; omega)
    · exact f2.grown hg (by omega) (fun b hb => by cases hb)
  · have := h.size
    have := h2.frame.size
    have := hg.grew.size
    omega
  · exact h.wB

/-- phase 3: what is looked at -/
theorem TSt2.look {base : Nat} {als : Option Addr} {cls : Nat} {L : List Sl} {w : World} {B : Nat} {ags : Option Addr} {cgs : Nat} {G : List Sl} {wr : World} (h : TSt2 base als cls L w B L.length ags cgs G wr) (k : Nat) (hk : k < L.length) :
    ∃ gl gg h c, als = some ⟨gl, 0, none⟩ ∧ ags = some ⟨gg, 0, none⟩ ∧ wr.cell? ⟨gl, k, none⟩ = some (.slice (L[k]).a (L[k]).n (L[k]).c) ∧ wr.cell? ⟨gg, k, none⟩ = some (.slice (some ⟨h, 0, none⟩) ((L[k]).n + 70) c) ∧
      (∀ i, i < (L[k]).n + 70 → wr.cell? ⟨h, i, none⟩ = some (.int .u8 ((mrk ((k : Int) + 1) (i : Int)).toNat : Int))) ∧
      (∀ i, i < (L[k]).n → ∃ g, (L[k]).a = some ⟨g, 0, none⟩ ∧ wr.cell? ⟨g, i, none⟩ = some (.int .u8 ((mrk ((k : Int) + 1) (i : Int)).toNat : Int))) := by
  obtain ⟨gl, e1, _, _, c1, _⟩ := Own.cell h.outer k (by simpa using hk)
  obtain ⟨gg, e2, _, _, c2, _⟩ := Own.cell h.gs k (by simpa [h.gs.len] using hk)
  have hG : k < G.length := by rw [h.gs.len]; exact hk
  obtain ⟨d1, d2, _⟩ := h.done k hk hG
  obtain ⟨hh, e3, _, _, _, _⟩ := Own.cell d2 0 (by simp [mkl_length])
  refine ⟨gl, gg, hh, (G[k]).c, e1, e2, by rw [c1]; simp [Sl.val], by rw [c2]; simp [Sl.val, e3, d1], fun i hi => ?_, fun i hi => ?_⟩
  · obtain ⟨h', e4, _, _, c4, _⟩ := Own.cell d2 i (by simp [mkl_length]; omega)
    rw [e3] at e4
    injection e4 with e4; injection e4 with e4
    subst e4
    rw [c4]
    simp [bval, mkl]
  · obtain ⟨g, e4, _, _, c4, _⟩ := Own.cell (h.lists k hk) i (by simp [mkl_length]; omega)
    exact ⟨g, e4, by rw [c4]; simp [bval, mkl]⟩

set_option maxRecDepth 100000 in
set_option maxHeartbeats 1000000 in
theorem apartT_any (base : Nat) (als : Option Addr) (cls : Nat) (L : List Sl) (w : World) (hs : TSt1 base als cls L w 0 0 w) (hb : base ≤ w.heap.size) (hd : Distinct L) (hK : L.length ≤ 100000000) (hN : ∀ j (hj : j < L.length), (L[j]).n ≤ 100000000) :
    Calls Try.prog 25 #[.slice als L.length cls] w fun e w' => e = .returned (.bool true) ∧ BelowT base L w w' := by
  have HD : Hid (Distinct L) := hd
  have HN : Hid (∀ j (hj : j < L.length), (L[j]).n ≤ 100000000) := hN
  clear hd hN
  go_enter Try.func25, Try.ntmps25
  go_wp2_with fail
  go_loopw [3] (fun i wr => ∃ k : Nat, k ≤ L.length ∧ i = .int .i64 k ∧ TSt1 base als cls L w k 0 wr) (fun i _ => L.length - (intOf i).toNat)
  case atStart => exact ⟨0, by omega, rfl, hs⟩
  case round =>
    obtain ⟨k, hk, rfl, hst⟩ := hrel
    by_cases hlt : k < L.length
    · go_wp2_with fail
      obtain ⟨wo, rfl⟩ : ∃ wo : World, wo = wr := ⟨_, rfl⟩
      go_loopw [4] (fun i wr => ∃ j : Nat, j ≤ (L[k]).n ∧ i = .int .i64 j ∧ TSt1 base als cls L w k j wr) (fun i _ => (L[k]).n - (intOf i).toNat)
      case atStart => exact ⟨0, by omega, rfl, hst⟩
      case round =>
        obtain ⟨j, hj, rfl, hst⟩ := hrel
        have HST : Hid (TSt1 base als cls L w k j wr) := hst
        clear hst
        obtain ⟨gs, rfl, _, _, hcs, _⟩ := Own.cell HST.out.outer k (by simpa using hlt)
        have hcs' : wr.cell? ⟨gs, k, none⟩ = some (.slice (L[k]).a (L[k]).n (L[k]).c) := by rw [hcs]; simp [Sl.val]
        clear hcs
        have hn := HN.out k hlt
        by_cases hjt : j < (L[k]).n
        · obtain ⟨g, ha, ⟨u, hu⟩, hf, hst'⟩ := HST.out.store HD.out hlt hjt
          rw [ha] at hcs'
          have HA : Hid ((L[k]).a = some ⟨g, 0, none⟩) := ha
          clear ha
          go_wp2_with fail
          have hw1 : IntKind.i64.wrap ((k : Int) + 1) = (k : Int) + 1 := IntWalk.i64_in _ (by omega)
          refine wp_region_still_tail 10 (by kernel_rfl) (by kernel_rfl) ?_
          simp only [List.take_succ_cons, List.take_zero, List.drop_succ_cons, List.drop_zero]
          repeat still_step
          still_call ((mark_any _ _ _ (by omega) (by omega)).mono fun e w' ⟨he, hw⟩ => ⟨he, hw.symm⟩)
          repeat still_step
          refine wpStill_nil ?_
          change wpList _ _ _ _ _ wr.drew
          go_wp2
          go_roundw
          case rel => exact ⟨j + 1, by omega, by go_num, hst'.drew⟩
          case measure => simp [intOf]; omega
        · obtain rfl : j = (L[k]).n := by omega
          go_wp2_with fail
          go_roundw
          case rel => exact ⟨k + 1, by omega, by go_num, HST.out.next hlt rfl⟩
          case measure => simp [intOf]; omega
    · obtain rfl : k = L.length := by omega
      obtain ⟨wk, rfl⟩ : ∃ wk : World, wk = wr := ⟨_, rfl⟩
      have HS2 : Hid (TSt2 base als cls L w wk.heap.size 0 none 0 [] wk) := TSt2.start hst hb
      clear hst
      go_wp2_with fail
      go_loopw [5, 6] (fun v i wr => ∃ (k : Nat) (ags : Option Addr) (cgs : Nat) (G : List Sl), k ≤ L.length ∧ i = .int .i64 k ∧ v = .slice ags k cgs ∧ TSt2 base als cls L w wk.heap.size k ags cgs G wr) (fun _ i _ => L.length - (intOf i).toNat)
      case atStart => exact ⟨0, none, 0, [], by omega, rfl, rfl, HS2.out⟩
      case round =>
        obtain ⟨k, ags, cgs, G, hk, rfl, rfl, hst⟩ := hrel
        have HST : Hid (TSt2 base als cls L w wk.heap.size k ags cgs G wr) := hst
        clear hst
        by_cases hlt : k < L.length
        · obtain ⟨gs, e1, _, _, hcs, _⟩ := Own.cell HST.out.outer k (by simpa using hlt)
          have hcs' : wr.cell? ⟨gs, k, none⟩ = some (.slice (L[k]).a (L[k]).n (L[k]).c) := by rw [hcs]; simp [Sl.val]
          clear hcs
          obtain rfl := e1
          go_wp2_with fail
          obtain ⟨wo, rfl⟩ : ∃ wo : World, wo = wr := ⟨_, rfl⟩
          go_loopw [7, 8] (fun v i wr => ∃ (m : Nat) (a : Option Addr) (c : Nat), m ≤ 70 ∧ i = .int .i64 m ∧ v = .slice a ((L[k]).n + m) c ∧ In2 base L k hlt wo m a c wr) (fun _ i _ => 70 - (intOf i).toNat)
          case atStart => exact ⟨0, _, _, by omega, rfl, rfl, In2.startT HST.out hlt⟩
          case round =>
            obtain ⟨m, a, c, hm, rfl, rfl, hin⟩ := hrel
            have HIN : Hid (In2 base L k hlt wo m a c wr) := hin
            clear hin
            obtain ⟨gs2, e1, _, _, hcs, _⟩ := Own.cell (HST.out.outerIn hlt HIN.out.frame) k (by simpa using hlt)
            obtain rfl : gs = gs2 := by simpa using e1
            clear e1
            have hcs2 : wr.cell? ⟨gs, k, none⟩ = some (.slice (L[k]).a (L[k]).n (L[k]).c) := by rw [hcs]; simp [Sl.val]
            clear hcs
            have hn := HN.out k hlt
            have hsz : base ≤ wr.heap.size := Nat.le_trans HST.out.baseB (Nat.le_trans HST.out.size HIN.out.frame.size)
            by_cases hm70 : m < 70
            · go_wp2_with (first | (go_at_call 40; refine (mark_any _ _ _ (by omega) (by omega)).mono ?_; rintro e w' ⟨rfl, rfl⟩) | (at_builtin; refine wpList_push elB rfl (.tmp 51) (.tmp 62) rfl rfl HIN.out.row (.int .u8 ((mrk ((k : Int) + 1) (((L[k]).n : Int) + (m : Int))).toNat : Int)) rfl rfl (by unfold maxLen; omega) (by omega) hsz ?_; intro g cap w1 hown1 hgr))
              go_roundw
              case rel => exact ⟨m + 1, _, _, by omega, by go_num, rfl, HIN.out.next hown1 hgr⟩
              case measure => simp [intOf]; omega
            · obtain rfl : m = 70 := by omega
              have hgs : SOwn wr wk.heap.size ags k cgs G := Own.grownNe HST.out.gs HIN.out.frame fun g1 hc1 ha1 hb1 => by
                obtain ⟨hc2, ha2⟩ := (HST.out.lists k hlt).blk hb1
                have h3 := HST.out.gs
                have h4 := HST.out.lists k hlt
                rw [ha1] at h3
                rw [ha2] at h4
                exact own_ne h3 h4 hc1 hc2 (by decide) rfl
              have hszB : wk.heap.size ≤ wr.heap.size := Nat.le_trans HST.out.size HIN.out.frame.size
              go_wp2_with (at_builtin; refine wpList_push elS rfl (.tmp 64) (.tmp 66) rfl rfl hgs (.slice a ((L[k]).n + 70) c) rfl rfl (by unfold maxLen; omega) (by omega) hszB ?_; intro g cap w1 hown1 hgr)
              go_roundw
              case rel => exact ⟨k + 1, _, _, _, by omega, by go_num, rfl, HST.out.next hlt HD.out HIN.out hown1 hgr⟩
              case measure => simp [intOf]; omega
        · obtain rfl : k = L.length := by omega
          obtain ⟨w3, rfl⟩ : ∃ w3 : World, w3 = wr := ⟨_, rfl⟩
          go_wp2_with fail
          go_loopw [9] (fun i wr => ∃ k n : Nat, k ≤ L.length ∧ i = .int .i64 k ∧ wr = w3.drewN n) (fun i _ => L.length - (intOf i).toNat)
          case atStart => exact ⟨0, 0, by omega, rfl, rfl⟩
          case round =>
            obtain ⟨k, n, hk, rfl, rfl⟩ := hrel
            by_cases hlt : k < L.length
            · obtain ⟨gl, gg, h, c, rfl, rfl, c1, c2, c3, c4⟩ := HST.out.look k hlt
              have C3 := Lib.hid c3
              have C4 := Lib.hid c4
              clear c3 c4
              have hn := HN.out k hlt
              go_wp2_with fail
              go_loopw [10] (fun i wr => ∃ j m : Nat, j ≤ (L[k]).n + 70 ∧ i = .int .i64 j ∧ wr = w3.drewN m) (fun i _ => (L[k]).n + 70 - (intOf i).toNat)
              case atStart => exact ⟨0, n, by omega, rfl, rfl⟩
              case round =>
                obtain ⟨j, m, hj, rfl, rfl⟩ := hrel
                by_cases hjt : j < (L[k]).n + 70
                · have c3 := C3.out j hjt
                  by_cases hjn : j < (L[k]).n
                  · obtain ⟨g, ha, c4⟩ := C4.out j hjn
                    rw [ha] at c1
                    have HA := Lib.hid ha
                    clear ha
                    go_wp2_with (go_at_call 40; refine (mark_any _ _ _ (by omega) (by omega)).mono ?_; rintro e w' ⟨rfl, rfl⟩)
                    go_roundw
                    case rel => exact ⟨j + 1, m, by omega, by go_num, rfl⟩
                    case measure => simp [intOf]; omega
                  · have hjd : decide ((j : Int) < ((L[k]).n : Int)) = false := by rw [decide_eq_false_iff_not]; omega
                    go_wp2_with (go_at_call 40; refine (mark_any _ _ _ (by omega) (by omega)).mono ?_; rintro e w' ⟨rfl, rfl⟩)
                    go_roundw
                    case rel => exact ⟨j + 1, m, by omega, by go_num, rfl⟩
                    case measure => simp [intOf]; omega
                · obtain rfl : j = (L[k]).n + 70 := by omega
                  go_wp2_with fail
                  go_roundw
                  case rel => exact ⟨k + 1, m, by omega, by go_num, rfl⟩
                  case measure => simp [intOf]; omega
            · obtain rfl : k = L.length := by omega
              go_wp2_with fail
              go_ret
              exact ⟨rfl, HST.out.below.drewN _⟩

theorem apartT_n (base : Nat) (als : Option Addr) (cls n : Nat) (L : List Sl) (w : World) (hs : TSt1 base als cls L w 0 0 w) (hb : base ≤ w.heap.size) (hd : Distinct L) (hn : L.length = n) (hK : n ≤ 100000000) (hN : ∀ j (hj : j < L.length), (L[j]).n ≤ 100000000) :
    Calls Try.prog 25 #[.slice als n cls] w fun e w' => e = .returned (.bool true) ∧ BelowT base L w w' := by
  subst hn
  exact apartT_any base als cls L w hs hb hd hK hN

theorem tst1_lit {w : World} {base : Nat} {L : List Sl} (h : ∀ j (hj : j < L.length), ∃ l, BOwn w base (L[j]).a (L[j]).n (L[j]).c l) (hb : base ≤ w.heap.size) (n : Nat) (hn : L.length = n) (hm : n ≤ maxLen) :
    TSt1 base (some ⟨w.heap.size, 0, none⟩) n L (w.alloc (.cells (L.map Sl.val).toArray 34)) 0 0 (w.alloc (.cells (L.map Sl.val).toArray 34)) := by
  subst hn
  refine ⟨(own_lit w _ _ _ (by simp) hm).mono hb, fun j hj => ?_, BelowT.refl _ _ _⟩
  obtain ⟨l, ho⟩ := h j hj
  exact ⟨l, Own.grownNone ho (World.grownBy_alloc w _ none), fun h => absurd h (by omega), fun _ => by simp [mkl]⟩
/-- a list of lists that the call owns, to be written over -/
theorem tst1_own {w : World} {base : Nat} {a : Option Addr} {n c : Nat} {L : List Sl} (ho : SOwn w base a n c L) (h : ∀ j (hj : j < L.length), ∃ l, BOwn w base (L[j]).a (L[j]).n (L[j]).c l) :
    TSt1 base a c L w 0 0 w := by
  refine ⟨by rw [ho.len]; exact ho, fun j hj => ?_, BelowT.refl _ _ _⟩
  obtain ⟨l, ho⟩ := h j hj
  exact ⟨l, ho, fun h => absurd h (by omega), fun _ => by simp [mkl]⟩

end Go.Proofs.Ytblgdfamomlklaa
/- Lists of lists that grow beside one another. Printed by gens/lism.py. -/
namespace Go.Proofs.Ytblgdfamomlklaa
open Go.RowKit

theorem LIs.pushC {w w1 w2 : World} {base : Nat} {a : Option Addr} {n c : Nat} {bs : List (List UInt8)} {L : List Sl} (h : LIs w base a n c bs L) (hb : base ≤ w.heap.size) (h' : LIs w1 base a n c bs L)
    {a' : Option Addr} {n' c' : Nat} {b : List UInt8} (ho : BOwn w1 w.heap.size a' n' c' b) {a2 : Option Addr} {c2 : Nat}
    (hs : Own w2 base 34 1 a2 (n + 1) c2 (L.map Sl.val ++ [.slice a' n' c'])) (hgr : GrewP w1 w2 a c a2 c2) : LIs w2 base a2 (n + 1) c2 (bs ++ [b]) (L ++ [⟨a', n', c'⟩]) := by
  have hK := h'
  obtain ⟨h1, h2, h3, h4⟩ := h
  have h1' : SOwn w1 base a n c L := h'.outer
  have hin : ∀ i (h : i < L.length) (h' : i < bs.length), BOwn w2 base (L[i]).a (L[i]).n (L[i]).c bs[i] := fun i h h' => Own.grewOther (hK.inner i h h') h1' hgr (by decide)
  have hnew : BOwn w2 base a' n' c' b := Own.grewOther (ho.mono hb) h1' hgr (by decide)
  refine ⟨?_, by simp [h2], ?_, ?_⟩
  · unfold SOwn; rw [List.map_append]; exact hs
  · intro i hi hi'
    by_cases e : i < L.length
    · have e' : i < bs.length := by omega
      rw [List.getElem_append_left e, List.getElem_append_left e']
      exact hin i e e'
    · simp only [List.length_append, List.length_singleton] at hi
      obtain rfl : i = L.length := by omega
      have e2 : (L ++ [⟨a', n', c'⟩])[L.length] = (⟨a', n', c'⟩ : Sl) := by simp
      have e3 : (bs ++ [b])[L.length] = b := by simp [h2]
      rw [e2, e3]
      exact hnew
  · have old : ∀ i (hi : i < L.length) g, (L[i]).blk = some g → g < w.heap.size := by
      intro i hi g hgb
      have hbo := h3 i hi (by omega)
      obtain ⟨hc, ha⟩ := hbo.blk hgb
      obtain ⟨g', ha', _, hlt⟩ := Own.block hbo hc
      rw [ha] at ha'
      obtain rfl : g = g' := by simpa using ha'
      exact hlt
    have new : ∀ g, (⟨a', n', c'⟩ : Sl).blk = some g → w.heap.size ≤ g := by
      intro g hgb
      have hbo : BOwn w1 w.heap.size (⟨a', n', c'⟩ : Sl).a (⟨a', n', c'⟩ : Sl).n (⟨a', n', c'⟩ : Sl).c b := ho
      obtain ⟨hc, ha⟩ := hbo.blk hgb
      obtain ⟨g', ha', hlt, _⟩ := Own.block hbo hc
      rw [ha] at ha'
      obtain rfl : g = g' := by simpa using ha'
      exact hlt
    intro i j hi hj hij g hgi hgj
    simp only [List.length_append, List.length_singleton] at hi hj
    by_cases ei : i < L.length
    · by_cases ej : j < L.length
      · rw [List.getElem_append_left ei] at hgi
        rw [List.getElem_append_left ej] at hgj
        exact h4 i j ei ej hij g hgi hgj
      · obtain rfl : j = L.length := by omega
        rw [List.getElem_append_left ei] at hgi
        have e2 : (L ++ [⟨a', n', c'⟩])[L.length]'(by simp) = (⟨a', n', c'⟩ : Sl) := by simp
        rw [e2] at hgj
        have := old i ei g hgi
        have := new g hgj
        omega
    · obtain rfl : i = L.length := by omega
      have ej : j < L.length := by omega
      rw [List.getElem_append_left ej] at hgj
      have e2 : (L ++ [⟨a', n', c'⟩])[L.length]'(by simp) = (⟨a', n', c'⟩ : Sl) := by simp
      rw [e2] at hgi
      have := old j ej g hgj
      have := new g hgi
      omega
theorem LIs.liesT {w : World} {base : Nat} {a : Option Addr} {n c : Nat} {bs : List (List UInt8)} {L : List Sl} (h : LIs w base a n c bs L) : LLies w a L bs := by
  refine ⟨?_, h.len, fun i h1 h2 => ⟨(h.inner i h1 h2).lies, (h.inner i h1 h2).len.symm⟩⟩
  intro k hk
  obtain ⟨g, e, _, _, hc, _⟩ := Own.cell h.outer k hk
  exact ⟨g, 0, e, by rw [Nat.zero_add, hc]⟩

theorem LIs.chT {w w' : World} {base : Nat} {a : Option Addr} {n c : Nat} {bs : List (List UInt8)} {L : List Sl} {S : Nat → Prop} (h : LIs w base a n c bs L) (hc : Ch S w w') (ho : ∀ g, In a c g → ¬ S g) (hi : ∀ i (hi : i < L.length) g, In (L[i]).a (L[i]).c g → ¬ S g) : LIs w' base a n c bs L :=
  ⟨Own.ch h.outer hc (fun h0 g e => ho g ⟨h0, e⟩), h.len, fun i h1 h2 => Own.ch (h.inner i h1 h2) hc (fun h0 g e => hi i h1 g ⟨h0, e⟩), h.apart⟩
theorem LIs.chB {S : Nat → Prop} {w w' : World} {base : Nat} {a : Option Addr} {n c : Nat} {bs : List (List UInt8)} {L : List Sl} (h : LIs w base a n c bs L) (hc : Ch S w w') (hS : ∀ x, base ≤ x → ¬ S x) : LIs w' base a n c bs L :=
  ⟨Own.ch h.outer hc (fun h0 g e => by obtain ⟨g', e', h1, _⟩ := Own.block h.outer h0; rw [e'] at e; obtain rfl : g' = g := by simpa using e
                                       exact hS _ h1), h.len,
   fun i h1 h2 => Own.ch (h.inner i h1 h2) hc (fun h0 g e => by obtain ⟨g', e', h3, _⟩ := Own.block (h.inner i h1 h2) h0; rw [e'] at e; obtain rfl : g' = g := by simpa using e
                                                                exact hS _ h3), h.apart⟩
theorem LIs.grewOff {w w' : World} {base base' : Nat} {a a' a2 : Option Addr} {n n' c c' c2 : Nat} {bs : List (List UInt8)} {L : List Sl} {ys : List Value} (h : LIs w base a n c bs L) (h' : Own w base' 34 1 a' n' c' ys) (hg : GrewP w w' a' c' a2 c2) (hd : ∀ x, In a c x → In a' c' x → False) : LIs w' base a n c bs L :=
  ⟨Own.ch h.outer hg.ch (fun h0 g e hi => hd g ⟨h0, e⟩ hi), h.len, fun i h1 h2 => Own.grewOther (h.inner i h1 h2) h' hg (by decide), h.apart⟩
end Go.Proofs.Ytblgdfamomlklaa
