/- Helpers and contracts of the proofs over this seat: RdInts, Ints, ResCell, RegY. Each states what a function of the program answers, or is plain Lean; its conditions stand in each statement. -/
import Derived.Deep.Slices
import Derived.Test.YthemlaibjchjpaaPtAA
import Derived.Test.YthemlaibjchjpaaPtAB
import Derived.Test.YthemlaibjchjpaaPtAD
set_option linter.unusedVariables false
/- A list of whole numbers that came in, read. -/
namespace Go.Proofs.Ythemlaibjchjpaa
open Go.ChangeShapes Go.WideShapes Go.ChangeAt Go.RowKit

/-- whole numbers as cells -/
def IV (zs : List Int) : List Value := zs.map (fun z => .int .i64 z)

theorem rd_ints {H : Type} {enc : TypeId × Value → H} {W : World} {base : Nat} {spare : Nat → Bool} {held : Bool} {fuel : Nat} {a : Option Addr} {len cap : Nat} {d : DataW H} {p : List MemPlace}
    (h : DataW.trod enc Try.prog W base spare held fuel 23 [.slice a len cap] = some (d, p)) : ∃ zs : List Int, zs.length = len ∧ Lies W a (IV zs) ∧ (∀ z ∈ zs, -9223372036854775808 ≤ z ∧ z ≤ 9223372036854775807) ∧ len + 1 ≤ Rows.uptoBulk d ∧ len ≤ cap ∧ cap ≤ maxLen := by
  rcases open_ints Try.underlying23 Try.underlying3 (by kernel_rfl) h with ⟨hcs, hx⟩ | ⟨x, len', cap', zs, hcs, _, hl, hm, hz, hx, hcell, hwz⟩
  · simp at hcs
    obtain ⟨rfl, rfl, rfl⟩ := hcs
    injection hx with hx _
    subst hx
    exact ⟨[], rfl, fun k hk => absurd hk (by simp [IV]), fun z hz => (by cases hz), by simp [Rows.uptoBulk], Nat.le_refl _, by unfold maxLen; omega⟩
  · simp at hcs
    obtain ⟨rfl, rfl, rfl⟩ := hcs
    injection hx with hx _
    subst hx
    have hzl : len ≤ zs.length := by rw [hz]; split <;> omega
    refine ⟨zs.take len, by simp; omega, ?_, fun z hz2 => i64_of_wf (hwz _ (List.mem_of_mem_take hz2)), ?_, hl, hm⟩
    · intro k hk
      have hk' : k < zs.length := by simp [IV] at hk; omega
      obtain ⟨b, off, rfl, hc⟩ := ints_at hcell (by omega)
      refine ⟨b, off, rfl, ?_⟩
      rw [hc k hk']
      have e : zs.getD k 0 = zs[k] := by simp [hk']
      rw [e]
      simp [IV]
    · have h1 := bulk_slice (H := H) (lits .i64 (zs.take len)) (lits .i64 (zs.drop len))
      have h2 := bulk_length (H := H) (lits .i64 (zs.take len))
      have h3 : (lits (H := H) .i64 (zs.take len)).length = len := by simp [lits]; omega
      omega

end Go.Proofs.Ythemlaibjchjpaa
/- Lists of numbers that the call owns. -/
namespace Go.Proofs.Ythemlaibjchjpaa
open Go.RowKit

theorem elI : El Try.prog 23 3 (.int .i64 0) 1 8 :=
  ⟨Try.underlying23, by
    obtain ⟨i, h1, h2, h3, h4⟩ := info_parts (show (Try.prog.info? 3).map (fun i => (i.zero, i.size, i.bytes)) = some (some (.int .i64 0), 1, 8) by kernel_rfl)
    exact ⟨i, h1, h2, h3, h4⟩, rfl, by decide⟩
def IOwn (w : World) (base : Nat) (a : Option Addr) (n c : Nat) (ns : List Int) : Prop := Own w base 3 1 a n c (IV ns)
theorem IOwn.len {w : World} {base : Nat} {a : Option Addr} {n c : Nat} {ns : List Int} (h : IOwn w base a n c ns) : ns.length = n := by
  have := h.1; simpa [IV] using this
theorem Lies.grown {w w' : World} {a : Option Addr} {xs : List Value} (h : Lies w a xs) (hg : w.grownBy w' none) : Lies w' a xs := by
  intro k hk
  obtain ⟨b, off, e, hc⟩ := h k hk
  exact ⟨b, off, e, (World.cell?_of_block (hg.block b (World.block_lt_of_cell? w _ hc) (by simp))).trans hc⟩
theorem IOwn.lies {w : World} {base : Nat} {a : Option Addr} {n c : Nat} {ns : List Int} (h : IOwn w base a n c ns) : Lies w a (IV ns) := by
  intro k hk
  obtain ⟨g, e, _, _, hc, _⟩ := Own.cell h k hk
  exact ⟨g, 0, e, by rw [Nat.zero_add, hc]⟩
/-- the numbers' places -/
theorem ints_cells {w : World} {a : Option Addr} {ns : List Int} (h : Lies w a (IV ns)) (h0 : 0 < ns.length) : ∃ b off, a = some ⟨b, off, none⟩ ∧ ∀ k, k < ns.length → w.cell? ⟨b, off + k, none⟩ = some (.int .i64 (ns.getD k 0)) := by
  have hl : (IV ns).length = ns.length := by simp [IV]
  obtain ⟨b, off, e, _⟩ := h 0 (by omega)
  refine ⟨b, off, e, fun k hk => ?_⟩
  obtain ⟨b', off', e', hc⟩ := h k (by omega)
  rw [e] at e'
  injection e' with e'
  injection e' with e1 e2
  subst e1; subst e2
  rw [hc]
  simp [IV, hk]
theorem bytes_cells {w : World} {a : Option Addr} {l : List UInt8} (h : BLies w a l) (h0 : 0 < l.length) : ∃ b off, a = some ⟨b, off, none⟩ ∧ ∀ k, k < l.length → w.cell? ⟨b, off + k, none⟩ = some (.int .u8 ((l.getD k 0).toNat : Int)) := by
  obtain ⟨b, off, e, _⟩ := h 0 h0
  refine ⟨b, off, e, fun k hk => ?_⟩
  obtain ⟨b', off', e', hc⟩ := h k hk
  rw [e] at e'
  injection e' with e'
  injection e' with e1 e2
  subst e1; subst e2
  rw [hc]
  simp [hk]
def okI (ns : List Int) (i : Nat) : Bool := decide (0 ≤ ns.getD i 0) && decide (ns.getD i 0 < 255) && (decide (i = 0) || decide (ns.getD (i - 1) 0 < ns.getD i 0))
end Go.Proofs.Ythemlaibjchjpaa
/- A result that lies in a cell. -/
namespace Go.Proofs.Ythemlaibjchjpaa
open Go.RowKit

theorem results_cell1 {fn : Func} {p : Tmp} (h : fn.results = #[.cell p 4]) (tmps : Array Value) (w : World) (g : Nat) (v : Value) (hp : tmps.getD p undef = .pointer (some ⟨g, 0, none⟩)) (hr : Row w g 4 #[v]) :
    (results fn tmps).run Try.prog w = .ok v w := by
  have hp' : tmps[p]?.getD undef = .pointer (some ⟨g, 0, none⟩) := by simpa using hp
  have hc := Row.cell hr 0
  simp at hc
  simp [results, h, hp', asAddr, loadVar, isAgg, run_underlying Try.underlying4, hc]
end Go.Proofs.Ythemlaibjchjpaa
/- As XRegX, where operations that read nothing stand behind the last one that writes. -/
namespace Go.Proofs.Ythemlaibjchjpaa
open Go.RowKit
section
variable {P : Program} {ops : Array Oper} {Q : Exit → Act → World → Prop} {md : Region.Mode} {L : Nat}

/-- i stands ahead of o, over so many steps -/
def aheadD (md : Region.Mode) (ops : Array Oper) (i : Nat) : Nat → Oper → Bool
  | 0, o => o.after.any (fun e => Region.binds md e && e.on == i)
  | d + 1, o => o.after.any (fun e => Region.binds md e && (e.on == i || (match ops[e.on]? with
    | some o' => aheadD md ops i d o'
    | none => false)))
theorem aheadD_listed {listed : Array Bool} {i : Nat} (hc : Closed md ops listed) : ∀ (d : Nat) (o : Oper), aheadD md ops i d o = true → (∀ e ∈ o.after, Region.binds md e = true → listed.getD e.on false = true) → listed.getD i false = true
  | 0, o, h, hall => by
    obtain ⟨e, he, hb⟩ := Array.any_eq_true'.1 h
    simp only [Bool.and_eq_true, beq_iff_eq] at hb
    rw [← hb.2]
    exact hall e he hb.1
  | d + 1, o, h, hall => by
    obtain ⟨e, he, hb⟩ := Array.any_eq_true'.1 h
    simp only [Bool.and_eq_true, Bool.or_eq_true, beq_iff_eq] at hb
    rcases hb.2 with h1 | h1
    · rw [← h1]
      exact hall e he hb.1
    · cases ho : ops[e.on]? with
      | none => rw [ho] at h1; cases h1
      | some o' =>
        rw [ho] at h1
        exact aheadD_listed hc d o' h1 (fun f hf hb2 => hc e.on o' ho (hall e he hb.1) f hf hb2)
def wpY (P : Program) (md : Region.Mode) (ops : Array Oper) (Q : Exit → Act → World → Prop) (L : Nat) : Nat → (World → Prop) → Array Bool → Act → Prop
  | 0, _, _, _ => False
  | n + 1, S, listed, a => Region.ready md ops listed ≠ [] ∧
    ∀ i ∈ Region.ready md ops listed, ∀ w, S w → wpOp P ops Q i (fun a' w' => if i = L then wpAny P md ops Q n (listed.setIfInBounds i true) a' w' else
      ∃ S' : World → Prop, S' w' ∧ (∀ w, S' w → S w) ∧ Clo S' ∧ wpY P md ops Q L n S' (listed.setIfInBounds i true) a') a w

theorem wpY_any : ∀ (n : Nat) (S : World → Prop) (listed : Array Bool) (a : Act) (w : World), wpY P md ops Q L n S listed a → S w → wpAny P md ops Q n listed a w
  | 0, _, _, _, _, h, _ => h.elim
  | n + 1, S, listed, a, w, h, hS => by
    refine ⟨fun h0 => absurd h0 h.1, fun i hi => wpOp_mono (fun a' w' h' => ?_) (h.2 i hi w hS)⟩
    by_cases hL : i = L
    · rw [if_pos hL] at h'
      exact h'
    · rw [if_neg hL] at h'
      obtain ⟨S', hs, _, _, hw⟩ := h'
      exact wpY_any n S' _ a' w' hw hs

theorem wpY_first {D i : Nat} {oi oL : Oper} {v : Value} (hi : ops[i]? = some oi) (hoL : ops[L]? = some oL) (hiL : i ≠ L) (hLi : aheadD md ops i D oL = true) (hsel : ∀ (j : Nat) (o : Oper) cs b, ops[j]? = some o → o.op ≠ .select cs b)
    (hQ : ∀ c a w, Q (.panic c) (a.put oi.dst v) w → Q (.panic c) a w) : ∀ (n : Nat) (S : World → Prop) (listed : Array Bool) (a : Act), Clo S → Closed md ops listed →
      (∀ j oj, ops[j]? = some oj → j ≠ i → listed.getD j true = false → (∀ e ∈ oj.after, Region.binds md e = true → e.on ≠ i) → oi.apart ops oj = true) →
      i ∈ Region.ready md ops listed → YG P ops S oi v a → wpY P md ops Q L n S (listed.setIfInBounds i true) (a.put oi.dst v) → wpY P md ops Q L (n + 1) S listed a := by
  intro n
  induction n with
  | zero => intro S listed a _ _ _ _ _ H; exact H.elim
  | succ n ih =>
    intro S listed a hclo hcl hfree hr hy H
    refine ⟨fun h => (by rw [h] at hr; cases hr), fun j hj w hS => ?_⟩
    obtain ⟨hjun, oj, hoj, hall⟩ := mem_ready.1 hj
    have hnot : ∀ e ∈ oj.after, Region.binds md e = true → e.on ≠ i := by
      intro e he hb heq
      have h1 := hall e he hb
      have h0 := (mem_ready.1 hr).1
      rw [heq] at h1
      rcases Nat.lt_or_ge i listed.size with h' | h'
      · simp [h'] at h0 h1; rw [h0] at h1; cases h1
      · simp [Array.getElem?_eq_none h'] at h1
    by_cases hji : j = i
    · subst hji
      refine hy.op hi hS fun w' hg => ?_
      rw [if_neg hiL]
      exact ⟨S, hclo w w' hS hg, fun _ h => h, hclo, H⟩
    · have hjL : j ≠ L := by
        rintro rfl
        rw [hoL] at hoj
        injection hoj with hoj
        subst hoj
        have h1 := aheadD_listed hcl _ _ hLi hall
        have h0 := (mem_ready.1 hr).1
        rcases Nat.lt_or_ge i listed.size with h' | h'
        · simp [h'] at h0 h1; rw [h0] at h1; cases h1
        · simp [Array.getElem?_eq_none h'] at h1
      have h1 := H.2 j (ready_mono hj hji) w hS
      have h2 := wpX_put hoj (hfree j oj hoj hji hjun hnot) (fun cs b => hsel i oi cs b hi) (fun cs b => hsel j oj cs b hoj) hQ hy h1
      refine wpOp_mono (fun a' w' h3 => ?_) h2
      rw [if_neg hjL] at h3 ⊢
      obtain ⟨hya, S', hs', hsub, hclo', hwx⟩ := h3
      refine ⟨S', hs', hsub, hclo', ih S' (listed.setIfInBounds j true) a' hclo' (hcl.set hj) (fun k ok hk hki hun hno => ?_) (ready_mono hr (Ne.symm hji)) (hya.sub hsub) ?_⟩
      · refine hfree k ok hk hki ?_ hno
        by_cases hjk : j = k
        · subst hjk; exact hjun
        · rw [getD_set_ne true hjk] at hun; exact hun
      · rw [Array.setIfInBounds_comm _ _ hji]
        exact hwx

/-- number i first -/
theorem wpY_take (D i : Nat) {S : World → Prop} {oi oL : Oper} {v : Value} {n : Nat} {listed : Array Bool} {a : Act} (hclo : Clo S) (hi : ops[i]? = some oi) (hoL : ops[L]? = some oL) (hiL : (i == L) = false) (hLi : aheadD md ops i D oL = true) (hcl : closedB md ops listed = true)
    (hs : Region.noSelect ops = true) (hf : Region.free md ops listed i = true) (hr : (Region.ready md ops listed).contains i = true)
    (hQ : ∀ c a w, Q (.panic c) (a.put oi.dst v) w → Q (.panic c) a w) (hy : YG P ops S oi v a)
    (h : wpY P md ops Q L n S (listed.setIfInBounds i true) (a.put oi.dst v)) : wpY P md ops Q L (n + 1) S listed a :=
  wpY_first hi hoL (by simpa using hiL) hLi (Region.noSelect_spec hs) hQ n S listed a hclo (closed_of hcl) (Region.free_spec hi hf) (by simpa using hr) hy h
/-- the one that may come up alone is carried out; the condition may grow stronger -/
theorem wpY_step (k : Nat) {S : World → Prop} {o : Oper} {n : Nat} {listed : Array Bool} {a : Act} (ho : ops[k]? = some o) (hkL : (k == L) = false) (hr : Region.ready md ops listed = [k]) (hw : Region.wanted o (yielded ops a.tmps) = true)
    (h : ∀ w, S w → ∀ K : Act → World → Prop, (∀ (S' : World → Prop) a' w', S' w' → (∀ w, S' w → S w) → Clo S' → wpY P md ops Q L n S' (listed.setIfInBounds k true) a' → K a' w') → o.wp P a w K Q) : wpY P md ops Q L (n + 1) S listed a := by
  refine ⟨by rw [hr]; simp, fun i hi w hS => ?_⟩
  rw [hr] at hi
  obtain rfl : i = k := by simpa using hi
  have hne : i ≠ L := by simpa using hkL
  unfold wpOp
  simp only [ho, hw, if_true]
  refine .inl (h w hS _ fun S' a' w' h1 h2 h3 h4 => ?_)
  rw [if_neg hne]
  exact ⟨S', h1, h2, h3, h4⟩
/-- the last one that writes, carried out -/
theorem wpY_last {S : World → Prop} {oL : Oper} {n : Nat} {listed : Array Bool} {a : Act} (hoL : ops[L]? = some oL) (hr : Region.ready md ops listed = [L]) (hw : Region.wanted oL (yielded ops a.tmps) = true)
    (h : ∀ w, S w → ∀ K : Act → World → Prop, (∀ a' w', wpAny P md ops Q n (listed.setIfInBounds L true) a' w' → K a' w') → oL.wp P a w K Q) : wpY P md ops Q L (n + 1) S listed a := by
  refine ⟨by rw [hr]; simp, fun i hi w hS => ?_⟩
  rw [hr] at hi
  obtain rfl : i = L := by simpa using hi
  unfold wpOp
  simp only [hoL, hw, if_true]
  refine .inl (h w hS _ fun a' w' hq => ?_)
  first | exact hq | (simp only [if_true]; exact hq)
/-- one that comes up alone -/
theorem wpAny_one (k : Nat) {o : Oper} {n : Nat} {listed : Array Bool} {a : Act} {w : World} (ho : ops[k]? = some o) (hr : Region.ready md ops listed = [k]) (hw : Region.wanted o (yielded ops a.tmps) = true)
    {v : Value} (hv : (execOp a.eval o).run P w = .ok (.value v) w) (h : wpAny P md ops Q n (listed.setIfInBounds k true) (a.put o.dst v) w) : wpAny P md ops Q (n + 1) listed a w := by
  refine ⟨fun h0 => (by rw [hr] at h0; cases h0), fun i hi => ?_⟩
  rw [hr] at hi
  obtain rfl : i = k := by simpa using hi
  unfold wpOp
  simp only [ho, hw, if_true]
  refine .inl ?_
  unfold Oper.wp
  rw [hv]
  exact h
theorem wp_regionY (S : World → Prop) (L : Nat) {id : Nat} {a : Act} {w : World} (hm : P.follows .mixedOrders = true) (hS : S w.drew)
    (h : wpY P .any ops Q L ops.size S (Array.replicate ops.size false) a) : (Code.region id ops true).wp P Q a w :=
  wp_region_any hm (wpY_any _ _ _ _ _ h hS)

end
end Go.Proofs.Ythemlaibjchjpaa
