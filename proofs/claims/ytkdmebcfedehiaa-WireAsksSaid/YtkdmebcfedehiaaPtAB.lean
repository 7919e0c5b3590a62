/- Helpers and contracts of the proofs over this seat: WireRep, AppZeros, Kept, Apart, Lists, Concat, RegS, RegT, RegX, RegE, RegM. Each states what a function of the program answers, or is plain Lean; its conditions stand in each statement. -/
import Derived.Lib.AppendZerosOnto
import Derived.Deep.RegionHeld3
import Derived.Test.YtkdmebcfedehiaaPtAA
set_option linter.unusedVariables false
/- wire.mayTell: may a reply be? -/
namespace Go.Proofs.Ytkdmebcfedehiaa
open Go.RowKit

theorem elI : El Try.prog 23 3 (.int .i64 0) 1 8 :=
  ⟨Try.underlying23, by
    obtain ⟨i, h1, h2, h3, h4⟩ := info_parts (show (Try.prog.info? 3).map (fun i => (i.zero, i.size, i.bytes)) = some (some (.int .i64 0), 1, 8) by kernel_rfl)
    exact ⟨i, h1, h2, h3, h4⟩, rfl, by decide⟩
def IOwn (w : World) (base : Nat) (a : Option Addr) (n c : Nat) (ns : List Int) : Prop := Own w base 3 1 a n c (IV ns)
theorem IOwn.len {w : World} {base : Nat} {a : Option Addr} {n c : Nat} {ns : List Int} (h : IOwn w base a n c ns) : ns.length = n := by
  have := h.1; simpa [IV] using this
theorem Lies.grown {w w' : World} {a : Option Addr} {xs : List Value} (h : Lies w a xs) (hg : w.grownBy w' none) : Lies w' a xs := by
  intro k hk
  obtain ⟨b, off, e, hc⟩ := h k hk
  exact ⟨b, off, e, (World.cell?_of_block (hg.block b (World.block_lt_of_cell? w _ hc) (by simp))).trans hc⟩
theorem IOwn.lies {w : World} {base : Nat} {a : Option Addr} {n c : Nat} {ns : List Int} (h : IOwn w base a n c ns) : Lies w a (IV ns) := by
  intro k hk
  obtain ⟨g, e, _, _, hc, _⟩ := Own.cell h k hk
  exact ⟨g, 0, e, by rw [Nat.zero_add, hc]⟩
/-- the numbers' places -/
theorem ints_cells {w : World} {a : Option Addr} {ns : List Int} (h : Lies w a (IV ns)) (h0 : 0 < ns.length) : ∃ b off, a = some ⟨b, off, none⟩ ∧ ∀ k, k < ns.length → w.cell? ⟨b, off + k, none⟩ = some (.int .i64 (ns.getD k 0)) := by
  have hl : (IV ns).length = ns.length := by simp [IV]
  obtain ⟨b, off, e, _⟩ := h 0 (by omega)
  refine ⟨b, off, e, fun k hk => ?_⟩
  obtain ⟨b', off', e', hc⟩ := h k (by omega)
  rw [e] at e'
  injection e' with e'
  injection e' with e1 e2
  subst e1; subst e2
  rw [hc]
  simp [IV, hk]
theorem bytes_cells {w : World} {a : Option Addr} {l : List UInt8} (h : BLies w a l) (h0 : 0 < l.length) : ∃ b off, a = some ⟨b, off, none⟩ ∧ ∀ k, k < l.length → w.cell? ⟨b, off + k, none⟩ = some (.int .u8 ((l.getD k 0).toNat : Int)) := by
  obtain ⟨b, off, e, _⟩ := h 0 h0
  refine ⟨b, off, e, fun k hk => ?_⟩
  obtain ⟨b', off', e', hc⟩ := h k hk
  rw [e] at e'
  injection e' with e'
  injection e' with e1 e2
  subst e1; subst e2
  rw [hc]
  simp [hk]
def okI (ns : List Int) (i : Nat) : Bool := decide (0 ≤ ns.getD i 0) && decide (ns.getD i 0 < 255) && (decide (i = 0) || decide (ns.getD (i - 1) 0 < ns.getD i 0))
theorem incr_all : ∀ (ns : List Int) (lo : Int), incr lo ns = true ↔ (∀ j, j < ns.length → ns.getD j 0 < 255 ∧ (j = 0 → lo < ns.getD 0 0) ∧ (0 < j → ns.getD (j - 1) 0 < ns.getD j 0))
  | [], lo => by simp [incr]
  | x :: r, lo => by
    rw [incr, Bool.and_eq_true, Bool.and_eq_true, decide_eq_true_eq, decide_eq_true_eq, incr_all r]
    constructor
    · rintro ⟨h1, h2, h3⟩ j hj
      match j with
      | 0 => exact ⟨h2, fun _ => h1, fun h => absurd h (by omega)⟩
      | j + 1 =>
        have hjr : j < r.length := by simpa using hj
        obtain ⟨k1, k2, k3⟩ := h3 j hjr
        refine ⟨by simpa using k1, fun h => absurd h (by omega), fun _ => ?_⟩
        match j, k2, k3 with
        | 0, k2, _ => have := k2 rfl; simpa using this
        | j + 1, _, k3 => have := k3 (by omega); simpa using this
    · intro h
      have h0 := h 0 (by simp)
      refine ⟨h0.2.1 rfl, by simpa using h0.1, fun j hj => ?_⟩
      have hj1 := h (j + 1) (by simpa using hj)
      refine ⟨by simpa using hj1.1, fun hj0 => ?_, fun hj0 => ?_⟩
      · subst hj0
        have := hj1.2.2 (by omega)
        simpa using this
      · have := hj1.2.2 (by omega)
        obtain ⟨m, rfl⟩ : ∃ m, j = m + 1 := ⟨j - 1, by omega⟩
        simpa using this
theorem incr_okI (ns : List Int) : incr (-1) ns = true ↔ ∀ i, i < ns.length → okI ns i = true := by
  unfold okI
  constructor
  · intro h i hi
    have hb := incr_bound ns (-1) h (ns.getD i 0) (by rw [List.getD_eq_getElem?_getD, List.getElem?_eq_getElem hi]; exact List.getElem_mem hi)
    have ha := (incr_all ns (-1)).1 h i hi
    rw [Bool.and_eq_true, Bool.and_eq_true, Bool.or_eq_true, decide_eq_true_eq, decide_eq_true_eq, decide_eq_true_eq, decide_eq_true_eq]
    refine ⟨⟨by omega, by omega⟩, ?_⟩
    rcases Nat.eq_zero_or_pos i with h | h
    · exact .inl h
    · exact .inr (ha.2.2 h)
  · intro h
    refine (incr_all ns (-1)).2 fun j hj => ?_
    have h1 := h j hj
    rw [Bool.and_eq_true, Bool.and_eq_true, Bool.or_eq_true, decide_eq_true_eq, decide_eq_true_eq, decide_eq_true_eq, decide_eq_true_eq] at h1
    refine ⟨h1.1.2, fun e => by subst e; omega, fun hj0 => ?_⟩
    rcases h1.2 with h | h
    · omega
    · exact h
theorem mayR_1 (ns : List Int) : mayR ⟨1, ns, []⟩ = incr (-1) ns := by simp [mayR]
theorem mayR_1b (ns : List Int) {bs : List UInt8} (h : 0 < bs.length) : mayR ⟨1, ns, bs⟩ = false := by
  unfold mayR
  rw [if_pos (.inr ⟨(by decide : (1 : Nat) ≠ 5), fun e => by (have e' : bs = [] := e); rw [e'] at h; simp at h⟩)]
theorem mayR_n {k : Nat} {ns : List Int} {bs : List UInt8} (hk : k ≠ 1) (h : 0 < ns.length) : mayR ⟨k, ns, bs⟩ = false := by
  unfold mayR
  rw [if_pos (.inl ⟨hk, fun e => by (have e' : ns = [] := e); rw [e'] at h; simp at h⟩)]
theorem mayR_b {k : Nat} {bs : List UInt8} (hk : k ≠ 1) (hk5 : k ≠ 5) (h : 0 < bs.length) : mayR ⟨k, [], bs⟩ = false := by
  unfold mayR
  rw [if_pos (.inr ⟨hk5, fun e => by (have e' : bs = [] := e); rw [e'] at h; simp at h⟩)]
theorem mayR_5 (bs : List UInt8) : mayR ⟨5, [], bs⟩ = (decide (1 ≤ bs.length) && decide (bs.length ≤ 131072)) := by simp [mayR]
theorem mayR_k {k : Nat} (hk : k ≠ 1) (hk5 : k ≠ 5) : mayR ⟨k, [], []⟩ = (decide (1 ≤ k) && decide (k ≤ 7)) := by simp [mayR, hk, hk5]

set_option maxRecDepth 100000 in
set_option maxHeartbeats 4000000 in
theorem mayTell_n (K : Int) (k n cn m cb : Nat) (an ab : Option Addr) (ns : List Int) (bs : List UInt8) (w : World) (hK : K = (k : Int)) (hns : Lies w an (IV ns)) (hn : ns.length = n) (hm : bs.length = m) (hnm : n ≤ maxLen) (hmm : m ≤ maxLen) :
    Calls Try.prog 22 #[.agg #[.int .u8 K, .slice an n cn, .slice ab m cb]] w fun e w' => e = .returned (.bool (mayR ⟨k, ns, bs⟩)) ∧ w.grownBy w' none := by
  unfold maxLen at hnm hmm
  have HNS := Lib.hid hns
  have HN := Lib.hid hn
  have HM := Lib.hid hm
  clear hns hn hm
  by_cases h1 : k = 1
  · subst h1
    have hK1 : K = 1 := hK
    subst hK1
    clear hK
    by_cases hm0 : 0 < m
    · rw [mayR_1b ns (by have := HM.out; omega)]
      have hd : decide (0 < m) = true := decide_eq_true hm0
      have hd2 : decide ((0 : Int) < (m : Int)) = true := decide_eq_true (by omega)
      go_enter Try.func22, Try.ntmps22
      go_wp2_with (refine wpList_boxed rfl rfl #[.int .u8 1, .slice an n cn, .slice ab m cb] rfl ?_; intro wb hsb hgb hrb; have c0 := Row.cell hrb 0; have c1 := Row.cell hrb 1; have c2 := Row.cell hrb 2; simp at c0 c1 c2; have HG := Lib.hid hgb; clear hsb hgb hrb)
      go_ret
      exact ⟨rfl, HG.out⟩
    · obtain rfl : m = 0 := by omega
      have hb := List.eq_nil_of_length_eq_zero HM.out
      subst hb
      rw [mayR_1]
      clear hm0
      go_enter Try.func22, Try.ntmps22
      go_wp2_with (refine wpList_boxed rfl rfl #[.int .u8 1, .slice an n cn, .slice ab 0 cb] rfl ?_; intro wb hsb hgb hrb; have c0 := Row.cell hrb 0; have c1 := Row.cell hrb 1; have c2 := Row.cell hrb 2; simp at c0 c1 c2; have HG := Lib.hid hgb; clear hsb hgb hrb)
      go_loopw [32] (fun vi wr => ∃ j : Nat, j ≤ n ∧ vi = .int .i64 (j : Int) ∧ wr = wb ∧ ∀ i, i < j → okI ns i = true) (fun vi _ => n - (intOf vi).toNat)
      case atStart => exact ⟨0, by omega, rfl, rfl, fun i h => absurd h (by omega)⟩
      case round =>
        obtain ⟨j, hj, rfl, rfl, hok⟩ := hrel
        have HOK := Lib.hid hok
        clear hok
        by_cases hlt : j < n
        · obtain ⟨b, off, rfl, hc⟩ := ints_cells (HNS.out.grown HG.out) (by have := HN.out; omega)
          obtain ⟨x, hx⟩ : ∃ x, x = ns.getD j 0 := ⟨_, rfl⟩
          obtain ⟨y, hy⟩ : ∃ y, y = ns.getD (j - 1) 0 := ⟨_, rfl⟩
          have hcj := hc j (by have := HN.out; omega)
          have hcp := hc (j - 1) (by have := HN.out; omega)
          rw [← hx] at hcj
          rw [← hy] at hcp
          have hoj : okI ns j = (decide (0 ≤ x) && decide (x < 255) && (decide (j = 0) || decide (y < x))) := by rw [hx, hy]; rfl
          have HOJ := Lib.hid hoj
          clear hc hoj hx hy
          by_cases hx1 : (decide (0 ≤ x) && decide (x < 255)) = true
          · by_cases hj0 : j = 0
            · subst hj0
              simp only [Nat.add_zero] at hcj
              go_wp2_with fail
              refine (number_n x _).mono ?_
              rintro e w' ⟨rfl, rfl⟩
              rw [hx1]
              go_wp2_with fail
              go_roundw
              case rel =>
                refine ⟨1, by omega, by first | rfl | go_num, by first | rfl | trivial, fun i hi => ?_⟩
                obtain rfl : i = 0 := by omega
                rw [HOJ.out, hx1]
                rfl
              case measure => simp [intOf]; omega
            · have hj1 : decide (0 < j) = true := decide_eq_true (by omega)
              have hj2 : decide ((0 : Int) < (j : Int)) = true := decide_eq_true (by omega)
              have hjm : ((j - 1 : Nat) : Int) = (j : Int) - 1 := by omega
              by_cases hxy : y < x
              · have hd : decide (x ≤ y) = false := decide_eq_false (by omega)
                go_wp2_with fail
                refine (number_n x _).mono ?_
                rintro e w' ⟨rfl, rfl⟩
                rw [hx1]
                go_wp2_with fail
                go_roundw
                case rel =>
                  refine ⟨j + 1, by omega, by first | rfl | go_num, by first | rfl | trivial, fun i hi => ?_⟩
                  by_cases e : i = j
                  · subst e
                    rw [HOJ.out, hx1, decide_eq_true hxy]
                    simp
                  · exact HOK.out i (by omega)
                case measure => simp [intOf]; omega
              · have hd : decide (x ≤ y) = true := decide_eq_true (by omega)
                go_wp2_with fail
                refine (number_n x _).mono ?_
                rintro e w' ⟨rfl, rfl⟩
                rw [hx1]
                go_wp2_with fail
                go_ret
                refine ⟨ret_bool ?_, HG.out⟩
                rw [eq_comm, ← Bool.not_eq_true, incr_okI]
                intro h
                have := h j (by have := HN.out; omega)
                rw [HOJ.out, decide_eq_false (show ¬ y < x by omega), decide_eq_false hj0] at this
                simp at this
          · go_wp2_with fail
            refine (number_n x _).mono ?_
            rintro e w' ⟨rfl, rfl⟩
            rw [Bool.not_eq_true] at hx1
            rw [hx1]
            go_wp2_with fail
            go_ret
            refine ⟨ret_bool ?_, HG.out⟩
            rw [eq_comm, ← Bool.not_eq_true, incr_okI]
            intro h
            have := h j (by have := HN.out; omega)
            rw [HOJ.out, hx1] at this
            simp at this
        · go_wp2_with fail
          go_ret
          refine ⟨ret_bool ?_, HG.out⟩
          rw [eq_comm, incr_okI]
          intro i hi
          exact HOK.out i (by have := HN.out; omega)
  · have hb1 : (K == 1) = false := by rw [beq_eq_false_iff_ne]; omega
    have hb2 : (K != 1) = true := by rw [bne_iff_ne]; omega
    by_cases hn0 : 0 < n
    · rw [mayR_n h1 (by have := HN.out; omega)]
      have hd : decide (0 < n) = true := decide_eq_true hn0
      have hd2 : decide ((0 : Int) < (n : Int)) = true := decide_eq_true (by omega)
      go_enter Try.func22, Try.ntmps22
      go_wp2_with (refine wpList_boxed rfl rfl #[.int .u8 K, .slice an n cn, .slice ab m cb] rfl ?_; intro wb hsb hgb hrb; have c0 := Row.cell hrb 0; have c1 := Row.cell hrb 1; have c2 := Row.cell hrb 2; simp at c0 c1 c2; have HG := Lib.hid hgb; clear hsb hgb hrb)
      go_ret
      exact ⟨rfl, HG.out⟩
    · obtain rfl : n = 0 := by omega
      have hb := List.eq_nil_of_length_eq_zero HN.out
      subst hb
      clear hn0
      by_cases h5 : k = 5
      · subst h5
        have hK5 : K = 5 := hK
        subst hK5
        clear hK hb1 hb2
        rw [mayR_5, HM.out]
        have hdm : decide (1 ≤ (m : Int)) = decide (1 ≤ m) := by congr 1; exact propext ⟨fun h => by omega, fun h => by omega⟩
        have hdm2 : decide ((m : Int) ≤ 131072) = decide (m ≤ 131072) := by congr 1; exact propext ⟨fun h => by omega, fun h => by omega⟩
        by_cases hm1 : 1 ≤ m
        · have e1 : decide (1 ≤ m) = true := decide_eq_true hm1
          rw [e1] at hdm
          rw [e1, Bool.true_and]
          by_cases hm2 : m ≤ 131072
          · have e2 : decide (m ≤ 131072) = true := decide_eq_true hm2
            rw [e2] at hdm2
            rw [e2]
            go_enter Try.func22, Try.ntmps22
            go_wp2_with (refine wpList_boxed rfl rfl #[.int .u8 5, .slice an 0 cn, .slice ab m cb] rfl ?_; intro wb hsb hgb hrb; have c0 := Row.cell hrb 0; have c1 := Row.cell hrb 1; have c2 := Row.cell hrb 2; simp at c0 c1 c2; have HG := Lib.hid hgb; clear hsb hgb hrb)
            go_ret
            exact ⟨rfl, HG.out⟩
          · have e2 : decide (m ≤ 131072) = false := decide_eq_false hm2
            rw [e2] at hdm2
            rw [e2]
            go_enter Try.func22, Try.ntmps22
            go_wp2_with (refine wpList_boxed rfl rfl #[.int .u8 5, .slice an 0 cn, .slice ab m cb] rfl ?_; intro wb hsb hgb hrb; have c0 := Row.cell hrb 0; have c1 := Row.cell hrb 1; have c2 := Row.cell hrb 2; simp at c0 c1 c2; have HG := Lib.hid hgb; clear hsb hgb hrb)
            go_ret
            exact ⟨rfl, HG.out⟩
        · have e1 : decide (1 ≤ m) = false := decide_eq_false hm1
          rw [e1] at hdm
          rw [e1, Bool.false_and]
          go_enter Try.func22, Try.ntmps22
          go_wp2_with (refine wpList_boxed rfl rfl #[.int .u8 5, .slice an 0 cn, .slice ab m cb] rfl ?_; intro wb hsb hgb hrb; have c0 := Row.cell hrb 0; have c1 := Row.cell hrb 1; have c2 := Row.cell hrb 2; simp at c0 c1 c2; have HG := Lib.hid hgb; clear hsb hgb hrb)
          go_ret
          exact ⟨rfl, HG.out⟩
      · have hc1 : (K == 5) = false := by rw [beq_eq_false_iff_ne]; omega
        have hc2 : (K != 5) = true := by rw [bne_iff_ne]; omega
        by_cases hm0 : 0 < m
        · rw [mayR_b h1 h5 (by have := HM.out; omega)]
          have hd : decide (0 < m) = true := decide_eq_true hm0
          have hd2 : decide ((0 : Int) < (m : Int)) = true := decide_eq_true (by omega)
          go_enter Try.func22, Try.ntmps22
          go_wp2_with (refine wpList_boxed rfl rfl #[.int .u8 K, .slice an 0 cn, .slice ab m cb] rfl ?_; intro wb hsb hgb hrb; have c0 := Row.cell hrb 0; have c1 := Row.cell hrb 1; have c2 := Row.cell hrb 2; simp at c0 c1 c2; have HG := Lib.hid hgb; clear hsb hgb hrb)
          go_ret
          exact ⟨rfl, HG.out⟩
        · obtain rfl : m = 0 := by omega
          have hb := List.eq_nil_of_length_eq_zero HM.out
          subst hb
          rw [mayR_k h1 h5]
          clear hm0
          have hk1 : decide (1 ≤ K) = decide (1 ≤ k) := by congr 1; exact propext ⟨fun h => by omega, fun h => by omega⟩
          have hk7 : decide (K ≤ 7) = decide (k ≤ 7) := by congr 1; exact propext ⟨fun h => by omega, fun h => by omega⟩
          by_cases hx1 : 1 ≤ k
          · have e1 : decide (1 ≤ k) = true := decide_eq_true hx1
            rw [e1] at hk1
            rw [e1, Bool.true_and, ← hk7]
            clear hk7 hK
            go_enter Try.func22, Try.ntmps22
            go_wp2_with (refine wpList_boxed rfl rfl #[.int .u8 K, .slice an 0 cn, .slice ab 0 cb] rfl ?_; intro wb hsb hgb hrb; have c0 := Row.cell hrb 0; have c1 := Row.cell hrb 1; have c2 := Row.cell hrb 2; simp at c0 c1 c2; have HG := Lib.hid hgb; clear hsb hgb hrb)
            go_ret
            exact ⟨rfl, HG.out⟩
          · have e1 : decide (1 ≤ k) = false := decide_eq_false hx1
            rw [e1] at hk1
            rw [e1, Bool.false_and]
            clear hk7 hK
            go_enter Try.func22, Try.ntmps22
            go_wp2_with (refine wpList_boxed rfl rfl #[.int .u8 K, .slice an 0 cn, .slice ab 0 cb] rfl ?_; intro wb hsb hgb hrb; have c0 := Row.cell hrb 0; have c1 := Row.cell hrb 1; have c2 := Row.cell hrb 2; simp at c0 c1 c2; have HG := Lib.hid hgb; clear hsb hgb hrb)
            go_ret
            exact ⟨rfl, HG.out⟩
end Go.Proofs.Ytkdmebcfedehiaa
/- append of made zeros to a row that the call owns. -/
namespace Go.Proofs.Ytkdmebcfedehiaa
open Go.RowKit

section
variable {P : Program}

theorem zero_cells_one (z : Value) (k : Nat) : Builtin.zeroCells #[z] k = (List.replicate k z).toArray := by
  apply Array.toList_inj.1
  simp [Builtin.zeroCells]
  apply List.ext_getElem
  · simp
  · intro i h1 h2
    simp [Nat.mod_one]

theorem firstCells_own (w : World) {e : TypeId} {base : Nat} {a : Option Addr} {n c : Nat} {xs : List Value} (hown : Own w base e 1 a n c xs) : (Builtin.firstCells 1 n (.slice a n c)).run P w.drew = .ok xs.toArray w.drew := by
  rcases hown.2 with ⟨rfl, rfl⟩ | ⟨g, cur, rfl, hbg, hg, hnc, hcm, hcs, htake⟩
  · have hx : xs = [] := List.eq_nil_of_length_eq_zero (by simpa using hown.1)
    subst hx
    cases a with
    | none => exact run_firstCells_none ..
    | some ad => exact run_firstCells_some (P := P) w.drew 1 0 ad 0 0 [] (by simp) (by simp)
  · exact run_firstCells_some (P := P) w.drew 1 n ⟨g, 0, none⟩ n c xs (by simpa using hown.1) (by
      intro j u hu
      have hadd : (⟨g, 0, none⟩ : Addr).add j = ⟨g, j, none⟩ := by unfold Addr.add; split <;> simp_all
      obtain ⟨hj, rfl⟩ := List.getElem?_eq_some_iff.1 hu
      obtain ⟨g', e1, _, _, hc, _⟩ := hown.cell j hj
      obtain rfl : g = g' := by simpa using e1
      rw [hadd]; exact hc)

theorem run_appz (w : World) {t tn ty e : TypeId} {z : Value} {bytes : Nat} (H : El P t e z 1 bytes) (hz1 : z.cells = #[z]) (ho1 : z.oneCell' = true) {kn : IntKind} (htn : P.underlying tn = some (.int kn)) {base : Nat} {a : Option Addr} {n c : Nat} {xs : List Value} (hown : Own w base e 1 a n c xs)
    (k : Nat) (hk : 0 < k) (h63 : n + k ≤ maxLen) (hbytes : (n + k) * bytes ≤ 140737488355328) (hbase : base ≤ w.heap.size) (kq : IntKind) :
    ∃ g c' w1, (Builtin.append_ #[t, tn] ty #[.slice a n c, .int kq k]).run P w = .ok (.slice (some ⟨g, 0, none⟩) (n + k) c') w1 ∧ Own w1 base e 1 (some ⟨g, 0, none⟩) (n + k) c' (xs ++ List.replicate k z) ∧ GrewP w w1 a c (some ⟨g, 0, none⟩) c' := by
  obtain ⟨ht, ⟨i, hi, hz, hs1, rfl⟩, hzs, hsz⟩ := H
  have hsmall : n + k ≤ 9223372036854775807 := by simp only [maxLen] at h63; omega
  have hxl : xs.length = n := by simpa using hown.1
  have hlen : (xs ++ List.replicate k z).length = (n + k) * 1 := by simp [hxl]
  have hkb : k * i.bytes ≤ 281474976710656 := by have : k * i.bytes ≤ (n + k) * i.bytes := Nat.mul_le_mul_right _ (by omega); omega
  by_cases hroom : n + k ≤ c
  · rcases hown.2 with ⟨rfl, rfl⟩ | ⟨g, cur, rfl, hbg, hg, hnc, hcm, hcs, htake⟩
    · omega
    · have hrl : (List.replicate k z).length = k := by simp
      have hst := run_storeCells_at (P := P) g n e (List.replicate k z) 0 cur w hg (by simp; omega) (by intro v hv; rw [List.eq_of_mem_replicate hv]; exact ho1)
      simp only [Nat.add_zero, hrl] at hst
      have hw : IntKind.i64.wrap (k : Int) = k := by rw [IntKind.wrap_i64]; omega
      have hneg : ¬ ((k : Int) < 0) := by omega
      have hadd : (⟨g, 0, none⟩ : Addr).add n = ⟨g, n, none⟩ := by unfold Addr.add; split <;> simp_all
      have h48i : ¬ (281474976710656 < (k : Int) * (i.bytes : Int)) := by rw [← Int.natCast_mul]; omega
      have hk0 : k ≠ 0 := by omega
      have hr : (Builtin.append_ #[t, tn] ty #[.slice (some ⟨g, 0, none⟩) n c, .int kq k]).run P w = .ok (.slice (some ⟨g, 0, none⟩) (n + k) c) (w.setRow g (cur.toList.take n ++ List.replicate k z ++ cur.toList.drop (n + k)).toArray) := by
        simp [Builtin.append_, run_underlying ht, run_underlying htn, sizeOf, typeInfo, zeroValue, hi, hz, hz1, hs1, asInt, asIntOf, hw, hneg, h48i, hroom, hk0, zero_cells_one, hadd, hst]
      refine ⟨_, _, _, hr, ⟨hlen, .inr ⟨g, _, rfl, hbg, setRow_heap w g cur _ e _ hg, hroom, hcm, ?_, ?_⟩⟩, .inl ⟨g, rfl, rfl, by omega, rfl, ⟨rfl, rfl, rfl, by simp, fun k _ hk => setRow_other w g k _ (fun e => hk (by simp [e]))⟩⟩⟩
      · simp
        omega
      · have ht' : List.take n cur.toList = xs := by rw [← htake, Nat.mul_one]
        rw [ht', ← hlen]
        exact List.take_left
  · have hr := Lib.run_append_grow_zeros (P := P) w t tn ty e i z kq kn ht htn hi hz a n c xs (by rw [hs1]; exact firstCells_own w hown) k hk (by omega) (by omega) (by omega) hkb (growslice_fits (by omega) hbytes)
    have hge := grownCap_ge w (n + k) c e
    have hcm : grownCap w (n + k) c e ≤ maxLen := grownCap_le_maxLen w (n + k) c e h63
    refine ⟨_, _, _, hr, ⟨hlen, .inr ⟨w.heap.size, _, rfl, hbase, heap_alloc_new w.drew _, hge, hcm, ?_, ?_⟩⟩, .inr ⟨_, rfl, Nat.le_refl _, ⟨rfl, rfl, rfl, by simp, fun k hk _ => Below.heap_alloc w.drew _ k hk⟩⟩⟩
    · rw [hz1, zero_cells_one, zero_cells_one]
      simp [hxl]
      omega
    · rw [hz1, zero_cells_one, zero_cells_one]
      simp only [Array.toList_append, ← hlen]
      exact List.take_left

end

end Go.Proofs.Ytkdmebcfedehiaa
/- strongroomkit.KeptBytes, OverBytes. -/
namespace Go.Proofs.Ytkdmebcfedehiaa
open Go.RowKit

set_option maxRecDepth 100000 in
set_option maxHeartbeats 1000000 in
theorem kept_any (a a' : Option Addr) (c c' : Nat) (lf l : List UInt8) (w : World) (hf : BLies w a lf) (hl : BLies w a' l) (hn : l.length ≤ 4000000000) (hm : lf.length ≤ maxLen) :
    Calls Try.prog 42 #[.slice a lf.length c, .slice a' l.length c'] w fun e w' => e = .returned (.bool (decide (lf = lent l))) ∧ w.grownBy w' none := by
  have HF : Hid (BLies w a lf) := hf
  have HL : Hid (BLies w a' l) := hl
  have e70 : l.length + 70 = (lent l).length := (lent_length l).symm
  have HE : Hid (l.length + 70 = (lent l).length) := e70
  clear hf hl e70
  go_enter Try.func42, Try.ntmps42
  go_wp2_with fail
  refine (lent_any _ _ _ _ HL.out hn).mono ?_
  rintro e w1 ⟨g, cap, rfl, hown, hg⟩
  go_wp2_with fail
  rw [HE.out]
  refine (same_any _ _ _ _ _ _ _ (HF.out.grown hg) hown.lies hm).mono ?_
  rintro e w2 ⟨rfl, n, rfl⟩
  go_wp2_with fail
  go_ret
  exact ⟨rfl, grownBy_trans hg (grownBy_drewN _ _ _)⟩

/-- what OverBytes leaves -/
def over (n : Nat) : List UInt8 := (List.range n).map fun (i : Nat) => mrk 7 ((i : Int) + 3)
theorem over_succ (n : Nat) : over (n + 1) = over n ++ [mrk 7 ((n : Int) + 3)] := by simp [over, List.range_succ]
theorem over_length (n : Nat) : (over n).length = n := by simp [over]

theorem over_step {k : Nat} {l : List UInt8} (h : k < l.length) : ((over k ++ l.drop k).map bval).set k (.int .u8 ((mrk 7 ((k : Int) + 3)).toNat : Int)) = (over (k + 1) ++ l.drop (k + 1)).map bval := by
  have e1 : l.drop k = l[k] :: l.drop (k + 1) := by simp
  rw [e1, over_succ, List.map_append, List.map_cons, List.set_append_right _ _ (by simp [over_length])]
  simp [over_length, bval]

set_option maxRecDepth 100000 in
set_option maxHeartbeats 1000000 in
theorem over_any (base g c : Nat) (l : List UInt8) (w : World) (ho : BOwn w base (some ⟨g, 0, none⟩) l.length c l) (hn : l.length ≤ 4000000100) :
    Calls Try.prog 44 #[.slice (some ⟨g, 0, none⟩) l.length c] w fun e w' => e = .returned (.tuple #[]) ∧ BOwn w' base (some ⟨g, 0, none⟩) l.length c (over l.length) ∧ w.grownBy w' (some g) := by
  go_enter Try.func44, Try.ntmps44
  go_wp2
  go_loopw [2] (fun i wr => ∃ k : Nat, k ≤ l.length ∧ i = .int .i64 k ∧ BOwn wr base (some ⟨g, 0, none⟩) l.length c (over k ++ l.drop k) ∧ w.grownBy wr (some g)) (fun i _ => l.length - (intOf i).toNat)
  case atStart => exact ⟨0, by omega, rfl, by simpa [over] using ho, World.grownBy.refl _ _⟩
  case round =>
    obtain ⟨k, hk, rfl, hown, hg⟩ := hrel
    by_cases hlt : k < l.length
    · obtain ⟨g', e1, _, _, hc, hf⟩ := Own.cell hown k (by simp [over_length]; omega)
      obtain rfl : g = g' := by simpa using e1
      clear e1
      have hset := Own.set hown k (by simp [over_length]; omega) (.int .u8 ((mrk 7 ((k : Int) + 3)).toNat : Int))
      rw [over_step hlt] at hset
      obtain ⟨u0, hu0⟩ : ∃ u0, wr.cell? ⟨g, k, none⟩ = some u0 := ⟨_, hc⟩
      clear hc
      go_wp2_with (go_at_call 46; refine (mark_any _ _ _ (by omega) (by omega)).mono ?_; rintro e w' ⟨rfl, rfl⟩)
      go_roundw
      case rel => exact ⟨k + 1, by omega, by go_num, hset, grownBy_trans hg (grownBy_setCell _ _ _ _)⟩
      case measure => simp [intOf]; omega
    · obtain rfl : k = l.length := by omega
      go_wp2
      go_end0
      exact ⟨rfl, by simpa using hown, hg⟩

/-- what LentBytes answered is as it was -/
theorem kept_yes (a a' : Option Addr) (c c' n m : Nat) (l : List UInt8) (w : World) (hf : BLies w a (lent l)) (hl : BLies w a' l) (hn : l.length = n) (hm : n + 70 = m) (hle : n ≤ 4000000000) :
    Calls Try.prog 42 #[.slice a m c, .slice a' n c'] w fun e w' => e = .returned (.bool true) ∧ w.grownBy w' none := by
  subst hn; subst hm
  rw [← lent_length]
  exact (kept_any a a' c c' (lent l) l w hf hl hle (by rw [lent_length]; unfold maxLen; omega)).mono fun e w' ⟨h1, h2⟩ => ⟨by rw [h1]; simp, h2⟩
theorem over_n (base g c n : Nat) (l : List UInt8) (w : World) (ho : BOwn w base (some ⟨g, 0, none⟩) n c l) (hn : n ≤ 4000000100) :
    Calls Try.prog 44 #[.slice (some ⟨g, 0, none⟩) n c] w fun e w' => e = .returned (.tuple #[]) ∧ BOwn w' base (some ⟨g, 0, none⟩) n c (over n) ∧ w.grownBy w' (some g) := by
  obtain rfl := ho.len
  exact over_any base g c l w ho hn

end Go.Proofs.Ytkdmebcfedehiaa
/- What ApartBytes leans on: slices as values, lists of slices that own their rows, and what each loop's round does to them. No walk. -/
namespace Go.Proofs.Ytkdmebcfedehiaa
open Go.RowKit

/-- a slice's value -/
structure Sl where
  a : Option Addr
  n : Nat
  c : Nat
def Sl.val (s : Sl) : Value := .slice s.a s.n s.c
/-- the block in which it has room -/
def Sl.blk (s : Sl) : Option Nat := if s.c = 0 then none else s.a.map (·.block)

/-- the marks of list k -/
def mkl (k n : Nat) : List UInt8 := (List.range n).map fun (i : Nat) => mrk ((k : Int) + 1) (i : Int)
theorem mkl_succ (k n : Nat) : mkl k (n + 1) = mkl k n ++ [mrk ((k : Int) + 1) (n : Int)] := by simp [mkl, List.range_succ]
theorem mkl_length (k n : Nat) : (mkl k n).length = n := by simp [mkl]
theorem mkl_take (k n m : Nat) (h : m ≤ n) : (mkl k n).take m = mkl k m := by
  simp [mkl, ← List.map_take, List.take_range, Nat.min_eq_left h]
theorem mkl_get (k n i : Nat) (h : i < (mkl k n).length) : (mkl k n)[i] = mrk ((k : Int) + 1) (i : Int) := by simp [mkl]

/-- a slice of slices of bytes that the call owns -/
def SOwn (w : World) (base : Nat) (a : Option Addr) (n c : Nat) (L : List Sl) : Prop := Own w base 24 1 a n c (L.map Sl.val)

theorem SOwn.len {w : World} {base : Nat} {a : Option Addr} {n c : Nat} {L : List Sl} (h : SOwn w base a n c L) : L.length = n := by
  have := h.1; simpa using this

theorem elS : El Try.prog 52 24 (.slice none 0 0) 1 24 :=
  ⟨Try.underlying52, info_parts (by kernel_rfl), rfl, by decide⟩

/-- rows of unlike element types lie in unlike blocks -/
theorem own_ne {w : World} {base base' : Nat} {e e' size size' : Nat} {g g' n n' c c' : Nat} {xs ys : List Value} (h : Own w base e size (some ⟨g, 0, none⟩) n c xs) (h' : Own w base' e' size' (some ⟨g', 0, none⟩) n' c' ys) (hc : 0 < c) (hc' : 0 < c') (hne : e ≠ e') : g ≠ g' := by
  rcases h.2 with ⟨_, h0⟩ | ⟨_, cur, ha, _, hh, _⟩
  · omega
  rcases h'.2 with ⟨_, h0⟩ | ⟨_, cur', ha', _, hh', _⟩
  · omega
  rintro rfl
  injection ha with ha; injection ha with ha1
  injection ha' with ha'; injection ha' with ha'1
  subst ha1; subst ha'1
  rw [hh] at hh'
  injection hh' with hh'
  injection hh' with _ h2 _
  exact hne h2

/-- a store into a row of bytes leaves a row of another type -/
theorem Own.setOther {w : World} {base base' : Nat} {e e' size size' : Nat} {a : Option Addr} {g n n' c c' : Nat} {xs ys : List Value} (h : Own w base e size a n c xs) (h' : Own w base' e' size' (some ⟨g, 0, none⟩) n' c' ys) (hc' : 0 < c') (hne : e ≠ e') (k : Nat) (u : Value) : Own (w.setCell ⟨g, k, none⟩ u) base e size a n c xs := by
  by_cases hc : 0 < c
  · obtain ⟨g2, rfl, _, _⟩ := h.block hc
    have hn := own_ne h h' hc hc' hne
    exact h.kept fun g3 e3 _ => Below.heap_setCell _ _ _ _ (by injection e3 with e3; injection e3 with e3; subst e3; exact hn)
  · refine ⟨h.1, .inl ?_⟩
    rcases h.2 with h0 | ⟨_, _, _, _, _, hn, _⟩
    · exact h0
    · exact ⟨by omega, by omega⟩

/-- the lists lie apart -/
def Distinct (L : List Sl) : Prop := ∀ i j (hi : i < L.length) (hj : j < L.length), i ≠ j → ∀ g, (L[i]).blk = some g → (L[j]).blk ≠ some g

theorem BOwn.grown {w w' : World} {base : Nat} {a : Option Addr} {n c : Nat} {l : List UInt8} (h : BOwn w base a n c l) (hg : w.grownBy w' none) : BOwn w' base a n c l :=
  Own.kept h fun g _ hl => hg.block g hl (by simp)
theorem BOwn.drewN {w : World} {base : Nat} {a : Option Addr} {n c : Nat} {l : List UInt8} (h : BOwn w base a n c l) (m : Nat) : BOwn (w.drewN m) base a n c l := h
theorem BOwn.mono {w : World} {base base' : Nat} {a : Option Addr} {n c : Nat} {l : List UInt8} (h : BOwn w base a n c l) (hb : base' ≤ base) : BOwn w base' a n c l := Own.mono h hb

/-- phase 1: the lists below k bear their marks, list k the first i of them -/
structure St1 (base : Nat) (als : Option Addr) (cls : Nat) (L : List Sl) (w : World) (k i : Nat) (wr : World) : Prop where
  outer : SOwn wr base als L.length cls L
  inner : ∀ j (hj : j < L.length), ∃ l, BOwn wr base (L[j]).a (L[j]).n (L[j]).c l ∧ (j < k → l = mkl j (L[j]).n) ∧ (j = k → l.take i = mkl k i)
  below : Below base w wr

theorem St1.drewN {base : Nat} {als : Option Addr} {cls : Nat} {L : List Sl} {w : World} {k i : Nat} {wr : World} (h : St1 base als cls L w k i wr) (n : Nat) : St1 base als cls L w k i (wr.drewN n) :=
  ⟨h.outer, h.inner, h.below.trans ⟨rfl, rfl, rfl, Nat.le_refl _, fun _ _ => rfl⟩⟩
theorem St1.drew {base : Nat} {als : Option Addr} {cls : Nat} {L : List Sl} {w : World} {k i : Nat} {wr : World} (h : St1 base als cls L w k i wr) : St1 base als cls L w k i wr.drew := h.drewN 1

theorem St1.next {base : Nat} {als : Option Addr} {cls : Nat} {L : List Sl} {w : World} {k i : Nat} {wr : World} (h : St1 base als cls L w k i wr) (hk : k < L.length) (hi : i = (L[k]).n) : St1 base als cls L w (k + 1) 0 wr := by
  refine ⟨h.outer, fun j hj => ?_, h.below⟩
  obtain ⟨l, ho, h1, h2⟩ := h.inner j hj
  refine ⟨l, ho, fun hjk => ?_, fun _ => by simp [mkl]⟩
  by_cases e : j = k
  · subst e
    have := h2 rfl
    rw [hi, List.take_of_length_le (by rw [ho.len]; omega)] at this
    exact this
  · exact h1 (by omega)

theorem take_set_succ {l : List UInt8} {i : Nat} (hi : i < l.length) (x : UInt8) : (l.set i x).take (i + 1) = l.take i ++ [x] := by
  rw [List.take_succ_eq_append_getElem (by simpa using hi), List.take_set_of_le (Nat.le_refl _)]
  simp

theorem St1.store {base : Nat} {als : Option Addr} {cls : Nat} {L : List Sl} {w : World} {k i : Nat} {wr : World} (h : St1 base als cls L w k i wr) (hd : Distinct L) (hk : k < L.length) (hi : i < (L[k]).n) :
    ∃ g, (L[k]).a = some ⟨g, 0, none⟩ ∧ (∃ u, wr.cell? ⟨g, i, none⟩ = some u) ∧ wr.frozen? ⟨g, i, none⟩ = false ∧ St1 base als cls L w k (i + 1) (wr.setCell ⟨g, i, none⟩ (.int .u8 ((mrk ((k : Int) + 1) (i : Int)).toNat : Int))) := by
  obtain ⟨l, ho, _, h2⟩ := h.inner k hk
  have hlen := ho.len
  obtain ⟨g, ha, hb, hlt, hc, hf⟩ := Own.cell ho i (by simp; omega)
  have hpos : 0 < (L[k]).c := by
    rcases ho.2 with ⟨h0, _⟩ | ⟨_, _, _, _, _, hn, _⟩ <;> omega
  have hblk : (L[k]).blk = some g := by simp [Sl.blk, Nat.ne_of_gt hpos, ha]
  refine ⟨g, ha, ⟨_, hc⟩, hf, ?_, fun j hj => ?_, h.below.trans ((Below.refl base wr).setCell (p := ⟨g, i, none⟩) hb _)⟩
  · exact Own.setOther h.outer (by rw [ha] at ho; exact ho) hpos (by decide) _ _
  · by_cases e : j = k
    · subst e
      refine ⟨l.set i (mrk ((j : Int) + 1) (i : Int)), ?_, fun hj' => by omega, fun _ => ?_⟩
      · rw [ha] at ho ⊢
        have := Own.set ho i (by simp; omega) (.int .u8 ((mrk ((j : Int) + 1) (i : Int)).toNat : Int))
        unfold BOwn
        rw [List.map_set]
        exact this
      · rw [take_set_succ (by omega), h2 rfl, mkl_succ]
    · obtain ⟨lj, hoj, h1j, _⟩ := h.inner j hj
      refine ⟨lj, ?_, h1j, fun e' => absurd e' e⟩
      refine hoj.kept' fun hcj g' hg' _ => Below.heap_setCell _ _ _ _ ?_
      rintro rfl
      exact hd j k hj hk e g' (by simp [Sl.blk, Nat.ne_of_gt hcj, hg']) hblk

/-- what is owned stays owned where another block is written -/
theorem Own.grownNe {w w' : World} {base : Nat} {e : TypeId} {size : Nat} {a : Option Addr} {n c : Nat} {xs : List Value} {row : Option Nat} (h : Own w base e size a n c xs) (hg : w.grownBy w' row) (hne : ∀ g, 0 < c → a = some ⟨g, 0, none⟩ → row ≠ some g) : Own w' base e size a n c xs :=
  h.kept' fun hc g ha hl => hg.block g hl (fun e => hne g hc ha e.symm)
theorem Own.grownNone {w w' : World} {base : Nat} {e : TypeId} {size : Nat} {a : Option Addr} {n c : Nat} {xs : List Value} (h : Own w base e size a n c xs) (hg : w.grownBy w' none) : Own w' base e size a n c xs :=
  h.grownNe hg (by simp)
/-- an append to a row of another type -/
theorem Own.grewOther {w w' : World} {base base' : Nat} {e e' size size' : Nat} {a a' a2 : Option Addr} {n n' c c' c2 : Nat} {xs ys : List Value} (h : Own w base e size a n c xs) (h' : Own w base' e' size' a' n' c' ys) (hg : GrewP w w' a' c' a2 c2) (hne : e ≠ e') : Own w' base e size a n c xs := by
  rcases hg with ⟨g, rfl, rfl, hc', _, hg⟩ | ⟨g, _, _, hg⟩
  · refine h.grownNe hg fun g' hc ha => ?_
    subst ha
    have := own_ne h h' hc hc' hne
    intro e; injection e with e; exact this e.symm
  · exact h.grownNone hg

theorem Sl.blk_some {s : Sl} {g : Nat} (hc : 0 < s.c) (ha : s.a = some ⟨g, 0, none⟩) : s.blk = some g := by
  simp [Sl.blk, Nat.ne_of_gt hc, ha]
theorem BOwn.blk {w : World} {base : Nat} {s : Sl} {l : List UInt8} (h : BOwn w base s.a s.n s.c l) {g : Nat} (hb : s.blk = some g) : 0 < s.c ∧ s.a = some ⟨g, 0, none⟩ := by
  unfold Sl.blk at hb
  split at hb
  · cases hb
  · rename_i hc
    obtain ⟨g', ha, _, _⟩ := Own.block h (by omega)
    rw [ha] at hb
    simp at hb
    subst hb
    exact ⟨by omega, ha⟩

/-- phase 2: to the copies below k the marks behind their lists have been appended -/
structure St2 (base : Nat) (als : Option Addr) (cls : Nat) (L : List Sl) (w : World) (B : Nat) (k : Nat) (ags : Option Addr) (cgs : Nat) (G : List Sl) (wr : World) : Prop where
  outer : SOwn wr base als L.length cls L
  gs : SOwn wr B ags k cgs G
  lists : ∀ j (hj : j < L.length), BOwn wr base (L[j]).a (L[j]).n (L[j]).c (mkl j (L[j]).n)
  done : ∀ j (hj : j < L.length) (hG : j < G.length), (G[j]).n = (L[j]).n + 70 ∧ BOwn wr base (G[j]).a (G[j]).n (G[j]).c (mkl j ((L[j]).n + 70)) ∧ ∀ g, (G[j]).blk = some g → (L[j]).blk = some g ∨ B ≤ g
  below : Below base w wr
  size : B ≤ wr.heap.size
  baseB : base ≤ B
  oldO : ∀ g, 0 < cls → als = some ⟨g, 0, none⟩ → g < B
  oldL : ∀ j (hj : j < L.length) g, (L[j]).blk = some g → g < B

theorem St2.start {base : Nat} {als : Option Addr} {cls : Nat} {L : List Sl} {w wr : World} (h : St1 base als cls L w L.length 0 wr) (hb : base ≤ w.heap.size) : St2 base als cls L w wr.heap.size 0 none 0 [] wr where
  outer := h.outer
  gs := Own.nil _ _ _ _ _
  lists := fun j hj => by
    obtain ⟨l, ho, h1, _⟩ := h.inner j hj
    rw [h1 hj] at ho
    exact ho
  done := fun j hj hG => absurd hG (by simp)
  below := h.below
  size := Nat.le_refl _
  baseB := Nat.le_trans hb h.below.size
  oldO := fun g hc ha => by
    obtain ⟨g', ha', _, hlt⟩ := Own.block h.outer hc
    rw [ha] at ha'
    injection ha' with ha'; injection ha' with ha'
    omega
  oldL := fun j hj g hg => by
    obtain ⟨l, ho, _, _⟩ := h.inner j hj
    obtain ⟨hc, ha⟩ := ho.blk hg
    obtain ⟨g', ha', _, hlt⟩ := Own.block ho hc
    rw [ha] at ha'
    injection ha' with ha'; injection ha' with ha'
    omega

/-- the inner loop of phase 2 -/
structure In2 (base : Nat) (L : List Sl) (k : Nat) (hk : k < L.length) (wk : World) (i : Nat) (a : Option Addr) (c : Nat) (wr : World) : Prop where
  row : BOwn wr base a ((L[k]).n + i) c (mkl k ((L[k]).n + i))
  frame : wk.grownBy wr (L[k]).blk
  place : ∀ g, 0 < c → a = some ⟨g, 0, none⟩ → (L[k]).blk = some g ∨ wk.heap.size ≤ g
  list : BOwn wr base (L[k]).a (L[k]).n (L[k]).c (mkl k (L[k]).n)

theorem In2.start {base : Nat} {als : Option Addr} {cls : Nat} {L : List Sl} {w : World} {B k : Nat} {ags : Option Addr} {cgs : Nat} {G : List Sl} {wr : World} (h : St2 base als cls L w B k ags cgs G wr) (hk : k < L.length) : In2 base L k hk wr 0 (L[k]).a (L[k]).c wr :=
  ⟨h.lists k hk, World.grownBy.refl _ _, fun g hc ha => .inl (Sl.blk_some hc ha), h.lists k hk⟩

theorem own_prefix {w w1 : World} {base : Nat} {e : TypeId} {g n n' c c' : Nat} {xs ys : List Value} (h : Own w base e 1 (some ⟨g, 0, none⟩) n c xs) (hc : 0 < c) (h1 : Own w1 base e 1 (some ⟨g, 0, none⟩) n' c' ys) (hcc : c' = c) (hx : ys.take n = xs) (hn : n ≤ n') : Own w1 base e 1 (some ⟨g, 0, none⟩) n c xs := by
  subst hcc
  refine ⟨h.1, .inr ?_⟩
  rcases h.2 with ⟨_, h0⟩ | ⟨g1, cur, ha, hb, hh, hnc, hm, hs, ht⟩
  · omega
  rcases h1.2 with ⟨_, h0⟩ | ⟨g2, cur2, ha2, hb2, hh2, hnc2, hm2, hs2, ht2⟩
  · omega
  refine ⟨g2, cur2, ha2, hb2, hh2, hnc, hm, hs2, ?_⟩
  rw [← hx, ← ht2, List.take_take]
  congr 1
  omega

theorem own_cap {w : World} {base base' : Nat} {e : TypeId} {g n n' c c' : Nat} {xs ys : List Value} (h : Own w base e 1 (some ⟨g, 0, none⟩) n c xs) (h' : Own w base' e 1 (some ⟨g, 0, none⟩) n' c' ys) (hc : 0 < c) (hc' : 0 < c') : c = c' := by
  rcases h.2 with ⟨_, h0⟩ | ⟨g1, cur, ha, hb, hh, hnc, hm, hs, ht⟩
  · omega
  rcases h'.2 with ⟨_, h0⟩ | ⟨g2, cur2, ha2, hb2, hh2, hnc2, hm2, hs2, ht2⟩
  · omega
  injection ha with ha; injection ha with ha
  injection ha2 with ha2; injection ha2 with ha2
  subst ha; subst ha2
  rw [hh] at hh2
  injection hh2 with hh2
  injection hh2 with h1 _ _
  subst h1
  omega

theorem In2.next {base : Nat} {L : List Sl} {k : Nat} {hk : k < L.length} {wk : World} {i : Nat} {a : Option Addr} {c : Nat} {wr : World} (h : In2 base L k hk wk i a c wr) {g c' : Nat} {w1 : World}
    (ho : Own w1 base 5 1 (some ⟨g, 0, none⟩) ((L[k]).n + i + 1) c' ((mkl k ((L[k]).n + i)).map bval ++ [.int .u8 ((mrk ((k : Int) + 1) (((L[k]).n : Int) + (i : Int))).toNat : Int)])) (hg : GrewP wr w1 a c (some ⟨g, 0, none⟩) c') : In2 base L k hk wk (i + 1) (some ⟨g, 0, none⟩) c' w1 := by
  have hrow : BOwn w1 base (some ⟨g, 0, none⟩) ((L[k]).n + (i + 1)) c' (mkl k ((L[k]).n + (i + 1))) := by
    unfold BOwn
    rw [← Nat.add_assoc, mkl_succ, List.map_append]
    have e : (((L[k]).n + i : Nat) : Int) = ((L[k]).n : Int) + (i : Int) := by omega
    rw [e]
    exact ho
  rcases hg with ⟨g1, e1, rfl, hc, hcc, hg⟩ | ⟨g1, e1, hs, hg⟩
  · injection e1 with e1; injection e1 with e1
    subst e1
    have hpl := h.place g hc rfl
    refine ⟨hrow, ?_, fun g2 _ e2 => ?_, ?_⟩
    · rcases hpl with hb | hb
      · rw [hb]; exact grownBy_trans (by have := h.frame; rwa [hb] at this) hg
      · exact ⟨hg.os.trans h.frame.os, hg.tape.trans h.frame.tape, hg.output.trans h.frame.output, Nat.le_trans h.frame.size hg.size, fun b hb1 hb2 => (hg.block b (Nat.lt_of_lt_of_le hb1 h.frame.size) (by simp; omega)).trans (h.frame.block b hb1 hb2)⟩
    · injection e2 with e2; injection e2 with e2
      subst e2
      exact hpl
    · by_cases hb : (L[k]).blk = some g
      · obtain ⟨hc2, ha2⟩ := h.list.blk hb
        have hl := h.list
        rw [ha2] at hl ⊢
        have hcap := own_cap h.row hl hc hc2
        refine own_prefix hl hc2 hrow (by omega) ?_ (by omega)
        rw [← List.map_take, mkl_take _ _ _ (by omega)]
      · refine Own.grownNe h.list hg fun g2 hc2 ha2 e2 => ?_
        injection e2 with e2
        subst e2
        exact hb (Sl.blk_some hc2 ha2)
  · injection e1 with e1; injection e1 with e1
    subst e1
    refine ⟨hrow, grownBy_trans h.frame (grownBy_some hg _), fun g2 _ e2 => ?_, Own.grownNone h.list hg⟩
    injection e2 with e2; injection e2 with e2
    subst e2
    exact .inr (Nat.le_trans h.frame.size hs)

theorem St2.outerIn {base : Nat} {als : Option Addr} {cls : Nat} {L : List Sl} {w : World} {B k : Nat} {ags : Option Addr} {cgs : Nat} {G : List Sl} {wk wr : World} (h : St2 base als cls L w B k ags cgs G wk) (hk : k < L.length) (hf : wk.grownBy wr (L[k]).blk) : SOwn wr base als L.length cls L := by
  refine Own.grownNe h.outer hf fun g1 hc1 ha1 hb1 => ?_
  obtain ⟨hc2, ha2⟩ := (h.lists k hk).blk hb1
  have h3 := h.outer
  have h4 := h.lists k hk
  rw [ha1] at h3
  rw [ha2] at h4
  exact own_ne h3 h4 hc1 hc2 (by decide) rfl

/-- the copy is laid among the others -/
theorem St2.next {base : Nat} {als : Option Addr} {cls : Nat} {L : List Sl} {w : World} {B k : Nat} {ags : Option Addr} {cgs : Nat} {G : List Sl} {wk wr w1 : World} (h : St2 base als cls L w B k ags cgs G wk) (hk : k < L.length) (hd : Distinct L) {a : Option Addr} {c : Nat} (h2 : In2 base L k hk wk 70 a c wr)
    {g cg : Nat} (ho : Own w1 B 24 1 (some ⟨g, 0, none⟩) (k + 1) cg (G.map Sl.val ++ [.slice a ((L[k]).n + 70) c])) (hg : GrewP wr w1 ags cgs (some ⟨g, 0, none⟩) cg) : St2 base als cls L w B (k + 1) (some ⟨g, 0, none⟩) cg (G ++ [⟨a, (L[k]).n + 70, c⟩]) w1 := by
  have hGl : G.length = k := h.gs.len
  have gs' : SOwn wr B ags k cgs G := by
    refine Own.grownNe h.gs h2.frame fun g1 hc1 ha1 hb1 => ?_
    obtain ⟨hc2, ha2⟩ := (h.lists k hk).blk hb1
    have h3 := h.gs
    have h4 := h.lists k hk
    rw [ha1] at h3
    rw [ha2] at h4
    exact own_ne h3 h4 hc1 hc2 (by decide) rfl
  have lists' : ∀ j (hj : j < L.length), BOwn wr base (L[j]).a (L[j]).n (L[j]).c (mkl j (L[j]).n) := by
    intro j hj
    by_cases e : j = k
    · subst e; exact h2.list
    · exact Own.grownNe (h.lists j hj) h2.frame fun g1 hc1 ha1 hb1 => hd j k hj hk e g1 (Sl.blk_some hc1 ha1) hb1
  refine ⟨?_, by unfold SOwn; rw [List.map_append]; exact ho, fun j hj => Own.grewOther (lists' j hj) gs' hg (by decide), fun j hj hG => ?_, ?_, ?_, h.baseB, h.oldO, h.oldL⟩
  · have o1 := h.outerIn hk h2.frame
    rcases hg with ⟨g1, e1, rfl, hc, hcc, hg⟩ | ⟨g1, e1, hs, hg⟩
    · refine Own.grownNe o1 hg fun g2 hc2 ha2 e2 => ?_
      injection e2 with e2
      subst e2
      have := h.oldO _ hc2 ha2
      obtain ⟨g3, e3, hb3, _⟩ := Own.block gs' hc
      rw [e1] at e3
      injection e3 with e3; injection e3 with e3
      omega
    · exact Own.grownNone o1 hg
  · by_cases e : j = k
    · subst e
      have eG : (G ++ [(⟨a, (L[j]).n + 70, c⟩ : Sl)])[j] = ⟨a, (L[j]).n + 70, c⟩ := by
        rw [List.getElem_append_right (by omega)]; simp [hGl]
      rw [eG]
      refine ⟨rfl, Own.grewOther h2.row gs' hg (by decide), fun g1 hb1 => ?_⟩
      have hb2 : c ≠ 0 ∧ ∃ x, a = some x ∧ x.block = g1 := by
        simp only [Sl.blk] at hb1
        split at hb1
        · cases hb1
        · rename_i hc
          exact ⟨hc, by simpa [Option.map_eq_some_iff] using hb1⟩
      obtain ⟨hc, x, rfl, rfl⟩ := hb2
      obtain ⟨g3, e3, _, _⟩ := Own.block h2.row (by omega)
      injection e3 with e3
      subst e3
      rcases h2.place g3 (by omega) rfl with hp | hp
      · exact .inl hp
      · exact .inr (Nat.le_trans h.size hp)
    · have hjk : j < k := by simp at hG; omega
      have eG : (G ++ [(⟨a, (L[k]).n + 70, c⟩ : Sl)])[j] = G[j]'(by omega) := List.getElem_append_left (by omega)
      rw [eG]
      obtain ⟨e1, e2, e3⟩ := h.done j hj (by omega)
      refine ⟨e1, Own.grewOther (Own.grownNe e2 h2.frame fun g1 hc1 ha1 hb1 => ?_) gs' hg (by decide), e3⟩
      rcases e3 g1 (Sl.blk_some hc1 ha1) with h5 | h5
      · exact hd j k hj hk e g1 h5 hb1
      · have := h.oldL k hk g1 hb1
        omega
  · have f1 : Below base wk wr := by
      refine ⟨h2.frame.os, h2.frame.tape, h2.frame.output, h2.frame.size, fun b hb => h2.frame.block b (by have := h.size; have := h.baseB; omega) fun e => ?_⟩
      obtain ⟨hc2, ha2⟩ := (h.lists k hk).blk e.symm
      obtain ⟨g3, e3, hb3, _⟩ := Own.block (h.lists k hk) hc2
      rw [ha2] at e3
      injection e3 with e3; injection e3 with e3
      omega
    refine h.below.trans (f1.trans ?_)
    rcases hg with ⟨g1, e1, rfl, hc, hcc, hg⟩ | ⟨g1, e1, hs, hg⟩
    · obtain ⟨g3, e3, hb3, _⟩ := Own.block gs' hc
      rw [e1] at e3
      injection e3 with e3; injection e3 with e3
      exact (Below.refl base wr).grown hg (by have := h.size; have := h.baseB; have := h2.frame.size; omega) (by rintro b ⟨⟩; have := h.baseB; omega)
    · exact (Below.refl base wr).grown hg (by have := h.size; have := h.baseB; have := h2.frame.size; omega) (by simp)
  · have := h.size
    have := h2.frame.size
    have := hg.grew.size
    omega

/-- phase 3: what is looked at -/
theorem St2.look {base : Nat} {als : Option Addr} {cls : Nat} {L : List Sl} {w : World} {B : Nat} {ags : Option Addr} {cgs : Nat} {G : List Sl} {wr : World} (h : St2 base als cls L w B L.length ags cgs G wr) (k : Nat) (hk : k < L.length) :
    ∃ gl gg h c, als = some ⟨gl, 0, none⟩ ∧ ags = some ⟨gg, 0, none⟩ ∧ wr.cell? ⟨gl, k, none⟩ = some (.slice (L[k]).a (L[k]).n (L[k]).c) ∧ wr.cell? ⟨gg, k, none⟩ = some (.slice (some ⟨h, 0, none⟩) ((L[k]).n + 70) c) ∧
      (∀ i, i < (L[k]).n + 70 → wr.cell? ⟨h, i, none⟩ = some (.int .u8 ((mrk ((k : Int) + 1) (i : Int)).toNat : Int))) ∧
      (∀ i, i < (L[k]).n → ∃ g, (L[k]).a = some ⟨g, 0, none⟩ ∧ wr.cell? ⟨g, i, none⟩ = some (.int .u8 ((mrk ((k : Int) + 1) (i : Int)).toNat : Int))) := by
  obtain ⟨gl, e1, _, _, c1, _⟩ := Own.cell h.outer k (by simpa using hk)
  obtain ⟨gg, e2, _, _, c2, _⟩ := Own.cell h.gs k (by simpa [h.gs.len] using hk)
  have hG : k < G.length := by rw [h.gs.len]; exact hk
  obtain ⟨d1, d2, _⟩ := h.done k hk hG
  obtain ⟨hh, e3, _, _, _, _⟩ := Own.cell d2 0 (by simp [mkl_length])
  refine ⟨gl, gg, hh, (G[k]).c, e1, e2, by rw [c1]; simp [Sl.val], by rw [c2]; simp [Sl.val, e3, d1], fun i hi => ?_, fun i hi => ?_⟩
  · obtain ⟨h', e4, _, _, c4, _⟩ := Own.cell d2 i (by simp [mkl_length]; omega)
    rw [e3] at e4
    injection e4 with e4; injection e4 with e4
    subst e4
    rw [c4]
    simp [bval, mkl]
  · obtain ⟨g, e4, _, _, c4, _⟩ := Own.cell (h.lists k hk) i (by simp [mkl_length]; omega)
    exact ⟨g, e4, by rw [c4]; simp [bval, mkl]⟩

end Go.Proofs.Ytkdmebcfedehiaa
/- Lists of lists of bytes that the call owns: an outer row of slices, each of them with memory of its own. -/
namespace Go.Proofs.Ytkdmebcfedehiaa
open Go.RowKit

/-- the value '.slice a n c' owns the lists bs -/
def LOwn (w : World) (base : Nat) (a : Option Addr) (n c : Nat) (bs : List (List UInt8)) : Prop :=
  ∃ L : List Sl, SOwn w base a n c L ∧ L.length = bs.length ∧ (∀ i (h : i < L.length) (h' : i < bs.length), BOwn w base (L[i]).a (L[i]).n (L[i]).c bs[i]) ∧ Distinct L

theorem LOwn.nil (w : World) (base : Nat) : LOwn w base none 0 0 [] :=
  ⟨[], Own.nil _ _ _ _ _, rfl, fun i (h : i < 0) => absurd h (by omega), fun i j (h : i < 0) => absurd h (by omega)⟩
theorem LOwn.len {w : World} {base : Nat} {a : Option Addr} {n c : Nat} {bs : List (List UInt8)} (h : LOwn w base a n c bs) : bs.length = n := by
  obtain ⟨L, h1, h2, _⟩ := h
  rw [← h2]; exact h1.len
theorem LOwn.cap {w : World} {base : Nat} {a : Option Addr} {n c : Nat} {bs : List (List UInt8)} (h : LOwn w base a n c bs) : n ≤ c ∧ c ≤ maxLen := by
  obtain ⟨L, h1, _⟩ := h
  exact Own.cap h1
theorem LOwn.grown {w w' : World} {base : Nat} {a : Option Addr} {n c : Nat} {bs : List (List UInt8)} (h : LOwn w base a n c bs) (hg : w.grownBy w' none) : LOwn w' base a n c bs := by
  obtain ⟨L, h1, h2, h3, h4⟩ := h
  exact ⟨L, Own.grownNone h1 hg, h2, fun i h h' => (h3 i h h').grown hg, h4⟩
theorem LOwn.mono {w : World} {base base' : Nat} {a : Option Addr} {n c : Nat} {bs : List (List UInt8)} (h : LOwn w base a n c bs) (hb : base' ≤ base) : LOwn w base' a n c bs := by
  obtain ⟨L, h1, h2, h3, h4⟩ := h
  exact ⟨L, Own.mono h1 hb, h2, fun i h h' => (h3 i h h').mono hb, h4⟩

/-- the list of slices bs, told by its slices -/
structure LIs (w : World) (base : Nat) (a : Option Addr) (n c : Nat) (bs : List (List UInt8)) (L : List Sl) : Prop where
  outer : SOwn w base a n c L
  len : L.length = bs.length
  inner : ∀ i (h : i < L.length) (h' : i < bs.length), BOwn w base (L[i]).a (L[i]).n (L[i]).c bs[i]
  apart : Distinct L
theorem LOwn.is {w : World} {base : Nat} {a : Option Addr} {n c : Nat} {bs : List (List UInt8)} (h : LOwn w base a n c bs) : ∃ L, LIs w base a n c bs L := by
  obtain ⟨L, h1, h2, h3, h4⟩ := h
  exact ⟨L, h1, h2, h3, h4⟩
theorem LIs.grown {w w' : World} {base : Nat} {a : Option Addr} {n c : Nat} {bs : List (List UInt8)} {L : List Sl} (h : LIs w base a n c bs L) (hg : w.grownBy w' none) : LIs w' base a n c bs L :=
  ⟨Own.grownNone h.outer hg, h.len, fun i h1 h2 => (h.inner i h1 h2).grown hg, h.apart⟩

/-- one list more -/
theorem LIs.push {w w1 w2 : World} {base : Nat} {a : Option Addr} {n c : Nat} {bs : List (List UInt8)} {L : List Sl} (h : LIs w base a n c bs L) (hb : base ≤ w.heap.size) (hg : w.grownBy w1 none)
    {a' : Option Addr} {n' c' : Nat} {b : List UInt8} (ho : BOwn w1 w.heap.size a' n' c' b) {a2 : Option Addr} {c2 : Nat}
    (hs : Own w2 base 24 1 a2 (n + 1) c2 (L.map Sl.val ++ [.slice a' n' c'])) (hgr : GrewP w1 w2 a c a2 c2) : LOwn w2 base a2 (n + 1) c2 (bs ++ [b]) := by
  obtain ⟨h1, h2, h3, h4⟩ := h
  have h1' : SOwn w1 base a n c L := Own.grownNone h1 hg
  have hin : ∀ i (h : i < L.length) (h' : i < bs.length), BOwn w2 base (L[i]).a (L[i]).n (L[i]).c bs[i] := fun i h h' => Own.grewOther ((h3 i h h').grown hg) h1' hgr (by decide)
  have hnew : BOwn w2 base a' n' c' b := Own.grewOther (ho.mono hb) h1' hgr (by decide)
  refine ⟨L ++ [⟨a', n', c'⟩], ?_, by simp [h2], ?_, ?_⟩
  · unfold SOwn; rw [List.map_append]; exact hs
  · intro i hi hi'
    by_cases e : i < L.length
    · have e' : i < bs.length := by omega
      rw [List.getElem_append_left e, List.getElem_append_left e']
      exact hin i e e'
    · simp only [List.length_append, List.length_singleton] at hi
      obtain rfl : i = L.length := by omega
      have e2 : (L ++ [⟨a', n', c'⟩])[L.length] = (⟨a', n', c'⟩ : Sl) := by simp
      have e3 : (bs ++ [b])[L.length] = b := by simp [h2]
      rw [e2, e3]
      exact hnew
  · have old : ∀ i (hi : i < L.length) g, (L[i]).blk = some g → g < w.heap.size := by
      intro i hi g hgb
      have hbo := h3 i hi (by omega)
      obtain ⟨hc, ha⟩ := hbo.blk hgb
      obtain ⟨g', ha', _, hlt⟩ := Own.block hbo hc
      rw [ha] at ha'
      obtain rfl : g = g' := by simpa using ha'
      exact hlt
    have new : ∀ g, (⟨a', n', c'⟩ : Sl).blk = some g → w.heap.size ≤ g := by
      intro g hgb
      have hbo : BOwn w1 w.heap.size (⟨a', n', c'⟩ : Sl).a (⟨a', n', c'⟩ : Sl).n (⟨a', n', c'⟩ : Sl).c b := ho
      obtain ⟨hc, ha⟩ := hbo.blk hgb
      obtain ⟨g', ha', hlt, _⟩ := Own.block hbo hc
      rw [ha] at ha'
      obtain rfl : g = g' := by simpa using ha'
      exact hlt
    intro i j hi hj hij g hgi hgj
    simp only [List.length_append, List.length_singleton] at hi hj
    by_cases ei : i < L.length
    · by_cases ej : j < L.length
      · rw [List.getElem_append_left ei] at hgi
        rw [List.getElem_append_left ej] at hgj
        exact h4 i j ei ej hij g hgi hgj
      · obtain rfl : j = L.length := by omega
        rw [List.getElem_append_left ei] at hgi
        have e2 : (L ++ [⟨a', n', c'⟩])[L.length]'(by simp) = (⟨a', n', c'⟩ : Sl) := by simp
        rw [e2] at hgj
        have := old i ei g hgi
        have := new g hgj
        omega
    · obtain rfl : i = L.length := by omega
      have ej : j < L.length := by omega
      rw [List.getElem_append_left ej] at hgj
      have e2 : (L ++ [⟨a', n', c'⟩])[L.length]'(by simp) = (⟨a', n', c'⟩ : Sl) := by simp
      rw [e2] at hgi
      have := old j ej g hgj
      have := new g hgi
      omega

/-- a list of slices that lies somewhere, and the bytes that they hold -/
def LLies (w : World) (a : Option Addr) (L : List Sl) (bs : List (List UInt8)) : Prop :=
  Lies w a (L.map Sl.val) ∧ L.length = bs.length ∧ ∀ i (h : i < L.length) (h' : i < bs.length), BLies w (L[i]).a bs[i] ∧ (L[i]).n = (bs[i]).length

theorem LOwn.lies {w : World} {base : Nat} {a : Option Addr} {n c : Nat} {bs : List (List UInt8)} (h : LOwn w base a n c bs) : ∃ L, LLies w a L bs ∧ SOwn w base a n c L ∧ ∀ i (h : i < L.length) (h' : i < bs.length), BOwn w base (L[i]).a (L[i]).n (L[i]).c bs[i] := by
  obtain ⟨L, h1, h2, h3, h4⟩ := h
  refine ⟨L, ⟨?_, h2, fun i h h' => ⟨(h3 i h h').lies, (h3 i h h').len.symm⟩⟩, h1, h3⟩
  intro k hk
  obtain ⟨g, e, _, _, hc, _⟩ := Own.cell h1 k hk
  exact ⟨g, 0, e, by rw [Nat.zero_add, hc]⟩

theorem LLies.heap {w w' : World} {a : Option Addr} {L : List Sl} {bs : List (List UInt8)} (h : LLies w a L bs) (hk : ∀ b, b < w.heap.size → w'.heap[b]? = w.heap[b]?) : LLies w' a L bs := by
  refine ⟨fun k hk' => ?_, h.2.1, fun i hi hi' => ⟨((h.2.2 i hi hi').1).heap fun b _ _ hb => hk b hb, (h.2.2 i hi hi').2⟩⟩
  obtain ⟨b, off, e, hc⟩ := h.1 k hk'
  exact ⟨b, off, e, (World.cell?_of_block (hk b (World.block_lt_of_cell? w _ hc))).trans hc⟩
theorem LLies.grown {w w' : World} {a : Option Addr} {L : List Sl} {bs : List (List UInt8)} (h : LLies w a L bs) (hg : w.grownBy w' none) : LLies w' a L bs :=
  h.heap fun b hb => hg.block b hb (by simp)

end Go.Proofs.Ytkdmebcfedehiaa
/- slices.Grow from nothing, slices.Concat, octet.Join. -/
namespace Go.Proofs.Ytkdmebcfedehiaa
open Go.RowKit

theorem run_app_empty (w : World) (a x : Option Addr) (n c c2 : Nat) (hn : n ≤ c) (hc : c ≤ maxLen) (ha : a = none → c = 0) (ty : TypeId) : (Builtin.append_ #[24, 24] ty #[.slice a n c, .slice x 0 c2]).run Try.prog w = .ok (.slice a n c) w := by
  obtain ⟨i, hi, hz, hs, hb⟩ := elB.info
  unfold maxLen at hc
  cases a with
  | none =>
    obtain rfl : c = 0 := ha rfl
    obtain rfl : n = 0 := by omega
    cases x <;> simp [Builtin.append_, run_underlying Try.underlying24, sizeOf, typeInfo, hi, hs, Builtin.lenOf, Builtin.firstCells, loadCells, loadCellsFrom]
  | some ad =>
    have hnot : ¬ c < n := by omega
    cases x <;> simp [Builtin.append_, run_underlying Try.underlying24, sizeOf, typeInfo, hi, hs, Builtin.lenOf, Builtin.firstCells, loadCells, loadCellsFrom, hn, hnot, storeCells]

theorem own_cut0 {w : World} {base : Nat} {e : TypeId} {a : Option Addr} {n c : Nat} {xs : List Value} (h : Own w base e 1 a n c xs) : Own w base e 1 a 0 c [] := by
  rcases h.2 with ⟨h0, h1⟩ | ⟨g, cur, ha, hb, hh, hn, hm, hs, ht⟩
  · exact ⟨rfl, .inl ⟨rfl, h1⟩⟩
  · exact ⟨rfl, .inr ⟨g, cur, ha, hb, hh, Nat.zero_le _, hm, hs, by simp⟩⟩

set_option maxRecDepth 100000 in
set_option maxHeartbeats 1000000 in
theorem grow_n (n : Nat) (w : World) (hn : n ≤ 4000000000) :
    Calls Try.prog 66 #[.slice none 0 0, .int .i64 (n : Int)] w fun e w' => ∃ a c, e = .returned (.slice a 0 c) ∧ BOwn w' w.heap.size a 0 c [] ∧ w.grownBy w' none := by
  rcases Nat.eq_zero_or_pos n with rfl | hpos
  · go_enter Try.func66, Try.ntmps66
    go_wp2_with fail
    go_ret
    exact ⟨none, 0, rfl, Own.nil _ _ _ _ _, World.grownBy.refl _ _⟩
  · obtain ⟨g, c', w1, hrun, ho, hgr⟩ := run_appz (P := Try.prog) (ty := 24) w elB rfl rfl Try.underlying3 (Own.nil w w.heap.size 5 1 none) n hpos (by unfold maxLen; omega) (by omega) (Nat.le_refl _) .i64
    have hg := hgr.grew.grown (Own.nil w w.heap.size 5 1 none) (World.grownBy.refl _ _) (Nat.le_refl _)
    have hd0 : decide ((n : Int) < 0) = false := by simp
    have hd1 : decide ((0 : Int) < (n : Int)) = true := by simp; omega
    have HO := Lib.hid ho
    have HG := Lib.hid hg
    have HRUN := Lib.hid hrun
    clear ho hg hgr hrun
    go_enter Try.func66, Try.ntmps66
    go_wp2_with (at_builtin; refine Lib.wpList_append_run _ rfl _ _ _ _ rfl _ _ rfl rfl _ _ HRUN.out ?_)
    go_ret
    exact ⟨_, c', rfl, own_cut0 HO.out, HG.out⟩

set_option maxRecDepth 100000 in
set_option maxHeartbeats 4000000 in
theorem concat_n (a : Option Addr) (c K : Nat) (L : List Sl) (bs : List (List UInt8)) (w : World) (hL : LLies w a L bs) (hK : bs.length = K) (hf : bs.flatten.length ≤ 1000000000) (hK2 : K ≤ 4000000000) :
    Calls Try.prog 48 #[.slice a K c] w fun e w' => ∃ a' m c', e = .returned (.slice a' m c') ∧ BOwn w' w.heap.size a' m c' bs.flatten ∧ w.grownBy w' none := by
  have pre : ∀ i, (bs.take i).flatten.length ≤ bs.flatten.length := fun i => by
    have h := congrArg List.length (congrArg List.flatten (List.take_append_drop i bs))
    rw [List.flatten_append, List.length_append] at h
    omega
  have HLL := Lib.hid hL
  have HK := Lib.hid hK
  have HP := Lib.hid pre
  have HF := Lib.hid hf
  clear hL hK pre hf
  go_enter Try.func48, Try.ntmps48
  go_wp2_with fail
  go_loopw [3, 11] (fun vs vi wr => ∃ i s : Nat, i ≤ K ∧ Hid (s = (bs.take i).flatten.length) ∧ vi = .int .i64 i ∧ vs = .int .i64 s ∧ w = wr) (fun _ vi _ => K - (intOf vi).toNat)
  case atStart => exact ⟨0, 0, by omega, Lib.hid (by simp), rfl, rfl, rfl⟩
  case round =>
    obtain ⟨i, s, hi, HS, rfl, rfl, rfl⟩ := hrel
    by_cases hlt : i < K
    · have hib : i < bs.length := by rw [HK.out]; exact hlt
      have hiL : i < L.length := by rw [HLL.out.2.1]; exact hib
      obtain ⟨g, o, haa, hc⟩ := HLL.out.1 i (by rw [List.length_map]; exact hiL)
      have hin := HLL.out.2.2 i hiL hib
      subst haa
      obtain ⟨b, hb⟩ : ∃ b, b = bs[i] := ⟨_, rfl⟩
      obtain ⟨sl, hsl⟩ : ∃ sl, sl = L[i] := ⟨_, rfl⟩
      rw [← hb, ← hsl] at hin
      have hc' : w.cell? ⟨g, o + i, none⟩ = some sl.val := by rw [hc, hsl]; simp
      obtain ⟨sa, sn, sc⟩ := sl
      have hsn : sn = b.length := hin.2
      have hnext : s + sn = (bs.take (i + 1)).flatten.length := by
        rw [List.take_succ_eq_append_getElem hib, List.flatten_append, List.length_append, ← hb, HS.out, hsn]
        simp
      have hp := HP.out (i + 1)
      rw [← hnext] at hp
      have hs1 := HF.out
      have hcc : w.cell? ⟨g, o + i, none⟩ = some (.slice sa sn sc) := hc'
      have hw : IntKind.i64.wrap ((s : Int) + (sn : Int)) = (s : Int) + (sn : Int) := IntWalk.i64_in _ (by omega)
      have hd0 : decide ((s : Int) + (sn : Int) < 0) = false := by simp; omega
      have HNX := Lib.hid hnext
      clear hin hb hsl hc hc' hsn hnext hp hs1
      go_wp2_with fail
      go_roundw
      case rel => exact ⟨i + 1, s + sn, by omega, HNX, by go_num, by first | rfl | go_num, by first | rfl | trivial⟩
      case measure => simp [intOf]; omega
    · obtain rfl : i = K := by omega
      have htk : bs.take i = bs := List.take_of_length_le (by rw [HK.out]; exact Nat.le_refl _)
      have hs2 : s ≤ 4000000000 := by have h1 := HS.out; have h2 := HF.out; rw [htk] at h1; omega
      have HTK := Lib.hid htk
      clear htk
      go_wp2_with fail
      refine (grow_n s w hs2).mono ?_
      rintro e w1 ⟨a1, c1, rfl, ho, hg⟩
      have HO := Lib.hid ho
      have HG := Lib.hid hg
      clear ho hg
      go_wp2_with fail
      go_loopw [6, 27] (fun v vi wr => ∃ (j r : Nat) (a' : Option Addr) (c' : Nat), j ≤ i ∧ vi = .int .i64 j ∧ v = .slice a' r c' ∧ BOwn wr w.heap.size a' r c' (bs.take j).flatten ∧ w.grownBy wr none) (fun _ vi _ => i - (intOf vi).toNat)
      case atStart => exact ⟨0, 0, a1, c1, by omega, rfl, rfl, HO.out, HG.out⟩
      case round =>
        obtain ⟨j, r, a', c', hj, rfl, rfl, ho, hg⟩ := hrel
        replace HO := Lib.hid ho
        replace HG := Lib.hid hg
        have HR := Lib.hid (BOwn.len ho)
        clear ho hg
        by_cases hlt2 : j < i
        · have hib : j < bs.length := by rw [HK.out]; exact hlt2
          have hLw := HLL.out.grown HG.out
          have hiL : j < L.length := by rw [HLL.out.2.1]; exact hib
          obtain ⟨g, o, haa, hc⟩ := hLw.1 j (by rw [List.length_map]; exact hiL)
          have hin := hLw.2.2 j hiL hib
          subst haa
          obtain ⟨b, hb⟩ : ∃ b, b = bs[j] := ⟨_, rfl⟩
          obtain ⟨sl, hsl⟩ : ∃ sl, sl = L[j] := ⟨_, rfl⟩
          rw [← hb, ← hsl] at hin
          have hc' : wr.cell? ⟨g, o + j, none⟩ = some sl.val := by rw [hc, hsl]; simp
          obtain ⟨sa, sn, sc⟩ := sl
          obtain ⟨hbl, hsn⟩ := hin
          have hsn' : sn = b.length := hsn
          have hbl' : BLies wr sa b := hbl
          have hstep : (bs.take (j + 1)).flatten = (bs.take j).flatten ++ b := by
            rw [List.take_succ_eq_append_getElem hib, List.flatten_append, ← hb]
            simp
          have hp := HP.out (j + 1)
          rw [hstep, List.length_append, HR.out, ← hsn'] at hp
          have hff := HF.out
          have hsz := HG.out.size
          have HB := Lib.hid hbl'
          have HSN := Lib.hid hsn'
          have HST := Lib.hid hstep
          have hcc : wr.cell? ⟨g, o + j, none⟩ = some (.slice sa sn sc) := hc'
          have hrn : r + sn ≤ 1000000000 := by omega
          clear hb hsl hc hc' hsn hsn' hbl hbl' hstep hp hff hLw
          rcases Nat.eq_zero_or_pos sn with rfl | hpos
          · have hb0 : b = [] := List.eq_nil_of_length_eq_zero HSN.out.symm
            have hcap := HO.out.cap
            have hno : a' = none → c' = 0 := fun h => by
              by_cases h0 : 0 < c'
              · obtain ⟨g', e, _⟩ := Own.block HO.out h0
                rw [h] at e; cases e
              · omega
            have HRE := Lib.hid (fun W => run_app_empty (ty := 24) W a' sa r c' sc hcap.1 hcap.2 hno)
            clear hno hcap
            go_wp2_with (at_builtin; go_loud (refine Lib.wpList_append_run _ rfl _ _ _ _ rfl _ _ rfl rfl _ _ (HRE.out _) ?_))
            go_roundw
            case rel => exact ⟨j + 1, r, a', c', by omega, by go_num, rfl, by rw [HST.out, hb0, List.append_nil]; exact HO.out, HG.out⟩
            case measure => simp [intOf]; omega
          · obtain ⟨bb, boff, rfl⟩ := HB.out.addr (by rw [← HSN.out]; omega)
            go_wp2_with (at_builtin; refine wpList_app elB rfl (.tmp 31) (.tmp 32) rfl rfl HO.out ⟨bb, boff, none⟩ sn sc (b.map bval) rfl (by rw [List.length_map, ← HSN.out, Nat.mul_one]) HB.out.news (bval_one b) (by unfold maxLen; omega) (by omega) hsz (by omega) ?_; intro g cap w2 hown2 hgr; have HO2 := Lib.hid hown2; have HG2 := Lib.hid (hgr.grew.grown HO.out HG.out (Nat.le_refl _)); clear hown2 hgr)
            go_roundw
            case rel =>
              refine ⟨j + 1, r + sn, _, _, by omega, by go_num, rfl, ?_, HG2.out⟩
              rw [HST.out]
              unfold BOwn
              rw [List.map_append]
              exact HO2.out
            case measure => simp [intOf]; omega
        · obtain rfl : j = i := by omega
          rw [HTK.out] at HO
          go_wp2_with fail
          go_ret
          exact ⟨_, _, _, rfl, HO.out, HG.out⟩

set_option maxRecDepth 100000 in
theorem joinB_n (a : Option Addr) (c K : Nat) (L : List Sl) (bs : List (List UInt8)) (w : World) (hL : LLies w a L bs) (hK : bs.length = K) (hf : bs.flatten.length ≤ 1000000000) (hK2 : K ≤ 4000000000) :
    Calls Try.prog 23 #[.slice a K c] w fun e w' => ∃ a' m c', e = .returned (.slice a' m c') ∧ BOwn w' w.heap.size a' m c' bs.flatten ∧ w.grownBy w' none := by
  have HC := Lib.hid (concat_n a c K L bs w hL hK hf hK2)
  clear hL hK hf hK2
  go_enter Try.func23, Try.ntmps23
  go_wp2_with fail
  refine HC.out.mono ?_
  rintro e w1 ⟨a', m, c', rfl, ho, hg⟩
  have HO := Lib.hid ho
  have HG := Lib.hid hg
  clear ho hg
  go_wp2_with fail
  go_ret
  exact ⟨a', m, c', rfl, HO.out, HG.out⟩

end Go.Proofs.Ytkdmebcfedehiaa
/- A region that draws its order, all of whose operations come to one value each while a condition on the world stands: whatever the order, one end. -/
namespace Go.Proofs.Ytkdmebcfedehiaa
open Go.RowKit

section
variable {P : Program} {ops : Array Oper} {Q : Exit → Act → World → Prop} {md : Region.Mode} {S : World → Prop}

/-- what an operation comes to: the value v, in a world of which S holds -/
def OutS (P : Program) (S : World → Prop) (v : Value) : Result Next → Prop
  | .ok (.value u) w' => u = v ∧ S w'
  | .ok .skip w' => v = undef ∧ S w'
  | .ok (.enter f args) w' => Calls P f args w' fun e w'' => e = .returned v ∧ S w''
  | _ => False

def YS (P : Program) (ops : Array Oper) (S : World → Prop) (o : Oper) (v : Value) (a : Act) : Prop :=
  (Region.wanted o (yielded ops a.tmps) = true ∧ ∀ w, S w → OutS P S v ((execOp a.eval o).run P w)) ∨
  (Region.wanted o (yielded ops a.tmps) = false ∧ v = undef)

theorem YS.of {o : Oper} {v : Value} {a a' : Act} (hy : YS P ops S o v a) (he : execOp a'.eval o = execOp a.eval o)
    (hw : Region.wanted o (yielded ops a'.tmps) = Region.wanted o (yielded ops a.tmps)) : YS P ops S o v a' := by
  unfold YS at *; rw [he, hw]; exact hy

theorem YS.op {i : Nat} {o : Oper} {v : Value} {a : Act} (hi : ops[i]? = some o) (hy : YS P ops S o v a) {K : Act → World → Prop} {w : World} (hS : S w)
    (h : ∀ w', S w' → K (a.put o.dst v) w') : wpOp P ops Q i K a w := by
  unfold Go.wpOp
  simp only [hi]
  rcases hy with ⟨hw, hv⟩ | ⟨hw, rfl⟩
  · simp only [hw, if_true]
    refine .inl ?_
    have h1 := hv w hS
    unfold Oper.wp
    generalize (execOp a.eval o).run P w = r at h1 ⊢
    cases r with
    | ok n w' =>
      cases n with
      | value u => obtain ⟨rfl, hs⟩ := h1; exact h _ hs
      | skip => obtain ⟨rfl, hs⟩ := h1; exact h _ hs
      | enter f args =>
        simp only [OutS] at h1
        simp only [Oper.upon]
        refine Calls.mono h1 fun e w'' he => ?_
        obtain ⟨rfl, hs⟩ := he
        exact h _ hs
      | _ => exact h1.elim
    | halt x w' => exact h1.elim
  · simp only [hw, Bool.false_eq_true, if_false]; exact h _ hS

/-- whatever order is picked, from whatever world of which S holds -/
def wpS (P : Program) (md : Region.Mode) (ops : Array Oper) (Q : Exit → Act → World → Prop) (S : World → Prop) : Nat → Array Bool → Act → Prop
  | 0, listed, a => Region.ready md ops listed = [] ∧ ∀ w, S w → Q .normal a w
  | n + 1, listed, a => (Region.ready md ops listed = [] → ∀ w, S w → Q .normal a w) ∧
    ∀ i ∈ Region.ready md ops listed, ∀ w, S w → wpOp P ops Q i (fun a' w' => S w' ∧ wpS P md ops Q S n (listed.setIfInBounds i true) a') a w

theorem wpS_any : ∀ (n : Nat) (listed : Array Bool) (a : Act) (w : World), wpS P md ops Q S n listed a → S w → wpAny P md ops Q n listed a w
  | 0, _, _, w, h, hS => ⟨h.1, h.2 w hS⟩
  | n + 1, _, _, w, h, hS => ⟨fun h0 => h.1 h0 w hS, fun i hi => wpOp_mono (fun a' w' h' => wpS_any n _ a' w' h'.2 h'.1) (h.2 i hi w hS)⟩

theorem wpS_put {j : Nat} {oi oj : Oper} {v : Value} (hj : ops[j]? = some oj) (hap : oi.apart ops oj = true) (hsi : ∀ cs b, oi.op ≠ .select cs b) (hsj : ∀ cs b, oj.op ≠ .select cs b)
    (hQ : ∀ c a w, Q (.panic c) (a.put oi.dst v) w → Q (.panic c) a w) {K : Act → World → Prop} {a : Act} {w : World}
    (hy : YS P ops S oi v a) (h : wpOp P ops Q j K (a.put oi.dst v) w) : wpOp P ops Q j (fun a' w' => YS P ops S oi v a' ∧ K (a'.put oi.dst v) w') a w := by
  obtain ⟨h1, h2, h3⟩ := Oper.apart_spec hap
  have keep : ∀ (a : Act), YS P ops S oi v a → ∀ u, YS P ops S oi v (a.put oj.dst u) := fun a hy u => hy.of (execOp_put oi hsi a oj.dst u h3) (wanted_put oi a oj.dst u h3)
  unfold Go.wpOp at h ⊢
  simp only [hj] at h ⊢
  rw [wanted_put oj a oi.dst v h1] at h
  by_cases hw : Region.wanted oj (yielded ops a.tmps) = true
  · rw [if_pos hw] at h ⊢
    rcases h with h | ⟨hasks, hlets⟩
    · refine .inl ?_
      unfold Oper.wp at h ⊢
      rw [execOp_put oj hsj a oi.dst v h1] at h
      generalize (execOp a.eval oj).run P w = r at h ⊢
      cases r with
      | ok n w' =>
        cases n <;> simp only [Oper.upon] at h ⊢
        case value u => exact ⟨keep a hy u, by rw [← Act.put_comm a v u h2]; exact h⟩
        case skip => exact ⟨keep a hy _, by rw [← Act.put_comm a v undef h2]; exact h⟩
        case defer d =>
          refine ⟨keep { a with defers := d :: a.defers } (hy.of rfl rfl) _, ?_⟩
          rw [← Act.put_comm _ v undef h2, ← Act.put_defers]
          exact h
        case enter f args =>
          refine Calls.mono h fun e w'' he => ?_
          cases e with
          | returned u => exact ⟨keep a hy u, by rw [← Act.put_comm a v u h2]; exact he⟩
          | panicked c => exact hQ _ _ _ he
          | outgrown => exact he
        case row row args => exact Rows.mono h fun u w'' he => ⟨keep a hy u, by rw [← Act.put_comm a v u h2]; exact he⟩
      | halt x w' =>
        cases x <;> simp only [Oper.upon] at h ⊢
        case panic u => exact hQ _ _ _ h
    · exact .inr ⟨by unfold Oper.asks at hasks ⊢; rw [execOp_put oj hsj a oi.dst v h1] at hasks; exact hasks, hlets⟩
  · rw [if_neg hw] at h ⊢
    exact ⟨keep a hy _, by rw [← Act.put_comm a v undef h2]; exact h⟩

theorem wpS_first {i : Nat} {oi : Oper} {v : Value} (hi : ops[i]? = some oi) (hsel : ∀ (j : Nat) (o : Oper) cs b, ops[j]? = some o → o.op ≠ .select cs b)
    (hQ : ∀ c a w, Q (.panic c) (a.put oi.dst v) w → Q (.panic c) a w) : ∀ (n : Nat) (listed : Array Bool) (a : Act),
      (∀ j oj, ops[j]? = some oj → j ≠ i → listed.getD j true = false → (∀ e ∈ oj.after, Region.binds md e = true → e.on ≠ i) → oi.apart ops oj = true) →
      i ∈ Region.ready md ops listed → YS P ops S oi v a → wpS P md ops Q S n (listed.setIfInBounds i true) (a.put oi.dst v) → wpS P md ops Q S (n + 1) listed a := by
  intro n
  induction n with
  | zero =>
    intro listed a _ hr hy H
    refine ⟨fun h => (by rw [h] at hr; cases hr), fun j hj w hS => ?_⟩
    by_cases hji : j = i
    · subst hji; exact hy.op hi hS fun w' hs => ⟨hs, H⟩
    · have := ready_mono hj hji
      rw [H.1] at this
      cases this
  | succ n ih =>
    intro listed a hfree hr hy H
    refine ⟨fun h => (by rw [h] at hr; cases hr), fun j hj w hS => ?_⟩
    by_cases hji : j = i
    · subst hji; exact hy.op hi hS fun w' hs => ⟨hs, H⟩
    · have h1 := H.2 j (ready_mono hj hji) w hS
      obtain ⟨hjun, oj, hoj, hall⟩ := mem_ready.1 hj
      have hnot : ∀ e ∈ oj.after, Region.binds md e = true → e.on ≠ i := by
        intro e he hb heq
        have h1 := hall e he hb
        have h0 := (mem_ready.1 hr).1
        rw [heq] at h1
        rcases Nat.lt_or_ge i listed.size with h' | h'
        · simp [h'] at h0 h1; rw [h0] at h1; cases h1
        · simp [Array.getElem?_eq_none h'] at h1
      have h2 := wpS_put hoj (hfree j oj hoj hji hjun hnot) (fun cs b => hsel i oi cs b hi) (fun cs b => hsel j oj cs b hoj) hQ hy h1
      refine wpOp_mono (fun a' w' h3 => ⟨h3.2.1, ih (listed.setIfInBounds j true) a' (fun k ok hk hki hun hno => ?_) (ready_mono hr (Ne.symm hji)) h3.1 ?_⟩) h2
      · refine hfree k ok hk hki ?_ hno
        by_cases hjk : j = k
        · subst hjk; exact hjun
        · rw [getD_set_ne true hjk] at hun; exact hun
      · rw [Array.setIfInBounds_comm _ _ hji]
        exact h3.2.2

/-- number i first -/
theorem wpS_take (i : Nat) {oi : Oper} {v : Value} {n : Nat} {listed : Array Bool} {a : Act} (hi : ops[i]? = some oi)
    (hs : Region.noSelect ops = true) (hf : Region.free md ops listed i = true) (hr : (Region.ready md ops listed).contains i = true)
    (hQ : ∀ c a w, Q (.panic c) (a.put oi.dst v) w → Q (.panic c) a w) (hy : YS P ops S oi v a)
    (h : wpS P md ops Q S n (listed.setIfInBounds i true) (a.put oi.dst v)) : wpS P md ops Q S (n + 1) listed a :=
  wpS_first hi (Region.noSelect_spec hs) hQ n listed a (Region.free_spec hi hf) (by simpa using hr) hy h
theorem wpS_done {listed : Array Bool} {a : Act} (hr : Region.ready md ops listed = []) (h : ∀ w, S w → Q .normal a w) : ∀ n, wpS P md ops Q S n listed a
  | 0 => ⟨hr, h⟩
  | _ + 1 => ⟨fun _ => h, by rw [hr]; simp⟩
theorem wp_regionS (S : World → Prop) {id : Nat} {a : Act} {w : World} (hm : P.follows .mixedOrders = true) (hS : S w.drew)
    (h : wpS P .any ops Q S ops.size (Array.replicate ops.size false) a) : (Code.region id ops true).wp P Q a w :=
  wp_region_any hm (wpS_any _ _ _ _ h hS)

/-- an operation that looks at no memory, or reads what S tells of -/
theorem YS.val {o : Oper} {v : Value} {a : Act} (hw : Region.wanted o (yielded ops a.tmps) = true) (h : ∀ w, S w → (execOp a.eval o).run P w = .ok (.value v) w) : YS P ops S o v a :=
  .inl ⟨hw, fun w hS => by rw [h w hS]; exact ⟨rfl, hS⟩⟩
/-- a call by its contract -/
theorem YS.call {o : Oper} {v : Value} {a : Act} {f : FuncId} {args : Array Value} (hw : Region.wanted o (yielded ops a.tmps) = true) (h : ∀ w, (execOp a.eval o).run P w = .ok (.enter f args) w)
    (hc : ∀ w, S w → Calls P f args w fun e w' => e = .returned v ∧ S w') : YS P ops S o v a :=
  .inl ⟨hw, fun w hS => by rw [h w]; exact hc w hS⟩
/-- the load of a whole row -/
theorem YS.row {o : Oper} {a : Act} (hw : Region.wanted o (yielded ops a.tmps) = true) (ty : TypeId) (x : Operand) (ho : o.op = .load ty x)
    (b : Nat) (hx : a.eval x = .pointer (some ⟨b, 0, none⟩)) (cs : List Value) (d : TypeDesc) (hS : ∀ w, S w → w.rangeAt b 0 cs)
    (hu : P.underlying ty = some d) (hd : d.isRow = true) (hi : (P.info? ty).map (·.size) = some cs.length) : YS P ops S o (.agg cs.toArray) a := by
  rcases yieldsIf_load_mid (P := P) (ops := ops) hw ty x ho b 0 hx cs d hS hu hd hi with ⟨h1, h2⟩ | ⟨h1, h2⟩
  · exact YS.val h1 h2
  · rw [hw] at h1; cases h1
/-- a call by a contract that says that memory has grown, where S bears growth -/
theorem YS.grow {o : Oper} {v : Value} {a : Act} {f : FuncId} {args : Array Value} (hw : Region.wanted o (yielded ops a.tmps) = true) (h : ∀ w, (execOp a.eval o).run P w = .ok (.enter f args) w)
    (hK : ∀ w w', S w → w.grownBy w' none → S w') (hc : ∀ w, Calls P f args w fun e w' => e = .returned v ∧ w.grownBy w' none) : YS P ops S o v a :=
  YS.call hw h fun w hS => (hc w).mono fun _ w' h => ⟨h.1, hK w w' hS h.2⟩
/-- a call that leaves the world alone -/
theorem YS.same {o : Oper} {v : Value} {a : Act} {f : FuncId} {args : Array Value} (hw : Region.wanted o (yielded ops a.tmps) = true) (h : ∀ w, (execOp a.eval o).run P w = .ok (.enter f args) w)
    (hc : ∀ w, Calls P f args w fun e w' => e = .returned v ∧ w = w') : YS P ops S o v a :=
  YS.call hw h fun w hS => (hc w).mono fun _ _ h => ⟨h.1, h.2 ▸ hS⟩
end

end Go.Proofs.Ytkdmebcfedehiaa
/- A region that draws its order and ends in one operation that waits for all the others (a store): whatever the order, one end. -/
namespace Go.Proofs.Ytkdmebcfedehiaa
open Go.RowKit

section
variable {P : Program} {ops : Array Oper} {Q : Exit → Act → World → Prop} {md : Region.Mode} {S : World → Prop} {L : Nat}

/-- whatever order is picked, from whatever world of which S holds; number L is the last -/
def wpT (P : Program) (md : Region.Mode) (ops : Array Oper) (Q : Exit → Act → World → Prop) (S : World → Prop) (L : Nat) : Nat → Array Bool → Act → Prop
  | 0, _, _ => False
  | n + 1, listed, a => Region.ready md ops listed ≠ [] ∧
    ∀ i ∈ Region.ready md ops listed, ∀ w, S w → wpOp P ops Q i (fun a' w' => if i = L then Region.ready md ops (listed.setIfInBounds i true) = [] ∧ Q .normal a' w' else S w' ∧ wpT P md ops Q S L n (listed.setIfInBounds i true) a') a w

theorem wpT_any : ∀ (n : Nat) (listed : Array Bool) (a : Act) (w : World), wpT P md ops Q S L n listed a → S w → wpAny P md ops Q n listed a w
  | 0, _, _, _, h, _ => h.elim
  | n + 1, listed, a, w, h, hS => by
    refine ⟨fun h0 => absurd h0 h.1, fun i hi => wpOp_mono (fun a' w' h' => ?_) (h.2 i hi w hS)⟩
    by_cases hL : i = L
    · rw [if_pos hL] at h'
      exact wpAny_done h'.1 h'.2 n
    · rw [if_neg hL] at h'
      exact wpT_any n _ a' w' h'.2 h'.1

/-- what has come up has what it waited for -/
def Closed (md : Region.Mode) (ops : Array Oper) (listed : Array Bool) : Prop := ∀ (j : Nat) (o : Oper), ops[j]? = some o → listed.getD j false = true → ∀ e ∈ o.after, Region.binds md e = true → listed.getD e.on false = true
def closedB (md : Region.Mode) (ops : Array Oper) (listed : Array Bool) : Bool := (List.range ops.size).all fun j => match ops[j]? with
  | some o => !listed.getD j false || o.after.all fun e => !Region.binds md e || listed.getD e.on false
  | none => true
theorem closed_of {listed : Array Bool} (h : closedB md ops listed = true) : Closed md ops listed := by
  intro j o ho hj e he hb
  have h1 := List.all_eq_true.1 h j (List.mem_range.2 (Array.getElem?_eq_some_iff.1 ho).1)
  simp only [ho, hj, Bool.not_true, Bool.false_or] at h1
  have h2 := Array.all_eq_true_iff_forall_mem.1 h1 e he
  simpa [hb] using h2
theorem Closed.set {listed : Array Bool} (h : Closed md ops listed) {j : Nat} (hj : j ∈ Region.ready md ops listed) : Closed md ops (listed.setIfInBounds j true) := by
  intro k o ho hk e he hb
  by_cases hkj : j = k
  · subst hkj
    obtain ⟨_, o', ho', hall⟩ := mem_ready.1 hj
    rw [ho] at ho'
    injection ho' with ho'
    subst ho'
    exact getD_set_true (hall e he hb)
  · rw [getD_set_ne false hkj] at hk
    exact getD_set_true (h k o ho hk e he hb)
/-- does i come ahead of L: directly, or by one between -/
def aheadB (md : Region.Mode) (ops : Array Oper) (oL : Oper) (i : Nat) : Bool := oL.after.any (fun e => Region.binds md e && e.on == i) || oL.after.any (fun e => Region.binds md e && (match ops[e.on]? with
  | some o => o.after.any (fun f => Region.binds md f && f.on == i)
  | none => false))
theorem ahead_listed {listed : Array Bool} {oL : Oper} {i : Nat} (hc : Closed md ops listed) (h : aheadB md ops oL i = true) (hall : ∀ e ∈ oL.after, Region.binds md e = true → listed.getD e.on false = true) : listed.getD i false = true := by
  unfold aheadB at h
  rw [Bool.or_eq_true] at h
  rcases h with h | h
  · obtain ⟨e, he, hb⟩ := Array.any_eq_true'.1 h
    simp only [Bool.and_eq_true, beq_iff_eq] at hb
    rw [← hb.2]
    exact hall e he hb.1
  · obtain ⟨e, he, hb⟩ := Array.any_eq_true'.1 h
    rw [Bool.and_eq_true] at hb
    have h1 := hall e he hb.1
    have h2 := hb.2
    cases ho : ops[e.on]? with
    | none => rw [ho] at h2; cases h2
    | some o =>
      rw [ho] at h2
      obtain ⟨f, hf, hfb⟩ := Array.any_eq_true'.1 h2
      simp only [Bool.and_eq_true, beq_iff_eq] at hfb
      rw [← hfb.2]
      exact hc e.on o ho h1 f hf hfb.1
theorem wpT_first {i : Nat} {oi oL : Oper} {v : Value} (hi : ops[i]? = some oi) (hoL : ops[L]? = some oL) (hiL : i ≠ L) (hLi : aheadB md ops oL i = true) (hsel : ∀ (j : Nat) (o : Oper) cs b, ops[j]? = some o → o.op ≠ .select cs b)
    (hQ : ∀ c a w, Q (.panic c) (a.put oi.dst v) w → Q (.panic c) a w) : ∀ (n : Nat) (listed : Array Bool) (a : Act), Closed md ops listed →
      (∀ j oj, ops[j]? = some oj → j ≠ i → listed.getD j true = false → (∀ e ∈ oj.after, Region.binds md e = true → e.on ≠ i) → oi.apart ops oj = true) →
      i ∈ Region.ready md ops listed → YS P ops S oi v a → wpT P md ops Q S L n (listed.setIfInBounds i true) (a.put oi.dst v) → wpT P md ops Q S L (n + 1) listed a := by
  intro n
  induction n with
  | zero => intro listed a _ _ _ _ H; exact H.elim
  | succ n ih =>
    intro listed a hcl hfree hr hy H
    refine ⟨fun h => (by rw [h] at hr; cases hr), fun j hj w hS => ?_⟩
    obtain ⟨hjun, oj, hoj, hall⟩ := mem_ready.1 hj
    have hnot : ∀ e ∈ oj.after, Region.binds md e = true → e.on ≠ i := by
      intro e he hb heq
      have h1 := hall e he hb
      have h0 := (mem_ready.1 hr).1
      rw [heq] at h1
      rcases Nat.lt_or_ge i listed.size with h' | h'
      · simp [h'] at h0 h1; rw [h0] at h1; cases h1
      · simp [Array.getElem?_eq_none h'] at h1
    by_cases hji : j = i
    · subst hji
      refine hy.op hi hS fun w' hs => ?_
      rw [if_neg hiL]
      exact ⟨hs, H⟩
    · have hjL : j ≠ L := by
        rintro rfl
        rw [hoL] at hoj
        injection hoj with hoj
        subst hoj
        have h1 := ahead_listed hcl hLi hall
        have h0 := (mem_ready.1 hr).1
        rcases Nat.lt_or_ge i listed.size with h' | h'
        · simp [h'] at h0 h1; rw [h0] at h1; cases h1
        · simp [Array.getElem?_eq_none h'] at h1
      have h1 := H.2 j (ready_mono hj hji) w hS
      have h2 := wpS_put hoj (hfree j oj hoj hji hjun hnot) (fun cs b => hsel i oi cs b hi) (fun cs b => hsel j oj cs b hoj) hQ hy h1
      refine wpOp_mono (fun a' w' h3 => ?_) h2
      rw [if_neg hjL] at h3 ⊢
      refine ⟨h3.2.1, ih (listed.setIfInBounds j true) a' (hcl.set hj) (fun k ok hk hki hun hno => ?_) (ready_mono hr (Ne.symm hji)) h3.1 ?_⟩
      · refine hfree k ok hk hki ?_ hno
        by_cases hjk : j = k
        · subst hjk; exact hjun
        · rw [getD_set_ne true hjk] at hun; exact hun
      · rw [Array.setIfInBounds_comm _ _ hji]
        exact h3.2.2

/-- number i first -/
theorem wpT_take (i : Nat) {oi oL : Oper} {v : Value} {n : Nat} {listed : Array Bool} {a : Act} (hi : ops[i]? = some oi) (hoL : ops[L]? = some oL) (hiL : (i == L) = false) (hLi : aheadB md ops oL i = true) (hcl : closedB md ops listed = true)
    (hs : Region.noSelect ops = true) (hf : Region.free md ops listed i = true) (hr : (Region.ready md ops listed).contains i = true)
    (hQ : ∀ c a w, Q (.panic c) (a.put oi.dst v) w → Q (.panic c) a w) (hy : YS P ops S oi v a)
    (h : wpT P md ops Q S L n (listed.setIfInBounds i true) (a.put oi.dst v)) : wpT P md ops Q S L (n + 1) listed a :=
  wpT_first hi hoL (by simpa using hiL) hLi (Region.noSelect_spec hs) hQ n listed a (closed_of hcl) (Region.free_spec hi hf) (by simpa using hr) hy h
/-- the last one, carried out -/
theorem wpT_last {oL : Oper} {n : Nat} {listed : Array Bool} {a : Act} (hoL : ops[L]? = some oL) (hr : Region.ready md ops listed = [L]) (hr2 : Region.ready md ops (listed.setIfInBounds L true) = []) (hw : Region.wanted oL (yielded ops a.tmps) = true)
    (h : ∀ w, S w → ∀ K : Act → World → Prop, (∀ a' w', Q .normal a' w' → K a' w') → oL.wp P a w K Q) : wpT P md ops Q S L (n + 1) listed a := by
  refine ⟨by rw [hr]; simp, fun i hi w hS => ?_⟩
  rw [hr] at hi
  obtain rfl : i = L := by simpa using hi
  unfold wpOp
  simp only [hoL, hw, if_true]
  exact .inl (h w hS _ fun a' w' hq => ⟨hr2, hq⟩)
theorem wp_regionT (S : World → Prop) (L : Nat) {id : Nat} {a : Act} {w : World} (hm : P.follows .mixedOrders = true) (hS : S w.drew)
    (h : wpT P .any ops Q S L ops.size (Array.replicate ops.size false) a) : (Code.region id ops true).wp P Q a w :=
  wp_region_any hm (wpT_any _ _ _ _ h hS)
end

end Go.Proofs.Ytkdmebcfedehiaa
/- A region that draws its order, makes a variable of its own somewhere among calls that make memory, and ends in one store: whatever the order, one end. The condition on the world may grow stronger on the way. -/
namespace Go.Proofs.Ytkdmebcfedehiaa
open Go.RowKit

/-- a condition that growth keeps -/
def Clo (S : World → Prop) : Prop := ∀ w w', S w → w.grownBy w' none → S w'
section
variable {P : Program} {ops : Array Oper} {Q : Exit → Act → World → Prop} {md : Region.Mode} {L : Nat}

def OutG (P : Program) (v : Value) (w : World) : Result Next → Prop
  | .ok (.value u) w' => u = v ∧ w.grownBy w' none
  | .ok .skip w' => v = undef ∧ w.grownBy w' none
  | .ok (.enter f args) w' => Calls P f args w' fun e w'' => e = .returned v ∧ w.grownBy w'' none
  | _ => False
def YG (P : Program) (ops : Array Oper) (S : World → Prop) (o : Oper) (v : Value) (a : Act) : Prop :=
  (Region.wanted o (yielded ops a.tmps) = true ∧ ∀ w, S w → OutG P v w ((execOp a.eval o).run P w)) ∨
  (Region.wanted o (yielded ops a.tmps) = false ∧ v = undef)
theorem YG.of {S : World → Prop} {o : Oper} {v : Value} {a a' : Act} (hy : YG P ops S o v a) (he : execOp a'.eval o = execOp a.eval o)
    (hw : Region.wanted o (yielded ops a'.tmps) = Region.wanted o (yielded ops a.tmps)) : YG P ops S o v a' := by
  unfold YG at *; rw [he, hw]; exact hy
theorem YG.sub {S S' : World → Prop} {o : Oper} {v : Value} {a : Act} (hy : YG P ops S o v a) (h : ∀ w, S' w → S w) : YG P ops S' o v a :=
  hy.imp (fun ⟨h1, h2⟩ => ⟨h1, fun w hw => h2 w (h w hw)⟩) id
theorem YG.op {S : World → Prop} {i : Nat} {o : Oper} {v : Value} {a : Act} (hi : ops[i]? = some o) (hy : YG P ops S o v a) {K : Act → World → Prop} {w : World} (hS : S w)
    (h : ∀ w', w.grownBy w' none → K (a.put o.dst v) w') : wpOp P ops Q i K a w := by
  unfold Go.wpOp
  simp only [hi]
  rcases hy with ⟨hw, hv⟩ | ⟨hw, rfl⟩
  · simp only [hw, if_true]
    refine .inl ?_
    have h1 := hv w hS
    unfold Oper.wp
    generalize (execOp a.eval o).run P w = r at h1 ⊢
    cases r with
    | ok n w' =>
      cases n with
      | value u => obtain ⟨rfl, hs⟩ := h1; exact h _ hs
      | skip => obtain ⟨rfl, hs⟩ := h1; exact h _ hs
      | enter f args =>
        simp only [OutG] at h1
        simp only [Oper.upon]
        refine Calls.mono h1 fun e w'' he => ?_
        obtain ⟨rfl, hs⟩ := he
        exact h _ hs
      | _ => exact h1.elim
    | halt x w' => exact h1.elim
  · simp only [hw, Bool.false_eq_true, if_false]; exact h _ (World.grownBy.refl _ _)

def wpX (P : Program) (md : Region.Mode) (ops : Array Oper) (Q : Exit → Act → World → Prop) (L : Nat) : Nat → (World → Prop) → Array Bool → Act → Prop
  | 0, _, _, _ => False
  | n + 1, S, listed, a => Region.ready md ops listed ≠ [] ∧
    ∀ i ∈ Region.ready md ops listed, ∀ w, S w → wpOp P ops Q i (fun a' w' => if i = L then Region.ready md ops (listed.setIfInBounds i true) = [] ∧ Q .normal a' w' else
      ∃ S' : World → Prop, S' w' ∧ (∀ w, S' w → S w) ∧ Clo S' ∧ wpX P md ops Q L n S' (listed.setIfInBounds i true) a') a w

theorem wpX_any : ∀ (n : Nat) (S : World → Prop) (listed : Array Bool) (a : Act) (w : World), wpX P md ops Q L n S listed a → S w → wpAny P md ops Q n listed a w
  | 0, _, _, _, _, h, _ => h.elim
  | n + 1, S, listed, a, w, h, hS => by
    refine ⟨fun h0 => absurd h0 h.1, fun i hi => wpOp_mono (fun a' w' h' => ?_) (h.2 i hi w hS)⟩
    by_cases hL : i = L
    · rw [if_pos hL] at h'
      exact wpAny_done h'.1 h'.2 n
    · rw [if_neg hL] at h'
      obtain ⟨S', hs, _, _, hw⟩ := h'
      exact wpX_any n S' _ a' w' hw hs

theorem wpX_put {S : World → Prop} {j : Nat} {oi oj : Oper} {v : Value} (hj : ops[j]? = some oj) (hap : oi.apart ops oj = true) (hsi : ∀ cs b, oi.op ≠ .select cs b) (hsj : ∀ cs b, oj.op ≠ .select cs b)
    (hQ : ∀ c a w, Q (.panic c) (a.put oi.dst v) w → Q (.panic c) a w) {K : Act → World → Prop} {a : Act} {w : World}
    (hy : YG P ops S oi v a) (h : wpOp P ops Q j K (a.put oi.dst v) w) : wpOp P ops Q j (fun a' w' => YG P ops S oi v a' ∧ K (a'.put oi.dst v) w') a w := by
  obtain ⟨h1, h2, h3⟩ := Oper.apart_spec hap
  have keep : ∀ (a : Act), YG P ops S oi v a → ∀ u, YG P ops S oi v (a.put oj.dst u) := fun a hy u => hy.of (execOp_put oi hsi a oj.dst u h3) (wanted_put oi a oj.dst u h3)
  unfold Go.wpOp at h ⊢
  simp only [hj] at h ⊢
  rw [wanted_put oj a oi.dst v h1] at h
  by_cases hw : Region.wanted oj (yielded ops a.tmps) = true
  · rw [if_pos hw] at h ⊢
    rcases h with h | ⟨hasks, hlets⟩
    · refine .inl ?_
      unfold Oper.wp at h ⊢
      rw [execOp_put oj hsj a oi.dst v h1] at h
      generalize (execOp a.eval oj).run P w = r at h ⊢
      cases r with
      | ok n w' =>
        cases n <;> simp only [Oper.upon] at h ⊢
        case value u => exact ⟨keep a hy u, by rw [← Act.put_comm a v u h2]; exact h⟩
        case skip => exact ⟨keep a hy _, by rw [← Act.put_comm a v undef h2]; exact h⟩
        case defer d =>
          refine ⟨keep { a with defers := d :: a.defers } (hy.of rfl rfl) _, ?_⟩
          rw [← Act.put_comm _ v undef h2, ← Act.put_defers]
          exact h
        case enter f args =>
          refine Calls.mono h fun e w'' he => ?_
          cases e with
          | returned u => exact ⟨keep a hy u, by rw [← Act.put_comm a v u h2]; exact he⟩
          | panicked c => exact hQ _ _ _ he
          | outgrown => exact he
        case row row args => exact Rows.mono h fun u w'' he => ⟨keep a hy u, by rw [← Act.put_comm a v u h2]; exact he⟩
      | halt x w' =>
        cases x <;> simp only [Oper.upon] at h ⊢
        case panic u => exact hQ _ _ _ h
    · exact .inr ⟨by unfold Oper.asks at hasks ⊢; rw [execOp_put oj hsj a oi.dst v h1] at hasks; exact hasks, hlets⟩
  · rw [if_neg hw] at h ⊢
    exact ⟨keep a hy _, by rw [← Act.put_comm a v undef h2]; exact h⟩

theorem wpX_first {i : Nat} {oi oL : Oper} {v : Value} (hi : ops[i]? = some oi) (hoL : ops[L]? = some oL) (hiL : i ≠ L) (hLi : aheadB md ops oL i = true) (hsel : ∀ (j : Nat) (o : Oper) cs b, ops[j]? = some o → o.op ≠ .select cs b)
    (hQ : ∀ c a w, Q (.panic c) (a.put oi.dst v) w → Q (.panic c) a w) : ∀ (n : Nat) (S : World → Prop) (listed : Array Bool) (a : Act), Clo S → Closed md ops listed →
      (∀ j oj, ops[j]? = some oj → j ≠ i → listed.getD j true = false → (∀ e ∈ oj.after, Region.binds md e = true → e.on ≠ i) → oi.apart ops oj = true) →
      i ∈ Region.ready md ops listed → YG P ops S oi v a → wpX P md ops Q L n S (listed.setIfInBounds i true) (a.put oi.dst v) → wpX P md ops Q L (n + 1) S listed a := by
  intro n
  induction n with
  | zero => intro S listed a _ _ _ _ _ H; exact H.elim
  | succ n ih =>
    intro S listed a hclo hcl hfree hr hy H
    refine ⟨fun h => (by rw [h] at hr; cases hr), fun j hj w hS => ?_⟩
    obtain ⟨hjun, oj, hoj, hall⟩ := mem_ready.1 hj
    have hnot : ∀ e ∈ oj.after, Region.binds md e = true → e.on ≠ i := by
      intro e he hb heq
      have h1 := hall e he hb
      have h0 := (mem_ready.1 hr).1
      rw [heq] at h1
      rcases Nat.lt_or_ge i listed.size with h' | h'
      · simp [h'] at h0 h1; rw [h0] at h1; cases h1
      · simp [Array.getElem?_eq_none h'] at h1
    by_cases hji : j = i
    · subst hji
      refine hy.op hi hS fun w' hg => ?_
      rw [if_neg hiL]
      exact ⟨S, hclo w w' hS hg, fun _ h => h, hclo, H⟩
    · have hjL : j ≠ L := by
        rintro rfl
        rw [hoL] at hoj
        injection hoj with hoj
        subst hoj
        have h1 := ahead_listed hcl hLi hall
        have h0 := (mem_ready.1 hr).1
        rcases Nat.lt_or_ge i listed.size with h' | h'
        · simp [h'] at h0 h1; rw [h0] at h1; cases h1
        · simp [Array.getElem?_eq_none h'] at h1
      have h1 := H.2 j (ready_mono hj hji) w hS
      have h2 := wpX_put hoj (hfree j oj hoj hji hjun hnot) (fun cs b => hsel i oi cs b hi) (fun cs b => hsel j oj cs b hoj) hQ hy h1
      refine wpOp_mono (fun a' w' h3 => ?_) h2
      rw [if_neg hjL] at h3 ⊢
      obtain ⟨hya, S', hs', hsub, hclo', hwx⟩ := h3
      refine ⟨S', hs', hsub, hclo', ih S' (listed.setIfInBounds j true) a' hclo' (hcl.set hj) (fun k ok hk hki hun hno => ?_) (ready_mono hr (Ne.symm hji)) (hya.sub hsub) ?_⟩
      · refine hfree k ok hk hki ?_ hno
        by_cases hjk : j = k
        · subst hjk; exact hjun
        · rw [getD_set_ne true hjk] at hun; exact hun
      · rw [Array.setIfInBounds_comm _ _ hji]
        exact hwx

/-- number i first -/
theorem wpX_take (i : Nat) {S : World → Prop} {oi oL : Oper} {v : Value} {n : Nat} {listed : Array Bool} {a : Act} (hclo : Clo S) (hi : ops[i]? = some oi) (hoL : ops[L]? = some oL) (hiL : (i == L) = false) (hLi : aheadB md ops oL i = true) (hcl : closedB md ops listed = true)
    (hs : Region.noSelect ops = true) (hf : Region.free md ops listed i = true) (hr : (Region.ready md ops listed).contains i = true)
    (hQ : ∀ c a w, Q (.panic c) (a.put oi.dst v) w → Q (.panic c) a w) (hy : YG P ops S oi v a)
    (h : wpX P md ops Q L n S (listed.setIfInBounds i true) (a.put oi.dst v)) : wpX P md ops Q L (n + 1) S listed a :=
  wpX_first hi hoL (by simpa using hiL) hLi (Region.noSelect_spec hs) hQ n S listed a hclo (closed_of hcl) (Region.free_spec hi hf) (by simpa using hr) hy h
/-- the one that may come up alone is carried out; the condition may grow stronger -/
theorem wpX_step (k : Nat) {S : World → Prop} {o : Oper} {n : Nat} {listed : Array Bool} {a : Act} (ho : ops[k]? = some o) (hkL : (k == L) = false) (hr : Region.ready md ops listed = [k]) (hw : Region.wanted o (yielded ops a.tmps) = true)
    (h : ∀ w, S w → ∀ K : Act → World → Prop, (∀ (S' : World → Prop) a' w', S' w' → (∀ w, S' w → S w) → Clo S' → wpX P md ops Q L n S' (listed.setIfInBounds k true) a' → K a' w') → o.wp P a w K Q) : wpX P md ops Q L (n + 1) S listed a := by
  refine ⟨by rw [hr]; simp, fun i hi w hS => ?_⟩
  rw [hr] at hi
  obtain rfl : i = k := by simpa using hi
  have hne : i ≠ L := by simpa using hkL
  unfold wpOp
  simp only [ho, hw, if_true]
  refine .inl (h w hS _ fun S' a' w' h1 h2 h3 h4 => ?_)
  rw [if_neg hne]
  exact ⟨S', h1, h2, h3, h4⟩
/-- the last one, carried out -/
theorem wpX_last {S : World → Prop} {oL : Oper} {n : Nat} {listed : Array Bool} {a : Act} (hoL : ops[L]? = some oL) (hr : Region.ready md ops listed = [L]) (hr2 : Region.ready md ops (listed.setIfInBounds L true) = []) (hw : Region.wanted oL (yielded ops a.tmps) = true)
    (h : ∀ w, S w → ∀ K : Act → World → Prop, (∀ a' w', Q .normal a' w' → K a' w') → oL.wp P a w K Q) : wpX P md ops Q L (n + 1) S listed a := by
  refine ⟨by rw [hr]; simp, fun i hi w hS => ?_⟩
  rw [hr] at hi
  obtain rfl : i = L := by simpa using hi
  unfold wpOp
  simp only [hoL, hw, if_true]
  refine .inl (h w hS _ fun a' w' hq => ?_)
  exact ⟨hr2, hq⟩
theorem wp_regionX (S : World → Prop) (L : Nat) {id : Nat} {a : Act} {w : World} (hm : P.follows .mixedOrders = true) (hS : S w.drew)
    (h : wpX P .any ops Q L ops.size S (Array.replicate ops.size false) a) : (Code.region id ops true).wp P Q a w :=
  wp_region_any hm (wpX_any _ _ _ _ _ h hS)

theorem YG.val {S : World → Prop} {o : Oper} {v : Value} {a : Act} (hw : Region.wanted o (yielded ops a.tmps) = true) (h : ∀ w, S w → (execOp a.eval o).run P w = .ok (.value v) w) : YG P ops S o v a :=
  .inl ⟨hw, fun w hS => by rw [h w hS]; exact ⟨rfl, World.grownBy.refl _ _⟩⟩
theorem YG.call {S : World → Prop} {o : Oper} {v : Value} {a : Act} {f : FuncId} {args : Array Value} (hw : Region.wanted o (yielded ops a.tmps) = true) (h : ∀ w, (execOp a.eval o).run P w = .ok (.enter f args) w)
    (hc : ∀ w, S w → Calls P f args w fun e w' => e = .returned v ∧ w.grownBy w' none) : YG P ops S o v a :=
  .inl ⟨hw, fun w hS => by rw [h w]; exact hc w hS⟩
theorem YG.row {S : World → Prop} {o : Oper} {a : Act} (hw : Region.wanted o (yielded ops a.tmps) = true) (ty : TypeId) (x : Operand) (ho : o.op = .load ty x)
    (b f : Nat) (hx : a.eval x = .pointer (some ⟨b, f, none⟩)) (cs : List Value) (d : TypeDesc) (hS : ∀ w, S w → w.rangeAt b f cs)
    (hu : P.underlying ty = some d) (hd : d.isRow = true) (hi : (P.info? ty).map (·.size) = some cs.length) : YG P ops S o (.agg cs.toArray) a := by
  rcases yieldsIf_load_mid (P := P) (ops := ops) hw ty x ho b f hx cs d hS hu hd hi with ⟨h1, h2⟩ | ⟨h1, h2⟩
  · exact YG.val h1 h2
  · rw [hw] at h1; cases h1
end

end Go.Proofs.Ytkdmebcfedehiaa
/- A region that draws its order and makes one call whose answer is told only by letters: helpers for XRegX; a list's beginning handed on. -/
namespace Go.Proofs.Ytkdmebcfedehiaa
open Go.RowKit

section
variable {P : Program}
theorem wp_call_op {o : Oper} {a : Act} {w w1 : World} {K : Act → World → Prop} {Q : Exit → Act → World → Prop} {f : FuncId} {args : Array Value} (h : (execOp a.eval o).run P w = .ok (.enter f args) w1)
    (hc : Calls P f args w1 fun e w' => ∃ v, e = .returned v ∧ K (a.put o.dst v) w') : o.wp P a w K Q := by
  unfold Oper.wp
  rw [h]
  simp only [Oper.upon]
  refine hc.mono ?_
  rintro e w' ⟨v, rfl, hk⟩
  exact hk
theorem wp_val_op {o : Oper} {a : Act} {w w1 : World} {K : Act → World → Prop} {Q : Exit → Act → World → Prop} {v : Value} (h : (execOp a.eval o).run P w = .ok (.value v) w1) (hk : K (a.put o.dst v) w1) : o.wp P a w K Q := by
  unfold Oper.wp
  rw [h, Oper.upon_value]
  exact hk
end

theorem clo_grown (w0 : World) : Clo (fun u => w0.grownBy u none) := fun _ _ h g => grownBy_trans h g

theorem run_pre_op (w : World) (ev : Operand → Value) {o : Oper} (x h : Operand) (ho : o.op = .slice 24 x none (some h) none) (g N c m : Nat) (hx : ev x = .slice (some ⟨g, 0, none⟩) N c) (hh : ev h = .int .i64 (m : Int)) (hm : m ≤ c) :
    (execOp ev o).run Try.prog w = .ok (.value (.slice (some ⟨g, 0, none⟩) m c)) w := by
  have hu : Try.prog.underlying 24 = some (.slice (Try.prog.elem 24)) := by kernel_rfl
  have hz : (sizeOf (Try.prog.elem 24)).run Try.prog w = .ok 1 w := by
    obtain ⟨i, hi, hz, hs, hb⟩ := elB.info
    have he : Try.prog.elem 24 = 5 := by kernel_rfl
    rw [he]
    simp [sizeOf, typeInfo, hi, hs]
  unfold execOp
  simp only [ho, Option.map_some, Option.map_none]
  simp only [Sem.run_bind, run_sliceAt_slice (P := Try.prog) w _ _ _ _ _ hu, hx, hh]
  rw [run_slice_h (P := Try.prog) w _ _ _ _ hu _ _ (by omega) (by omega)]
  simp [hz, sliced, Addr.add]

end Go.Proofs.Ytkdmebcfedehiaa
/- A region that draws its order and makes lists of bytes and calls beside: one step each. -/
namespace Go.Proofs.Ytkdmebcfedehiaa
open Go.RowKit

theorem wp_mkB {o : Oper} {a : Act} {w : World} {K : Act → World → Prop} {Q : Exit → Act → World → Prop} (l c : Operand) (hop : o.op = Op.makeSlice 24 l c)
    (n : Nat) (hl : a.eval l = .int .i64 (n : Int)) (hc : a.eval c = .int .i64 (n : Int)) (hn : n ≤ 281474976710656)
    (h : ∀ W, W.heap.size = w.heap.size + 1 → w.grownBy W none → BRow W w.heap.size 5 (List.replicate n 0) → K (a.put o.dst (.slice (some ⟨w.heap.size, 0, none⟩) n n)) W) : o.wp Try.prog a w K Q := by
  obtain ⟨i, hi, hz, hs, hb⟩ := info_parts (show (Try.prog.info? 5).map (fun i => (i.zero, i.size, i.bytes)) = some (some (.int .u8 0), 1, 1) by kernel_rfl)
  have hrun := run_make_row (P := Try.prog) 24 5 i (.int .u8 0) Try.underlying24 hi hz hs rfl .i64 .i64 n (by rw [hb]; omega) (by omega) w
  unfold Oper.wp
  simp [execOp, hop, hl, hc, hrun, Result.andThen]
  refine h _ (by simp) (World.grownBy_alloc w _ none) ?_
  rw [madeCells_u8]
  exact heap_alloc_new w _
end Go.Proofs.Ytkdmebcfedehiaa
