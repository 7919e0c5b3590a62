/- Helpers and contracts of the proofs over this seat: Less, Reader3, OctKnownL. Each states what a function of the program answers, or is plain Lean; its conditions stand in each statement. -/
import Derived.Lib.Bytealg
import Derived.Lib.UnsafeStr
import Derived.Laws.Externs
import Derived.Lib.SlBytesConst
import Derived.Test.YthemlaibjchjpaaPtAA
import Derived.Test.YthemlaibjchjpaaPtAB
set_option linter.unusedVariables false
/- octet.Less and the document's. -/
namespace Go.Proofs.Ythemlaibjchjpaa
open Go.RowKit

theorem run_bytesOf (a : Option Addr) (n c : Nat) (l : List UInt8) (w : World) (h : BLies w a l) (hl : l.length = n) : (Extern.Bytes.bytesOf (.slice a n c)).run Try.prog w = .ok ⟨l.toArray⟩ w := by
  cases a with
  | none =>
    have h0 : l = [] := by
      cases l with
      | nil => rfl
      | cons x t =>
        obtain ⟨b, off, e, _⟩ := h 0 (by simp)
        cases e
    subst h0
    rfl
  | some ad =>
    subst hl
    have go : ∀ (l : List UInt8) (a : Addr) (acc : ByteArray), (∀ j x, l[j]? = some x → w.cell? (a.add j) = some (.int .u8 x.toNat)) → (Extern.Bytes.loadBytes a l.length acc).run Try.prog w = .ok ⟨acc.data ++ l.toArray⟩ w := by
      intro l
      induction l with
      | nil => intro a acc _; simp [Extern.Bytes.loadBytes]
      | cons x l ih =>
        intro a acc h
        have h0 : w.cell? a = some (.int .u8 x.toNat) := by
          have := h 0 x rfl
          simpa [Addr.add] using this
        have ih' := ih (a.add 1) (acc.push x) (fun j y hy => by
          have := h (j + 1) y (by simpa using hy)
          have e : (a.add 1).add j = a.add (j + 1) := by
            unfold Addr.add
            by_cases hj : j = 0
            · subst hj; simp
            · simp [hj]; omega
          rw [e]; exact this)
        have hx : ((x.toNat : Int).toNat).toUInt8 = x := by simp
        simp only [List.length_cons, Extern.Bytes.loadBytes, Sem.run_bind, run_load, h0, Result.andThen, hx]
        rw [ih']
        congr 1
        apply ByteArray.ext
        simp [ByteArray.push]
    have hr := go l ad .empty (fun j x hj => by
      obtain ⟨hj', rfl⟩ := List.getElem?_eq_some_iff.1 hj
      obtain ⟨b, off, e, hc⟩ := h j hj'
      injection e with e
      subst e
      have h2 : (⟨b, off, none⟩ : Addr).add j = ⟨b, off + j, none⟩ := by unfold Addr.add; split <;> simp_all
      rw [h2]; exact hc)
    refine Eq.trans (show _ = (Extern.Bytes.loadBytes ad l.length .empty).run Try.prog w from rfl) (hr.trans ?_)
    congr 1
    apply ByteArray.ext
    simp
theorem run_compare (a a' : Option Addr) (n n' c c' : Nat) (l m : List UInt8) (w : World) (h : BLies w a l) (hl : l.length = n) (h' : BLies w a' m) (hm : m.length = n') :
    (Extern.BytealgCompare.compare #[.slice a n c, .slice a' n' c']).run Try.prog w = .ok (.int .i64 (Lib.compareBytes l m)) w := by
  change Sem.run Try.prog (do pure (goInt (Extern.BytealgCompare.cmp (← Extern.Bytes.bytesOf (.slice a n c)) (← Extern.Bytes.bytesOf (.slice a' n' c'))))) w = _
  simp only [Sem.run_bind, run_bytesOf a n c l w h hl, run_bytesOf a' n' c' m w h' hm, Sem.run_pure, Result.andThen]
  rw [Lib.cmp_eq]
  rfl
theorem lessL_cmp : ∀ (l m : List UInt8), decide (Lib.compareBytes l m < 0) = lessL l m
  | [], [] => rfl
  | [], _ :: _ => rfl
  | _ :: _, [] => rfl
  | x :: s, y :: t => by
    rw [Lib.compareBytes, lessL]
    by_cases h1 : x < y
    · have h2 : x ≠ y := fun e => by subst e; exact absurd h1 (UInt8.lt_irrefl _)
      rw [if_pos h1, if_neg h2]
      simp [UInt8.lt_iff_toNat_lt.1 h1]
    · rw [if_neg h1]
      by_cases h3 : y < x
      · have h2 : x ≠ y := fun e => by subst e; exact absurd h3 (UInt8.lt_irrefl _)
        have h4 := UInt8.lt_iff_toNat_lt.1 h3
        rw [if_pos h3, if_neg h2]
        simp
        omega
      · have h2 : x = y := UInt8.toNat_inj.1 (by
          have h5 : ¬ x.toNat < y.toNat := fun h => h1 (UInt8.lt_iff_toNat_lt.2 h)
          have h6 : ¬ y.toNat < x.toNat := fun h => h3 (UInt8.lt_iff_toNat_lt.2 h)
          omega)
        rw [if_neg h3, if_pos h2]
        exact lessL_cmp s t

set_option maxRecDepth 100000 in
set_option maxHeartbeats 400000 in
theorem bcompare_n (a a' : Option Addr) (n n' c c' : Nat) (l m : List UInt8) (w : World) (h : BLies w a l) (hl : l.length = n) (h' : BLies w a' m) (hm : m.length = n') :
    Calls Try.prog 67 #[.slice a n c, .slice a' n' c'] w fun e w' => e = .returned (.int .i64 (Lib.compareBytes l m)) ∧ w = w' := by
  have hr := run_compare a a' n n' c c' l m w h hl h' hm
  have HR := Lib.hid hr
  clear hr h hl h' hm
  go_enter Try.func67, Try.ntmps67
  go_wp2
  rw [run_callFunc_extern Try.func79 (by kernel_rfl) (by kernel_rfl) (by kernel_rfl) (e := Extern.BytealgCompare.compare) (by kernel_rfl), HR.out]
  simp only [Result.andThen]
  rw [Oper.upon_value]
  go_wp2
  go_ret
  exact ⟨rfl, rfl⟩
set_option maxRecDepth 100000 in
set_option maxHeartbeats 400000 in
theorem less_n (a a' : Option Addr) (n n' c c' : Nat) (l m : List UInt8) (w : World) (h : BLies w a l) (hl : l.length = n) (h' : BLies w a' m) (hm : m.length = n') :
    Calls Try.prog 29 #[.slice a n c, .slice a' n' c'] w fun e w' => e = .returned (.bool (lessL l m)) ∧ w = w' := by
  rw [← lessL_cmp]
  have HC := Lib.hid (bcompare_n a a' n n' c c' l m w h hl h' hm)
  clear h hl h' hm
  obtain ⟨z, hz⟩ : ∃ z, z = Lib.compareBytes l m := ⟨_, rfl⟩
  rw [← hz] at HC ⊢
  clear hz
  go_enter Try.func29, Try.ntmps29
  go_wp2_with (go_at_call 67; refine HC.out.mono ?_; rintro e w' ⟨rfl, rfl⟩)
  go_ret
  exact ⟨rfl, rfl⟩

theorem lessL_step {l m : List UInt8} {k : Nat} (hl : k < l.length) (hm : k < m.length) (h : l.take k = m.take k) (e : l[k] ≠ m[k]) : lessL l m = decide ((l[k]).toNat < (m[k]).toNat) := by
  induction k generalizing l m with
  | zero =>
    cases l with
    | nil => simp at hl
    | cons x s =>
      cases m with
      | nil => simp at hm
      | cons y t =>
        simp only [List.getElem_cons_zero] at e ⊢
        rw [lessL, if_neg e]
  | succ k ih =>
    cases l with
    | nil => simp at hl
    | cons x s =>
      cases m with
      | nil => simp at hm
      | cons y t =>
        simp only [List.take_succ_cons, List.cons.injEq] at h
        rw [lessL, if_pos h.1]
        exact ih (by simpa using hl) (by simpa using hm) h.2 e
theorem lessL_end {l m : List UInt8} {k : Nat} (hl : k ≤ l.length) (hm : k ≤ m.length) (h : l.take k = m.take k) (hk : ¬ (k < l.length ∧ k < m.length)) : lessL l m = decide (l.length < m.length) := by
  induction k generalizing l m with
  | zero =>
    cases l with
    | nil => cases m <;> simp [lessL]
    | cons x s =>
      cases m with
      | nil => simp [lessL]
      | cons y t => simp at hk
  | succ k ih =>
    cases l with
    | nil => simp at hl
    | cons x s =>
      cases m with
      | nil => simp at hm
      | cons y t =>
        simp only [List.take_succ_cons, List.cons.injEq] at h
        rw [lessL, if_pos h.1, ih (by simpa using hl) (by simpa using hm) h.2 (by simpa using hk)]
        simp

set_option maxRecDepth 100000 in
set_option maxHeartbeats 400000 in
theorem refLess_n (a a' : Option Addr) (n n' c c' : Nat) (l m : List UInt8) (w : World) (h : BLies w a l) (hl : l.length = n) (h' : BLies w a' m) (hm : m.length = n') (hn : n ≤ 4000000000) (hn' : n' ≤ 4000000000) :
    Calls Try.prog 31 #[.slice a n c, .slice a' n' c'] w fun e w' => e = .returned (.bool (lessL l m)) ∧ ∃ q, w' = w.drewN q := by
  have HA := Lib.hid h
  have HB := Lib.hid h'
  have HL := Lib.hid hl
  have HM := Lib.hid hm
  clear h hl h' hm
  go_enter Try.func31, Try.ntmps31
  go_wp2
  go_loopw [5] (fun i wr => ∃ k q : Nat, k ≤ n ∧ k ≤ n' ∧ i = .int .i64 k ∧ wr = w.drewN q ∧ l.take k = m.take k) (fun i _ => n - (intOf i).toNat)
  case atStart => exact ⟨0, 0, by omega, by omega, rfl, rfl, by simp⟩
  case round =>
    obtain ⟨k, q, hk, hk', rfl, rfl, ht⟩ := hrel
    have HT := Lib.hid ht
    clear ht
    by_cases hlt : k < n
    · by_cases hlt2 : k < n'
      · have h1 : k < l.length := by rw [HL.out]; exact hlt
        have h2 : k < m.length := by rw [HM.out]; exact hlt2
        obtain ⟨b, off, rfl, hc⟩ := HA.out k h1
        obtain ⟨b', off', rfl, hc'⟩ := HB.out k h2
        by_cases he : l[k] = m[k]
        · have hbn : (((l[k]).toNat : Int) != ((m[k]).toNat : Int)) = false := by simp [he]
          go_wp2
          go_quiet (fail)
          go_wp2
          go_roundw
          case rel => exact ⟨k + 1, q + nq, by omega, by omega, by go_num, by simp, take_step h1 h2 HT.out he⟩
          case measure => simp [intOf]; omega
        · have hbn : (((l[k]).toNat : Int) != ((m[k]).toNat : Int)) = true := by
            rw [bne_iff_ne]
            intro h
            exact he (UInt8.toNat_inj.1 (by omega))
          have hls := lessL_step h1 h2 HT.out he
          obtain ⟨R, hR⟩ : ∃ R, R = lessL l m := ⟨_, rfl⟩
          rw [← hR] at hls
          have hcmp : decide (((l[k]).toNat : Int) < ((m[k]).toNat : Int)) = R := by rw [hls]; simp
          have HRR := Lib.hid hR
          have HCMP := Lib.hid hcmp
          clear hR hls hcmp
          go_wp2
          go_quiet (fail)
          go_wp2
          go_quiet (fail)
          go_wp2
          go_ret
          exact ⟨ret_bool (by rw [← HRR.out, ← HCMP.out]; simp), _, by simp; rfl⟩
      · obtain rfl : k = n' := by omega
        have hend := lessL_end (l := l) (m := m) (k := k) (by rw [HL.out]; omega) (by rw [HM.out]; omega) HT.out (by rw [HM.out]; omega)
        rw [HL.out, HM.out] at hend
        have HE := Lib.hid hend
        clear hend
        go_wp2
        go_ret
        exact ⟨ret_bool (by rw [HE.out]), _, rfl⟩
    · obtain rfl : k = n := by omega
      have hend := lessL_end (l := l) (m := m) (k := k) (by rw [HL.out]; omega) (by rw [HM.out]; omega) HT.out (by rw [HL.out]; omega)
      rw [HL.out, HM.out] at hend
      have HE := Lib.hid hend
      clear hend
      go_wp2
      go_ret
      exact ⟨ret_bool (by rw [HE.out]), _, rfl⟩

end Go.Proofs.Ythemlaibjchjpaa
/- The reader's Byte, Half and Word, to the byte. -/
namespace Go.Proofs.Ythemlaibjchjpaa
open Go.RowKit

def ByteP (w : World) (g : Nat) (f : Bool) (rem : List UInt8) (la : Option Addr) (e : Ending) (w' : World) : Prop :=
  ∃ ok p f' rem' la' lm' lc', e = .returned (.int .u8 (if ok = true then smallL p else 0 : Nat)) ∧ Det f rem 1 ok p f' rem' ∧ Rdr w' g f' rem' la' lm' lc' ∧ w.grownBy w' (some g) ∧
    (0 < lm' → ∀ b off, la' = some ⟨b, off, none⟩ → ∃ o, la = some ⟨b, o, none⟩)
set_option maxRecDepth 100000 in
set_option maxHeartbeats 1000000 in
theorem number8_n (g : Nat) (f : Bool) (rem : List UInt8) (la : Option Addr) (lm lc : Nat) (w : World) (h : Rdr w g f rem la lm lc) :
    Calls Try.prog 72 #[.pointer (some ⟨g, 0, none⟩)] w fun e w' => ByteP w g f rem la e w' := by
  have HT := Lib.hid (take2_n g f rem la lm lc 1 w h)
  clear h
  go_enter Try.func72, Try.ntmps72
  go_upto_region 2 with (first
    | (go_at_call 78; refine (width8_any _).mono ?_; rintro e w' ⟨rfl, rfl⟩)
    | (go_at_call 68; refine HT.out.mono ?_; rintro e w1 ⟨a, n, c, ok, p, f', rem', la', lm', lc', rfl, hd, ht⟩; have HD := Lib.hid hd; have HK := Lib.hid ht; clear hd ht))
  cases ok with
  | false =>
    go_wp2_with fail
    go_ret
    exact ⟨false, p, f', rem', la', lm', lc', rfl, HD.out, HK.out.rdr, HK.out.grown, HK.out.src⟩
  | true =>
    have hn : n = 1 := by
      have h1 := HK.out.len
      rcases HD.out with ⟨_, _, _, h2, h3, _⟩ | ⟨h, _⟩
      · rw [h3, List.length_take] at h1
        have : (1 : Int).toNat = 1 := rfl
        omega
      · cases h
    subst hn
    have HS := Lib.hid (small8_any a c 1 p w1 HK.out.lies HK.out.len (by unfold maxLen; omega))
    go_wp2_with fail
    refine HS.out.mono ?_
    rintro e w2 ⟨rfl, rfl⟩
    rw [if_neg (by omega), if_neg (by omega)]
    go_wp2_with fail
    go_ret
    exact ⟨true, p, f', rem', la', lm', lc', rfl, HD.out, HK.out.rdr, HK.out.grown, HK.out.src⟩
set_option maxRecDepth 100000 in
set_option maxHeartbeats 1000000 in
theorem byte_n (g : Nat) (f : Bool) (rem : List UInt8) (la : Option Addr) (lm lc : Nat) (w : World) (h : Rdr w g f rem la lm lc) :
    Calls Try.prog 43 #[.pointer (some ⟨g, 0, none⟩)] w fun e w' => ByteP w g f rem la e w' := by
  have HT := Lib.hid (number8_n g f rem la lm lc w h)
  clear h
  go_enter Try.func43, Try.ntmps43
  go_wp2_with fail
  refine HT.out.mono ?_
  rintro e w1 ⟨ok, p, f', rem', la', lm', lc', rfl, h1, h2, h3, h4⟩
  have H1 := Lib.hid h1
  have H2 := Lib.hid h2
  have H3 := Lib.hid h3
  have H4 := Lib.hid h4
  clear h1 h2 h3 h4
  generalize hv : (if ok = true then smallL p else 0) = v
  have HV := Lib.hid hv
  clear hv
  go_wp2_with fail
  go_ret
  exact ⟨ok, p, f', rem', la', lm', lc', congrArg (fun z : Nat => Ending.returned (.int .u8 (z : Int))) HV.out.symm, H1.out, H2.out, H3.out, H4.out⟩
def WordP (w : World) (g : Nat) (f : Bool) (rem : List UInt8) (la : Option Addr) (e : Ending) (w' : World) : Prop :=
  ∃ ok p f' rem' la' lm' lc', e = .returned (.int .u32 (if ok = true then smallL p else 0 : Nat)) ∧ Det f rem 4 ok p f' rem' ∧ Rdr w' g f' rem' la' lm' lc' ∧ w.grownBy w' (some g) ∧
    (0 < lm' → ∀ b off, la' = some ⟨b, off, none⟩ → ∃ o, la = some ⟨b, o, none⟩)
set_option maxRecDepth 100000 in
set_option maxHeartbeats 1000000 in
theorem number32_n (g : Nat) (f : Bool) (rem : List UInt8) (la : Option Addr) (lm lc : Nat) (w : World) (h : Rdr w g f rem la lm lc) :
    Calls Try.prog 73 #[.pointer (some ⟨g, 0, none⟩)] w fun e w' => WordP w g f rem la e w' := by
  have HT := Lib.hid (take2_n g f rem la lm lc 4 w h)
  clear h
  go_enter Try.func73, Try.ntmps73
  go_upto_region 2 with (first
    | (go_at_call 77; refine (width32_any _).mono ?_; rintro e w' ⟨rfl, rfl⟩)
    | (go_at_call 68; refine HT.out.mono ?_; rintro e w1 ⟨a, n, c, ok, p, f', rem', la', lm', lc', rfl, hd, ht⟩; have HD := Lib.hid hd; have HK := Lib.hid ht; clear hd ht))
  cases ok with
  | false =>
    go_wp2_with fail
    go_ret
    exact ⟨false, p, f', rem', la', lm', lc', rfl, HD.out, HK.out.rdr, HK.out.grown, HK.out.src⟩
  | true =>
    have hn : n = 4 := by
      have h1 := HK.out.len
      rcases HD.out with ⟨_, _, _, h2, h3, _⟩ | ⟨h, _⟩
      · rw [h3, List.length_take] at h1
        have : (4 : Int).toNat = 4 := rfl
        omega
      · cases h
    subst hn
    have HS := Lib.hid (small32_any a c 4 p w1 HK.out.lies HK.out.len (by unfold maxLen; omega))
    go_wp2_with fail
    refine HS.out.mono ?_
    rintro e w2 ⟨rfl, rfl⟩
    rw [if_neg (by omega), if_neg (by omega)]
    go_wp2_with fail
    go_ret
    exact ⟨true, p, f', rem', la', lm', lc', rfl, HD.out, HK.out.rdr, HK.out.grown, HK.out.src⟩
set_option maxRecDepth 100000 in
set_option maxHeartbeats 1000000 in
theorem word_n (g : Nat) (f : Bool) (rem : List UInt8) (la : Option Addr) (lm lc : Nat) (w : World) (h : Rdr w g f rem la lm lc) :
    Calls Try.prog 44 #[.pointer (some ⟨g, 0, none⟩)] w fun e w' => WordP w g f rem la e w' := by
  have HT := Lib.hid (number32_n g f rem la lm lc w h)
  clear h
  go_enter Try.func44, Try.ntmps44
  go_wp2_with fail
  refine HT.out.mono ?_
  rintro e w1 ⟨ok, p, f', rem', la', lm', lc', rfl, h1, h2, h3, h4⟩
  have H1 := Lib.hid h1
  have H2 := Lib.hid h2
  have H3 := Lib.hid h3
  have H4 := Lib.hid h4
  clear h1 h2 h3 h4
  generalize hv : (if ok = true then smallL p else 0) = v
  have HV := Lib.hid hv
  clear hv
  go_wp2_with fail
  go_ret
  exact ⟨ok, p, f', rem', la', lm', lc', congrArg (fun z : Nat => Ending.returned (.int .u32 (z : Int))) HV.out.symm, H1.out, H2.out, H3.out, H4.out⟩
set_option maxRecDepth 100000 in
set_option maxHeartbeats 1000000 in
theorem newReader2_n (a : Option Addr) (c n : Nat) (l : List UInt8) (w : World) (ha : BLies w a l) (hl : l.length = n) (hn : n ≤ 4000000100) :
    Calls Try.prog 32 #[.slice a n c] w fun e w' => ∃ g la lc, e = .returned (.pointer (some ⟨g, 0, none⟩)) ∧ w.heap.size ≤ g ∧ Rdr w' g false l la n lc ∧ w.grownBy w' none ∧ (0 < n → ∀ b off, la = some ⟨b, off, none⟩ → w.heap.size ≤ b ∧ b < g) := by
  have HC := Lib.hid (clone_n a c n l w ha hl hn)
  have HL := Lib.hid hl
  clear ha hl
  go_enter Try.func32, Try.ntmps32
  go_wp2_with fail
  refine HC.out.mono ?_
  rintro e w1 ⟨a', c', rfl, ho, hg⟩
  have HO := Lib.hid ho
  have HG := Lib.hid hg
  clear ho hg
  go_wp2_with (refine wpList_boxed rfl rfl #[.slice a' n c', .bool true, .bool false] rfl ?_; intro w2 hs2 hg2 hr2; have HG2 := Lib.hid hg2; have HR2 := Lib.hid hr2; clear hs2 hg2 hr2)
  go_ret
  refine ⟨_, a', c', rfl, HG.out.size, ⟨HR2.out, (BOwn.lies HO.out).grown HG2.out, HL.out, HO.out.cap.1, HO.out.cap.2, fun h0 b off e => ?_⟩, grownBy_trans HG.out HG2.out, fun h0 b off e => ?_⟩
  all_goals
    obtain ⟨g, e', h1, h2⟩ := Own.block HO.out (by have := HO.out.cap.1; omega)
    rw [e'] at e
    injection e with e; injection e with e
    omega
/-- a reader while another is used -/
theorem Rdr.other {w w' : World} {g g2 : Nat} {f : Bool} {rem : List UInt8} {la : Option Addr} {lm lc : Nat} (h : Rdr w g f rem la lm lc) (hg : w.grownBy w' (some g2)) (hne : g ≠ g2) (hb : 0 < lm → ∀ b off, la = some ⟨b, off, none⟩ → b ≠ g2) : Rdr w' g f rem la lm lc :=
  ⟨h.row.ch (Ch.ofSome (S := fun x => x = g2) hg rfl) hne, by
    by_cases h0 : 0 < lm
    · exact BLies.ch h.lies (Ch.ofSome (S := fun x => x = g2) hg rfl) (fun b off e hh => hb h0 b off e hh)
    · have h3 := h.len
      intro i hi; omega, h.len, h.cap, h.big, h.apart⟩
end Go.Proofs.Ythemlaibjchjpaa
/- The law OctetKnown: the examples of the chapter. -/
namespace Go.Proofs.Ythemlaibjchjpaa
open Go.RowKit

theorem blit (w : World) (l : List UInt8) : BLies (w.alloc (.cells (l.map bval).toArray 5)) (some ⟨w.heap.size, 0, none⟩) l :=
  BRow.lies (t := 5) (show BRow (w.alloc (.cells (l.map bval).toArray 5)) w.heap.size 5 l from heap_alloc_new w _)
theorem sz_al (w : World) (o : Obj) : (w.alloc o).heap.size = w.heap.size + 1 := by
  show (w.heap.push o).size = _
  exact Array.size_push ..
theorem blit2 (w : World) (o : Obj) (l : List UInt8) : BLies ((w.alloc o).alloc (.cells (l.map bval).toArray 5)) (some ⟨w.heap.size + 1, 0, none⟩) l := by
  have h := blit (w.alloc o) l
  rw [sz_al] at h
  exact h

theorem mlit (w : World) (l : List UInt8) (fr : Nat × Nat) : BLies (w.alloc (.cells (l.map bval).toArray 5 fr)) (some ⟨w.heap.size, 0, none⟩) l := fun k hk => ⟨_, 0, rfl, by rw [World.cell?_alloc_mark]; simp [hk]; rfl⟩
theorem mlit2 (w : World) (o : Obj) (l : List UInt8) (fr : Nat × Nat) : BLies ((w.alloc o).alloc (.cells (l.map bval).toArray 5 fr)) (some ⟨w.heap.size + 1, 0, none⟩) l := by
  have h := mlit (w.alloc o) l fr
  rw [sz_al] at h
  exact h
theorem conv2 (w : World) (o : Obj) : (convert 22 22 (.slice (some ⟨w.heap.size + 1, 0, none⟩) 2 2)).run Try.prog ((w.alloc o).alloc (.cells #[.int .u8 97, .int .u8 98] 5)) = .ok (.slice (some ⟨w.heap.size + 1, 0, none⟩) 2 2) ((w.alloc o).alloc (.cells #[.int .u8 97, .int .u8 98] 5 (2, 3))) := by
  have h := Lib.run_convert_bytes_const (P := Try.prog) (w.alloc o) 22 5 #[.int .u8 97, .int .u8 98] 2 2 Try.underlying22 Try.underlying5
  rw [sz_al] at h
  exact h
theorem un_none {l : List UInt8} (h : unf l = none) : unP l = [] ∧ unE l = 13 := by unfold unP unE; rw [h]; exact ⟨rfl, rfl⟩
theorem un_7 : unf [0, 0, 0, 0, 0, 0, 0] = none := unf_short (by simp) (by decide)
theorem un_9 : unf [0, 0, 0, 0, 0, 0, 0, 2, 97] = none := unf_long (by decide) (by decide)
theorem un_0 : unP [] = [] ∧ unE [] = 0 := by unfold unP unE; rw [unf_nil]; exact ⟨rfl, rfl⟩
theorem kn_ll (w : World) (T : TypeId) : LLies ((w.alloc (.cells #[.int .u8 97] 5 (1, 2))).alloc (.cells #[.slice (some ⟨w.heap.size, 0, none⟩) 1 1, .slice none 0 0] T)) (some ⟨w.heap.size + 1, 0, none⟩) [⟨some ⟨w.heap.size, 0, none⟩, 1, 1⟩, ⟨none, 0, 0⟩] [[97], []] := by
  have h1 : BLies (w.alloc (.cells #[.int .u8 97] 5 (1, 2))) (some ⟨w.heap.size, 0, none⟩) [97] := fun k hk => by
    obtain rfl : k = 0 := by simp at hk; omega
    exact ⟨_, 0, rfl, by rw [World.cell?_alloc_mark]; rfl⟩
  refine ⟨fun k hk => ?_, rfl, fun i hi hi' => ?_⟩
  · refine ⟨_, 0, rfl, ?_⟩
    have e : w.heap.size + 1 = (w.alloc (.cells #[.int .u8 97] 5 (1, 2))).heap.size := (sz_al _ _).symm
    rw [e, World.cell?_alloc_mark]
    match k, hk with
    | 0, _ => rfl
    | 1, _ => rfl
    | k + 2, hk => simp at hk; omega
  · match i, hi with
    | 0, _ => exact ⟨h1.grown (World.grownBy_alloc _ _ none), rfl⟩
    | 1, _ => exact ⟨BLies.nil _ _, rfl⟩
    | i + 2, hi => simp at hi; omega

set_option maxRecDepth 100000 in
set_option maxHeartbeats 4000000 in
theorem octKnown_walk (w : World) : Calls Try.prog 11 #[] w fun e w' => e = .returned (.bool true) ∧ w.grownBy w' none := by
  go_enter Try.func11, Try.ntmps11
  go_wp2_with fail
  refine (big16_any 258 (by decide) _).mono ?_
  rintro e w1 ⟨rfl, rfl⟩
  go_wp2_with fail
  refine (same_yes _ _ 2 2 2 2 [1, 2] _ ((blit w [1, 2]).grown (World.grownBy_alloc _ _ none)) (blit2 w _ [1, 2]) rfl rfl (by decide)).mono ?_
  rintro e w2 ⟨rfl, q, hw2⟩
  have HG := Lib.hid (show w.grownBy w2 none from hw2 ▸ grownBy_dr (grownBy_al (World.grownBy_alloc _ _ none) _) _)
  clear hw2
  go_wp2_with fail
  refine (big64_any 1 (by decide) _).mono ?_
  rintro e w1 ⟨rfl, rfl⟩
  go_wp2_with fail
  refine (same_yes _ _ 8 8 8 8 [0, 0, 0, 0, 0, 0, 0, 1] _ ((blit w2 [0, 0, 0, 0, 0, 0, 0, 1]).grown (World.grownBy_alloc _ _ none)) (blit2 w2 _ [0, 0, 0, 0, 0, 0, 0, 1]) rfl rfl (by decide)).mono ?_
  rintro e w3 ⟨rfl, q3, hw3⟩
  replace HG := Lib.hid (show w.grownBy w3 none from hw3 ▸ grownBy_dr (grownBy_al (grownBy_al HG.out _) _) _)
  clear hw3
  go_wp2_with fail
  refine (small32_any _ 4 4 [0, 0, 1, 0] _ (blit w3 [0, 0, 1, 0]) rfl (by decide)).mono ?_
  rintro e w4 ⟨rfl, hw4⟩
  replace HG := Lib.hid (show w.grownBy w4 none from hw4 ▸ grownBy_al HG.out _)
  clear hw4
  rw [show smallL [0, 0, 1, 0] = 256 by decide, if_neg (by decide), if_neg (by decide)]
  go_wp2_with fail
  refine (small32_any _ 3 3 [1, 2, 3] _ (blit w4 [1, 2, 3]) rfl (by decide)).mono ?_
  rintro e w5 ⟨rfl, hw5⟩
  replace HG := Lib.hid (show w.grownBy w5 none from hw5 ▸ grownBy_al HG.out _)
  clear hw5
  rw [if_pos (by decide)]
  go_wp2_with fail
  refine (small32_any _ 5 5 [1, 2, 3, 4, 5] _ (blit w5 [1, 2, 3, 4, 5]) rfl (by decide)).mono ?_
  rintro e w6 ⟨rfl, hw6⟩
  replace HG := Lib.hid (show w.grownBy w6 none from hw6 ▸ grownBy_al HG.out _)
  clear hw6
  rw [if_neg (by decide), if_pos (by decide)]
  have hcv := Lib.run_convert_bytes_const (P := Try.prog) w6 22 5 #[.int .u8 97] 1 1 Try.underlying22 Try.underlying5
  go_wp2_with fail
  refine (framed_n _ 2 2 _ _ _ (kn_ll w6 _) rfl (by decide) (by decide)).mono ?_
  rintro e w7 ⟨a7, m7, c7, rfl, ho7, hg7⟩
  have h7 : BLies w7 a7 [0, 0, 0, 0, 0, 0, 0, 1, 97, 0, 0, 0, 0, 0, 0, 0, 0] := by have h := BOwn.lies ho7; rw [show fr [[97], []] = [0, 0, 0, 0, 0, 0, 0, 1, 97, 0, 0, 0, 0, 0, 0, 0, 0] by decide] at h; exact h
  have hm7 : [0, 0, 0, 0, 0, 0, 0, 1, 97, 0, 0, 0, 0, 0, 0, 0, (0 : UInt8)].length = m7 := by have h := BOwn.len ho7; rw [show fr [[97], []] = [0, 0, 0, 0, 0, 0, 0, 1, 97, 0, 0, 0, 0, 0, 0, 0, 0] by decide] at h; exact h
  obtain rfl : 17 = m7 := hm7
  have H7 := Lib.hid h7
  replace HG := Lib.hid (grownBy_trans (grownBy_al (grownBy_al HG.out _) _) hg7)
  clear hcv ho7 hg7 h7
  go_wp2_with fail
  refine (same_yes _ _ c7 17 17 17 [0, 0, 0, 0, 0, 0, 0, 1, 97, 0, 0, 0, 0, 0, 0, 0, 0] _ (H7.out.grown (World.grownBy_alloc _ _ none)) (blit w7 [0, 0, 0, 0, 0, 0, 0, 1, 97, 0, 0, 0, 0, 0, 0, 0, 0]) rfl rfl (by decide)).mono ?_
  rintro e w8 ⟨rfl, q8, hw8⟩
  replace HG := Lib.hid (show w.grownBy w8 none from hw8 ▸ grownBy_dr (grownBy_al HG.out _) _)
  clear hw8 H7
  have hmk : (Instr.makeSlice 22 (.int .i64 7) (.int .i64 7)).run Try.prog w8 = .ok (.slice (some ⟨w8.heap.size, 0, none⟩) 7 7) (w8.alloc (.cells #[.int .u8 0, .int .u8 0, .int .u8 0, .int .u8 0, .int .u8 0, .int .u8 0, .int .u8 0] 5)) := by kernel_rfl
  go_wp2_with fail
  refine (unframed_n _ 7 7 [0, 0, 0, 0, 0, 0, 0] _ (blit w8 [0, 0, 0, 0, 0, 0, 0]) rfl (by decide)).mono ?_
  rintro e w9 ⟨a9, c9, L9, rfl, _, hg9⟩
  replace HG := Lib.hid (grownBy_trans (grownBy_al HG.out _) hg9)
  clear hmk hg9
  rw [(un_none un_7).1, (un_none un_7).2]
  go_wp2_with fail
  refine (unframed_n _ 9 9 [0, 0, 0, 0, 0, 0, 0, 2, 97] _ (blit w9 [0, 0, 0, 0, 0, 0, 0, 2, 97]) rfl (by decide)).mono ?_
  rintro e w10 ⟨a10, c10, L10, rfl, _, hg10⟩
  replace HG := Lib.hid (grownBy_trans (grownBy_al HG.out _) hg10)
  clear hg10
  rw [(un_none un_9).1, (un_none un_9).2]
  go_wp2_with fail
  refine (unframed_n none 0 0 [] _ (BLies.nil _ _) rfl (by decide)).mono ?_
  rintro e w11 ⟨a11, c11, L11, rfl, _, hg11⟩
  replace HG := Lib.hid (grownBy_trans HG.out hg11)
  clear hg11
  rw [un_0.1, un_0.2]
  have hcv := Lib.run_convert_bytes_const (P := Try.prog) w11 22 5 #[.int .u8 97] 1 1 Try.underlying22 Try.underlying5
  have hcv2 := conv2 w11 (.cells #[.int .u8 97] 5 (1, 2))
  go_wp2_with fail
  refine (less_n _ _ 1 2 1 2 [97] [97, 98] _ ((mlit w11 [97] (1, 2)).grown (World.grownBy_alloc _ _ none)) rfl (mlit2 w11 _ [97, 98] (2, 3)) rfl).mono ?_
  rintro e w12 ⟨rfl, hw12⟩
  replace HG := Lib.hid (show w.grownBy w12 none from hw12 ▸ grownBy_al (grownBy_al HG.out _) _)
  clear hw12 hcv hcv2
  rw [show lessL [97] [97, 98] = true by decide]
  have hcv := Lib.run_convert_bytes_const (P := Try.prog) w12 22 5 #[.int .u8 98] 1 1 Try.underlying22 Try.underlying5
  have hcv2 := conv2 w12 (.cells #[.int .u8 98] 5 (1, 2))
  go_wp2_with fail
  refine (less_n _ _ 1 2 1 2 [98] [97, 98] _ ((mlit w12 [98] (1, 2)).grown (World.grownBy_alloc _ _ none)) rfl (mlit2 w12 _ [97, 98] (2, 3)) rfl).mono ?_
  rintro e w13 ⟨rfl, hw13⟩
  replace HG := Lib.hid (show w.grownBy w13 none from hw13 ▸ grownBy_al (grownBy_al HG.out _) _)
  clear hw13 hcv hcv2
  rw [show lessL [98] [97, 98] = false by decide]
  go_wp2_with fail
  refine (less_n none none 0 0 0 0 [] [] _ (BLies.nil _ _) rfl (BLies.nil _ _) rfl).mono ?_
  rintro e w14 ⟨rfl, rfl⟩
  rw [show lessL [] [] = false by decide]
  go_wp2_with fail
  have hw13 := HG.out.size
  refine (newReader2_n _ 3 3 [1, 2, 3] _ (blit w13 [1, 2, 3]) rfl (by decide)).mono ?_
  rintro e w15 ⟨gr, lar, lcr, rfl, hgr, hr, hg15, hbr⟩
  rw [sz_al] at hgr
  have HGR := Lib.hid hgr
  have HR := Lib.hid hr
  have HBR := Lib.hid hbr
  have HLR := Lib.hid hr.row.lt
  replace HG := Lib.hid (grownBy_trans (grownBy_al HG.out _) hg15)
  clear hgr hr hg15 hbr
  go_wp2_with fail
  refine (newReader2_n _ 5 5 [0, 0, 0, 9, 7] _ (blit w15 [0, 0, 0, 9, 7]) rfl (by decide)).mono ?_
  rintro e w16 ⟨gs, las, lcs, rfl, hgs, hs, hg16, hbs⟩
  rw [sz_al] at hgs hbs
  have HGS := Lib.hid hgs
  have HS := Lib.hid hs
  have HBS := Lib.hid hbs
  have HLS := Lib.hid hs.row.lt
  replace HR := Lib.hid (HR.out.grown (grownBy_trans (World.grownBy_alloc _ _ none) hg16))
  replace HG := Lib.hid (grownBy_trans (grownBy_al HG.out _) hg16)
  clear hgs hs hg16 hbs
  go_wp2_with fail
  refine (newReader2_n _ 1 1 [1] _ (blit w16 [1]) rfl (by decide)).mono ?_
  rintro e w17 ⟨gt, lat, lct, rfl, hgt, ht, hg17, hbt⟩
  rw [sz_al] at hgt hbt
  have HGT := Lib.hid hgt
  have HT := Lib.hid ht
  have HBT := Lib.hid hbt
  replace HR := Lib.hid (HR.out.grown (grownBy_trans (World.grownBy_alloc _ _ none) hg17))
  replace HS := Lib.hid (HS.out.grown (grownBy_trans (World.grownBy_alloc _ _ none) hg17))
  replace HG := Lib.hid (grownBy_trans (grownBy_al HG.out _) hg17)
  clear hgt ht hg17 hbt
  go_wp2_with fail
  refine (byte_n gr false [1, 2, 3] lar 3 lcr w17 HR.out).mono ?_
  rintro e w18 ⟨ok, p, f2, rem2, la2, lm2, lc2, rfl, hd, hr2, hg2, hs2⟩
  obtain ⟨rfl, rfl, rfl, rfl⟩ : ok = true ∧ p = [1] ∧ f2 = false ∧ rem2 = [2, 3] := by
    rcases hd with ⟨h1, _, _, _, h2, h3, h4⟩ | ⟨_, h, _⟩
    · exact ⟨h1, h2, h3, h4⟩
    · rcases h with h | h | h
      · cases h
      · omega
      · simp at h
  obtain rfl : 2 = lm2 := hr2.len
  have hgs := HGS.out
  have hgt := HGT.out
  have hlr := HLR.out
  have hls := HLS.out
  replace HS := Lib.hid (HS.out.other hg2 (by omega) (fun h0 b off e => by have := (HBS.out h0 b off e).1; omega))
  replace HT := Lib.hid (HT.out.other hg2 (by omega) (fun h0 b off e => by have := (HBT.out h0 b off e).1; omega))
  have HR18 := Lib.hid hr2
  have hgl := HG.out
  clear HR hr2 hd hs2
  rw [if_pos rfl, show smallL [1] = 1 by decide]
  go_wp2_with fail
  refine (word_n gr false [2, 3] la2 2 lc2 w18 HR18.out).mono ?_
  rintro e w19 ⟨ok, p, f3, rem3, la3, lm3, lc3, rfl, hd, hr3, hg3, hs3⟩
  obtain ⟨rfl, rfl, rfl⟩ : ok = false ∧ f3 = true ∧ rem3 = [2, 3] := by
    rcases hd with ⟨_, _, _, h, _⟩ | ⟨h1, _, _, h3, h4⟩
    · simp at h
    · exact ⟨h1, h3, h4⟩
  obtain rfl : 2 = lm3 := hr3.len
  replace HS := Lib.hid (HS.out.other hg3 (by omega) (fun h0 b off e => by have := (HBS.out h0 b off e).1; omega))
  replace HT := Lib.hid (HT.out.other hg3 (by omega) (fun h0 b off e => by have := (HBT.out h0 b off e).1; omega))
  have HR19 := Lib.hid hr3
  clear hr3 hd hs3
  rw [if_neg (by simp)]
  go_wp2_with fail
  refine (byte_n gr true [2, 3] la3 2 lc3 w19 HR19.out).mono ?_
  rintro e w20 ⟨ok, p, f4, rem4, la4, lm4, lc4, rfl, hd, hr4, hg4, hs4⟩
  obtain ⟨rfl, rfl, rfl⟩ : ok = false ∧ f4 = true ∧ rem4 = [2, 3] := by
    rcases hd with ⟨_, h, _⟩ | ⟨h1, _, _, h3, h4⟩
    · cases h
    · exact ⟨h1, h3, h4⟩
  obtain rfl : 2 = lm4 := hr4.len
  replace HS := Lib.hid (HS.out.other hg4 (by omega) (fun h0 b off e => by have := (HBS.out h0 b off e).1; omega))
  replace HT := Lib.hid (HT.out.other hg4 (by omega) (fun h0 b off e => by have := (HBT.out h0 b off e).1; omega))
  have HR20 := Lib.hid hr4
  clear hr4 hd hs4
  rw [if_neg (by simp)]
  go_wp2_with fail
  refine (leftf_n gr true [2, 3] la4 2 lc4 w20 HR20.out).mono ?_
  rintro e w21 ⟨rfl, rfl⟩
  rw [if_pos rfl]
  go_wp2_with fail
  refine (end_n gr true [2, 3] la4 2 lc4 w20 HR20.out).mono ?_
  rintro e w22 ⟨rfl, rfl⟩
  rw [if_pos rfl]
  go_wp2_with fail
  refine (word_n gs false [0, 0, 0, 9, 7] las 5 lcs w20 HS.out).mono ?_
  rintro e w23 ⟨ok, p, f5, rem5, la5, lm5, lc5, rfl, hd, hr5, hg5, hs5⟩
  obtain ⟨rfl, rfl, rfl, rfl⟩ : ok = true ∧ p = [0, 0, 0, 9] ∧ f5 = false ∧ rem5 = [7] := by
    rcases hd with ⟨h1, _, _, _, h2, h3, h4⟩ | ⟨_, h, _⟩
    · exact ⟨h1, h2, h3, h4⟩
    · rcases h with h | h | h
      · cases h
      · omega
      · simp at h
  obtain rfl : 1 = lm5 := hr5.len
  replace HT := Lib.hid (HT.out.other hg5 (by omega) (fun h0 b off e => by have := (HBT.out h0 b off e).1; omega))
  have HS23 := Lib.hid hr5
  clear hr5 hd hs5
  rw [if_pos rfl, show smallL [0, 0, 0, 9] = 9 by decide]
  go_wp2_with fail
  refine (leftf_n gs false [7] la5 1 lc5 w23 HS23.out).mono ?_
  rintro e w24 ⟨rfl, rfl⟩
  rw [if_neg (by simp)]
  go_wp2_with fail
  refine (end_n gs false [7] la5 1 lc5 w23 HS23.out).mono ?_
  rintro e w25 ⟨rfl, rfl⟩
  rw [if_neg (by simp), if_pos (by omega)]
  go_wp2_with fail
  refine (bytes2_n gt false [1] lat 1 lct (-1) w23 HT.out (by decide)).mono ?_
  rintro e w26 ⟨a6, n6, c6, ok, p, f6, rem6, la6, lm6, lc6, rfl, hd, ho6, hr6, hg6, hs6⟩
  obtain ⟨rfl, rfl, rfl⟩ : p = [] ∧ f6 = true ∧ rem6 = [1] := by
    rcases hd with ⟨_, _, h, _⟩ | ⟨_, _, h2, h3, h4⟩
    · omega
    · exact ⟨h2, h3, h4⟩
  obtain rfl : 0 = n6 := BOwn.len ho6
  obtain rfl : 1 = lm6 := hr6.len
  have HT26 := Lib.hid hr6
  clear hr6 hd hs6 ho6
  go_wp2_with fail
  refine (byte_n gt true [1] la6 1 lc6 w26 HT26.out).mono ?_
  rintro e w27 ⟨ok, p, f7, rem7, la7, lm7, lc7, rfl, hd, hr7, hg7, hs7⟩
  obtain ⟨rfl, rfl, rfl⟩ : ok = false ∧ f7 = true ∧ rem7 = [1] := by
    rcases hd with ⟨_, h, _⟩ | ⟨h1, _, _, h3, h4⟩
    · cases h
    · exact ⟨h1, h3, h4⟩
  obtain rfl : 1 = lm7 := hr7.len
  have HT27 := Lib.hid hr7
  clear hr7 hd hs7
  rw [if_neg (by simp)]
  go_wp2_with fail
  refine (end_n gt true [1] la7 1 lc7 w27 HT27.out).mono ?_
  rintro e w28 ⟨rfl, rfl⟩
  rw [if_pos rfl]
  have hz := HG.out.size
  have hz2 := HGR.out
  go_wp2_with fail
  go_ret
  exact ⟨rfl, grownBy_old (grownBy_old (grownBy_old (grownBy_old (grownBy_old (grownBy_old HG.out hg2 (by omega)) hg3 (by omega)) hg4 (by omega)) hg5 (by omega)) hg6 (by omega)) hg7 (by omega)⟩
end Go.Proofs.Ythemlaibjchjpaa
