/- octet.Less and the document's. -/
import Derived.Test.YthemlaibjchjpaaFrm
import Derived.Test.YthemlaibjchjpaaSame
import Derived.Lib.Bytealg
import Derived.Lib.UnsafeStr
import Derived.Laws.Externs
namespace Go.Proofs.Ythemlaibjchjpaa
open Go.RowKit

theorem run_bytesOf (a : Option Addr) (n c : Nat) (l : List UInt8) (w : World) (h : BLies w a l) (hl : l.length = n) : (Extern.Bytes.bytesOf (.slice a n c)).run Try.prog w = .ok ⟨l.toArray⟩ w := by
  cases a with
  | none =>
    have h0 : l = [] := by
      cases l with
      | nil => rfl
      | cons x t =>
        obtain ⟨b, off, e, _⟩ := h 0 (by simp)
        cases e
    subst h0
    rfl
  | some ad =>
    subst hl
    have go : ∀ (l : List UInt8) (a : Addr) (acc : ByteArray), (∀ j x, l[j]? = some x → w.cell? (a.add j) = some (.int .u8 x.toNat)) → (Extern.Bytes.loadBytes a l.length acc).run Try.prog w = .ok ⟨acc.data ++ l.toArray⟩ w := by
      intro l
      induction l with
      | nil => intro a acc _; simp [Extern.Bytes.loadBytes]
      | cons x l ih =>
        intro a acc h
        have h0 : w.cell? a = some (.int .u8 x.toNat) := by
          have := h 0 x rfl
          simpa [Addr.add] using this
        have ih' := ih (a.add 1) (acc.push x) (fun j y hy => by
          have := h (j + 1) y (by simpa using hy)
          have e : (a.add 1).add j = a.add (j + 1) := by
            unfold Addr.add
            by_cases hj : j = 0
            · subst hj; simp
            · simp [hj]; omega
          rw [e]; exact this)
        have hx : ((x.toNat : Int).toNat).toUInt8 = x := by simp
        simp only [List.length_cons, Extern.Bytes.loadBytes, Sem.run_bind, run_load, h0, Result.andThen, hx]
        rw [ih']
        congr 1
        apply ByteArray.ext
        simp [ByteArray.push]
    have hr := go l ad .empty (fun j x hj => by
      obtain ⟨hj', rfl⟩ := List.getElem?_eq_some_iff.1 hj
      obtain ⟨b, off, e, hc⟩ := h j hj'
      injection e with e
      subst e
      have h2 : (⟨b, off, none⟩ : Addr).add j = ⟨b, off + j, none⟩ := by unfold Addr.add; split <;> simp_all
      rw [h2]; exact hc)
    refine Eq.trans (show _ = (Extern.Bytes.loadBytes ad l.length .empty).run Try.prog w from rfl) (hr.trans ?_)
    congr 1
    apply ByteArray.ext
    simp
theorem run_compare (a a' : Option Addr) (n n' c c' : Nat) (l m : List UInt8) (w : World) (h : BLies w a l) (hl : l.length = n) (h' : BLies w a' m) (hm : m.length = n') :
    (Extern.BytealgCompare.compare #[.slice a n c, .slice a' n' c']).run Try.prog w = .ok (.int .i64 (Lib.compareBytes l m)) w := by
  change Sem.run Try.prog (do pure (goInt (Extern.BytealgCompare.cmp (← Extern.Bytes.bytesOf (.slice a n c)) (← Extern.Bytes.bytesOf (.slice a' n' c'))))) w = _
  simp only [Sem.run_bind, run_bytesOf a n c l w h hl, run_bytesOf a' n' c' m w h' hm, Sem.run_pure, Result.andThen]
  rw [Lib.cmp_eq]
  rfl
theorem lessL_cmp : ∀ (l m : List UInt8), decide (Lib.compareBytes l m < 0) = lessL l m
  | [], [] => rfl
  | [], _ :: _ => rfl
  | _ :: _, [] => rfl
  | x :: s, y :: t => by
    rw [Lib.compareBytes, lessL]
    by_cases h1 : x < y
    · have h2 : x ≠ y := fun e => by subst e; exact absurd h1 (UInt8.lt_irrefl _)
      rw [if_pos h1, if_neg h2]
      simp [UInt8.lt_iff_toNat_lt.1 h1]
    · rw [if_neg h1]
      by_cases h3 : y < x
      · have h2 : x ≠ y := fun e => by subst e; exact absurd h3 (UInt8.lt_irrefl _)
        have h4 := UInt8.lt_iff_toNat_lt.1 h3
        rw [if_pos h3, if_neg h2]
        simp
        omega
      · have h2 : x = y := UInt8.toNat_inj.1 (by
          have h5 : ¬ x.toNat < y.toNat := fun h => h1 (UInt8.lt_iff_toNat_lt.2 h)
          have h6 : ¬ y.toNat < x.toNat := fun h => h3 (UInt8.lt_iff_toNat_lt.2 h)
          omega)
        rw [if_neg h3, if_pos h2]
        exact lessL_cmp s t

set_option maxRecDepth 100000 in
set_option maxHeartbeats 400000 in
theorem bcompare_n (a a' : Option Addr) (n n' c c' : Nat) (l m : List UInt8) (w : World) (h : BLies w a l) (hl : l.length = n) (h' : BLies w a' m) (hm : m.length = n') :
    Calls Try.prog 67 #[.slice a n c, .slice a' n' c'] w fun e w' => e = .returned (.int .i64 (Lib.compareBytes l m)) ∧ w = w' := by
  have hr := run_compare a a' n n' c c' l m w h hl h' hm
  have HR := Lib.hid hr
  clear hr h hl h' hm
  go_enter Try.func67, Try.ntmps67
  go_wp2
  rw [run_callFunc_extern Try.func79 (by kernel_rfl) (by kernel_rfl) (by kernel_rfl) (e := Extern.BytealgCompare.compare) (by kernel_rfl), HR.out]
  simp only [Result.andThen]
  rw [Oper.upon_value]
  go_wp2
  go_ret
  exact ⟨rfl, rfl⟩
set_option maxRecDepth 100000 in
set_option maxHeartbeats 400000 in
theorem less_n (a a' : Option Addr) (n n' c c' : Nat) (l m : List UInt8) (w : World) (h : BLies w a l) (hl : l.length = n) (h' : BLies w a' m) (hm : m.length = n') :
    Calls Try.prog 29 #[.slice a n c, .slice a' n' c'] w fun e w' => e = .returned (.bool (lessL l m)) ∧ w = w' := by
  rw [← lessL_cmp]
  have HC := Lib.hid (bcompare_n a a' n n' c c' l m w h hl h' hm)
  clear h hl h' hm
  obtain ⟨z, hz⟩ : ∃ z, z = Lib.compareBytes l m := ⟨_, rfl⟩
  rw [← hz] at HC ⊢
  clear hz
  go_enter Try.func29, Try.ntmps29
  go_wp2_with (go_at_call 67; refine HC.out.mono ?_; rintro e w' ⟨rfl, rfl⟩)
  go_ret
  exact ⟨rfl, rfl⟩

theorem lessL_step {l m : List UInt8} {k : Nat} (hl : k < l.length) (hm : k < m.length) (h : l.take k = m.take k) (e : l[k] ≠ m[k]) : lessL l m = decide ((l[k]).toNat < (m[k]).toNat) := by
  induction k generalizing l m with
  | zero =>
    cases l with
    | nil => simp at hl
    | cons x s =>
      cases m with
      | nil => simp at hm
      | cons y t =>
        simp only [List.getElem_cons_zero] at e ⊢
        rw [lessL, if_neg e]
  | succ k ih =>
    cases l with
    | nil => simp at hl
    | cons x s =>
      cases m with
      | nil => simp at hm
      | cons y t =>
        simp only [List.take_succ_cons, List.cons.injEq] at h
        rw [lessL, if_pos h.1]
        exact ih (by simpa using hl) (by simpa using hm) h.2 e
theorem lessL_end {l m : List UInt8} {k : Nat} (hl : k ≤ l.length) (hm : k ≤ m.length) (h : l.take k = m.take k) (hk : ¬ (k < l.length ∧ k < m.length)) : lessL l m = decide (l.length < m.length) := by
  induction k generalizing l m with
  | zero =>
    cases l with
    | nil => cases m <;> simp [lessL]
    | cons x s =>
      cases m with
      | nil => simp [lessL]
      | cons y t => simp at hk
  | succ k ih =>
    cases l with
    | nil => simp at hl
    | cons x s =>
      cases m with
      | nil => simp at hm
      | cons y t =>
        simp only [List.take_succ_cons, List.cons.injEq] at h
        rw [lessL, if_pos h.1, ih (by simpa using hl) (by simpa using hm) h.2 (by simpa using hk)]
        simp

set_option maxRecDepth 100000 in
set_option maxHeartbeats 400000 in
theorem refLess_n (a a' : Option Addr) (n n' c c' : Nat) (l m : List UInt8) (w : World) (h : BLies w a l) (hl : l.length = n) (h' : BLies w a' m) (hm : m.length = n') (hn : n ≤ 4000000000) (hn' : n' ≤ 4000000000) :
    Calls Try.prog 31 #[.slice a n c, .slice a' n' c'] w fun e w' => e = .returned (.bool (lessL l m)) ∧ ∃ q, w' = w.drewN q := by
  have HA := Lib.hid h
  have HB := Lib.hid h'
  have HL := Lib.hid hl
  have HM := Lib.hid hm
  clear h hl h' hm
  go_enter Try.func31, Try.ntmps31
  go_wp2
  go_loopw [5] (fun i wr => ∃ k q : Nat, k ≤ n ∧ k ≤ n' ∧ i = .int .i64 k ∧ wr = w.drewN q ∧ l.take k = m.take k) (fun i _ => n - (intOf i).toNat)
  case atStart => exact ⟨0, 0, by omega, by omega, rfl, rfl, by simp⟩
  case round =>
    obtain ⟨k, q, hk, hk', rfl, rfl, ht⟩ := hrel
    have HT := Lib.hid ht
    clear ht
    by_cases hlt : k < n
    · by_cases hlt2 : k < n'
      · have h1 : k < l.length := by rw [HL.out]; exact hlt
        have h2 : k < m.length := by rw [HM.out]; exact hlt2
        obtain ⟨b, off, rfl, hc⟩ := HA.out k h1
        obtain ⟨b', off', rfl, hc'⟩ := HB.out k h2
        by_cases he : l[k] = m[k]
        · have hbn : (((l[k]).toNat : Int) != ((m[k]).toNat : Int)) = false := by simp [he]
          go_wp2
          go_quiet (fail)
          go_wp2
          go_roundw
          case rel => exact ⟨k + 1, q + nq, by omega, by omega, by go_num, by simp, take_step h1 h2 HT.out he⟩
          case measure => simp [intOf]; omega
        · have hbn : (((l[k]).toNat : Int) != ((m[k]).toNat : Int)) = true := by
            rw [bne_iff_ne]
            intro h
            exact he (UInt8.toNat_inj.1 (by omega))
          have hls := lessL_step h1 h2 HT.out he
          obtain ⟨R, hR⟩ : ∃ R, R = lessL l m := ⟨_, rfl⟩
          rw [← hR] at hls
          have hcmp : decide (((l[k]).toNat : Int) < ((m[k]).toNat : Int)) = R := by rw [hls]; simp
          have HRR := Lib.hid hR
          have HCMP := Lib.hid hcmp
          clear hR hls hcmp
          go_wp2
          go_quiet (fail)
          go_wp2
          go_quiet (fail)
          go_wp2
          go_ret
          exact ⟨ret_bool (by rw [← HRR.out, ← HCMP.out]; simp), _, by simp; rfl⟩
      · obtain rfl : k = n' := by omega
        have hend := lessL_end (l := l) (m := m) (k := k) (by rw [HL.out]; omega) (by rw [HM.out]; omega) HT.out (by rw [HM.out]; omega)
        rw [HL.out, HM.out] at hend
        have HE := Lib.hid hend
        clear hend
        go_wp2
        go_ret
        exact ⟨ret_bool (by rw [HE.out]), _, rfl⟩
    · obtain rfl : k = n := by omega
      have hend := lessL_end (l := l) (m := m) (k := k) (by rw [HL.out]; omega) (by rw [HM.out]; omega) HT.out (by rw [HL.out]; omega)
      rw [HL.out, HM.out] at hend
      have HE := Lib.hid hend
      clear hend
      go_wp2
      go_ret
      exact ⟨ret_bool (by rw [HE.out]), _, rfl⟩

end Go.Proofs.Ythemlaibjchjpaa
