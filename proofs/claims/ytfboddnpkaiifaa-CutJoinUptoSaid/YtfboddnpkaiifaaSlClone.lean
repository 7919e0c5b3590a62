/- slices.Clone of bytes: the same bytes in memory of its own. -/
import Derived.Test.YtfboddnpkaiifaaLent
import Derived.Lib.SliceRun
namespace Go.Proofs.Ytfboddnpkaiifaa
open Go.RowKit

set_option maxRecDepth 100000 in
set_option maxHeartbeats 400000 in
theorem sclone_n (a : Option Addr) (c n : Nat) (l : List UInt8) (w : World) (ha : BLies w a l) (hl : l.length = n) (hn : n ≤ 4000000100) :
    Calls Try.prog 52 #[.slice a n c] w fun e w' => ∃ a' c', e = .returned (.slice a' n c') ∧ BOwn w' w.heap.size a' n c' l ∧ w.grownBy w' none := by
  have qT : ∀ (w : World) (a : Option Addr) (n c n' c' : Nat), (binOp .eql 22 (.slice a n c) (.slice none n' c')).run Try.prog w = .ok (.bool a.isNone) w := fun w a n c n' c' => Lib.run_eql_slice_nil w _ _ a n c n' c' Try.underlying22
  by_cases h0 : n = 0
  · subst h0
    obtain rfl : l = [] := List.eq_nil_of_length_eq_zero hl
    clear ha hl
    cases a with
    | none =>
      go_enter Try.func52, Try.ntmps52
      go_wp2
      go_ret
      exact ⟨none, 0, rfl, Own.nil _ _ _ _ _, World.grownBy.refl _ _⟩
    | some ad =>
      go_enter Try.func52, Try.ntmps52
      go_wp2
      go_ret
      exact ⟨_, _, rfl, Own.nil _ _ _ _ _, World.grownBy_alloc _ _ _⟩
  · obtain ⟨b, off, rfl⟩ := ha.addr (by omega)
    have HA := Lib.hid ha
    have HL := Lib.hid hl
    have hsz := Nat.le_succ w.heap.size
    clear ha hl
    go_enter Try.func52, Try.ntmps52
    go_wp2_with (at_builtin; refine wpList_app elB rfl (.tmp 5) (.tmp 6) rfl rfl (Own.nil _ w.heap.size _ _ _) ⟨b, off, none⟩ n c (l.map bval) rfl (by rw [List.length_map, HL.out, Nat.mul_one]) (HA.out.grown (World.grownBy_alloc _ _ _)).news (bval_one l) (by unfold maxLen; omega) (by omega) (by simp) (by omega) ?_; intro g cap w1 hown1 hgr)
    go_ret
    simp only [Nat.zero_add, List.nil_append] at hown1
    exact ⟨_, _, by simp, hown1, hgr.grew.grown (Own.nil _ w.heap.size 5 1 _) (World.grownBy_alloc w _ none) (Nat.le_refl _)⟩

theorem BLies.drop {w : World} {b off : Nat} {l : List UInt8} (h : BLies w (some ⟨b, off, none⟩) l) (f : Nat) : BLies w (some ⟨b, off + f, none⟩) (l.drop f) := by
  intro k hk
  obtain ⟨b', off', e, hc⟩ := h (f + k) (by simp at hk; omega)
  injection e with e; injection e with e1 e2
  subst e1; subst e2
  exact ⟨b, off + f, rfl, by rw [show off + f + k = off + (f + k) by omega, hc]; simp⟩

set_option maxRecDepth 100000 in
set_option maxHeartbeats 400000 in
/-- cut.piece -/
theorem piece_n (a : Option Addr) (c N f n : Nat) (l : List UInt8) (w : World) (ha : BLies w a l) (hl : l.length = N) (hN : N ≤ 100000000) (hfn : f + n ≤ N) (hc : N ≤ c) :
    Calls Try.prog 53 #[.slice a N c, .int .i64 (f : Int), .int .i64 (n : Int)] w fun e w' => ∃ a' c', e = .returned (.slice a' n c') ∧ BOwn w' w.heap.size a' n c' ((l.drop f).take n) ∧ w.grownBy w' none := by
  have hw : IntKind.i64.wrap ((f : Int) + (n : Int)) = (f : Int) + (n : Int) := IntWalk.i64_in _ (by omega)
  have H : ∀ a', BLies w a' ((l.drop f).take n) → Calls Try.prog 52 #[.slice a' n n] w fun e w' => ∃ a'' c', e = .returned (.slice a'' n c') ∧ BOwn w' w.heap.size a'' n c' ((l.drop f).take n) ∧ w.grownBy w' none := fun a' h =>
    sclone_n a' n n _ w h (by simp; omega) (by omega)
  have H0 := Lib.hid H
  clear H
  by_cases h0 : n = 0
  · subst h0
    have H := Lib.hid (H0.out a (by simpa using BLies.nil w a))
    simp only [Int.natCast_zero, Int.add_zero] at hw ⊢
    go_enter Try.func53, Try.ntmps53
    go_wp2_with fail
    trace_state
    refine H.out.mono ?_
    rintro e w' ⟨a', c', rfl, ho, hg⟩
    go_wp2_with fail
    go_ret
    exact ⟨_, _, rfl, ho, hg⟩
  · obtain ⟨b, off, rfl⟩ := ha.addr (by omega)
    have H := Lib.hid (H0.out _ ((ha.drop f).take n))
    clear H0
    clear ha hl
    go_enter Try.func53, Try.ntmps53
    go_wp2_with fail
    trace_state
    refine H.out.mono ?_
    rintro e w' ⟨a', c', rfl, ho, hg⟩
    go_wp2_with fail
    go_ret
    exact ⟨_, _, rfl, ho, hg⟩

end Go.Proofs.Ytfboddnpkaiifaa
