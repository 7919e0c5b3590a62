/- strongroomkit.LentBytes: the list, and marks behind it, in memory of its own. -/
import Derived.Test.YthemlaibjchjpaaSame
import Derived.Test.YthemlaibjchjpaaOwn
namespace Go.Proofs.Ythemlaibjchjpaa
open Go.RowKit

/-- what LentBytes gives of a list: the list, and the marks behind it -/
def marks (n m : Nat) : List UInt8 := (List.range m).map fun (i : Nat) => mrk 0 ((n : Int) + (i : Int))
def lent (l : List UInt8) : List UInt8 := l ++ marks l.length 70
theorem marks_succ (n m : Nat) : marks n (m + 1) = marks n m ++ [mrk 0 ((n : Int) + (m : Int))] := by simp [marks, List.range_succ]
theorem marks_length (n m : Nat) : (marks n m).length = m := by simp [marks]
theorem lent_length (l : List UInt8) : (lent l).length = l.length + 70 := by simp [lent, marks_length]

/-- bytes that are owned -/
def BOwn (w : World) (base : Nat) (a : Option Addr) (n c : Nat) (l : List UInt8) : Prop := Own w base 5 1 a n c (l.map bval)

theorem BOwn.len {w : World} {base : Nat} {a : Option Addr} {n c : Nat} {l : List UInt8} (h : BOwn w base a n c l) : l.length = n := by
  have := h.1; simpa using this

theorem BOwn.cap {w : World} {base : Nat} {a : Option Addr} {n c : Nat} {l : List UInt8} (h : BOwn w base a n c l) : n ≤ c ∧ c ≤ maxLen := Own.cap h

theorem BOwn.lies {w : World} {base : Nat} {a : Option Addr} {n c : Nat} {l : List UInt8} (h : BOwn w base a n c l) : BLies w a l := by
  intro k hk
  obtain ⟨g, e, _, _, hc, _⟩ := Own.cell h k (by simpa using hk)
  exact ⟨g, 0, e, by rw [Nat.zero_add, hc]; simp [bval]⟩

theorem elB : El Try.prog 22 5 (.int .u8 0) 1 1 :=
  ⟨Try.underlying22, info_parts (by kernel_rfl), rfl, by decide⟩

theorem BLies.news {w : World} {b off : Nat} {l : List UInt8} (h : BLies w (some ⟨b, off, none⟩) l) : ∀ j u, (l.map bval)[j]? = some u → w.cell? ((⟨b, off, none⟩ : Addr).add j) = some u := by
  intro j u hu
  obtain ⟨hj, rfl⟩ := List.getElem?_eq_some_iff.1 hu
  obtain ⟨b', off', e, hc⟩ := h j (by simpa using hj)
  injection e with e; injection e with e1 e2
  subst e1; subst e2
  rw [Addr.add_lit, hc]
  simp [bval]
theorem BLies.addr {w : World} {a : Option Addr} {l : List UInt8} (h : BLies w a l) (hl : 0 < l.length) : ∃ b off, a = some ⟨b, off, none⟩ := by
  obtain ⟨b, off, e, _⟩ := h 0 hl
  exact ⟨b, off, e⟩
theorem bval_one (l : List UInt8) : ∀ u ∈ l.map bval, u.oneCell' = true := by
  intro u hu
  obtain ⟨x, _, rfl⟩ := List.mem_map.1 hu
  rfl

theorem map_take_succ {l : List UInt8} {k : Nat} (h : k < l.length) : (l.take (k + 1)).map bval = (l.take k).map bval ++ [.int .u8 ((l[k]).toNat : Int)] := by
  rw [List.take_succ_eq_append_getElem h, List.map_append]; rfl

set_option maxRecDepth 100000 in
set_option maxHeartbeats 1000000 in
theorem lent_any (a : Option Addr) (c : Nat) (l : List UInt8) (w : World) (ha : BLies w a l) (hn : l.length ≤ 4000000000) :
    Calls Try.prog 14 #[.slice a l.length c] w fun e w' => ∃ g cap, e = .returned (.slice (some ⟨g, 0, none⟩) (l.length + 70) cap) ∧ BOwn w' w.heap.size (some ⟨g, 0, none⟩) (l.length + 70) cap (lent l) ∧ w.grownBy w' none := by
  have HA : Hid (BLies w a l) := ha
  clear ha
  go_enter Try.func14, Try.ntmps14
  go_wp2
  go_loopw [3, 4] (fun v i wr => ∃ (k : Nat) (a' : Option Addr) (c' : Nat), k ≤ l.length ∧ i = .int .i64 k ∧ v = .slice a' k c' ∧ BOwn wr w.heap.size a' k c' (l.take k) ∧ w.grownBy wr none) (fun _ i _ => l.length - (intOf i).toNat)
  case atStart => exact ⟨0, none, 0, by omega, rfl, rfl, Own.nil _ _ _ _ _, World.grownBy.refl _ _⟩
  case round =>
    obtain ⟨k, a', c', hk, rfl, rfl, hown, hg⟩ := hrel
    by_cases hlt : k < l.length
    · obtain ⟨b, off, rfl, hc⟩ := HA.out k hlt
      have hc' : wr.cell? ⟨b, off + k, none⟩ = some (.int .u8 ((l[k]).toNat : Int)) := hg.cell hc (by simp)
      have hsz := hg.size
      go_wp2_with (at_builtin; refine wpList_push elB rfl (.tmp 12) (.tmp 17) rfl rfl hown (.int .u8 ((l[k]).toNat : Int)) rfl rfl (by unfold maxLen; omega) (by omega) hsz ?_; intro g cap w1 hown1 hgr)
      go_roundw
      case rel => exact ⟨k + 1, _, _, by omega, by go_num, rfl, by unfold BOwn; rw [map_take_succ hlt]; exact hown1, hgr.grew.grown hown hg (Nat.le_refl _)⟩
      case measure => simp [intOf]; omega
    · obtain rfl : k = l.length := by omega
      go_wp2
      go_loopw [3, 5] (fun v i wr => ∃ (k : Nat) (a' : Option Addr) (c' : Nat), k ≤ 70 ∧ i = .int .i64 k ∧ v = .slice a' (l.length + k) c' ∧ BOwn wr w.heap.size a' (l.length + k) c' (l ++ marks l.length k) ∧ w.grownBy wr none) (fun _ i _ => 70 - (intOf i).toNat)
      case atStart => exact ⟨0, _, _, by omega, rfl, rfl, by simpa [marks] using hown, hg⟩
      case round =>
        obtain ⟨k, a', c', hk, rfl, rfl, hown, hg⟩ := hrel
        have hsz := hg.size
        by_cases hlt : k < 70
        · go_wp2_with (first | (go_at_call 59; refine (mark_any _ _ _ (by omega) (by omega)).mono ?_; rintro e w' ⟨rfl, rfl⟩) | (at_builtin; refine wpList_push elB rfl (.tmp 23) (.tmp 29) rfl rfl hown (.int .u8 ((mrk 0 ((l.length : Int) + (k : Int))).toNat : Int)) rfl rfl (by unfold maxLen; omega) (by omega) hsz ?_; intro g cap w1 hown1 hgr))
          go_roundw
          case rel => exact ⟨k + 1, _, _, by omega, by go_num, rfl, by unfold BOwn; rw [marks_succ, ← List.append_assoc, List.map_append]; exact hown1, hgr.grew.grown hown hg (Nat.le_refl _)⟩
          case measure => simp [intOf]; omega
        · obtain rfl : k = 70 := by omega
          go_wp2
          go_ret
          obtain ⟨g, rfl, _⟩ := hown.block (by have := hown.2; omega)
          exact ⟨g, c', rfl, hown, hg⟩

theorem lent_n (a : Option Addr) (c n : Nat) (l : List UInt8) (w : World) (ha : BLies w a l) (hl : l.length = n) (hn : n ≤ 4000000000) :
    Calls Try.prog 14 #[.slice a n c] w fun e w' => ∃ g cap, e = .returned (.slice (some ⟨g, 0, none⟩) (n + 70) cap) ∧ BOwn w' w.heap.size (some ⟨g, 0, none⟩) (n + 70) cap (lent l) ∧ w.grownBy w' none := by
  subst hl
  exact lent_any a c l w ha hn

theorem lent_take (l : List UInt8) (n : Nat) (h : l.length = n) : (lent l).take n = l := by
  subst h; simp [lent]

end Go.Proofs.Ythemlaibjchjpaa
