/- strongroomkit.KeptBytes, OverBytes. -/
import Derived.Test.YthemlaibjchjpaaLent
namespace Go.Proofs.Ythemlaibjchjpaa
open Go.RowKit

set_option maxRecDepth 100000 in
set_option maxHeartbeats 1000000 in
theorem kept_any (a a' : Option Addr) (c c' : Nat) (lf l : List UInt8) (w : World) (hf : BLies w a lf) (hl : BLies w a' l) (hn : l.length ≤ 4000000000) (hm : lf.length ≤ maxLen) :
    Calls Try.prog 16 #[.slice a lf.length c, .slice a' l.length c'] w fun e w' => e = .returned (.bool (decide (lf = lent l))) ∧ w.grownBy w' none := by
  have HF : Hid (BLies w a lf) := hf
  have HL : Hid (BLies w a' l) := hl
  have e70 : l.length + 70 = (lent l).length := (lent_length l).symm
  have HE : Hid (l.length + 70 = (lent l).length) := e70
  clear hf hl e70
  go_enter Try.func16, Try.ntmps16
  go_wp2_with fail
  refine (lent_any _ _ _ _ HL.out hn).mono ?_
  rintro e w1 ⟨g, cap, rfl, hown, hg⟩
  go_wp2_with fail
  rw [HE.out]
  refine (same_any _ _ _ _ _ _ _ (HF.out.grown hg) hown.lies hm).mono ?_
  rintro e w2 ⟨rfl, n, rfl⟩
  go_wp2_with fail
  go_ret
  exact ⟨rfl, grownBy_trans hg (grownBy_drewN _ _ _)⟩

/-- what OverBytes leaves -/
def over (n : Nat) : List UInt8 := (List.range n).map fun (i : Nat) => mrk 7 ((i : Int) + 3)
theorem over_succ (n : Nat) : over (n + 1) = over n ++ [mrk 7 ((n : Int) + 3)] := by simp [over, List.range_succ]
theorem over_length (n : Nat) : (over n).length = n := by simp [over]

theorem over_step {k : Nat} {l : List UInt8} (h : k < l.length) : ((over k ++ l.drop k).map bval).set k (.int .u8 ((mrk 7 ((k : Int) + 3)).toNat : Int)) = (over (k + 1) ++ l.drop (k + 1)).map bval := by
  have e1 : l.drop k = l[k] :: l.drop (k + 1) := by simp
  rw [e1, over_succ, List.map_append, List.map_cons, List.set_append_right _ _ (by simp [over_length])]
  simp [over_length, bval]

set_option maxRecDepth 100000 in
set_option maxHeartbeats 1000000 in
theorem over_any (base g c : Nat) (l : List UInt8) (w : World) (ho : BOwn w base (some ⟨g, 0, none⟩) l.length c l) (hn : l.length ≤ 4000000100) :
    Calls Try.prog 18 #[.slice (some ⟨g, 0, none⟩) l.length c] w fun e w' => e = .returned (.tuple #[]) ∧ BOwn w' base (some ⟨g, 0, none⟩) l.length c (over l.length) ∧ w.grownBy w' (some g) := by
  go_enter Try.func18, Try.ntmps18
  go_wp2
  go_loopw [2] (fun i wr => ∃ k : Nat, k ≤ l.length ∧ i = .int .i64 k ∧ BOwn wr base (some ⟨g, 0, none⟩) l.length c (over k ++ l.drop k) ∧ w.grownBy wr (some g)) (fun i _ => l.length - (intOf i).toNat)
  case atStart => exact ⟨0, by omega, rfl, by simpa [over] using ho, World.grownBy.refl _ _⟩
  case round =>
    obtain ⟨k, hk, rfl, hown, hg⟩ := hrel
    by_cases hlt : k < l.length
    · obtain ⟨g', e1, _, _, hc, hf⟩ := Own.cell hown k (by simp [over_length]; omega)
      obtain rfl : g = g' := by simpa using e1
      clear e1
      have hset := Own.set hown k (by simp [over_length]; omega) (.int .u8 ((mrk 7 ((k : Int) + 3)).toNat : Int))
      rw [over_step hlt] at hset
      obtain ⟨u0, hu0⟩ : ∃ u0, wr.cell? ⟨g, k, none⟩ = some u0 := ⟨_, hc⟩
      clear hc
      go_wp2_with (go_at_call 59; refine (mark_any _ _ _ (by omega) (by omega)).mono ?_; rintro e w' ⟨rfl, rfl⟩)
      go_roundw
      case rel => exact ⟨k + 1, by omega, by go_num, hset, grownBy_trans hg (grownBy_setCell _ _ _ _)⟩
      case measure => simp [intOf]; omega
    · obtain rfl : k = l.length := by omega
      go_wp2
      go_end0
      exact ⟨rfl, by simpa using hown, hg⟩

/-- what LentBytes answered is as it was -/
theorem kept_yes (a a' : Option Addr) (c c' n m : Nat) (l : List UInt8) (w : World) (hf : BLies w a (lent l)) (hl : BLies w a' l) (hn : l.length = n) (hm : n + 70 = m) (hle : n ≤ 4000000000) :
    Calls Try.prog 16 #[.slice a m c, .slice a' n c'] w fun e w' => e = .returned (.bool true) ∧ w.grownBy w' none := by
  subst hn; subst hm
  rw [← lent_length]
  exact (kept_any a a' c c' (lent l) l w hf hl hle (by rw [lent_length]; unfold maxLen; omega)).mono fun e w' ⟨h1, h2⟩ => ⟨by rw [h1]; simp, h2⟩
theorem over_n (base g c n : Nat) (l : List UInt8) (w : World) (ho : BOwn w base (some ⟨g, 0, none⟩) n c l) (hn : n ≤ 4000000100) :
    Calls Try.prog 18 #[.slice (some ⟨g, 0, none⟩) n c] w fun e w' => e = .returned (.tuple #[]) ∧ BOwn w' base (some ⟨g, 0, none⟩) n c (over n) ∧ w.grownBy w' (some g) := by
  obtain rfl := ho.len
  exact over_any base g c l w ho hn

end Go.Proofs.Ythemlaibjchjpaa
