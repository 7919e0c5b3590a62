/- octet.Big at each instance. -/
import Derived.Test.YthemlaibjchjpaaWidth
import Derived.Test.YthemlaibjchjpaaLent
namespace Go.Proofs.Ythemlaibjchjpaa
open Go.RowKit

/-- the k bytes of a number, the highest first -/
def bigL : Nat → Nat → List UInt8
  | 0, _ => []
  | k + 1, x => bigL k (x / 256) ++ [UInt8.ofNat x]
theorem bigL_length (k : Nat) : ∀ x, (bigL k x).length = k := by
  induction k with
  | zero => intro x; rfl
  | succ k ih => intro x; simp [bigL, ih]
theorem u8i (n : Nat) : ((UInt8.ofNat n).toNat : Int) = (n : Int) % 256 := by
  rw [UInt8.toNat_ofNat']; omega
theorem val_u8 {a b : Int} (h : a = b) : Value.int .u8 a = Value.int .u8 b := by rw [h]

theorem own_new (w : World) (l : List UInt8) (n : Nat) (hn : l.length = n) (hm : n ≤ maxLen) : BOwn (w.alloc (.cells (l.map bval).toArray 5)) w.heap.size (some ⟨w.heap.size, 0, none⟩) n n l := by
  subst hn
  exact ⟨by simp, .inr ⟨w.heap.size, _, rfl, Nat.le_refl _, heap_alloc_new w _, Nat.le_refl _, hm, by simp, by simp [List.take_of_length_le]⟩⟩

set_option maxRecDepth 100000 in
set_option maxHeartbeats 400000 in
theorem big8_any (x : Nat) (hx : x < 256) (w : World) : Calls Try.prog 62 #[.int .u8 x] w fun e w' => e = .returned (.slice (some ⟨w.heap.size, 0, none⟩) 1 1) ∧ w' = w.alloc (.cells ((bigL 1 x).map bval).toArray 5) := by
  have hmk : ∀ w, (Instr.makeSlice 22 (.int .i64 1) (.int .i64 1)).run Try.prog w = .ok (.slice (some ⟨w.heap.size, 0, none⟩) 1 1) (w.alloc (.cells #[.int .u8 0] 5)) := fun _ => by kernel_rfl
  go_enter Try.func62, Try.ntmps62
  go_wp2_with (go_at_call 78; refine (width8_any _).mono ?_; rintro e w' ⟨rfl, rfl⟩)
  go_rounds 2
  go_ret
  refine ⟨rfl, ?_⟩
  refine congrArg (fun c : List Value => w.alloc (.cells c.toArray 5)) ?_
  simp only [bigL, List.nil_append, List.cons_append, List.map_cons, List.map_nil, bval, u8i]
  repeat (first | (refine congr (congrArg List.cons (val_u8 (by omega))) ?_) | rfl)

set_option maxRecDepth 100000 in
set_option maxHeartbeats 400000 in
theorem big16_any (x : Nat) (hx : x < 65536) (w : World) : Calls Try.prog 49 #[.int .u16 x] w fun e w' => e = .returned (.slice (some ⟨w.heap.size, 0, none⟩) 2 2) ∧ w' = w.alloc (.cells ((bigL 2 x).map bval).toArray 5) := by
  have hmk : ∀ w, (Instr.makeSlice 22 (.int .i64 2) (.int .i64 2)).run Try.prog w = .ok (.slice (some ⟨w.heap.size, 0, none⟩) 2 2) (w.alloc (.cells #[.int .u8 0, .int .u8 0] 5)) := fun _ => by kernel_rfl
  go_enter Try.func49, Try.ntmps49
  go_wp2_with (go_at_call 75; refine (width16_any _).mono ?_; rintro e w' ⟨rfl, rfl⟩)
  go_rounds 3
  go_ret
  refine ⟨rfl, ?_⟩
  refine congrArg (fun c : List Value => w.alloc (.cells c.toArray 5)) ?_
  simp only [bigL, List.nil_append, List.cons_append, List.map_cons, List.map_nil, bval, u8i]
  repeat (first | (refine congr (congrArg List.cons (val_u8 (by omega))) ?_) | rfl)

set_option maxRecDepth 100000 in
set_option maxHeartbeats 400000 in
theorem big32_any (x : Nat) (hx : x < 4294967296) (w : World) : Calls Try.prog 63 #[.int .u32 x] w fun e w' => e = .returned (.slice (some ⟨w.heap.size, 0, none⟩) 4 4) ∧ w' = w.alloc (.cells ((bigL 4 x).map bval).toArray 5) := by
  have hmk : ∀ w, (Instr.makeSlice 22 (.int .i64 4) (.int .i64 4)).run Try.prog w = .ok (.slice (some ⟨w.heap.size, 0, none⟩) 4 4) (w.alloc (.cells #[.int .u8 0, .int .u8 0, .int .u8 0, .int .u8 0] 5)) := fun _ => by kernel_rfl
  go_enter Try.func63, Try.ntmps63
  go_wp2_with (go_at_call 77; refine (width32_any _).mono ?_; rintro e w' ⟨rfl, rfl⟩)
  go_rounds 5
  go_ret
  refine ⟨rfl, ?_⟩
  refine congrArg (fun c : List Value => w.alloc (.cells c.toArray 5)) ?_
  simp only [bigL, List.nil_append, List.cons_append, List.map_cons, List.map_nil, bval, u8i]
  repeat (first | (refine congr (congrArg List.cons (val_u8 (by omega))) ?_) | rfl)

set_option maxRecDepth 100000 in
set_option maxHeartbeats 400000 in
theorem big64_any (x : Nat) (hx : x < 18446744073709551616) (w : World) : Calls Try.prog 50 #[.int .u64 x] w fun e w' => e = .returned (.slice (some ⟨w.heap.size, 0, none⟩) 8 8) ∧ w' = w.alloc (.cells ((bigL 8 x).map bval).toArray 5) := by
  have hmk : ∀ w, (Instr.makeSlice 22 (.int .i64 8) (.int .i64 8)).run Try.prog w = .ok (.slice (some ⟨w.heap.size, 0, none⟩) 8 8) (w.alloc (.cells #[.int .u8 0, .int .u8 0, .int .u8 0, .int .u8 0, .int .u8 0, .int .u8 0, .int .u8 0, .int .u8 0] 5)) := fun _ => by kernel_rfl
  go_enter Try.func50, Try.ntmps50
  go_wp2_with (go_at_call 76; refine (width64_any _).mono ?_; rintro e w' ⟨rfl, rfl⟩)
  go_rounds 9
  go_ret
  refine ⟨rfl, ?_⟩
  refine congrArg (fun c : List Value => w.alloc (.cells c.toArray 5)) ?_
  simp only [bigL, List.nil_append, List.cons_append, List.map_cons, List.map_nil, bval, u8i]
  repeat (first | (refine congr (congrArg List.cons (val_u8 (by omega))) ?_) | rfl)

end Go.Proofs.Ythemlaibjchjpaa
