/- Helpers and contracts of the proofs over this seat: CtrNone. Each states what a function of the program answers, or is plain Lean; its conditions stand in each statement. -/
import Derived.Test.YtblgdfamomlklaaPtAA
set_option linter.unusedVariables false
/- The law CtrNone: ciphers that are nil, or that nobody made. -/
namespace Go.Proofs.Ytblgdfamomlklaa
open Go.RowKit

theorem cip_info : ∃ i zc, Try.prog.info? 62 = some i ∧ i.zero = some (.agg zc) ∧ zc[0]? = some (.bool false) := ⟨(Try.prog.info? 62).getD default, #[.bool false, .int .u8 0, .int .u8 0, .int .u8 0, .int .u8 0, .int .u8 0, .int .u8 0, .int .u8 0, .int .u8 0, .int .u8 0, .int .u8 0, .int .u8 0, .int .u8 0, .int .u8 0, .int .u8 0, .int .u8 0, .int .u8 0, .int .i64 0], by kernel_rfl, by kernel_rfl, rfl⟩

set_option maxRecDepth 100000 in
set_option maxHeartbeats 1000000 in
theorem ready_nil (w : World) : Calls Try.prog 42 #[.pointer none] w fun e w' => e = .returned (.bool false) ∧ w = w' := by
  go_enter Try.func42, Try.ntmps42
  go_wp2_with fail
  go_ret
  exact ⟨rfl, rfl⟩
set_option maxRecDepth 100000 in
set_option maxHeartbeats 1000000 in
theorem ready_b (g : Nat) (b : Bool) (w : World) (h : w.cell? ⟨g, 0, none⟩ = some (.bool b)) : Calls Try.prog 42 #[.pointer (some ⟨g, 0, none⟩)] w fun e w' => e = .returned (.bool b) ∧ w = w' := by
  go_enter Try.func42, Try.ntmps42
  go_wp2_with fail
  go_ret
  exact ⟨rfl, rfl⟩

/-- a cipher that answers 'none': the nil pointer, or one that nobody made -/
def NoneAt (w : World) (v : Value) : Prop := v = .pointer none ∨ ∃ g, v = .pointer (some ⟨g, 0, none⟩) ∧ w.cell? ⟨g, 0, none⟩ = some (.bool false)
theorem ready_none (v : Value) (w : World) (h : NoneAt w v) : Calls Try.prog 42 #[v] w fun e w' => e = .returned (.bool false) ∧ w = w' := by
  rcases h with rfl | ⟨g, rfl, h⟩
  · exact ready_nil w
  · exact ready_b g false w h

set_option maxRecDepth 100000 in
set_option maxHeartbeats 1000000 in
theorem seek_none (v : Value) (x : Int) (w : World) (h : NoneAt w v) : Calls Try.prog 29 #[v, .int .i64 x] w fun e w' => e = .returned (.int .i64 1) ∧ w = w' := by
  have H := Lib.hid (ready_none v w h)
  clear h
  go_enter Try.func29, Try.ntmps29
  go_wp2_with fail
  refine H.out.mono ?_
  rintro e w' ⟨rfl, rfl⟩
  go_wp2_with fail
  go_ret
  exact ⟨rfl, rfl⟩
set_option maxRecDepth 100000 in
set_option maxHeartbeats 1000000 in
theorem at_none (v : Value) (w : World) (h : NoneAt w v) : Calls Try.prog 30 #[v] w fun e w' => e = .returned (.int .i64 0) ∧ w = w' := by
  have H := Lib.hid (ready_none v w h)
  clear h
  go_enter Try.func30, Try.ntmps30
  go_wp2_with fail
  refine H.out.mono ?_
  rintro e w' ⟨rfl, rfl⟩
  go_wp2_with fail
  go_ret
  exact ⟨rfl, rfl⟩
set_option maxRecDepth 100000 in
set_option maxHeartbeats 1000000 in
theorem next_none (v : Value) (a : Option Addr) (n c : Nat) (w : World) (h : NoneAt w v) : Calls Try.prog 31 #[v, .slice a n c] w fun e w' => e = .returned (.tuple #[.slice none 0 0, .int .i64 1]) ∧ w = w' := by
  have H := Lib.hid (ready_none v w h)
  clear h
  go_enter Try.func31, Try.ntmps31
  go_wp2_with fail
  refine H.out.mono ?_
  rintro e w' ⟨rfl, rfl⟩
  go_wp2_with fail
  refine bodyPost_ret (by simp [*, results, Try.results31, go_sem]; try rfl) rfl ?_
  exact ⟨rfl, rfl⟩

/-- a cipher that New made, at a place -/
def CRow (x : Int) : Array Value := #[.bool true, .int .u8 0, .int .u8 0, .int .u8 0, .int .u8 0, .int .u8 0, .int .u8 0, .int .u8 0, .int .u8 0, .int .u8 0, .int .u8 0, .int .u8 0, .int .u8 0, .int .u8 0, .int .u8 0, .int .u8 0, .int .u8 0, .int .i64 x]
set_option maxRecDepth 100000 in
set_option maxHeartbeats 1000000 in
theorem new0_n (w : World) : Calls Try.prog 28 #[.agg #[.int .u8 0, .int .u8 0, .int .u8 0, .int .u8 0, .int .u8 0, .int .u8 0, .int .u8 0, .int .u8 0, .int .u8 0, .int .u8 0, .int .u8 0, .int .u8 0, .int .u8 0, .int .u8 0, .int .u8 0, .int .u8 0]] w fun e w' => ∃ g, e = .returned (.pointer (some ⟨g, 0, none⟩)) ∧ Row w' g 62 (CRow 0) ∧ w.heap.size ≤ g ∧ w.grownBy w' none := by
  go_enter Try.func28, Try.ntmps28
  go_wp2_with (first | (refine wpList_boxed (T := 27) rfl rfl #[.int .u8 0, .int .u8 0, .int .u8 0, .int .u8 0, .int .u8 0, .int .u8 0, .int .u8 0, .int .u8 0, .int .u8 0, .int .u8 0, .int .u8 0, .int .u8 0, .int .u8 0, .int .u8 0, .int .u8 0, .int .u8 0] rfl ?_; intro wa hsa hga hra; have HGa := Lib.hid hga; have HRa := Lib.hid hra; clear hsa hga hra) | (refine wpList_load_row rfl 27 _ rfl w.heap.size rfl 27 #[.int .u8 0, .int .u8 0, .int .u8 0, .int .u8 0, .int .u8 0, .int .u8 0, .int .u8 0, .int .u8 0, .int .u8 0, .int .u8 0, .int .u8 0, .int .u8 0, .int .u8 0, .int .u8 0, .int .u8 0, .int .u8 0] (0, 0) _ HRa.out Try.underlying27 rfl (by kernel_rfl) ?_) | (refine wpList_boxed (T := 62) rfl rfl (CRow 0) rfl ?_; intro wb hsb hgb hrb; have HGb := Lib.hid (grownBy_trans HGa.out hgb); have HRb := Lib.hid hrb; clear hsb hgb hrb))
  go_ret
  exact ⟨wa.heap.size, rfl, HRb.out, HGa.out.size, HGb.out⟩

set_option maxRecDepth 100000 in
set_option maxHeartbeats 1000000 in
theorem seek5_n (g : Nat) (w : World) (h : Row w g 62 (CRow 0)) : Calls Try.prog 29 #[.pointer (some ⟨g, 0, none⟩), .int .i64 5] w fun e w' => e = .returned (.int .i64 0) ∧ Row w' g 62 (CRow 5) ∧ w.grownBy w' (some g) := by
  have c0 := h.cell 0
  have c17 := h.cell 17
  have f17 := h.frozen 17
  have HS := Lib.hid (h.setc 17 (.int .i64 5))
  simp [CRow] at c0 c17
  have H := Lib.hid (ready_b g true w c0)
  clear h
  go_enter Try.func29, Try.ntmps29
  go_wp2_with fail
  refine H.out.mono ?_
  rintro e w' ⟨rfl, rfl⟩
  go_wp2_with fail
  go_ret
  exact ⟨rfl, HS.out, grownBy_setCell _ _ _ _⟩
set_option maxRecDepth 100000 in
set_option maxHeartbeats 1000000 in
theorem at5_n (g : Nat) (w : World) (h : Row w g 62 (CRow 5)) : Calls Try.prog 30 #[.pointer (some ⟨g, 0, none⟩)] w fun e w' => e = .returned (.int .i64 5) ∧ w = w' := by
  have c0 := h.cell 0
  have c17 := h.cell 17
  simp [CRow] at c0 c17
  have H := Lib.hid (ready_b g true w c0)
  clear h
  go_enter Try.func30, Try.ntmps30
  go_wp2_with fail
  refine H.out.mono ?_
  rintro e w' ⟨rfl, rfl⟩
  go_wp2_with fail
  go_ret
  exact ⟨rfl, rfl⟩

set_option maxRecDepth 100000 in
set_option maxHeartbeats 4000000 in
theorem none_walk (x : Int) (a : Option Addr) (n c : Nat) (w : World) : Calls Try.prog 9 #[.int .i64 x, .slice a n c] w fun e w' => e = .returned (.bool true) ∧ w.grownBy w' none := by
  obtain ⟨i, zc, hi, hz, hz0⟩ := cip_info
  have HI := Lib.hid hi
  have HZ := Lib.hid hz
  have HZ0 := Lib.hid hz0
  clear hi hz hz0
  go_enter Try.func9, Try.ntmps9
  go_wp2_with fail
  refine (new0_n _).mono ?_
  rintro e w1 ⟨g, rfl, hr, hlt, hg⟩
  have HR1 := Lib.hid hr
  have HG1 := Lib.hid hg
  have HLT := Lib.hid hlt
  clear hr hg hlt
  go_wp2_with fail
  refine (seek5_n g w1 HR1.out).mono ?_
  rintro e w2 ⟨rfl, hr, hg⟩
  have HR2 := Lib.hid hr
  have HG2 := Lib.hid (grownBy_old HG1.out hg HLT.out)
  clear hr hg
  go_wp2_with fail
  refine (at5_n g w2 HR2.out).mono ?_
  rintro e w' ⟨rfl, rfl⟩
  go_wp2_with (first | (refine wpList_made rfl rfl HI.out HZ.out ?_; intro w3 hs3 hg3 hr3; clear hs3; have HG3 := Lib.hid (grownBy_trans HG2.out hg3); have hr0 := hr3.cell 0; have HC3 := Lib.hid (show w3.cell? ⟨w2.heap.size, 0, none⟩ = some (.bool false) from by rw [hr0]; exact HZ0.out); clear hg3 hr3 hr0))
  have hh := heap_alloc_new w3 (.cells #[.pointer none, .pointer (some ⟨w2.heap.size, 0, none⟩)] 49)
  have l0 : (w3.alloc (.cells #[.pointer none, .pointer (some ⟨w2.heap.size, 0, none⟩)] 49)).cell? ⟨w3.heap.size, 0, none⟩ = some (.pointer none) := by simp only [World.cell?, hh]; rfl
  have l1 : (w3.alloc (.cells #[.pointer none, .pointer (some ⟨w2.heap.size, 0, none⟩)] 49)).cell? ⟨w3.heap.size, 1, none⟩ = some (.pointer (some ⟨w2.heap.size, 0, none⟩)) := by simp only [World.cell?, hh]; rfl
  have hg4 := World.grownBy_alloc w3 (.cells #[.pointer none, .pointer (some ⟨w2.heap.size, 0, none⟩)] 49) none
  have HG4 := Lib.hid (grownBy_trans HG3.out hg4)
  have HC4 := Lib.hid (hg4.cell HC3.out (by simp))
  obtain ⟨w4, hw4⟩ : ∃ w4, w4 = w3.alloc (.cells #[.pointer none, .pointer (some ⟨w2.heap.size, 0, none⟩)] 49) := ⟨_, rfl⟩
  rw [← hw4] at l0 l1 HG4 HC4
  rw [← hw4]
  clear hw4 hh hg4 HC3 HG3 HR1 HR2 HG1 HG2
  go_loopw [8] (fun vi wr => ∃ k : Nat, k ≤ 2 ∧ vi = .int .i64 k ∧ wr = w4) (fun vi _ => 2 - (intOf vi).toNat)
  case atStart => exact ⟨0, by omega, rfl, rfl⟩
  case round =>
    obtain ⟨k, hk, rfl, rfl⟩ := hrel
    by_cases hlt : k < 2
    · rcases (by omega : k = 0 ∨ k = 1) with rfl | rfl
      · have HN := Lib.hid (show NoneAt wr (.pointer none) from .inl rfl)
        go_wp2_with fail
        refine (next_none _ a n c _ HN.out).mono ?_
        rintro e w' ⟨rfl, rfl⟩
        go_wp2_with fail
        refine (seek_none _ x _ HN.out).mono ?_
        rintro e w' ⟨rfl, rfl⟩
        go_wp2_with fail
        refine (at_none _ _ HN.out).mono ?_
        rintro e w' ⟨rfl, rfl⟩
        go_wp2_with fail
        go_roundw
        case rel => exact ⟨1, by omega, by first | rfl | go_num, by simp⟩
        case measure => simp [intOf]
      · have HN := Lib.hid (show NoneAt wr (.pointer (some ⟨w2.heap.size, 0, none⟩)) from .inr ⟨_, rfl, HC4.out⟩)
        go_wp2_with fail
        refine (next_none _ a n c _ HN.out).mono ?_
        rintro e w' ⟨rfl, rfl⟩
        go_wp2_with fail
        refine (seek_none _ x _ HN.out).mono ?_
        rintro e w' ⟨rfl, rfl⟩
        go_wp2_with fail
        refine (at_none _ _ HN.out).mono ?_
        rintro e w' ⟨rfl, rfl⟩
        go_wp2_with fail
        go_roundw
        case rel => exact ⟨2, by omega, by first | rfl | go_num, by simp⟩
        case measure => simp [intOf]
    · obtain rfl : k = 2 := by omega
      go_wp2_with fail
      go_ret
      exact ⟨rfl, HG4.out⟩

end Go.Proofs.Ytblgdfamomlklaa
