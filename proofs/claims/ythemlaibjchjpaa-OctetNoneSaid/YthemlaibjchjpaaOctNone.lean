/- The law OctetNone: readers that are nil, or that nobody made. -/
import Derived.Test.YthemlaibjchjpaaRow
import Derived.Test.YthemlaibjchjpaaWidth
import Derived.Test.YthemlaibjchjpaaClone
import Derived.Test.YthemlaibjchjpaaEqArr
import Derived.Test.YthemlaibjchjpaaRead
namespace Go.Proofs.Ythemlaibjchjpaa
open Go.RowKit

/-- a reader that gives nothing: the nil pointer, or one that nobody made -/
def NoneAt (w : World) (v : Value) : Prop := v = .pointer none ∨ ∃ g, v = .pointer (some ⟨g, 0, none⟩) ∧ w.cell? ⟨g, 1, none⟩ = some (.bool false)
theorem NoneAt.grown {w w' : World} {v : Value} (h : NoneAt w v) (hg : w.grownBy w' none) : NoneAt w' v := by
  rcases h with rfl | ⟨g, rfl, h⟩
  · exact .inl rfl
  · exact .inr ⟨g, rfl, hg.cell h (by simp)⟩

set_option maxRecDepth 100000 in
set_option maxHeartbeats 1000000 in
theorem take_none (v : Value) (x : Int) (w : World) (h : NoneAt w v) : Calls Try.prog 68 #[v, .int .i64 x] w fun e w' => e = .returned (.tuple #[.slice none 0 0, .bool false]) ∧ w = w' := by
  rcases h with rfl | ⟨g, rfl, h⟩
  · go_enter Try.func68, Try.ntmps68
    go_wp2_with fail
    refine bodyPost_ret (by simp [*, results, Try.results68, go_sem]; try rfl) rfl ?_
    exact ⟨rfl, rfl⟩
  · go_enter Try.func68, Try.ntmps68
    go_wp2_with fail
    refine bodyPost_ret (by simp [*, results, Try.results68, go_sem]; try rfl) rfl ?_
    exact ⟨rfl, rfl⟩
set_option maxRecDepth 100000 in
set_option maxHeartbeats 1000000 in
theorem left_none (v : Value) (w : World) (h : NoneAt w v) : Calls Try.prog 33 #[v] w fun e w' => e = .returned (.int .i64 0) ∧ w = w' := by
  rcases h with rfl | ⟨g, rfl, h⟩
  · go_enter Try.func33, Try.ntmps33
    go_wp2_with fail
    refine bodyPost_ret (by simp [*, results, Try.results33, go_sem]; try rfl) rfl ?_
    exact ⟨rfl, rfl⟩
  · go_enter Try.func33, Try.ntmps33
    go_wp2_with fail
    refine bodyPost_ret (by simp [*, results, Try.results33, go_sem]; try rfl) rfl ?_
    exact ⟨rfl, rfl⟩
set_option maxRecDepth 100000 in
set_option maxHeartbeats 1000000 in
theorem end_none (v : Value) (w : World) (h : NoneAt w v) : Calls Try.prog 36 #[v] w fun e w' => e = .returned (.int .i64 1) ∧ w = w' := by
  rcases h with rfl | ⟨g, rfl, h⟩
  · go_enter Try.func36, Try.ntmps36
    go_wp2_with fail
    refine bodyPost_ret (by simp [*, results, Try.results36, go_sem]; try rfl) rfl ?_
    exact ⟨rfl, rfl⟩
  · go_enter Try.func36, Try.ntmps36
    go_wp2_with fail
    refine bodyPost_ret (by simp [*, results, Try.results36, go_sem]; try rfl) rfl ?_
    exact ⟨rfl, rfl⟩
set_option maxRecDepth 100000 in
set_option maxHeartbeats 1000000 in
theorem number8_none (v : Value) (w : World) (h : NoneAt w v) : Calls Try.prog 72 #[v] w fun e w' => e = .returned (.int .u8 0) ∧ w = w' := by
  have HN := Lib.hid h
  clear h
  go_enter Try.func72, Try.ntmps72
  go_wp2_with fail
  refine (width8_any _).mono ?_
  rintro e w' ⟨rfl, rfl⟩
  go_wp2_with fail
  refine (take_none v 1 _ HN.out).mono ?_
  rintro e w' ⟨rfl, rfl⟩
  go_wp2_with fail
  refine bodyPost_ret (by simp [*, results, Try.results72, go_sem]; try rfl) rfl ?_
  exact ⟨rfl, rfl⟩
set_option maxRecDepth 100000 in
set_option maxHeartbeats 1000000 in
theorem take8_none (v : Value) (w : World) (h : NoneAt w v) : Calls Try.prog 43 #[v] w fun e w' => e = .returned (.int .u8 0) ∧ w = w' := by
  have HN := Lib.hid h
  clear h
  go_enter Try.func43, Try.ntmps43
  go_wp2_with fail
  refine (number8_none v _ HN.out).mono ?_
  rintro e w' ⟨rfl, rfl⟩
  go_wp2_with fail
  refine bodyPost_ret (by simp [*, results, Try.results43, go_sem]; try rfl) rfl ?_
  exact ⟨rfl, rfl⟩
set_option maxRecDepth 100000 in
set_option maxHeartbeats 1000000 in
theorem number32_none (v : Value) (w : World) (h : NoneAt w v) : Calls Try.prog 73 #[v] w fun e w' => e = .returned (.int .u32 0) ∧ w = w' := by
  have HN := Lib.hid h
  clear h
  go_enter Try.func73, Try.ntmps73
  go_wp2_with fail
  refine (width32_any _).mono ?_
  rintro e w' ⟨rfl, rfl⟩
  go_wp2_with fail
  refine (take_none v 4 _ HN.out).mono ?_
  rintro e w' ⟨rfl, rfl⟩
  go_wp2_with fail
  refine bodyPost_ret (by simp [*, results, Try.results73, go_sem]; try rfl) rfl ?_
  exact ⟨rfl, rfl⟩
set_option maxRecDepth 100000 in
set_option maxHeartbeats 1000000 in
theorem take32_none (v : Value) (w : World) (h : NoneAt w v) : Calls Try.prog 44 #[v] w fun e w' => e = .returned (.int .u32 0) ∧ w = w' := by
  have HN := Lib.hid h
  clear h
  go_enter Try.func44, Try.ntmps44
  go_wp2_with fail
  refine (number32_none v _ HN.out).mono ?_
  rintro e w' ⟨rfl, rfl⟩
  go_wp2_with fail
  refine bodyPost_ret (by simp [*, results, Try.results44, go_sem]; try rfl) rfl ?_
  exact ⟨rfl, rfl⟩
set_option maxRecDepth 100000 in
set_option maxHeartbeats 1000000 in
theorem number64_none (v : Value) (w : World) (h : NoneAt w v) : Calls Try.prog 74 #[v] w fun e w' => e = .returned (.int .u64 0) ∧ w = w' := by
  have HN := Lib.hid h
  clear h
  go_enter Try.func74, Try.ntmps74
  go_wp2_with fail
  refine (width64_any _).mono ?_
  rintro e w' ⟨rfl, rfl⟩
  go_wp2_with fail
  refine (take_none v 8 _ HN.out).mono ?_
  rintro e w' ⟨rfl, rfl⟩
  go_wp2_with fail
  refine bodyPost_ret (by simp [*, results, Try.results74, go_sem]; try rfl) rfl ?_
  exact ⟨rfl, rfl⟩
set_option maxRecDepth 100000 in
set_option maxHeartbeats 1000000 in
theorem take64_none (v : Value) (w : World) (h : NoneAt w v) : Calls Try.prog 45 #[v] w fun e w' => e = .returned (.int .u64 0) ∧ w = w' := by
  have HN := Lib.hid h
  clear h
  go_enter Try.func45, Try.ntmps45
  go_wp2_with fail
  refine (number64_none v _ HN.out).mono ?_
  rintro e w' ⟨rfl, rfl⟩
  go_wp2_with fail
  refine bodyPost_ret (by simp [*, results, Try.results45, go_sem]; try rfl) rfl ?_
  exact ⟨rfl, rfl⟩

theorem dig_info : ∃ i, Try.prog.info? 74 = some i ∧ i.zero = some (.agg #[.int .u8 0, .int .u8 0, .int .u8 0, .int .u8 0, .int .u8 0, .int .u8 0, .int .u8 0, .int .u8 0, .int .u8 0, .int .u8 0, .int .u8 0, .int .u8 0, .int .u8 0, .int .u8 0, .int .u8 0, .int .u8 0, .int .u8 0, .int .u8 0, .int .u8 0, .int .u8 0, .int .u8 0, .int .u8 0, .int .u8 0, .int .u8 0, .int .u8 0, .int .u8 0, .int .u8 0, .int .u8 0, .int .u8 0, .int .u8 0, .int .u8 0, .int .u8 0]) := ⟨(Try.prog.info? 74).getD default, by kernel_rfl, by kernel_rfl⟩
set_option maxRecDepth 100000 in
set_option maxHeartbeats 1000000 in
theorem digest_none (v : Value) (w : World) (h : NoneAt w v) : Calls Try.prog 46 #[v] w fun e w' => e = .returned (.agg #[.int .u8 0, .int .u8 0, .int .u8 0, .int .u8 0, .int .u8 0, .int .u8 0, .int .u8 0, .int .u8 0, .int .u8 0, .int .u8 0, .int .u8 0, .int .u8 0, .int .u8 0, .int .u8 0, .int .u8 0, .int .u8 0, .int .u8 0, .int .u8 0, .int .u8 0, .int .u8 0, .int .u8 0, .int .u8 0, .int .u8 0, .int .u8 0, .int .u8 0, .int .u8 0, .int .u8 0, .int .u8 0, .int .u8 0, .int .u8 0, .int .u8 0, .int .u8 0]) ∧ w.grownBy w' none := by
  have HN := Lib.hid h
  clear h
  obtain ⟨i, hi, hz⟩ := dig_info
  have HI := Lib.hid hi
  have HZ := Lib.hid hz
  clear hi hz
  go_enter Try.func46, Try.ntmps46
  go_wp2_with (first | (refine wpList_made rfl rfl HI.out HZ.out ?_; intro wa hsa hga hra; have HG := Lib.hid hga; have HR := Lib.hid (show Row wa w.heap.size 74 #[.int .u8 0, .int .u8 0, .int .u8 0, .int .u8 0, .int .u8 0, .int .u8 0, .int .u8 0, .int .u8 0, .int .u8 0, .int .u8 0, .int .u8 0, .int .u8 0, .int .u8 0, .int .u8 0, .int .u8 0, .int .u8 0, .int .u8 0, .int .u8 0, .int .u8 0, .int .u8 0, .int .u8 0, .int .u8 0, .int .u8 0, .int .u8 0, .int .u8 0, .int .u8 0, .int .u8 0, .int .u8 0, .int .u8 0, .int .u8 0, .int .u8 0, .int .u8 0] from hra); clear hsa hga hra))
  refine (take_none v 32 _ (HN.out.grown HG.out)).mono ?_
  rintro e w' ⟨rfl, rfl⟩
  go_wp2_with (first | (refine wpList_putrow rfl rfl w.heap.size rfl #[.int .u8 0, .int .u8 0, .int .u8 0, .int .u8 0, .int .u8 0, .int .u8 0, .int .u8 0, .int .u8 0, .int .u8 0, .int .u8 0, .int .u8 0, .int .u8 0, .int .u8 0, .int .u8 0, .int .u8 0, .int .u8 0, .int .u8 0, .int .u8 0, .int .u8 0, .int .u8 0, .int .u8 0, .int .u8 0, .int .u8 0, .int .u8 0, .int .u8 0, .int .u8 0, .int .u8 0, .int .u8 0, .int .u8 0, .int .u8 0, .int .u8 0, .int .u8 0] rfl HR.out (by kernel_rfl) rfl (by simp [Value.oneCell']) ?_; intro wb hgb hrb; have HGb := Lib.hid (grownBy_old HG.out hgb (Nat.le_refl _)); have HRb := Lib.hid hrb; clear hgb hrb))
  refine bodyPost_ret (v := .agg #[.int .u8 0, .int .u8 0, .int .u8 0, .int .u8 0, .int .u8 0, .int .u8 0, .int .u8 0, .int .u8 0, .int .u8 0, .int .u8 0, .int .u8 0, .int .u8 0, .int .u8 0, .int .u8 0, .int .u8 0, .int .u8 0, .int .u8 0, .int .u8 0, .int .u8 0, .int .u8 0, .int .u8 0, .int .u8 0, .int .u8 0, .int .u8 0, .int .u8 0, .int .u8 0, .int .u8 0, .int .u8 0, .int .u8 0, .int .u8 0, .int .u8 0, .int .u8 0]) (results_cell_row rfl _ _ w.heap.size 74 #[.int .u8 0, .int .u8 0, .int .u8 0, .int .u8 0, .int .u8 0, .int .u8 0, .int .u8 0, .int .u8 0, .int .u8 0, .int .u8 0, .int .u8 0, .int .u8 0, .int .u8 0, .int .u8 0, .int .u8 0, .int .u8 0, .int .u8 0, .int .u8 0, .int .u8 0, .int .u8 0, .int .u8 0, .int .u8 0, .int .u8 0, .int .u8 0, .int .u8 0, .int .u8 0, .int .u8 0, .int .u8 0, .int .u8 0, .int .u8 0, .int .u8 0, .int .u8 0] (0, 0) _ rfl HRb.out Try.underlying74 rfl (by kernel_rfl)) rfl ⟨rfl, HGb.out⟩
set_option maxRecDepth 100000 in
set_option maxHeartbeats 1000000 in
theorem bytes_none (v : Value) (x : Int) (w : World) (h : NoneAt w v) : Calls Try.prog 34 #[v, .int .i64 x] w fun e w' => (∃ a c, e = .returned (.slice a 0 c)) ∧ w.grownBy w' none := by
  have HN := Lib.hid h
  clear h
  go_enter Try.func34, Try.ntmps34
  go_wp2_with fail
  refine (take_none v x _ HN.out).mono ?_
  rintro e w' ⟨rfl, rfl⟩
  go_wp2_with fail
  refine (clone_n none 0 0 [] _ (BLies.nil _ _) rfl (by decide)).mono ?_
  rintro e w1 ⟨a, c, rfl, _, hg⟩
  have HG := Lib.hid hg
  clear hg
  go_wp2_with fail
  refine bodyPost_ret (by simp [*, results, Try.results34, go_sem]; try rfl) rfl ?_
  exact ⟨⟨a, c, rfl⟩, HG.out⟩

set_option maxRecDepth 100000 in
set_option maxHeartbeats 1000000 in
theorem reader1_n (g0 : Nat) (w : World) (h : BLies w (some ⟨g0, 0, none⟩) [1]) : Calls Try.prog 32 #[.slice (some ⟨g0, 0, none⟩) 1 1] w fun e w' => (∃ g a c, e = .returned (.pointer (some ⟨g, 0, none⟩)) ∧ Row w' g 67 #[.slice a 1 c, .bool true, .bool false]) ∧ w.grownBy w' none := by
  have HB := Lib.hid h
  clear h
  go_enter Try.func32, Try.ntmps32
  go_wp2_with fail
  refine (clone_n _ 1 1 [1] _ HB.out rfl (by decide)).mono ?_
  rintro e w1 ⟨a, c, rfl, _, hg⟩
  have HG := Lib.hid hg
  clear hg
  go_wp2_with (first | (refine wpList_boxed (T := 67) rfl rfl #[.slice a 1 c, .bool true, .bool false] rfl ?_; intro w2 hs2 hg2 hr2; have HG2 := Lib.hid (grownBy_trans HG.out hg2); have HR2 := Lib.hid hr2; clear hs2 hg2 hr2))
  go_ret
  exact ⟨⟨_, a, c, rfl, HR2.out⟩, HG2.out⟩
set_option maxRecDepth 100000 in
set_option maxHeartbeats 1000000 in
theorem left1_n (g : Nat) (a : Option Addr) (c : Nat) (w : World) (h : Row w g 67 #[.slice a 1 c, .bool true, .bool false]) : Calls Try.prog 33 #[.pointer (some ⟨g, 0, none⟩)] w fun e w' => e = .returned (.int .i64 1) ∧ w = w' := by
  have c0 := h.cell 0
  have c1 := h.cell 1
  have c2 := h.cell 2
  simp at c0 c1 c2
  clear h
  go_enter Try.func33, Try.ntmps33
  go_wp2_with fail
  refine bodyPost_ret (by simp [*, results, Try.results33, go_sem]; try rfl) rfl ?_
  exact ⟨rfl, rfl⟩
set_option maxRecDepth 100000 in
set_option maxHeartbeats 1000000 in
theorem end1_n (g : Nat) (a : Option Addr) (c : Nat) (w : World) (h : Row w g 67 #[.slice a 1 c, .bool true, .bool false]) : Calls Try.prog 36 #[.pointer (some ⟨g, 0, none⟩)] w fun e w' => e = .returned (.int .i64 11) ∧ w = w' := by
  have c0 := h.cell 0
  have c1 := h.cell 1
  have c2 := h.cell 2
  simp at c0 c1 c2
  clear h
  go_enter Try.func36, Try.ntmps36
  go_wp2_with fail
  refine bodyPost_ret (by simp [*, results, Try.results36, go_sem]; try rfl) rfl ?_
  exact ⟨rfl, rfl⟩

section
open Go.ChangeShapes Go.WideShapes Go.ChangeAt
set_option maxRecDepth 100000 in
set_option maxHeartbeats 1000000 in
theorem rd_takes {H : Type} {enc : TypeId × Value → H} {W : World} {base : Nat} {spare : Nat → Bool} {held : Bool} {fuel : Nat} {a : Option Addr} {len cap : Nat} {d : DataW H} {p : List MemPlace}
    (h : DataW.trod enc Try.prog W base spare held fuel 56 [.slice a len cap] = some (d, p)) : len ≤ maxLen ∧ ∀ i, i < len → ∃ b off x, a = some ⟨b, off, none⟩ ∧ W.cell? ⟨b, off + i * 3 + 2, none⟩ = some (.int .i64 x) := by
  rcases Go.Deep.open_slice Try.underlying56 h with ⟨hcs, _⟩ | ⟨a', len', cap', m, n, D, Pl, hcs, hb, hl, hm, hmm, hx, hall⟩
  · injection hcs with hcs; injection hcs with h1 h2 h3
    subst h2
    exact ⟨by unfold maxLen; omega, fun i hi => absurd hi (by simp)⟩
  · injection hcs with hcs; injection hcs with h1 h2 h3
    subst h1 h2 h3
    have hlm : len ≤ m := by rw [hmm]; split <;> omega
    have hce : Try.prog.cellsOf 62 = 3 := by kernel_rfl
    refine ⟨by omega, fun i hi => ?_⟩
    obtain ⟨cs', h1, h2⟩ := hall i (by omega)
    rw [hce] at h1
    obtain ⟨_, hlen, hcell⟩ := World.cells?_some h1
    obtain ⟨xs, n', _, _, _, hxl, hf⟩ := DataW.trod_struct Try.underlying62 h2
    have hxl3 : xs.length = 3 := hxl
    have q2 := hf 2 _ rfl
    obtain ⟨y0, y1, y2, rfl⟩ : ∃ y0 y1 y2, xs = [y0, y1, y2] := by
      match xs, hxl3 with
      | [y0, y1, y2], _ => exact ⟨y0, y1, y2, rfl⟩
    obtain ⟨x, e2, _, _⟩ := DataW.trod_int (P := Try.prog) Try.underlying3 q2
    obtain ⟨c0, c1, c2, rfl⟩ : ∃ c0 c1 c2, cs' = [c0, c1, c2] := by
      match cs', hlen with
      | [c0, c1, c2], _ => exact ⟨c0, c1, c2, rfl⟩
    · have f2 : [c2] = [.int .i64 x] := e2
      injection f2 with f2
      subst f2
      have hc2 := hcell 2 (by omega)
      have hc2' : W.cell? ((a'.add (i * 3)).add 2) = some (.int .i64 x) := hc2
      obtain ⟨b, off, spot⟩ := a'
      have hspot : spot = none := by
        obtain ⟨cs0, k1, _⟩ := hall 0 (by omega)
        rw [hce] at k1
        obtain ⟨_, klen, kcell⟩ := World.cells?_some k1
        have k0 := kcell 0 (by omega)
        rw [List.getElem?_eq_getElem (show 0 < cs0.length by omega)] at k0
        simpa [Addr.add] using World.cell?_spot k0
      subst hspot
      rw [Go.WideShapes.add_plain, Go.WideShapes.add_plain] at hc2'
      exact ⟨b, off, x, rfl, hc2'⟩
end

set_option maxRecDepth 100000 in
set_option maxHeartbeats 1000000 in
theorem z32_eq (w : World) : (binOp .neq 74 (.agg #[.int .u8 0, .int .u8 0, .int .u8 0, .int .u8 0, .int .u8 0, .int .u8 0, .int .u8 0, .int .u8 0, .int .u8 0, .int .u8 0, .int .u8 0, .int .u8 0, .int .u8 0, .int .u8 0, .int .u8 0, .int .u8 0, .int .u8 0, .int .u8 0, .int .u8 0, .int .u8 0, .int .u8 0, .int .u8 0, .int .u8 0, .int .u8 0, .int .u8 0, .int .u8 0, .int .u8 0, .int .u8 0, .int .u8 0, .int .u8 0, .int .u8 0, .int .u8 0]) (.agg #[.int .u8 0, .int .u8 0, .int .u8 0, .int .u8 0, .int .u8 0, .int .u8 0, .int .u8 0, .int .u8 0, .int .u8 0, .int .u8 0, .int .u8 0, .int .u8 0, .int .u8 0, .int .u8 0, .int .u8 0, .int .u8 0, .int .u8 0, .int .u8 0, .int .u8 0, .int .u8 0, .int .u8 0, .int .u8 0, .int .u8 0, .int .u8 0, .int .u8 0, .int .u8 0, .int .u8 0, .int .u8 0, .int .u8 0, .int .u8 0, .int .u8 0, .int .u8 0])).run Try.prog w = .ok (.bool false) w := by
  have key : ∀ l : List UInt8, l.length = 32 → (binOp .neq 74 (.agg (l.map bval).toArray) (.agg (l.map bval).toArray)).run Try.prog w = .ok (.bool false) w := by
    intro l hl
    have hlit := lits_arr (P := Try.prog) (n := 32) (k := 1) (D := 1) Try.underlying74 (by kernel_rfl) (by kernel_rfl) l hl (fun m hm => lits_byte Try.underlying5 m hm)
    have hfo : (Value.agg (l.map bval).toArray).formed Try.prog 74 = true := by
      simp [Value.formed, Try.underlying74, hl]; kernel_rfl
    have h := (eql_lits (P := Try.prog) (t := 74) (m := 5) (D := 2) (by decide) (by kernel_rfl) hfo hfo hlit hlit w).2
    simpa using h
  have h := key [0, 0, 0, 0, 0, 0, 0, 0, 0, 0, 0, 0, 0, 0, 0, 0, 0, 0, 0, 0, 0, 0, 0, 0, 0, 0, 0, 0, 0, 0, 0, 0] rfl
  have e : (([0, 0, 0, 0, 0, 0, 0, 0, 0, 0, 0, 0, 0, 0, 0, 0, 0, 0, 0, 0, 0, 0, 0, 0, 0, 0, 0, 0, 0, 0, 0, 0] : List UInt8).map bval).toArray = #[.int .u8 0, .int .u8 0, .int .u8 0, .int .u8 0, .int .u8 0, .int .u8 0, .int .u8 0, .int .u8 0, .int .u8 0, .int .u8 0, .int .u8 0, .int .u8 0, .int .u8 0, .int .u8 0, .int .u8 0, .int .u8 0, .int .u8 0, .int .u8 0, .int .u8 0, .int .u8 0, .int .u8 0, .int .u8 0, .int .u8 0, .int .u8 0, .int .u8 0, .int .u8 0, .int .u8 0, .int .u8 0, .int .u8 0, .int .u8 0, .int .u8 0, .int .u8 0] := by
    simp [bval]
  rw [e] at h
  exact h

set_option maxRecDepth 100000 in
set_option maxHeartbeats 4000000 in
theorem none_walk (a : Option Addr) (n c : Nat) (w : World) (hnM : n ≤ maxLen) (hsc : ∀ i, i < n → ∃ b off x, a = some ⟨b, off, none⟩ ∧ w.cell? ⟨b, off + i * 3 + 2, none⟩ = some (.int .i64 x)) : Calls Try.prog 8 #[.slice a n c] w fun e w' => e = .returned (.bool true) ∧ w.grownBy w' none := by
  have hgu : Try.prog.eqGuardType Try.prog.depth 74 = false := by kernel_rfl
  have hq := z32_eq
  obtain ⟨i, hi, hz⟩ : ∃ i, Try.prog.info? 67 = some i ∧ i.zero = some (.agg #[.slice none 0 0, .bool false, .bool false]) := ⟨(Try.prog.info? 67).getD default, by kernel_rfl, by kernel_rfl⟩
  have HI := Lib.hid hi
  have HZ := Lib.hid hz
  have HSC := Lib.hid hsc
  clear hi hz hsc
  go_enter Try.func8, Try.ntmps8
  go_wp2_with fail
  have HB0 := Lib.hid (show BLies (w.alloc (.cells #[.int .u8 1] 5)) (some ⟨w.heap.size, 0, none⟩) [1] from by
    intro k hk
    have hk0 : k = 0 := by simp at hk; omega
    subst hk0
    refine ⟨w.heap.size, 0, rfl, ?_⟩
    have hh := heap_alloc_new w (.cells #[.int .u8 1] 5)
    simp only [World.cell?, hh]
    rfl)
  refine (reader1_n _ _ HB0.out).mono ?_
  rintro e w1 ⟨⟨g, a1, c1, rfl, hr1⟩, hg1⟩
  have HG1 := Lib.hid (grownBy_trans (World.grownBy_alloc w (.cells #[.int .u8 1] 5) none) hg1)
  have HR1 := Lib.hid hr1
  clear hg1 hr1
  go_wp2_with fail
  refine (left1_n g a1 c1 w1 HR1.out).mono ?_
  rintro e w' ⟨rfl, rfl⟩
  go_wp2_with fail
  refine (end1_n g a1 c1 w1 HR1.out).mono ?_
  rintro e w' ⟨rfl, rfl⟩
  go_wp2_with (first | (refine wpList_made rfl rfl HI.out HZ.out ?_; intro w3 hs3 hg3 hr3; clear hs3; have HG3 := Lib.hid (grownBy_trans HG1.out hg3); have HR3 := Lib.hid (show Row w3 w1.heap.size 67 #[.slice none 0 0, .bool false, .bool false] from hr3); clear hg3 hr3))
  have hh := heap_alloc_new w3 (.cells #[.pointer none, .pointer (some ⟨w1.heap.size, 0, none⟩)] 49)
  have l0 : (w3.alloc (.cells #[.pointer none, .pointer (some ⟨w1.heap.size, 0, none⟩)] 49)).cell? ⟨w3.heap.size, 0, none⟩ = some (.pointer none) := by simp only [World.cell?, hh]; rfl
  have l1 : (w3.alloc (.cells #[.pointer none, .pointer (some ⟨w1.heap.size, 0, none⟩)] 49)).cell? ⟨w3.heap.size, 1, none⟩ = some (.pointer (some ⟨w1.heap.size, 0, none⟩)) := by simp only [World.cell?, hh]; rfl
  have hg4 := World.grownBy_alloc w3 (.cells #[.pointer none, .pointer (some ⟨w1.heap.size, 0, none⟩)] 49) none
  have HG4 := Lib.hid (grownBy_trans HG3.out hg4)
  have HC4 := Lib.hid (show NoneAt _ (.pointer (some ⟨w1.heap.size, 0, none⟩)) from .inr ⟨_, rfl, hg4.cell (show w3.cell? ⟨w1.heap.size, 1, none⟩ = some (.bool false) by rw [HR3.out.cell 1]; rfl) (by simp)⟩)
  obtain ⟨w4, hw4⟩ : ∃ w4, w4 = w3.alloc (.cells #[.pointer none, .pointer (some ⟨w1.heap.size, 0, none⟩)] 49) := ⟨_, rfl⟩
  rw [← hw4] at l0 l1 HG4 HC4 ⊢
  clear hw4 hh hg4 HG3 HR1 HG1 HR3
  obtain ⟨gl, hgl⟩ : ∃ g, g = w3.heap.size := ⟨_, rfl⟩
  rw [← hgl] at l0 l1 ⊢
  have HL0 := Lib.hid l0
  have HL1 := Lib.hid l1
  clear hgl l0 l1
  go_loopw [6] (fun vi wr => ∃ k : Nat, k ≤ 2 ∧ vi = .int .i64 k ∧ w.grownBy wr none ∧ wr.cell? ⟨gl, 0, none⟩ = some (.pointer none) ∧ wr.cell? ⟨gl, 1, none⟩ = some (.pointer (some ⟨w1.heap.size, 0, none⟩)) ∧ NoneAt wr (.pointer (some ⟨w1.heap.size, 0, none⟩))) (fun vi _ => 2 - (intOf vi).toNat)
  case atStart => exact ⟨0, by omega, rfl, HG4.out, HL0.out, HL1.out, HC4.out⟩
  case round =>
    obtain ⟨k, hk, rfl, hg, m0, m1, hn⟩ := hrel
    have HG := Lib.hid hg
    have HC := Lib.hid hn
    clear hg hn HL0 HL1 HC4
    by_cases hlt : k < 2
    · rcases (by omega : k = 0 ∨ k = 1) with rfl | rfl
      · have HN := Lib.hid (show NoneAt wr (.pointer none) from .inl rfl)
        rw [show ((0 : Nat) : Int) = 0 from rfl]
        have M0 := Lib.hid m0
        have M1 := Lib.hid m1
        go_wp2_with fail
        go_loopw [8] (fun vj wr2 => ∃ j : Nat, j ≤ n ∧ vj = .int .i64 j ∧ w.grownBy wr2 none ∧ wr.grownBy wr2 none ∧ NoneAt wr2 (.pointer none)) (fun vj _ => n - (intOf vj).toNat)
        case atStart => exact ⟨0, by omega, rfl, HG.out, World.grownBy.refl _ _, HN.out⟩
        case round =>
          obtain ⟨j, hj, rfl, hg, hgr, hn⟩ := hrel
          have HGJ := Lib.hid hg
          have HNJ := Lib.hid hn
          have HGR := Lib.hid hgr
          clear hgr
          clear hg hn
          by_cases hlj : j < n
          · have HLJ := Lib.hid hlj
            have hw64 : IntKind.i64.wrap ((j : Int) + 1) = (j : Int) + 1 := IntWalk.i64_in _ (by unfold maxLen at hnM; omega)
            obtain ⟨b, off, y, rfl, hc⟩ := HSC.out j hlj
            have hc' : wr.cell? ⟨b, off + j * 3 + 2, none⟩ = some (.int .i64 y) := HGJ.out.cell hc (by simp)
            clear hc
            go_wp2_with fail
            refine (take8_none _ _ HNJ.out).mono ?_
            rintro e w' ⟨rfl, rfl⟩
            go_wp2_with fail
            refine (take32_none _ _ HNJ.out).mono ?_
            rintro e w' ⟨rfl, rfl⟩
            go_wp2_with fail
            refine (take64_none _ _ HNJ.out).mono ?_
            rintro e w' ⟨rfl, rfl⟩
            go_wp2_with fail
            refine (digest_none _ _ HNJ.out).mono ?_
            rintro e w5 ⟨rfl, g⟩
            have HG5 := Lib.hid (grownBy_trans HGJ.out g)
            have HN5 := Lib.hid (HNJ.out.grown g)
            have HR5 := Lib.hid (grownBy_trans HGR.out g)
            clear g hc'
            go_wp2_with fail
            refine (bytes_none _ y _ HN5.out).mono ?_
            rintro e w6 ⟨⟨aa, cc, rfl⟩, g⟩
            have HG6 := Lib.hid (grownBy_trans HG5.out g)
            have HN6 := Lib.hid (HN5.out.grown g)
            have HR6 := Lib.hid (grownBy_trans HR5.out g)
            clear g
            go_wp2_with fail
            refine (left_none _ _ HN6.out).mono ?_
            rintro e w' ⟨rfl, rfl⟩
            go_wp2_with fail
            go_roundw
            case rel => exact ⟨j + 1, by have := HLJ.out; omega, by go_num, HG6.out, HR6.out, HN6.out⟩
            case measure => have := HLJ.out; simp [intOf]; omega
          · obtain rfl : j = n := by omega
            go_wp2_with fail
            refine (end_none _ _ HNJ.out).mono ?_
            rintro e w' ⟨rfl, rfl⟩
            go_wp2_with fail
            refine (left_none _ _ HNJ.out).mono ?_
            rintro e w' ⟨rfl, rfl⟩
            go_wp2_with fail
            go_roundw
            case rel => exact ⟨1, by omega, by first | rfl | go_num, HGJ.out, HGR.out.cell M0.out (by simp), HGR.out.cell M1.out (by simp), HC.out.grown HGR.out⟩
            case measure => simp [intOf]
      · have HN := HC
        rw [show ((1 : Nat) : Int) = 1 from rfl]
        have M0 := Lib.hid m0
        have M1 := Lib.hid m1
        go_wp2_with fail
        go_loopw [8] (fun vj wr2 => ∃ j : Nat, j ≤ n ∧ vj = .int .i64 j ∧ w.grownBy wr2 none ∧ wr.grownBy wr2 none ∧ NoneAt wr2 (.pointer (some ⟨w1.heap.size, 0, none⟩))) (fun vj _ => n - (intOf vj).toNat)
        case atStart => exact ⟨0, by omega, rfl, HG.out, World.grownBy.refl _ _, HN.out⟩
        case round =>
          obtain ⟨j, hj, rfl, hg, hgr, hn⟩ := hrel
          have HGJ := Lib.hid hg
          have HNJ := Lib.hid hn
          have HGR := Lib.hid hgr
          clear hgr
          clear hg hn
          by_cases hlj : j < n
          · have HLJ := Lib.hid hlj
            have hw64 : IntKind.i64.wrap ((j : Int) + 1) = (j : Int) + 1 := IntWalk.i64_in _ (by unfold maxLen at hnM; omega)
            obtain ⟨b, off, y, rfl, hc⟩ := HSC.out j hlj
            have hc' : wr.cell? ⟨b, off + j * 3 + 2, none⟩ = some (.int .i64 y) := HGJ.out.cell hc (by simp)
            clear hc
            go_wp2_with fail
            refine (take8_none _ _ HNJ.out).mono ?_
            rintro e w' ⟨rfl, rfl⟩
            go_wp2_with fail
            refine (take32_none _ _ HNJ.out).mono ?_
            rintro e w' ⟨rfl, rfl⟩
            go_wp2_with fail
            refine (take64_none _ _ HNJ.out).mono ?_
            rintro e w' ⟨rfl, rfl⟩
            go_wp2_with fail
            refine (digest_none _ _ HNJ.out).mono ?_
            rintro e w5 ⟨rfl, g⟩
            have HG5 := Lib.hid (grownBy_trans HGJ.out g)
            have HN5 := Lib.hid (HNJ.out.grown g)
            have HR5 := Lib.hid (grownBy_trans HGR.out g)
            clear g hc'
            go_wp2_with fail
            refine (bytes_none _ y _ HN5.out).mono ?_
            rintro e w6 ⟨⟨aa, cc, rfl⟩, g⟩
            have HG6 := Lib.hid (grownBy_trans HG5.out g)
            have HN6 := Lib.hid (HN5.out.grown g)
            have HR6 := Lib.hid (grownBy_trans HR5.out g)
            clear g
            go_wp2_with fail
            refine (left_none _ _ HN6.out).mono ?_
            rintro e w' ⟨rfl, rfl⟩
            go_wp2_with fail
            go_roundw
            case rel => exact ⟨j + 1, by have := HLJ.out; omega, by go_num, HG6.out, HR6.out, HN6.out⟩
            case measure => have := HLJ.out; simp [intOf]; omega
          · obtain rfl : j = n := by omega
            go_wp2_with fail
            refine (end_none _ _ HNJ.out).mono ?_
            rintro e w' ⟨rfl, rfl⟩
            go_wp2_with fail
            refine (left_none _ _ HNJ.out).mono ?_
            rintro e w' ⟨rfl, rfl⟩
            go_wp2_with fail
            go_roundw
            case rel => exact ⟨2, by omega, by first | rfl | go_num, HGJ.out, HGR.out.cell M0.out (by simp), HGR.out.cell M1.out (by simp), HC.out.grown HGR.out⟩
            case measure => simp [intOf]
    · obtain rfl : k = 2 := by omega
      go_wp2_with fail
      refine bodyPost_ret (by simp [*, results, Try.results8, go_sem]; try rfl) rfl ?_
      exact ⟨rfl, HG.out⟩

end Go.Proofs.Ythemlaibjchjpaa
