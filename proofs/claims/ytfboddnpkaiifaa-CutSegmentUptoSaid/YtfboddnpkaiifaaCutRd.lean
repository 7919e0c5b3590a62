/- Shapes and parameters that came in. -/
import Derived.Test.YtfboddnpkaiifaaRead
import Derived.Test.YtfboddnpkaiifaaCutRefSize
namespace Go.Proofs.Ytfboddnpkaiifaa
open Go.ChangeShapes Go.WideShapes Go.ChangeAt Go.RowKit

section
variable {H : Type} {enc : TypeId × Value → H} {w : World} {base : Nat} {spare : Nat → Bool} {held : Bool}
theorem okWide_struct {P : Program} {r : Reach} {b0 : Nat} {t : TypeId} {fs : Array Field} {v : Value} (ht : P.underlying t = some (.struct fs)) (h : Value.okWide P w r b0 t v) : ∃ cs, v = .agg cs ∧ cs.size = P.cellsOf t := by
  simp only [Value.okWide, ht] at h
  obtain ⟨cs, h1, h2, _⟩ := h
  exact ⟨cs, h1, h2⟩
theorem i64ok_of_wf {n : Int} (h : (Lit.int .i64 n).wf = true) : i64ok n := i64_of_wf h

theorem field_int {P : Program} {t : TypeId} {fs : Array Field} {fuel : Nat} {cs : List Value} {x : DataW H × List MemPlace} (ht : P.underlying t = some (.struct fs)) (h : DataW.trod enc P w base spare held fuel t cs = some x)
    (i : Nat) (f : Field) (hf : fs[i]? = some f) (hi : P.underlying f.type = some (.int .i64)) (hc : P.cellsOf f.type = 1) (ho : f.offset < cs.length) : ∃ n : Int, cs[f.offset]? = some (.int .i64 n) ∧ i64ok n := by
  obtain ⟨xs, m, _, _, _, hl, hx⟩ := DataW.trod_struct ht h
  have h1 := hx i f hf
  have hil : i < xs.length := by have := (Array.getElem?_eq_some_iff.1 hf).1; omega
  rw [hc, List.drop_eq_getElem_cons ho, List.getElem?_eq_getElem hil] at h1
  have h2 : DataW.trod enc P w base spare held m f.type [cs[f.offset]] = some xs[i] := h1
  obtain ⟨a, ea, _, wa⟩ := DataW.trod_int hi h2
  injection ea with ea
  exact ⟨a, by rw [List.getElem?_eq_getElem ho, ea], i64ok_of_wf wa⟩

theorem open_sh {r : Reach} {b0 : Nat} {v : Value} {d : DataW H} {p : List MemPlace}
    (hv : Value.okWide Try.prog w r b0 47 v) (h : DataW.Trod enc Try.prog w base spare held 47 v d p) : ∃ s : Sh, s.Wf ∧ v = s.val := by
  obtain ⟨cs, rfl, hs⟩ := okWide_struct Try.underlying47 hv
  have hs8 : cs.size = 8 := hs
  obtain ⟨fuel, hf⟩ := h
  have hf : DataW.trod enc Try.prog w base spare held fuel 47 cs.toList = some (d, p) := hf
  have hl : cs.toList.length = 8 := by simpa using hs8
  have F := fun i f h1 h2 h3 h4 => field_int Try.underlying47 hf i f h1 h2 h3 h4
  obtain ⟨k, e0, w0⟩ := F 0 _ rfl Try.underlying3 (by kernel_rfl) (by rw [hl]; decide)
  obtain ⟨n, e1, w1⟩ := F 1 _ rfl Try.underlying3 (by kernel_rfl) (by rw [hl]; decide)
  obtain ⟨g, e2, w2⟩ := F 2 _ rfl Try.underlying3 (by kernel_rfl) (by rw [hl]; decide)
  obtain ⟨z, e3, w3⟩ := F 3 _ rfl Try.underlying3 (by kernel_rfl) (by rw [hl]; decide)
  obtain ⟨sg, e4, w4⟩ := F 4 _ rfl Try.underlying3 (by kernel_rfl) (by rw [hl]; decide)
  obtain ⟨t, e5, w5⟩ := F 5 _ rfl Try.underlying3 (by kernel_rfl) (by rw [hl]; decide)
  obtain ⟨b, e6, w6⟩ := F 6 _ rfl Try.underlying3 (by kernel_rfl) (by rw [hl]; decide)
  obtain ⟨l, e7, w7⟩ := F 7 _ rfl Try.underlying3 (by kernel_rfl) (by rw [hl]; decide)
  refine ⟨⟨k, n, g, z, sg, t, b, l⟩, ⟨w0, w1, w2, w3, w4, w5, w6, w7⟩, ?_⟩
  obtain ⟨cs⟩ := cs
  match cs, hl with
  | [v0, v1, v2, v3, v4, v5, v6, v7], _ =>
    simp only [List.getElem?_cons_zero, List.getElem?_cons_succ] at e0 e1 e2 e3 e4 e5 e6 e7
    injection e0 with e0; injection e1 with e1; injection e2 with e2; injection e3 with e3; injection e4 with e4; injection e5 with e5; injection e6 with e6; injection e7 with e7
    subst e0 e1 e2 e3 e4 e5 e6 e7
    rfl

theorem bulk_mem {H : Type} {l : List (DataW H)} {d : DataW H} (h : d ∈ l) : Rows.uptoBulk d ≤ Rows.uptoBulkAll l := by
  induction l with
  | nil => cases h
  | cons x r ih =>
    simp only [Rows.uptoBulkAll]
    rcases List.mem_cons.1 h with rfl | h
    · omega
    · have := ih h; omega

theorem open_pr {r : Reach} {b0 : Nat} {v : Value} {d : DataW H} {p : List MemPlace}
    (hv : Value.okWide Try.prog w r b0 45 v) (h : DataW.Trod enc Try.prog w base spare held 45 v d p) :
    ∃ (k n g hp : Int) (a : Option Addr) (ln c : Nat) (l : List UInt8), v = prV k n g hp a ln c ∧ i64ok k ∧ i64ok n ∧ i64ok g ∧ i64ok hp ∧ l.length = ln ∧ BLies w a l ∧ ln + 1 ≤ Rows.uptoBulk d ∧ ln ≤ c ∧ c ≤ maxLen := by
  obtain ⟨cs, rfl, hs⟩ := okWide_struct Try.underlying45 hv
  have hs5 : cs.size = 5 := hs
  obtain ⟨fuel, hf⟩ := h
  have hf : DataW.trod enc Try.prog w base spare held fuel 45 cs.toList = some (d, p) := hf
  have hl : cs.toList.length = 5 := by simpa using hs5
  have F := fun i f h1 h2 h3 h4 => field_int Try.underlying45 hf i f h1 h2 h3 h4
  obtain ⟨k, e0, w0⟩ := F 0 _ rfl Try.underlying3 (by kernel_rfl) (by rw [hl]; decide)
  obtain ⟨n, e1, w1⟩ := F 1 _ rfl Try.underlying3 (by kernel_rfl) (by rw [hl]; decide)
  obtain ⟨g, e2, w2⟩ := F 2 _ rfl Try.underlying3 (by kernel_rfl) (by rw [hl]; decide)
  obtain ⟨hp, e3, w3⟩ := F 3 _ rfl Try.underlying3 (by kernel_rfl) (by rw [hl]; decide)
  obtain ⟨xs, m, _, hx, _, hxl, hi⟩ := DataW.trod_struct Try.underlying45 hf
  have h4 := hi 4 _ rfl
  have hxl5 : xs.length = 5 := hxl
  obtain ⟨cs⟩ := cs
  match cs, hl with
  | [v0, v1, v2, v3, v4], _ =>
    simp only [List.getElem?_cons_zero, List.getElem?_cons_succ] at e0 e1 e2 e3
    injection e0 with e0; injection e1 with e1; injection e2 with e2; injection e3 with e3
    subst e0 e1 e2 e3
    match xs, hxl5 with
    | [y0, y1, y2, y3, y4], _ =>
      have h5 : DataW.trod enc Try.prog w base spare held m 22 [v4] = some (y4.1, y4.2) := h4
      have hb : Rows.uptoBulk y4.1 ≤ Rows.uptoBulk d := by
        injection hx with hx _
        rw [hx]
        simp only [Rows.uptoBulk]
        have := bulk_mem (l := [y0, y1, y2, y3, y4].map (·.1)) (d := y4.1) (by simp)
        omega
      have hsl : ∃ a ln c, v4 = .slice a ln c := by
        rcases open_ints Try.underlying22 Try.underlying5 (by kernel_rfl) h5 with ⟨hcs, _⟩ | ⟨x, len', cap', zs, hcs, _⟩
        · injection hcs with hcs; exact ⟨_, _, _, hcs⟩
        · injection hcs with hcs; exact ⟨_, _, _, hcs⟩
      obtain ⟨a, ln, c, rfl⟩ := hsl
      obtain ⟨l, r1, r2, r3, r4, r5⟩ := rd_bytes h5
      exact ⟨k, n, g, hp, a, ln, c, l, rfl, w0, w1, w2, w3, r1, r2, by omega, r4, r5⟩
end

end Go.Proofs.Ytfboddnpkaiifaa
