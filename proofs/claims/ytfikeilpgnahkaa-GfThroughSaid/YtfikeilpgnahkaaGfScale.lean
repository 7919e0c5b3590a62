/- gf: Scale, and the document's. -/
import Derived.Test.YtfikeilpgnahkaaGfLin
import Derived.Test.YtfikeilpgnahkaaApart
namespace Go.Proofs.Ytfikeilpgnahkaa
open Go.RowKit

/-- each element multiplied -/
def scL (x : UInt8) (l : List UInt8) : List UInt8 := l.map fun a => gm a x
theorem scL_length (x : UInt8) (l : List UInt8) : (scL x l).length = l.length := by simp [scL]
theorem scL_take_succ (x : UInt8) {l : List UInt8} {k : Nat} (h : k < l.length) : scL x (l.take (k + 1)) = scL x (l.take k) ++ [gm (l[k]) x] := by
  unfold scL
  rw [show List.take (k + 1) l = List.take k l ++ [l[k]] from List.take_succ_eq_append_getElem h, List.map_append]
  rfl
/-- the table of products -/
def tabL (x : UInt8) (n : Nat) : List Value := (List.range n).map fun i => bval (gm (UInt8.ofNat i) x)
theorem tabL_succ (x : UInt8) (n : Nat) : tabL x (n + 1) = tabL x n ++ [bval (gm (UInt8.ofNat n) x)] := by simp [tabL, List.range_succ]
theorem tabL_get (x a : UInt8) (h : a.toNat < (tabL x 256).length) : (tabL x 256)[a.toNat] = bval (gm a x) := by simp [tabL]
theorem zero65 : Try.zeroCells65.size = 256 := by kernel_rfl
theorem u8_nat {k : Nat} (h : k < 256) : ((UInt8.ofNat k).toNat : Int) = (k : Int) := by rw [UInt8.toNat_ofNat', Nat.mod_eq_of_lt h]

set_option maxRecDepth 100000 in
set_option maxHeartbeats 1000000 in
theorem scale_n (a : Option Addr) (c n : Nat) (l : List UInt8) (x : UInt8) (w : World) (ha : BLies w a l) (hl : l.length = n) (hn : n ≤ 4000000000) :
    Calls Try.prog 28 #[.slice a n c, .int .u8 (x.toNat : Int)] w fun e w' => ∃ a' c', e = .returned (.slice a' n c') ∧ BOwn w' w.heap.size a' n c' (scL x l) ∧ w.grownBy w' none := by
  have HA := Lib.hid ha
  have HL := Lib.hid hl
  clear ha hl
  go_enter Try.func28, Try.ntmps28
  go_wp2
  have h1 := own_array w 65 Try.zeroCells65 256 zero65 (by decide)
  have H1 := Lib.hid h1
  have HG := Lib.hid (World.grownBy_alloc w (.cells Try.zeroCells65 65) none)
  clear h1
  go_loopw [10] (fun vi wr => ∃ (k : Nat) (xs : List Value), k ≤ 256 ∧ vi = .int .i64 k ∧ Own wr w.heap.size 65 1 (some ⟨w.heap.size, 0, none⟩) 256 256 xs ∧ xs.take k = tabL x k ∧ w.grownBy wr none) (fun vi _ => 256 - (intOf vi).toNat)
  case atStart => exact ⟨0, _, by omega, rfl, H1.out, by simp [tabL], HG.out⟩
  case round =>
    obtain ⟨k, xs, hk, rfl, ho, ht, hg⟩ := hrel
    have HO := Lib.hid ho
    have HT := Lib.hid ht
    have HGR := Lib.hid hg
    have hxl : xs.length = 256 := by have := ho.1; omega
    have HX := Lib.hid hxl
    clear ho ht hg hxl
    by_cases hlt : k < 256
    · obtain ⟨g', e1, _, hsz, hc, hf⟩ := Own.cell HO.out k (by rw [HX.out]; exact hlt)
      obtain rfl : w.heap.size = g' := by simpa using e1
      clear e1
      obtain ⟨u0, hu0⟩ : ∃ u0, wr.cell? ⟨w.heap.size, k, none⟩ = some u0 := ⟨_, hc⟩
      clear hc
      have hset := Own.set HO.out k (by rw [HX.out]; exact hlt) (.int .u8 ((gm (UInt8.ofNat k) x).toNat : Int))
      have HSET := Lib.hid hset
      clear hset
      go_wp2_with (go_at_call 19; refine (mul_i _ _ (UInt8.ofNat k) x _ (u8_nat hlt) rfl).mono ?_; rintro e w' ⟨rfl, rfl⟩)
      go_roundw
      case rel =>
        refine ⟨k + 1, _, by omega, by go_num, HSET.out, ?_, ?_⟩
        · rw [List.take_succ_eq_append_getElem (by simp [HX.out]; omega), List.take_set_of_le (Nat.le_refl _), HT.out, tabL_succ]
          simp [bval]
        · exact grownBy_old HGR.out (grownBy_setCell _ _ _ _) (by omega)
      case measure => simp [intOf]; omega
    · obtain rfl : k = 256 := by omega
      have e256 : ((256 : Nat) : Int) = 256 := rfl
      rw [e256]
      clear e256
      have hx : xs = tabL x 256 := by
        have := HT.out
        rwa [List.take_of_length_le (by rw [HX.out]; exact Nat.le_refl _)] at this
      have ho := HO.out
      rw [hx] at ho
      have HO2 := Lib.hid ho
      clear ho hx HT HX HO
      have hsz := HGR.out.size
      have hsz1 : w.heap.size + 1 ≤ wr.heap.size := by
        obtain ⟨_, e1, _, hs, _, _⟩ := Own.cell HO2.out 0 (by simp [tabL])
        injection e1 with e1; injection e1 with e1; subst e1; exact hs
      go_wp2_with fail
      go_loopw [7, 22] (fun vo vi w2 => ∃ (m : Nat) (a' : Option Addr) (c' : Nat), m ≤ n ∧ vi = .int .i64 m ∧ vo = .slice a' m c' ∧ BOwn w2 (w.heap.size + 1) a' m c' (scL x (l.take m)) ∧ Own w2 w.heap.size 65 1 (some ⟨w.heap.size, 0, none⟩) 256 256 (tabL x 256) ∧ w.grownBy w2 none ∧ w.heap.size + 1 ≤ w2.heap.size) (fun _ vi _ => n - (intOf vi).toNat)
      case atStart => exact ⟨0, none, 0, by omega, rfl, rfl, Own.nil _ _ _ _ _, HO2.out, HGR.out, hsz1⟩
      case round =>
        obtain ⟨m, a', c', hm, rfl, rfl, hown, htab, hg, hs2⟩ := hrel
        have HT := Lib.hid htab
        have HGG := Lib.hid hg
        have HOO := Lib.hid hown
        clear htab hg hown
        by_cases hlt : m < n
        · obtain ⟨b, off, rfl, hc2⟩ := HA.out.grown HGG.out m (by rw [HL.out]; exact hlt)
          obtain ⟨y, hy⟩ : ∃ y, y = l[m]'(by rw [HL.out]; exact hlt) := ⟨_, rfl⟩
          rw [← hy] at hc2
          have hyl := y.toNat_lt
          obtain ⟨g', e1, _, _, hct, _⟩ := Own.cell HT.out y.toNat (by simpa [tabL] using hyl)
          obtain rfl : w.heap.size = g' := by simpa using e1
          rw [tabL_get] at hct
          have hct2 : wr.cell? ⟨w.heap.size, y.toNat, none⟩ = some (.int .u8 ((gm y x).toNat : Int)) := hct
          have HY := Lib.hid hy
          clear e1 hct hy
          go_wp2_with (at_builtin; refine wpList_push elB rfl (.tmp 26) (.tmp 30) rfl rfl HOO.out (.int .u8 ((gm y x).toNat : Int)) rfl rfl (by unfold maxLen; omega) (by omega) hs2 ?_; intro g cap w1 hown1 hgr)
          go_roundw
          case rel =>
            refine ⟨m + 1, _, _, by omega, by go_num, rfl, ?_, ?_, hgr.grew.grown HOO.out HGG.out (by omega), ?_⟩
            · unfold BOwn
              rw [scL_take_succ _ (by rw [HL.out]; exact hlt), List.map_append, ← HY.out]
              exact hown1
            · have hbk := (Own.block hown1 (by have := (Own.cap hown1).1; omega))
              obtain ⟨g2, e2, hge, _⟩ := hbk
              injection e2 with e2; injection e2 with e2; subst e2
              rcases hgr with ⟨g3, e3, _, _, _, hgg⟩ | ⟨g3, e3, _, hgg⟩
              · injection e3 with e3; injection e3 with e3; subst e3
                refine Own.grownNe HT.out hgg (fun q _ hq hr => ?_)
                injection hq with hq; injection hq with hq
                injection hr with hr
                omega
              · exact Own.grownNone HT.out hgg
            · rcases hgr with ⟨g3, e3, _, _, _, hgg⟩ | ⟨g3, e3, _, hgg⟩
              · have := hgg.size; omega
              · have := hgg.size; omega
          case measure => simp [intOf]; omega
        · obtain rfl : m = n := by omega
          have hown := HOO.out
          rw [List.take_of_length_le (by rw [HL.out]; exact Nat.le_refl _)] at hown
          have HO3 := Lib.hid hown
          clear hown
          go_wp2_with fail
          go_ret
          exact ⟨a', c', rfl, HO3.out.mono (by omega), HGG.out⟩

set_option maxRecDepth 100000 in
set_option maxHeartbeats 1000000 in
theorem refScale_n (a : Option Addr) (c n : Nat) (l : List UInt8) (x : UInt8) (w : World) (ha : BLies w a l) (hl : l.length = n) (hn : n ≤ 4000000000) :
    Calls Try.prog 32 #[.slice a n c, .int .u8 (x.toNat : Int)] w fun e w' => ∃ a' c', e = .returned (.slice a' n c') ∧ BOwn w' w.heap.size a' n c' (scL x l) ∧ w.grownBy w' none := by
  have HA := Lib.hid ha
  have HL := Lib.hid hl
  clear ha hl
  go_enter Try.func32, Try.ntmps32
  go_wp2
  go_loopw [5, 6] (fun vo vi w2 => ∃ (m : Nat) (a' : Option Addr) (c' : Nat), m ≤ n ∧ vi = .int .i64 m ∧ vo = .slice a' m c' ∧ BOwn w2 w.heap.size a' m c' (scL x (l.take m)) ∧ w.grownBy w2 none) (fun _ vi _ => n - (intOf vi).toNat)
  case atStart => exact ⟨0, none, 0, by omega, rfl, rfl, Own.nil _ _ _ _ _, World.grownBy.refl _ _⟩
  case round =>
    obtain ⟨m, a', c', hm, rfl, rfl, hown, hg⟩ := hrel
    have hs2 := hg.size
    have HGG := Lib.hid hg
    have HOO := Lib.hid hown
    clear hg hown
    by_cases hlt : m < n
    · obtain ⟨b, off, rfl, hc2⟩ := HA.out.grown HGG.out m (by rw [HL.out]; exact hlt)
      obtain ⟨y, hy⟩ : ∃ y, y = l[m]'(by rw [HL.out]; exact hlt) := ⟨_, rfl⟩
      rw [← hy] at hc2
      have HY := Lib.hid hy
      clear hy
      go_wp2_with fail
      refine (refMul_i _ _ y x _ rfl rfl).mono ?_
      rintro e w' ⟨rfl, rfl⟩
      go_wp2_with (at_builtin; refine wpList_push elB rfl (.tmp 13) (.tmp 20) rfl rfl HOO.out (.int .u8 ((gm y x).toNat : Int)) rfl rfl (by unfold maxLen; omega) (by omega) hs2 ?_; intro g cap w1 hown1 hgr)
      go_roundw
      case rel =>
        refine ⟨m + 1, _, _, by omega, by go_num, rfl, ?_, hgr.grew.grown HOO.out HGG.out (by omega)⟩
        unfold BOwn
        rw [scL_take_succ _ (by rw [HL.out]; exact hlt), List.map_append, ← HY.out]
        exact hown1
      case measure => simp [intOf]; omega
    · obtain rfl : m = n := by omega
      have hown := HOO.out
      rw [List.take_of_length_le (by rw [HL.out]; exact Nat.le_refl _)] at hown
      have HO3 := Lib.hid hown
      clear hown
      go_wp2_with fail
      go_ret
      exact ⟨a', c', rfl, HO3.out, HGG.out⟩

end Go.Proofs.Ytfikeilpgnahkaa
