/- octet's reader: NewReader, take, Bytes, Left, End of a reader that was made. -/
import Derived.Test.YthemlaibjchjpaaClone
import Derived.Test.YthemlaibjchjpaaBox
import Derived.Test.YthemlaibjchjpaaCh
namespace Go.Proofs.Ythemlaibjchjpaa
open Go.RowKit

/-- a reader that was made: is it at fault, what is left -/
structure Rdr (w : World) (g : Nat) (f : Bool) (rem : List UInt8) (la : Option Addr) (lm lc : Nat) : Prop where
  row : Row w g 67 #[.slice la lm lc, .bool true, .bool f]
  lies : BLies w la rem
  len : rem.length = lm
  cap : lm ≤ lc
  big : lc ≤ maxLen
  apart : 0 < lm → ∀ b off, la = some ⟨b, off, none⟩ → b ≠ g
theorem Rdr.grown {w w' : World} {g : Nat} {f : Bool} {rem : List UInt8} {la : Option Addr} {lm lc : Nat} (h : Rdr w g f rem la lm lc) (hg : w.grownBy w' none) : Rdr w' g f rem la lm lc :=
  ⟨h.row.grown hg, h.lies.grown hg, h.len, h.cap, h.big, h.apart⟩

set_option maxRecDepth 100000 in
set_option maxHeartbeats 1000000 in
theorem newReader_n (a : Option Addr) (c n : Nat) (l : List UInt8) (w : World) (ha : BLies w a l) (hl : l.length = n) (hn : n ≤ 4000000100) :
    Calls Try.prog 32 #[.slice a n c] w fun e w' => ∃ g la lc, e = .returned (.pointer (some ⟨g, 0, none⟩)) ∧ w.heap.size ≤ g ∧ Rdr w' g false l la n lc ∧ w.grownBy w' none := by
  have HC := Lib.hid (clone_n a c n l w ha hl hn)
  have HL := Lib.hid hl
  clear ha hl
  go_enter Try.func32, Try.ntmps32
  go_wp2_with fail
  refine HC.out.mono ?_
  rintro e w1 ⟨a', c', rfl, ho, hg⟩
  have HO := Lib.hid ho
  have HG := Lib.hid hg
  clear ho hg
  go_wp2_with (refine wpList_boxed rfl rfl #[.slice a' n c', .bool true, .bool false] rfl ?_; intro w2 hs2 hg2 hr2; have HG2 := Lib.hid hg2; have HR2 := Lib.hid hr2; clear hs2 hg2 hr2)
  go_ret
  refine ⟨_, a', c', rfl, HG.out.size, ⟨HR2.out, (BOwn.lies HO.out).grown HG2.out, HL.out, HO.out.cap.1, HO.out.cap.2, fun h0 b off e => ?_⟩, grownBy_trans HG.out HG2.out⟩
  obtain ⟨g, e', _, h2⟩ := Own.block HO.out (by have := HO.out.cap.1; omega)
  rw [e'] at e
  injection e with e; injection e with e
  omega
theorem Rdr.set {w : World} {g : Nat} {f : Bool} {rem : List UInt8} {la : Option Addr} {lm lc : Nat} (h : Rdr w g f rem la lm lc) (k : Nat) (v : Value) : BLies (w.setCell ⟨g, k, none⟩ v) la rem := by
  intro i hi
  obtain ⟨b, off, e, hc⟩ := h.lies i hi
  refine ⟨b, off, e, ?_⟩
  have hne := h.apart (by have := h.len; omega) b off e
  exact (World.cell?_of_block (Below.heap_setCell _ _ _ _ hne)).trans hc

set_option maxRecDepth 100000 in
set_option maxHeartbeats 1000000 in
theorem left_n (g : Nat) (rem : List UInt8) (la : Option Addr) (lm lc : Nat) (w : World) (h : Rdr w g false rem la lm lc) :
    Calls Try.prog 33 #[.pointer (some ⟨g, 0, none⟩)] w fun e w' => e = .returned (.int .i64 (lm : Int)) ∧ w = w' := by
  have c0 := Row.cell h.row 0
  have c1 := Row.cell h.row 1
  have c2 := Row.cell h.row 2
  simp at c0 c1 c2
  clear h
  go_enter Try.func33, Try.ntmps33
  go_wp2_with fail
  go_ret
  exact ⟨rfl, rfl⟩

set_option maxRecDepth 100000 in
set_option maxHeartbeats 1000000 in
theorem end_n (g : Nat) (f : Bool) (rem : List UInt8) (la : Option Addr) (lm lc : Nat) (w : World) (h : Rdr w g f rem la lm lc) :
    Calls Try.prog 36 #[.pointer (some ⟨g, 0, none⟩)] w fun e w' => e = .returned (.int .i64 ((if f = true then 10 else if 0 < lm then 11 else 0 : Nat) : Int)) ∧ w = w' := by
  have c0 := Row.cell h.row 0
  have c1 := Row.cell h.row 1
  have c2 := Row.cell h.row 2
  simp at c0 c1 c2
  clear h
  cases f with
  | true =>
    rw [if_pos rfl]
    go_enter Try.func36, Try.ntmps36
    go_wp2_with fail
    go_ret
    exact ⟨rfl, rfl⟩
  | false =>
    rw [if_neg (by simp)]
    by_cases hl : 0 < lm
    · rw [if_pos hl]
      have hd : decide ((0 : Int) < (lm : Int)) = true := by simp; omega
      go_enter Try.func36, Try.ntmps36
      go_wp2_with fail
      go_ret
      exact ⟨rfl, rfl⟩
    · rw [if_neg hl]
      obtain rfl : lm = 0 := by omega
      go_enter Try.func36, Try.ntmps36
      go_wp2_with fail
      go_ret
      exact ⟨rfl, rfl⟩

/-- what taking does: what comes, and how the reader is left -/
structure Took (w w' : World) (g : Nat) (f : Bool) (rem : List UInt8) (la : Option Addr) (a : Option Addr) (n : Nat) (p : List UInt8) (f' : Bool) (rem' : List UInt8) (la' : Option Addr) (lm' lc' : Nat) : Prop where
  lies : BLies w' a p
  len : p.length = n
  rdr : Rdr w' g f' rem' la' lm' lc'
  step : f' = false → f = false ∧ rem = p ++ rem'
  short : p.length + rem'.length ≤ rem.length
  grown : w.grownBy w' (some g)
  src : 0 < lm' → ∀ b off, la' = some ⟨b, off, none⟩ → ∃ o, la = some ⟨b, o, none⟩

/-- .. told behind the call -/
def TookP (w : World) (g : Nat) (f : Bool) (rem : List UInt8) (la : Option Addr) (e : Ending) (w' : World) : Prop :=
  ∃ a n c ok p f' rem' la' lm' lc', e = .returned (.tuple #[.slice a n c, .bool ok]) ∧ Took w w' g f rem la a n p f' rem' la' lm' lc'
theorem drop_lies {w : World} {b off : Nat} {l : List UInt8} (h : BLies w (some ⟨b, off, none⟩) l) (f : Nat) : BLies w (some ⟨b, off + f, none⟩) (l.drop f) := by
  intro k hk
  rw [List.length_drop] at hk
  obtain ⟨b', off', e, hc⟩ := h (f + k) (by omega)
  injection e with e; injection e with e1 e2
  subst e1; subst e2
  refine ⟨b, off + f, rfl, ?_⟩
  rw [Nat.add_assoc, hc]
  simp

set_option maxRecDepth 100000 in
set_option maxHeartbeats 2000000 in
theorem take_n (g : Nat) (f : Bool) (rem : List UInt8) (la : Option Addr) (lm lc : Nat) (x : Int) (w : World) (h : Rdr w g f rem la lm lc) :
    Calls Try.prog 68 #[.pointer (some ⟨g, 0, none⟩), .int .i64 x] w fun e w' => TookP w g f rem la e w' := by
  have c0 := Row.cell h.row 0
  have c1 := Row.cell h.row 1
  have c2 := Row.cell h.row 2
  have f0 := Row.frozen h.row 0
  have f2 := Row.frozen h.row 2
  simp at c0 c1 c2
  have H := Lib.hid h
  have hcap := h.cap
  have hbig := h.big
  clear h
  cases f with
  | true =>
    go_enter Try.func68, Try.ntmps68
    go_wp2_with fail
    go_ret2
    exact ⟨none, 0, 0, false, [], true, rem, la, lm, lc, rfl, BLies.nil _ _, rfl, H.out, fun h => (by cases h), by simp, World.grownBy.refl _ _, fun _ b off e => ⟨off, e⟩⟩
  | false =>
    by_cases hx : x < 0
    · have hd : decide (x < 0) = true := by simpa using hx
      go_enter Try.func68, Try.ntmps68
      go_wp2_with fail
      go_ret2
      refine ⟨none, 0, 0, false, [], true, rem, la, lm, lc, rfl, BLies.nil _ _, rfl, ⟨?_, H.out.set _ _, H.out.len, H.out.cap, H.out.big, H.out.apart⟩, fun h => (by cases h), by simp, grownBy_setCell _ _ _ _, fun _ b off e => ⟨off, e⟩⟩
      exact Row.setc H.out.row 2 (.bool true)
    · obtain ⟨n, rfl⟩ : ∃ n : Nat, x = (n : Int) := ⟨x.toNat, by omega⟩
      have hd : decide ((n : Int) < 0) = false := by simp
      by_cases hn : lm < n
      · have hd2 : decide ((lm : Int) < (n : Int)) = true := by simp; omega
        have hd3 : decide (lm < n) = true := by simp; omega
        go_enter Try.func68, Try.ntmps68
        go_wp2_with fail
        go_ret2
        refine ⟨none, 0, 0, false, [], true, rem, la, lm, lc, rfl, BLies.nil _ _, rfl, ⟨?_, H.out.set _ _, H.out.len, H.out.cap, H.out.big, H.out.apart⟩, fun h => (by cases h), by simp, grownBy_setCell _ _ _ _, fun _ b off e => ⟨off, e⟩⟩
        exact Row.setc H.out.row 2 (.bool true)
      · have hd2 : decide ((lm : Int) < (n : Int)) = false := by simp; omega
        have hd3 : decide (lm < n) = false := by simp; omega
        have hnc : n ≤ lc := by omega
        have hnl : n ≤ lm := by omega
        rcases Nat.eq_zero_or_pos n with rfl | hpos
        · have hrow : Row (w.setCell ⟨g, 0, none⟩ (.slice la lm lc)) g 67 #[.slice la lm lc, .bool true, .bool false] := Row.setc H.out.row 0 _
          have hadd0 : ∀ a : Addr, a.add 0 = a := fun a => by simp [Addr.add]
          have hm0 : la.map (fun a => a.add 0) = la := by cases la <;> simp [hadd0]
          have HROW := Lib.hid hrow
          clear hrow
          by_cases hc0 : lc = 0
          · subst hc0
            obtain rfl : lm = 0 := by omega
            go_enter Try.func68, Try.ntmps68
            go_wp2_with fail
            go_ret2
            exact ⟨la, 0, 0, true, [], false, rem, la, 0, 0, rfl, ⟨fun k hk => absurd hk (by simp), rfl, ⟨HROW.out, H.out.set _ _, H.out.len, H.out.cap, H.out.big, H.out.apart⟩, fun _ => ⟨rfl, rfl⟩, by simp, grownBy_setCell _ _ _ _, fun _ b off e => ⟨off, e⟩⟩⟩
          · go_enter Try.func68, Try.ntmps68
            go_wp2_with fail
            go_ret2
            exact ⟨la, 0, 0, true, [], false, rem, la, lm, lc, rfl, ⟨fun k hk => absurd hk (by simp), rfl, ⟨HROW.out, H.out.set _ _, H.out.len, H.out.cap, H.out.big, H.out.apart⟩, fun _ => ⟨rfl, rfl⟩, by simp, grownBy_setCell _ _ _ _, fun _ b off e => ⟨off, e⟩⟩⟩
        · obtain ⟨b, off, rfl⟩ := H.out.lies.addr (by have := H.out.len; omega)
          have hap := H.out.apart (by omega) b off rfl
          have hlen := H.out.len
          have htl : (rem.take n).length = n := by rw [List.length_take]; omega
          have hdl : (rem.drop n).length = lm - n := by rw [List.length_drop, hlen]
          have hadd : (⟨b, off, none⟩ : Addr).add n = ⟨b, off + n, none⟩ := by unfold Addr.add; split <;> simp_all
          have HTL := Lib.hid htl
          have HDL := Lib.hid hdl
          have HLEN := Lib.hid hlen
          by_cases hcn : lc = n
          · subst hcn
            obtain rfl : lm = lc := by omega
            have hsub : lm - lm = 0 := Nat.sub_self _
            clear htl hdl hlen hadd
            go_enter Try.func68, Try.ntmps68
            go_wp2_with fail
            go_ret2
            have hbs := H.out.set 0 (.slice (some ⟨b, off, none⟩) 0 0)
            refine ⟨some ⟨b, off, none⟩, lm, lm, true, rem.take lm, false, rem.drop lm, some ⟨b, off, none⟩, 0, 0, rfl, ⟨hbs.take lm, HTL.out, ⟨Row.setc H.out.row 0 _, fun k hk => absurd hk (by rw [HDL.out]; omega), by rw [HDL.out]; omega, Nat.le_refl _, by omega, fun h => absurd h (by omega)⟩, fun _ => ⟨rfl, (List.take_append_drop _ _).symm⟩, by rw [HTL.out, HDL.out, HLEN.out]; omega, grownBy_setCell _ _ _ _, fun h => absurd h (by omega)⟩⟩
          · have hsubl : (lm : Int) - (n : Int) = ((lm - n : Nat) : Int) := by omega
            clear htl hdl hlen
            go_enter Try.func68, Try.ntmps68
            go_wp2_with fail
            go_ret2
            have hbs := H.out.set 0 (.slice (some ⟨b, off + n, none⟩) (lm - n) (lc - n))
            refine ⟨some ⟨b, off, none⟩, n, n, true, rem.take n, false, rem.drop n, some ⟨b, off + n, none⟩, lm - n, lc - n, rfl, ⟨hbs.take n, HTL.out, ⟨Row.setc H.out.row 0 _, drop_lies hbs n, HDL.out, by omega, by omega, fun _ b' off' e => by injection e with e; injection e with e; omega⟩, fun _ => ⟨rfl, (List.take_append_drop _ _).symm⟩, by rw [HTL.out, HDL.out, HLEN.out]; omega, grownBy_setCell _ _ _ _, fun _ b' off' e => by injection e with e; injection e with e1 e2; subst e1; exact ⟨off, rfl⟩⟩⟩

/-- what Bytes does -/
def BytesP (w : World) (g : Nat) (f : Bool) (rem : List UInt8) (la : Option Addr) (e : Ending) (w' : World) : Prop :=
  ∃ a n c p f' rem' la' lm' lc', e = .returned (.slice a n c) ∧ BOwn w' w.heap.size a n c p ∧ Rdr w' g f' rem' la' lm' lc' ∧ (f' = false → f = false ∧ rem = p ++ rem') ∧ p.length + rem'.length ≤ rem.length ∧ w.grownBy w' (some g) ∧
    (0 < lm' → ∀ b off, la' = some ⟨b, off, none⟩ → ∃ o, la = some ⟨b, o, none⟩)

set_option maxRecDepth 100000 in
set_option maxHeartbeats 1000000 in
theorem bytes_n (g : Nat) (f : Bool) (rem : List UInt8) (la : Option Addr) (lm lc : Nat) (x : Int) (w : World) (h : Rdr w g f rem la lm lc) (hb : lm ≤ 4000000000) :
    Calls Try.prog 34 #[.pointer (some ⟨g, 0, none⟩), .int .i64 x] w fun e w' => BytesP w g f rem la e w' := by
  have HT := Lib.hid (take_n g f rem la lm lc x w h)
  have HLN := Lib.hid h.len
  clear h
  go_enter Try.func34, Try.ntmps34
  go_wp2_with fail
  refine HT.out.mono ?_
  rintro e w1 ⟨a, n, c, ok, p, f', rem', la', lm', lc', rfl, ht⟩
  have HK := Lib.hid ht
  have hs := ht.short
  have hl := ht.len
  have hln := HLN.out
  have hcl := clone_n a c n p w1 ht.lies ht.len (by omega)
  have HCL := Lib.hid hcl
  clear ht hs hl hln hcl
  go_wp2_with fail
  refine HCL.out.mono ?_
  rintro e w2 ⟨a2, c2, rfl, ho, hg⟩
  have HO := Lib.hid ho
  have HG := Lib.hid hg
  clear ho hg
  go_wp2_with fail
  go_ret
  exact ⟨a2, n, c2, p, f', rem', la', lm', lc', rfl, Own.mono HO.out HK.out.grown.size, HK.out.rdr.grown HG.out, HK.out.step, HK.out.short, grownBy_trans HK.out.grown (grownBy_some HG.out _), HK.out.src⟩

end Go.Proofs.Ythemlaibjchjpaa
