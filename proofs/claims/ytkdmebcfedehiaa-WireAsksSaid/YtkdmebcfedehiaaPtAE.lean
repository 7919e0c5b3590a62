/- Helpers and contracts of the proofs over this seat: Reader2, Reader3, TakeA, WireMathQ, Taker, Fields, ReqMath, RegY. Each states what a function of the program answers, or is plain Lean; its conditions stand in each statement. -/
import Derived.Test.YtkdmebcfedehiaaPtAA
import Derived.Test.YtkdmebcfedehiaaPtAB
import Derived.Test.YtkdmebcfedehiaaPtAC
set_option linter.unusedVariables false
/- The reader: what comes, to the byte; its numbers of eight bytes. -/
namespace Go.Proofs.Ytkdmebcfedehiaa
open Go.RowKit

/-- what is taken, and how the reader is left -/
def Det (f : Bool) (rem : List UInt8) (x : Int) (ok : Bool) (p : List UInt8) (f' : Bool) (rem' : List UInt8) : Prop :=
  (ok = true ∧ f = false ∧ 0 ≤ x ∧ x ≤ rem.length ∧ p = rem.take x.toNat ∧ f' = false ∧ rem' = rem.drop x.toNat) ∨ (ok = false ∧ (f = true ∨ x < 0 ∨ (rem.length : Int) < x) ∧ p = [] ∧ f' = true ∧ rem' = rem)
def TookP2 (w : World) (g : Nat) (f : Bool) (rem : List UInt8) (la : Option Addr) (x : Int) (e : Ending) (w' : World) : Prop :=
  ∃ a n c ok p f' rem' la' lm' lc', e = .returned (.tuple #[.slice a n c, .bool ok]) ∧ Det f rem x ok p f' rem' ∧ Took w w' g f rem la a n p f' rem' la' lm' lc'

set_option maxRecDepth 100000 in
set_option maxHeartbeats 4000000 in
theorem take2_n (g : Nat) (f : Bool) (rem : List UInt8) (la : Option Addr) (lm lc : Nat) (x : Int) (w : World) (h : Rdr w g f rem la lm lc) :
    Calls Try.prog 56 #[.pointer (some ⟨g, 0, none⟩), .int .i64 x] w fun e w' => TookP2 w g f rem la x e w' := by
  have c0 := Row.cell h.row 0
  have c1 := Row.cell h.row 1
  have c2 := Row.cell h.row 2
  have f0 := Row.frozen h.row 0
  have f2 := Row.frozen h.row 2
  simp at c0 c1 c2
  have H := Lib.hid h
  have hcap := h.cap
  have hbig := h.big
  clear h
  cases f with
  | true =>
    go_enter Try.func56, Try.ntmps56
    go_wp2_with fail
    go_ret2
    exact ⟨none, 0, 0, false, [], true, rem, la, lm, lc, rfl, .inr ⟨rfl, .inl rfl, rfl, rfl, rfl⟩, BLies.nil _ _, rfl, H.out, fun h => (by cases h), by simp, World.grownBy.refl _ _, fun _ b off e => ⟨off, e⟩⟩
  | false =>
    by_cases hx : x < 0
    · have hd : decide (x < 0) = true := by simpa using hx
      go_enter Try.func56, Try.ntmps56
      go_wp2_with fail
      go_ret2
      refine ⟨none, 0, 0, false, [], true, rem, la, lm, lc, rfl, .inr ⟨rfl, .inr (.inl hx), rfl, rfl, rfl⟩, BLies.nil _ _, rfl, ⟨?_, H.out.set _ _, H.out.len, H.out.cap, H.out.big, H.out.apart⟩, fun h => (by cases h), by simp, grownBy_setCell _ _ _ _, fun _ b off e => ⟨off, e⟩⟩
      exact Row.setc H.out.row 2 (.bool true)
    · obtain ⟨n, rfl⟩ : ∃ n : Nat, x = (n : Int) := ⟨x.toNat, by omega⟩
      have hd : decide ((n : Int) < 0) = false := by simp
      by_cases hn : lm < n
      · have hd2 : decide ((lm : Int) < (n : Int)) = true := by simp; omega
        have hd3 : decide (lm < n) = true := by simp; omega
        go_enter Try.func56, Try.ntmps56
        go_wp2_with fail
        go_ret2
        refine ⟨none, 0, 0, false, [], true, rem, la, lm, lc, rfl, .inr ⟨rfl, .inr (.inr (by have := H.out.len; omega)), rfl, rfl, rfl⟩, BLies.nil _ _, rfl, ⟨?_, H.out.set _ _, H.out.len, H.out.cap, H.out.big, H.out.apart⟩, fun h => (by cases h), by simp, grownBy_setCell _ _ _ _, fun _ b off e => ⟨off, e⟩⟩
        exact Row.setc H.out.row 2 (.bool true)
      · have hd2 : decide ((lm : Int) < (n : Int)) = false := by simp; omega
        have hd3 : decide (lm < n) = false := by simp; omega
        have hnc : n ≤ lc := by omega
        have hnl : n ≤ lm := by omega
        rcases Nat.eq_zero_or_pos n with rfl | hpos
        · have hrow : Row (w.setCell ⟨g, 0, none⟩ (.slice la lm lc)) g 96 #[.slice la lm lc, .bool true, .bool false] := Row.setc H.out.row 0 _
          have hadd0 : ∀ a : Addr, a.add 0 = a := fun a => by simp [Addr.add]
          have hm0 : la.map (fun a => a.add 0) = la := by cases la <;> simp [hadd0]
          have HROW := Lib.hid hrow
          clear hrow
          by_cases hc0 : lc = 0
          · subst hc0
            obtain rfl : lm = 0 := by omega
            go_enter Try.func56, Try.ntmps56
            go_wp2_with fail
            go_ret2
            exact ⟨la, 0, 0, true, [], false, rem, la, 0, 0, rfl, .inl ⟨rfl, rfl, by simp, by simp, by simp, rfl, by simp⟩, ⟨fun k hk => absurd hk (by simp), rfl, ⟨HROW.out, H.out.set _ _, H.out.len, H.out.cap, H.out.big, H.out.apart⟩, fun _ => ⟨rfl, rfl⟩, by simp, grownBy_setCell _ _ _ _, fun _ b off e => ⟨off, e⟩⟩⟩
          · go_enter Try.func56, Try.ntmps56
            go_wp2_with fail
            go_ret2
            exact ⟨la, 0, 0, true, [], false, rem, la, lm, lc, rfl, .inl ⟨rfl, rfl, by simp, by simp, by simp, rfl, by simp⟩, ⟨fun k hk => absurd hk (by simp), rfl, ⟨HROW.out, H.out.set _ _, H.out.len, H.out.cap, H.out.big, H.out.apart⟩, fun _ => ⟨rfl, rfl⟩, by simp, grownBy_setCell _ _ _ _, fun _ b off e => ⟨off, e⟩⟩⟩
        · obtain ⟨b, off, rfl⟩ := H.out.lies.addr (by have := H.out.len; omega)
          have hap := H.out.apart (by omega) b off rfl
          have hlen := H.out.len
          have htl : (rem.take n).length = n := by rw [List.length_take]; omega
          have hdl : (rem.drop n).length = lm - n := by rw [List.length_drop, hlen]
          have hadd : (⟨b, off, none⟩ : Addr).add n = ⟨b, off + n, none⟩ := by unfold Addr.add; split <;> simp_all
          have HTL := Lib.hid htl
          have HDL := Lib.hid hdl
          have HLEN := Lib.hid hlen
          by_cases hcn : lc = n
          · subst hcn
            obtain rfl : lm = lc := by omega
            have hsub : lm - lm = 0 := Nat.sub_self _
            clear htl hdl hlen hadd
            go_enter Try.func56, Try.ntmps56
            go_wp2_with fail
            go_ret2
            have hbs := H.out.set 0 (.slice (some ⟨b, off, none⟩) 0 0)
            refine ⟨some ⟨b, off, none⟩, lm, lm, true, rem.take lm, false, rem.drop lm, some ⟨b, off, none⟩, 0, 0, rfl, .inl ⟨rfl, rfl, by omega, by have := HLEN.out; omega, rfl, rfl, rfl⟩, ⟨hbs.take lm, HTL.out, ⟨Row.setc H.out.row 0 _, fun k hk => absurd hk (by rw [HDL.out]; omega), by rw [HDL.out]; omega, Nat.le_refl _, by omega, fun h => absurd h (by omega)⟩, fun _ => ⟨rfl, (List.take_append_drop _ _).symm⟩, by rw [HTL.out, HDL.out, HLEN.out]; omega, grownBy_setCell _ _ _ _, fun h => absurd h (by omega)⟩⟩
          · have hsubl : (lm : Int) - (n : Int) = ((lm - n : Nat) : Int) := by omega
            clear htl hdl hlen
            go_enter Try.func56, Try.ntmps56
            go_wp2_with fail
            go_ret2
            have hbs := H.out.set 0 (.slice (some ⟨b, off + n, none⟩) (lm - n) (lc - n))
            refine ⟨some ⟨b, off, none⟩, n, n, true, rem.take n, false, rem.drop n, some ⟨b, off + n, none⟩, lm - n, lc - n, rfl, .inl ⟨rfl, rfl, by omega, by have := HLEN.out; omega, rfl, rfl, rfl⟩, ⟨hbs.take n, HTL.out, ⟨Row.setc H.out.row 0 _, drop_lies hbs n, HDL.out, by omega, by omega, fun _ b' off' e => by injection e with e; injection e with e; omega⟩, fun _ => ⟨rfl, (List.take_append_drop _ _).symm⟩, by rw [HTL.out, HDL.out, HLEN.out]; omega, grownBy_setCell _ _ _ _, fun _ b' off' e => by injection e with e; injection e with e1 e2; subst e1; exact ⟨off, rfl⟩⟩⟩


/-- what Bytes does -/
def BytesP2 (w : World) (g : Nat) (f : Bool) (rem : List UInt8) (la : Option Addr) (x : Int) (e : Ending) (w' : World) : Prop :=
  ∃ a n c ok p f' rem' la' lm' lc', e = .returned (.slice a n c) ∧ Det f rem x ok p f' rem' ∧ BOwn w' w.heap.size a n c p ∧ Rdr w' g f' rem' la' lm' lc' ∧ w.grownBy w' (some g) ∧
    (0 < lm' → ∀ b off, la' = some ⟨b, off, none⟩ → ∃ o, la = some ⟨b, o, none⟩)
set_option maxRecDepth 100000 in
set_option maxHeartbeats 1000000 in
theorem bytes2_n (g : Nat) (f : Bool) (rem : List UInt8) (la : Option Addr) (lm lc : Nat) (x : Int) (w : World) (h : Rdr w g f rem la lm lc) (hb : lm ≤ 4000000000) :
    Calls Try.prog 31 #[.pointer (some ⟨g, 0, none⟩), .int .i64 x] w fun e w' => BytesP2 w g f rem la x e w' := by
  have HT := Lib.hid (take2_n g f rem la lm lc x w h)
  have HLN := Lib.hid h.len
  clear h
  go_enter Try.func31, Try.ntmps31
  go_wp2_with fail
  refine HT.out.mono ?_
  rintro e w1 ⟨a, n, c, ok, p, f', rem', la', lm', lc', rfl, hd, ht⟩
  have HD := Lib.hid hd
  have HK := Lib.hid ht
  have hs := ht.short
  have hl := ht.len
  have hln := HLN.out
  have hcl := clone_n a c n p w1 ht.lies ht.len (by omega)
  have HCL := Lib.hid hcl
  clear ht hs hl hln hcl hd
  go_wp2_with fail
  refine HCL.out.mono ?_
  rintro e w2 ⟨a2, c2, rfl, ho, hg⟩
  have HO := Lib.hid ho
  have HG := Lib.hid hg
  clear ho hg
  go_wp2_with fail
  go_ret
  exact ⟨a2, n, c2, ok, p, f', rem', la', lm', lc', rfl, HD.out, Own.mono HO.out HK.out.grown.size, HK.out.rdr.grown HG.out, grownBy_trans HK.out.grown (grownBy_some HG.out _), HK.out.src⟩

/-- what Long does -/
def LongP (w : World) (g : Nat) (f : Bool) (rem : List UInt8) (la : Option Addr) (e : Ending) (w' : World) : Prop :=
  ∃ ok p f' rem' la' lm' lc', e = .returned (.int .u64 (if ok = true then smallL p else 0 : Nat)) ∧ Det f rem 8 ok p f' rem' ∧ Rdr w' g f' rem' la' lm' lc' ∧ w.grownBy w' (some g) ∧
    (0 < lm' → ∀ b off, la' = some ⟨b, off, none⟩ → ∃ o, la = some ⟨b, o, none⟩)
set_option maxRecDepth 100000 in
set_option maxHeartbeats 1000000 in
theorem number64_n (g : Nat) (f : Bool) (rem : List UInt8) (la : Option Addr) (lm lc : Nat) (w : World) (h : Rdr w g f rem la lm lc) :
    Calls Try.prog 74 #[.pointer (some ⟨g, 0, none⟩)] w fun e w' => LongP w g f rem la e w' := by
  have HT := Lib.hid (take2_n g f rem la lm lc 8 w h)
  clear h
  go_enter Try.func74, Try.ntmps74
  go_upto_region 2 with (first
    | (go_at_call 59; refine (width64_any _).mono ?_; rintro e w' ⟨rfl, rfl⟩)
    | (go_at_call 56; refine HT.out.mono ?_; rintro e w1 ⟨a, n, c, ok, p, f', rem', la', lm', lc', rfl, hd, ht⟩; have HD := Lib.hid hd; have HK := Lib.hid ht; clear hd ht))
  cases ok with
  | false =>
    go_wp2_with fail
    go_ret
    exact ⟨false, p, f', rem', la', lm', lc', rfl, HD.out, HK.out.rdr, HK.out.grown, HK.out.src⟩
  | true =>
    have hn : n = 8 := by
      have h1 := HK.out.len
      rcases HD.out with ⟨_, _, _, h2, h3, _⟩ | ⟨h, _⟩
      · rw [h3, List.length_take] at h1
        have : (8 : Int).toNat = 8 := rfl
        omega
      · cases h
    subst hn
    have HS := Lib.hid (small64_any a c 8 p w1 HK.out.lies HK.out.len (by unfold maxLen; omega))
    go_wp2_with fail
    refine HS.out.mono ?_
    rintro e w2 ⟨rfl, rfl⟩
    rw [if_neg (by omega), if_neg (by omega)]
    go_wp2_with fail
    go_ret
    exact ⟨true, p, f', rem', la', lm', lc', rfl, HD.out, HK.out.rdr, HK.out.grown, HK.out.src⟩
set_option maxRecDepth 100000 in
set_option maxHeartbeats 1000000 in
theorem long_n (g : Nat) (f : Bool) (rem : List UInt8) (la : Option Addr) (lm lc : Nat) (w : World) (h : Rdr w g f rem la lm lc) :
    Calls Try.prog 69 #[.pointer (some ⟨g, 0, none⟩)] w fun e w' => LongP w g f rem la e w' := by
  have HT := Lib.hid (number64_n g f rem la lm lc w h)
  clear h
  go_enter Try.func69, Try.ntmps69
  go_wp2_with fail
  refine HT.out.mono ?_
  rintro e w1 ⟨ok, p, f', rem', la', lm', lc', rfl, h1, h2, h3, h4⟩
  have H1 := Lib.hid h1
  have H2 := Lib.hid h2
  have H3 := Lib.hid h3
  have H4 := Lib.hid h4
  clear h1 h2 h3 h4
  generalize hv : (if ok = true then smallL p else 0) = v
  have HV := Lib.hid hv
  clear hv
  go_wp2_with fail
  go_ret
  exact ⟨ok, p, f', rem', la', lm', lc', congrArg (fun z : Nat => Ending.returned (.int .u64 (z : Int))) HV.out.symm, H1.out, H2.out, H3.out, H4.out⟩
end Go.Proofs.Ytkdmebcfedehiaa
/- The reader's Byte, Half and Word, to the byte. -/
namespace Go.Proofs.Ytkdmebcfedehiaa
open Go.RowKit

def ByteP (w : World) (g : Nat) (f : Bool) (rem : List UInt8) (la : Option Addr) (e : Ending) (w' : World) : Prop :=
  ∃ ok p f' rem' la' lm' lc', e = .returned (.int .u8 (if ok = true then smallL p else 0 : Nat)) ∧ Det f rem 1 ok p f' rem' ∧ Rdr w' g f' rem' la' lm' lc' ∧ w.grownBy w' (some g) ∧
    (0 < lm' → ∀ b off, la' = some ⟨b, off, none⟩ → ∃ o, la = some ⟨b, o, none⟩)
set_option maxRecDepth 100000 in
set_option maxHeartbeats 1000000 in
theorem number8_n (g : Nat) (f : Bool) (rem : List UInt8) (la : Option Addr) (lm lc : Nat) (w : World) (h : Rdr w g f rem la lm lc) :
    Calls Try.prog 73 #[.pointer (some ⟨g, 0, none⟩)] w fun e w' => ByteP w g f rem la e w' := by
  have HT := Lib.hid (take2_n g f rem la lm lc 1 w h)
  clear h
  go_enter Try.func73, Try.ntmps73
  go_upto_region 2 with (first
    | (go_at_call 75; refine (width8_any _).mono ?_; rintro e w' ⟨rfl, rfl⟩)
    | (go_at_call 56; refine HT.out.mono ?_; rintro e w1 ⟨a, n, c, ok, p, f', rem', la', lm', lc', rfl, hd, ht⟩; have HD := Lib.hid hd; have HK := Lib.hid ht; clear hd ht))
  cases ok with
  | false =>
    go_wp2_with fail
    go_ret
    exact ⟨false, p, f', rem', la', lm', lc', rfl, HD.out, HK.out.rdr, HK.out.grown, HK.out.src⟩
  | true =>
    have hn : n = 1 := by
      have h1 := HK.out.len
      rcases HD.out with ⟨_, _, _, h2, h3, _⟩ | ⟨h, _⟩
      · rw [h3, List.length_take] at h1
        have : (1 : Int).toNat = 1 := rfl
        omega
      · cases h
    subst hn
    have HS := Lib.hid (small8_any a c 1 p w1 HK.out.lies HK.out.len (by unfold maxLen; omega))
    go_wp2_with fail
    refine HS.out.mono ?_
    rintro e w2 ⟨rfl, rfl⟩
    rw [if_neg (by omega), if_neg (by omega)]
    go_wp2_with fail
    go_ret
    exact ⟨true, p, f', rem', la', lm', lc', rfl, HD.out, HK.out.rdr, HK.out.grown, HK.out.src⟩
set_option maxRecDepth 100000 in
set_option maxHeartbeats 1000000 in
theorem byte_n (g : Nat) (f : Bool) (rem : List UInt8) (la : Option Addr) (lm lc : Nat) (w : World) (h : Rdr w g f rem la lm lc) :
    Calls Try.prog 68 #[.pointer (some ⟨g, 0, none⟩)] w fun e w' => ByteP w g f rem la e w' := by
  have HT := Lib.hid (number8_n g f rem la lm lc w h)
  clear h
  go_enter Try.func68, Try.ntmps68
  go_wp2_with fail
  refine HT.out.mono ?_
  rintro e w1 ⟨ok, p, f', rem', la', lm', lc', rfl, h1, h2, h3, h4⟩
  have H1 := Lib.hid h1
  have H2 := Lib.hid h2
  have H3 := Lib.hid h3
  have H4 := Lib.hid h4
  clear h1 h2 h3 h4
  generalize hv : (if ok = true then smallL p else 0) = v
  have HV := Lib.hid hv
  clear hv
  go_wp2_with fail
  go_ret
  exact ⟨ok, p, f', rem', la', lm', lc', congrArg (fun z : Nat => Ending.returned (.int .u8 (z : Int))) HV.out.symm, H1.out, H2.out, H3.out, H4.out⟩
def WordP (w : World) (g : Nat) (f : Bool) (rem : List UInt8) (la : Option Addr) (e : Ending) (w' : World) : Prop :=
  ∃ ok p f' rem' la' lm' lc', e = .returned (.int .u32 (if ok = true then smallL p else 0 : Nat)) ∧ Det f rem 4 ok p f' rem' ∧ Rdr w' g f' rem' la' lm' lc' ∧ w.grownBy w' (some g) ∧
    (0 < lm' → ∀ b off, la' = some ⟨b, off, none⟩ → ∃ o, la = some ⟨b, o, none⟩)
set_option maxRecDepth 100000 in
set_option maxHeartbeats 1000000 in
theorem number32_n (g : Nat) (f : Bool) (rem : List UInt8) (la : Option Addr) (lm lc : Nat) (w : World) (h : Rdr w g f rem la lm lc) :
    Calls Try.prog 72 #[.pointer (some ⟨g, 0, none⟩)] w fun e w' => WordP w g f rem la e w' := by
  have HT := Lib.hid (take2_n g f rem la lm lc 4 w h)
  clear h
  go_enter Try.func72, Try.ntmps72
  go_upto_region 2 with (first
    | (go_at_call 49; refine (width32_any _).mono ?_; rintro e w' ⟨rfl, rfl⟩)
    | (go_at_call 56; refine HT.out.mono ?_; rintro e w1 ⟨a, n, c, ok, p, f', rem', la', lm', lc', rfl, hd, ht⟩; have HD := Lib.hid hd; have HK := Lib.hid ht; clear hd ht))
  cases ok with
  | false =>
    go_wp2_with fail
    go_ret
    exact ⟨false, p, f', rem', la', lm', lc', rfl, HD.out, HK.out.rdr, HK.out.grown, HK.out.src⟩
  | true =>
    have hn : n = 4 := by
      have h1 := HK.out.len
      rcases HD.out with ⟨_, _, _, h2, h3, _⟩ | ⟨h, _⟩
      · rw [h3, List.length_take] at h1
        have : (4 : Int).toNat = 4 := rfl
        omega
      · cases h
    subst hn
    have HS := Lib.hid (small32_any a c 4 p w1 HK.out.lies HK.out.len (by unfold maxLen; omega))
    go_wp2_with fail
    refine HS.out.mono ?_
    rintro e w2 ⟨rfl, rfl⟩
    rw [if_neg (by omega), if_neg (by omega)]
    go_wp2_with fail
    go_ret
    exact ⟨true, p, f', rem', la', lm', lc', rfl, HD.out, HK.out.rdr, HK.out.grown, HK.out.src⟩
set_option maxRecDepth 100000 in
set_option maxHeartbeats 1000000 in
theorem word_n (g : Nat) (f : Bool) (rem : List UInt8) (la : Option Addr) (lm lc : Nat) (w : World) (h : Rdr w g f rem la lm lc) :
    Calls Try.prog 67 #[.pointer (some ⟨g, 0, none⟩)] w fun e w' => WordP w g f rem la e w' := by
  have HT := Lib.hid (number32_n g f rem la lm lc w h)
  clear h
  go_enter Try.func67, Try.ntmps67
  go_wp2_with fail
  refine HT.out.mono ?_
  rintro e w1 ⟨ok, p, f', rem', la', lm', lc', rfl, h1, h2, h3, h4⟩
  have H1 := Lib.hid h1
  have H2 := Lib.hid h2
  have H3 := Lib.hid h3
  have H4 := Lib.hid h4
  clear h1 h2 h3 h4
  generalize hv : (if ok = true then smallL p else 0) = v
  have HV := Lib.hid hv
  clear hv
  go_wp2_with fail
  go_ret
  exact ⟨ok, p, f', rem', la', lm', lc', congrArg (fun z : Nat => Ending.returned (.int .u32 (z : Int))) HV.out.symm, H1.out, H2.out, H3.out, H4.out⟩
set_option maxRecDepth 100000 in
set_option maxHeartbeats 1000000 in
theorem newReader2_n (a : Option Addr) (c n : Nat) (l : List UInt8) (w : World) (ha : BLies w a l) (hl : l.length = n) (hn : n ≤ 4000000100) :
    Calls Try.prog 30 #[.slice a n c] w fun e w' => ∃ g la lc, e = .returned (.pointer (some ⟨g, 0, none⟩)) ∧ w.heap.size ≤ g ∧ Rdr w' g false l la n lc ∧ w.grownBy w' none ∧ (0 < n → ∀ b off, la = some ⟨b, off, none⟩ → w.heap.size ≤ b ∧ b < g) := by
  have HC := Lib.hid (clone_n a c n l w ha hl hn)
  have HL := Lib.hid hl
  clear ha hl
  go_enter Try.func30, Try.ntmps30
  go_wp2_with fail
  refine HC.out.mono ?_
  rintro e w1 ⟨a', c', rfl, ho, hg⟩
  have HO := Lib.hid ho
  have HG := Lib.hid hg
  clear ho hg
  go_wp2_with (refine wpList_boxed rfl rfl #[.slice a' n c', .bool true, .bool false] rfl ?_; intro w2 hs2 hg2 hr2; have HG2 := Lib.hid hg2; have HR2 := Lib.hid hr2; clear hs2 hg2 hr2)
  go_ret
  refine ⟨_, a', c', rfl, HG.out.size, ⟨HR2.out, (BOwn.lies HO.out).grown HG2.out, HL.out, HO.out.cap.1, HO.out.cap.2, fun h0 b off e => ?_⟩, grownBy_trans HG.out HG2.out, fun h0 b off e => ?_⟩
  all_goals
    obtain ⟨g, e', h1, h2⟩ := Own.block HO.out (by have := HO.out.cap.1; omega)
    rw [e'] at e
    injection e with e; injection e with e
    omega
/-- a reader while another is used -/
theorem Rdr.other {w w' : World} {g g2 : Nat} {f : Bool} {rem : List UInt8} {la : Option Addr} {lm lc : Nat} (h : Rdr w g f rem la lm lc) (hg : w.grownBy w' (some g2)) (hne : g ≠ g2) (hb : 0 < lm → ∀ b off, la = some ⟨b, off, none⟩ → b ≠ g2) : Rdr w' g f rem la lm lc :=
  ⟨h.row.ch (Ch.ofSome (S := fun x => x = g2) hg rfl) hne, by
    by_cases h0 : 0 < lm
    · exact BLies.ch h.lies (Ch.ofSome (S := fun x => x = g2) hg rfl) (fun b off e hh => hb h0 b off e hh)
    · have h3 := h.len
      intro i hi; omega, h.len, h.cap, h.big, h.apart⟩
end Go.Proofs.Ytkdmebcfedehiaa
/- octet's reader, by functions; lists of up to 2^47 bytes. Printed by gens/takea.py. -/
namespace Go.Proofs.Ytkdmebcfedehiaa
open Go.RowKit

set_option maxRecDepth 100000 in
set_option maxHeartbeats 400000 in
theorem cloneL_n (a : Option Addr) (c n : Nat) (l : List UInt8) (w : World) (ha : BLies w a l) (hl : l.length = n) (hn : n ≤ 140737488355328) :
    Calls Try.prog 28 #[.slice a n c] w fun e w' => ∃ a' c', e = .returned (.slice a' n c') ∧ BOwn w' w.heap.size a' n c' l ∧ w.grownBy w' none := by
  have qT : ∀ (w : World) (a : Option Addr) (n c n' c' : Nat), (binOp .eql 24 (.slice a n c) (.slice none n' c')).run Try.prog w = .ok (.bool a.isNone) w := fun w a n c n' c' => Lib.run_eql_slice_nil w _ _ a n c n' c' Try.underlying24
  by_cases h0 : n = 0
  · subst h0
    obtain rfl : l = [] := List.eq_nil_of_length_eq_zero hl
    clear ha hl
    cases a with
    | none =>
      go_enter Try.func28, Try.ntmps28
      go_wp2
      go_ret
      exact ⟨none, 0, rfl, Own.nil _ _ _ _ _, World.grownBy.refl _ _⟩
    | some ad =>
      go_enter Try.func28, Try.ntmps28
      go_wp2
      go_ret
      exact ⟨_, _, rfl, Own.nil _ _ _ _ _, World.grownBy_alloc _ _ _⟩
  · obtain ⟨b, off, rfl⟩ := ha.addr (by omega)
    have HA := Lib.hid ha
    have HL := Lib.hid hl
    have hsz := Nat.le_succ w.heap.size
    clear ha hl
    go_enter Try.func28, Try.ntmps28
    go_wp2_with (at_builtin; refine wpList_app elB rfl (.tmp 5) (.tmp 6) rfl rfl (Own.nil _ w.heap.size _ _ _) ⟨b, off, none⟩ n c (l.map bval) rfl (by rw [List.length_map, HL.out, Nat.mul_one]) (HA.out.grown (World.grownBy_alloc _ _ _)).news (bval_one l) (by unfold maxLen; omega) (by omega) (by simp) (by omega) ?_; intro g cap w1 hown1 hgr)
    go_ret
    simp only [Nat.zero_add, List.nil_append] at hown1
    exact ⟨_, _, by simp, hown1, hgr.grew.grown (Own.nil _ w.heap.size 5 1 _) (World.grownBy_alloc w _ none) (Nat.le_refl _)⟩

set_option maxRecDepth 100000 in
set_option maxHeartbeats 1000000 in
theorem newReaderL_n (a : Option Addr) (c n : Nat) (l : List UInt8) (w : World) (ha : BLies w a l) (hl : l.length = n) (hn : n ≤ 140737488355328) :
    Calls Try.prog 30 #[.slice a n c] w fun e w' => ∃ g la lc, e = .returned (.pointer (some ⟨g, 0, none⟩)) ∧ w.heap.size ≤ g ∧ Rdr w' g false l la n lc ∧ w.grownBy w' none ∧ (0 < n → ∀ b off, la = some ⟨b, off, none⟩ → w.heap.size ≤ b ∧ b < g) := by
  have HC := Lib.hid (cloneL_n a c n l w ha hl hn)
  have HL := Lib.hid hl
  clear ha hl
  go_enter Try.func30, Try.ntmps30
  go_wp2_with fail
  refine HC.out.mono ?_
  rintro e w1 ⟨a', c', rfl, ho, hg⟩
  have HO := Lib.hid ho
  have HG := Lib.hid hg
  clear ho hg
  go_wp2_with (refine wpList_boxed rfl rfl #[.slice a' n c', .bool true, .bool false] rfl ?_; intro w2 hs2 hg2 hr2; have HG2 := Lib.hid hg2; have HR2 := Lib.hid hr2; clear hs2 hg2 hr2)
  go_ret
  refine ⟨_, a', c', rfl, HG.out.size, ⟨HR2.out, (BOwn.lies HO.out).grown HG2.out, HL.out, HO.out.cap.1, HO.out.cap.2, fun h0 b off e => ?_⟩, grownBy_trans HG.out HG2.out, fun h0 b off e => ?_⟩
  all_goals
    obtain ⟨g, e', h1, h2⟩ := Own.block HO.out (by have := HO.out.cap.1; omega)
    rw [e'] at e
    injection e with e; injection e with e
    omega

set_option maxRecDepth 100000 in
set_option maxHeartbeats 1000000 in
theorem bytesL_n (g : Nat) (f : Bool) (rem : List UInt8) (la : Option Addr) (lm lc : Nat) (x : Int) (w : World) (h : Rdr w g f rem la lm lc) (hb : lm ≤ 140737488355000) :
    Calls Try.prog 31 #[.pointer (some ⟨g, 0, none⟩), .int .i64 x] w fun e w' => BytesP2 w g f rem la x e w' := by
  have HT := Lib.hid (take2_n g f rem la lm lc x w h)
  have HLN := Lib.hid h.len
  clear h
  go_enter Try.func31, Try.ntmps31
  go_wp2_with fail
  refine HT.out.mono ?_
  rintro e w1 ⟨a, n, c, ok, p, f', rem', la', lm', lc', rfl, hd, ht⟩
  have HD := Lib.hid hd
  have HK := Lib.hid ht
  have hs := ht.short
  have hl := ht.len
  have hln := HLN.out
  have hcl := cloneL_n a c n p w1 ht.lies ht.len (by omega)
  have HCL := Lib.hid hcl
  clear ht hs hl hln hcl hd
  go_wp2_with fail
  refine HCL.out.mono ?_
  rintro e w2 ⟨a2, c2, rfl, ho, hg⟩
  have HO := Lib.hid ho
  have HG := Lib.hid hg
  clear ho hg
  go_wp2_with fail
  go_ret
  exact ⟨a2, n, c2, ok, p, f', rem', la', lm', lc', rfl, HD.out, Own.mono HO.out HK.out.grown.size, HK.out.rdr.grown HG.out, grownBy_trans HK.out.grown (grownBy_some HG.out _), HK.out.src⟩

def okD (f : Bool) (rem : List UInt8) (x : Int) : Bool := !f && decide (0 ≤ x) && decide (x ≤ rem.length)
def pD (f : Bool) (rem : List UInt8) (x : Int) : List UInt8 := if okD f rem x = true then rem.take x.toNat else []
def fD (f : Bool) (rem : List UInt8) (x : Int) : Bool := !okD f rem x
def remD (f : Bool) (rem : List UInt8) (x : Int) : List UInt8 := if okD f rem x = true then rem.drop x.toNat else rem
def numD (f : Bool) (rem : List UInt8) (k : Nat) : Nat := if okD f rem k = true then smallL (pD f rem k) else 0
theorem Det.short {f : Bool} {rem : List UInt8} {k : Nat} {ok : Bool} {p : List UInt8} {f' : Bool} {rem' : List UInt8} (h : Det f rem (k : Int) ok p f' rem') : p.length = (if ok = true then k else 0) ∧ rem'.length ≤ rem.length := by
  rcases h with ⟨h0, _, _, h2, h3, _, h5⟩ | ⟨h0, _, h3, _, h5⟩
  · subst h0; subst h3; subst h5
    rw [if_pos rfl, List.length_take, List.length_drop]
    have : ((k : Int)).toNat = k := rfl
    omega
  · subst h0; subst h3; subst h5
    simp
theorem Rdr.ch {S : Nat → Prop} {w w' : World} {g : Nat} {f : Bool} {rem : List UInt8} {la : Option Addr} {lm lc : Nat} (h : Rdr w g f rem la lm lc) (hc : Ch S w w') (hne : ¬ S g) (hb : 0 < lm → ∀ b off, la = some ⟨b, off, none⟩ → ¬ S b) : Rdr w' g f rem la lm lc :=
  ⟨h.row.ch hc hne, by
    by_cases h0 : 0 < lm
    · exact BLies.ch h.lies hc (fun b off e => hb h0 b off e)
    · have h3 := h.len
      intro i hi; omega, h.len, h.cap, h.big, h.apart⟩
theorem det_eq {f : Bool} {rem : List UInt8} {x : Int} {ok : Bool} {p : List UInt8} {f' : Bool} {rem' : List UInt8} (h : Det f rem x ok p f' rem') : ok = okD f rem x ∧ p = pD f rem x ∧ f' = fD f rem x ∧ rem' = remD f rem x := by
  rcases h with ⟨h0, h1, h2, h3, h4, h5, h6⟩ | ⟨h0, h1, h2, h3, h4⟩
  · have e : okD f rem x = true := by simp [okD, h1, h2, h3]
    simp [pD, fD, remD, e, h0, h4, h5, h6]
  · have e : okD f rem x = false := by
      rcases h1 with h1 | h1 | h1
      · simp [okD, h1]
      · have : ¬ (0 ≤ x) := by omega
        simp [okD, this]
      · have : ¬ (x ≤ rem.length) := by omega
        simp [okD, this]
    simp [pD, fD, remD, e, h0, h2, h3, h4]
theorem okD_len {f : Bool} {rem : List UInt8} {k : Nat} (h : okD f rem k = true) : (pD f rem k).length = k := by
  unfold pD
  rw [if_pos h]
  simp only [okD, Bool.and_eq_true, decide_eq_true_eq] at h
  rw [List.length_take]
  have : ((k : Int)).toNat = k := rfl
  omega
theorem numD_lt (f : Bool) (rem : List UInt8) (k : Nat) : numD f rem k < 256 ^ k := by
  unfold numD
  split
  · next h => exact smallL_lt k _ (okD_len h)
  · exact Nat.pow_pos (by decide)
theorem pD_len (f : Bool) (rem : List UInt8) (x : Int) : (pD f rem x).length ≤ rem.length := by
  unfold pD
  split
  · rw [List.length_take]; omega
  · simp
theorem remD_len (f : Bool) (rem : List UInt8) (x : Int) : (remD f rem x).length ≤ rem.length := by
  unfold remD
  split
  · rw [List.length_drop]; omega
  · exact Nat.le_refl _
/-- octet's reader at g, its bytes in the block b -/
def RA (w : World) (g b : Nat) (f : Bool) (rem : List UInt8) : Prop := ∃ la lm lc, Rdr w g f rem la lm lc ∧ (0 < lm → ∀ x off, la = some ⟨x, off, none⟩ → x = b) ∧ lm ≤ 140737488355000
theorem RA.ch {S : Nat → Prop} {w w' : World} {g b : Nat} {f : Bool} {rem : List UInt8} (h : RA w g b f rem) (hc : Ch S w w') (hg : ¬ S g) (hb : ¬ S b) : RA w' g b f rem := by
  obtain ⟨la, lm, lc, h1, h2, h3⟩ := h
  exact ⟨la, lm, lc, h1.ch hc hg (fun h0 x off e => by rw [h2 h0 x off e]; exact hb), h2, h3⟩
theorem RA.lt {w : World} {g b : Nat} {f : Bool} {rem : List UInt8} (h : RA w g b f rem) : g < w.heap.size := by
  obtain ⟨la, lm, lc, h1, _⟩ := h; exact h1.row.lt
section
variable {w : World} {g b : Nat} {f : Bool} {rem : List UInt8}
theorem srcB {la la' : Option Addr} {lm lm' : Nat} (h1 : 0 < lm → ∀ x off, la = some ⟨x, off, none⟩ → x = b) (h2 : 0 < lm' → ∀ b off, la' = some ⟨b, off, none⟩ → ∃ o, la = some ⟨b, o, none⟩) (hle : lm' ≤ lm) : 0 < lm' → ∀ x off, la' = some ⟨x, off, none⟩ → x = b := fun h0 x off e => by
  obtain ⟨o, e2⟩ := h2 h0 x off e
  exact h1 (by omega) x o e2
theorem byteA (h : RA w g b f rem) : Calls Try.prog 68 #[.pointer (some ⟨g, 0, none⟩)] w fun e w' => e = .returned (.int .u8 (numD f rem 1 : Nat)) ∧ RA w' g b (fD f rem 1) (remD f rem 1) ∧ w.grownBy w' (some g) := by
  obtain ⟨la, lm, lc, h1, h2, h3⟩ := h
  refine (byte_n g f rem la lm lc w h1).mono ?_
  rintro e w' ⟨ok, p, f', rem', la', lm', lc', rfl, hd, hr, hg, hs⟩
  have hlr := (Det.short (k := 1) hd).2
  obtain ⟨rfl, rfl, rfl, rfl⟩ := det_eq hd
  have h5 := h1.len
  have h6 := hr.len
  exact ⟨rfl, ⟨la', lm', lc', hr, srcB h2 hs (by omega), by omega⟩, hg⟩
theorem wordA (h : RA w g b f rem) : Calls Try.prog 67 #[.pointer (some ⟨g, 0, none⟩)] w fun e w' => e = .returned (.int .u32 (numD f rem 4 : Nat)) ∧ RA w' g b (fD f rem 4) (remD f rem 4) ∧ w.grownBy w' (some g) := by
  obtain ⟨la, lm, lc, h1, h2, h3⟩ := h
  refine (word_n g f rem la lm lc w h1).mono ?_
  rintro e w' ⟨ok, p, f', rem', la', lm', lc', rfl, hd, hr, hg, hs⟩
  have hlr := (Det.short (k := 4) hd).2
  obtain ⟨rfl, rfl, rfl, rfl⟩ := det_eq hd
  have h5 := h1.len
  have h6 := hr.len
  exact ⟨rfl, ⟨la', lm', lc', hr, srcB h2 hs (by omega), by omega⟩, hg⟩
theorem longA (h : RA w g b f rem) : Calls Try.prog 69 #[.pointer (some ⟨g, 0, none⟩)] w fun e w' => e = .returned (.int .u64 (numD f rem 8 : Nat)) ∧ RA w' g b (fD f rem 8) (remD f rem 8) ∧ w.grownBy w' (some g) := by
  obtain ⟨la, lm, lc, h1, h2, h3⟩ := h
  refine (long_n g f rem la lm lc w h1).mono ?_
  rintro e w' ⟨ok, p, f', rem', la', lm', lc', rfl, hd, hr, hg, hs⟩
  have hlr := (Det.short (k := 8) hd).2
  obtain ⟨rfl, rfl, rfl, rfl⟩ := det_eq hd
  have h5 := h1.len
  have h6 := hr.len
  exact ⟨rfl, ⟨la', lm', lc', hr, srcB h2 hs (by omega), by omega⟩, hg⟩
theorem bytesA (x : Int) (h : RA w g b f rem) : Calls Try.prog 31 #[.pointer (some ⟨g, 0, none⟩), .int .i64 x] w fun e w' => ∃ a n c, e = .returned (.slice a n c) ∧ BOwn w' w.heap.size a n c (pD f rem x) ∧ RA w' g b (fD f rem x) (remD f rem x) ∧ w.grownBy w' (some g) := by
  obtain ⟨la, lm, lc, h1, h2, h3⟩ := h
  refine (bytesL_n g f rem la lm lc x w h1 h3).mono ?_
  rintro e w' ⟨a, n, c, ok, p, f', rem', la', lm', lc', rfl, hd, ho, hr, hg, hs⟩
  obtain ⟨rfl, rfl, rfl, rfl⟩ := det_eq hd
  have hlr := remD_len f rem x
  have h5 := h1.len
  have h6 := hr.len
  exact ⟨a, n, c, rfl, ho, ⟨la', lm', lc', hr, srcB h2 hs (by omega), by omega⟩, hg⟩
end
end Go.Proofs.Ytkdmebcfedehiaa
/- Plain Lean: requests as bytes, and back. -/
namespace Go.Proofs.Ytkdmebcfedehiaa
open Go.RowKit


/-- a request -/
structure Rq where
  kind : Nat
  ix : List UInt8
  number : Int
  pos : Int
  len : Int
  who : Nat
  till : Int
  bytes : List UInt8
def ix0 : List UInt8 := List.replicate 16 0
def noRq : Rq := ⟨0, ix0, 0, 0, 0, 0, 0, []⟩
/-- may a request be? -/
def MayQ (q : Rq) : Prop :=
  (q.kind = 1 ∧ q.number = 0 ∧ q.pos = 0 ∧ q.len = 0 ∧ q.who = 0 ∧ q.till = 0 ∧ q.bytes.length = 0) ∨
  (q.kind = 2 ∧ q.pos = 0 ∧ q.len = 0 ∧ 0 ≤ q.number ∧ q.number < 255 ∧ 0 ≤ q.till ∧ q.till ≤ 1099511627776 ∧ q.bytes.length ≤ 33554432) ∨
  (q.kind = 3 ∧ 0 ≤ q.number ∧ q.number < 255 ∧ 0 ≤ q.pos ∧ q.pos ≤ 33554432 ∧ 1 ≤ q.len ∧ q.len ≤ 131072 ∧ q.who = 0 ∧ q.till = 0 ∧ q.bytes.length = 0) ∨
  (q.kind = 4 ∧ q.number = 0 ∧ q.pos = 0 ∧ q.len = 0 ∧ 0 ≤ q.till ∧ q.till ≤ 1099511627776 ∧ q.bytes.length = 0) ∨
  (q.kind = 5 ∧ q.number = 0 ∧ q.pos = 0 ∧ q.len = 0 ∧ q.till = 0 ∧ q.bytes.length = 0)
instance (q : Rq) : Decidable (MayQ q) := by unfold MayQ; infer_instance
def encQ (q : Rq) : List UInt8 :=
  UInt8.ofNat q.kind :: (q.ix ++ (
    if q.kind = 2 then numB q.number :: (bigL 4 q.who ++ (bigL 8 q.till.toNat ++ (bigL 4 q.bytes.length ++ q.bytes)))
    else if q.kind = 3 then numB q.number :: (bigL 4 q.pos.toNat ++ bigL 4 q.len.toNat)
    else if q.kind = 4 then bigL 4 q.who ++ bigL 8 q.till.toNat
    else if q.kind = 5 then bigL 4 q.who else []))
/-- how many bytes a request of a kind has ahead of Bytes -/
def headQ (k : Nat) : Nat := if k = 1 then 17 else if k = 2 then 34 else if k = 3 then 26 else if k = 4 then 29 else if k = 5 then 21 else 0
def seg (b : List UInt8) (p n : Nat) : List UInt8 := (b.drop p).take n
def endQ (b : List UInt8) (hd n : Nat) (q : Rq) : Except Nat Rq := if b.length ≠ hd + n then .error (min b.length (hd + n)) else .ok { q with bytes := b.drop hd }
def decQ (b : List UInt8) : Except Nat Rq :=
  if b = [] ∨ headQ (b.getD 0 0).toNat = 0 then .error 0
  else if b.length < headQ (b.getD 0 0).toNat then .error b.length
  else if (b.getD 0 0).toNat = 1 then endQ b 17 0 ⟨1, seg b 1 16, 0, 0, 0, 0, 0, []⟩
  else if (b.getD 0 0).toNat = 2 then
    if b.getD 17 0 = 255 then .error 17
    else if 1099511627776 < getN b 22 8 then .error 22
    else if 33554432 < getN b 30 4 then .error 30
    else endQ b 34 (getN b 30 4) ⟨2, seg b 1 16, byN (b.getD 17 0), 0, 0, getN b 18 4, (getN b 22 8 : Nat), []⟩
  else if (b.getD 0 0).toNat = 3 then
    if b.getD 17 0 = 255 then .error 17
    else if 33554432 < getN b 18 4 then .error 18
    else if getN b 22 4 < 1 ∨ 131072 < getN b 22 4 then .error 22
    else endQ b 26 0 ⟨3, seg b 1 16, byN (b.getD 17 0), (getN b 18 4 : Nat), (getN b 22 4 : Nat), 0, 0, []⟩
  else if (b.getD 0 0).toNat = 4 then
    if 1099511627776 < getN b 21 8 then .error 21
    else endQ b 29 0 ⟨4, seg b 1 16, 0, 0, 0, getN b 17 4, (getN b 21 8 : Nat), []⟩
  else endQ b 21 0 ⟨5, seg b 1 16, 0, 0, 0, getN b 17 4, 0, []⟩

theorem seg_app {x y z : List UInt8} {p n : Nat} (hp : x.length = p) (hn : y.length = n) : seg (x ++ (y ++ z)) p n = y := by
  unfold seg
  rw [List.drop_append, hp, Nat.sub_self, List.drop_of_length_le (by omega), List.nil_append, List.drop_zero, List.take_append_of_le_length (by omega), List.take_of_length_le (by omega)]
theorem getN_seg (b : List UInt8) (p n : Nat) : getN b p n = smallL (seg b p n) := rfl
theorem seg_join {b : List UInt8} {p n q : Nat} (hq : q = p + n) : seg b p n ++ b.drop q = b.drop p := by
  unfold seg
  rw [hq, ← List.drop_drop, List.take_append_drop]
theorem seg_len {b : List UInt8} {p n : Nat} (h : p + n ≤ b.length) : (seg b p n).length = n := by
  unfold seg
  rw [List.length_take, List.length_drop]
  omega
theorem big_get {b : List UInt8} {p n : Nat} (h : p + n ≤ b.length) : bigL n (getN b p n) = seg b p n := by
  rw [getN_seg, big_small n _ (seg_len h)]
theorem getD_cons_drop {b : List UInt8} {p q : Nat} (hq : q = p + 1) (h : p < b.length) : b.getD p 0 :: b.drop q = b.drop p := by
  subst hq
  rw [List.drop_eq_getElem_cons h, List.getD_eq_getElem?_getD, List.getElem?_eq_getElem h]
  rfl
theorem getN_le {b : List UInt8} {p n : Nat} : getN b p n < 256 ^ n := by
  unfold getN
  have h := smallL_lt _ ((b.drop p).take n) rfl
  have h2 : 256 ^ ((b.drop p).take n).length ≤ 256 ^ n := Nat.pow_le_pow_right (by omega) (by rw [List.length_take]; omega)
  omega
theorem numB_255 {n : Int} (h : 0 ≤ n) (h2 : n < 255) : numB n ≠ 255 := by
  intro e
  have := congrArg UInt8.toNat e
  unfold numB at this
  rw [UInt8.toNat_ofNat'] at this
  have e3 : (255 : UInt8).toNat = 255 := rfl
  omega
theorem byN_255 {x : UInt8} (h : ¬ x = 255) : byN x < 255 := by
  unfold byN
  have h1 : x = 255 ↔ x.toNat = 255 := by rw [← UInt8.toNat_inj]; rfl
  have := x.toNat_lt
  have h2 : ¬ x.toNat = 255 := fun e => h (h1.2 e)
  omega
theorem head16 {ix : List UInt8} (h : ix.length = 16) (k : UInt8) (t : List UInt8) : (k :: (ix ++ t)).getD 0 0 = k ∧ seg (k :: (ix ++ t)) 1 16 = ix ∧ (∀ p, (k :: (ix ++ t)).drop (17 + p) = t.drop p) ∧ (k :: (ix ++ t)).length = 17 + t.length ∧ (∀ p, (k :: (ix ++ t)).getD (17 + p) 0 = t.getD p 0) := by
  refine ⟨rfl, ?_, fun p => ?_, by simp [h]; omega, fun p => ?_⟩
  · exact seg_app (x := [k]) (y := ix) (z := t) rfl h
  · rw [show 17 + p = (16 + p) + 1 by omega, List.drop_succ_cons, List.drop_append, List.drop_of_length_le (by omega), List.nil_append, h]
    congr 1
    omega
  · rw [show 17 + p = (16 + p) + 1 by omega, List.getD_cons_succ, List.getD_eq_getElem?_getD, List.getD_eq_getElem?_getD, List.getElem?_append_right (by omega), h]
    congr 2
    omega
theorem getN_tail {b t : List UInt8} (hd : ∀ p, b.drop (17 + p) = t.drop p) (p n : Nat) : getN b (17 + p) n = getN t p n := by
  unfold getN
  rw [hd]

theorem endQ_ok {b : List UInt8} {hd n : Nat} {q : Rq} (h : b.length = hd + n) : endQ b hd n q = .ok { q with bytes := b.drop hd } := by
  unfold endQ
  rw [if_neg (by omega)]
/-- requests come back from their bytes -/
theorem decQ_enc (q : Rq) (hix : q.ix.length = 16) (hw : q.who < 4294967296) (h : MayQ q) : decQ (encQ q) = .ok q := by
  obtain ⟨k, ix, nb, ps, ln, who, till, bs⟩ := q
  unfold MayQ at h
  simp only at h hix hw
  rcases h with ⟨rfl, rfl, rfl, rfl, rfl, rfl, hb⟩ | ⟨rfl, rfl, rfl, h1, h2, h3, h4, h5⟩ | ⟨rfl, h1, h2, h3, h4, h5, h6, rfl, rfl, hb⟩ | ⟨rfl, rfl, rfl, rfl, h3, h4, hb⟩ | ⟨rfl, rfl, rfl, rfl, rfl, hb⟩
  · have hb' := List.eq_nil_of_length_eq_zero hb
    subst hb'
    obtain ⟨e0, e1, e2, e3, e4⟩ := head16 hix 1 []
    show decQ (1 :: (ix ++ [])) = _
    have ek : (((1 : UInt8) :: (ix ++ [])).getD 0 0).toNat = 1 := rfl
    unfold decQ
    rw [ek, if_neg (by simp [headQ]), if_neg (by rw [e3]; simp [headQ]), if_pos rfl, endQ_ok (by rw [e3]; rfl), e1, e2 0]
    rfl
  · show decQ (2 :: (ix ++ (numB nb :: (bigL 4 who ++ (bigL 8 till.toNat ++ (bigL 4 bs.length ++ bs)))))) = _
    obtain ⟨t, ht⟩ : ∃ t, t = numB nb :: (bigL 4 who ++ (bigL 8 till.toNat ++ (bigL 4 bs.length ++ bs))) := ⟨_, rfl⟩
    rw [← ht]
    obtain ⟨e0, e1, e2, e3, e4⟩ := head16 hix 2 t
    have hl4 := bigL_length 4 who
    have hl8 := bigL_length 8 till.toNat
    have hl4' := bigL_length 4 bs.length
    have htl : t.length = 17 + bs.length := by rw [ht]; simp [hl4, hl8, hl4']; omega
    have ek : (((2 : UInt8) :: (ix ++ t)).getD 0 0).toNat = 2 := rfl
    have g17 : ((2 : UInt8) :: (ix ++ t)).getD 17 0 = numB nb := by rw [e4 0, ht]; rfl
    have g18 : getN ((2 : UInt8) :: (ix ++ t)) 18 4 = who := by
      rw [show 18 = 17 + 1 from rfl, getN_tail e2, getN_seg, ht, show ∀ z, numB nb :: (bigL 4 who ++ z) = [numB nb] ++ (bigL 4 who ++ z) from fun z => rfl, seg_app (show [numB nb].length = 1 from rfl) hl4, small_big]; omega
    have g22 : getN ((2 : UInt8) :: (ix ++ t)) 22 8 = till.toNat := by
      rw [show 22 = 17 + 5 from rfl, getN_tail e2, getN_seg, ht, show ∀ z, numB nb :: (bigL 4 who ++ (bigL 8 till.toNat ++ z)) = (numB nb :: bigL 4 who) ++ (bigL 8 till.toNat ++ z) from fun z => by simp, seg_app (by simp [hl4]) hl8, small_big]; omega
    have g30 : getN ((2 : UInt8) :: (ix ++ t)) 30 4 = bs.length := by
      rw [show 30 = 17 + 13 from rfl, getN_tail e2, getN_seg, ht, show ∀ z, numB nb :: (bigL 4 who ++ (bigL 8 till.toNat ++ (bigL 4 bs.length ++ z))) = (numB nb :: (bigL 4 who ++ bigL 8 till.toNat)) ++ (bigL 4 bs.length ++ z) from fun z => by simp, seg_app (by simp [hl4, hl8]) hl4', small_big]; omega
    have g34 : ((2 : UInt8) :: (ix ++ t)).drop 34 = bs := by
      rw [show 34 = 17 + 17 from rfl, e2, ht, show ∀ z, numB nb :: (bigL 4 who ++ (bigL 8 till.toNat ++ (bigL 4 bs.length ++ z))) = (numB nb :: (bigL 4 who ++ (bigL 8 till.toNat ++ bigL 4 bs.length))) ++ z from fun z => by simp, List.drop_append, List.drop_of_length_le (by simp [hl4, hl8, hl4']), List.nil_append]
      simp [hl4, hl8, hl4']
    unfold decQ
    rw [ek, if_neg (by simp [headQ]), if_neg (by rw [e3]; simp [headQ]; omega), if_neg (by decide), if_pos rfl, g17, if_neg (numB_255 h1 h2), g22, if_neg (by omega), g30, if_neg (by omega), endQ_ok (by rw [e3]; omega), e1, g18, byN_numB h1 (by omega), g34, Int.toNat_of_nonneg h3]
  · have hb' := List.eq_nil_of_length_eq_zero hb
    subst hb'
    show decQ (3 :: (ix ++ (numB nb :: (bigL 4 ps.toNat ++ bigL 4 ln.toNat)))) = _
    obtain ⟨t, ht⟩ : ∃ t, t = numB nb :: (bigL 4 ps.toNat ++ bigL 4 ln.toNat) := ⟨_, rfl⟩
    rw [← ht]
    obtain ⟨e0, e1, e2, e3, e4⟩ := head16 hix 3 t
    have hl4 := bigL_length 4 ps.toNat
    have hl4' := bigL_length 4 ln.toNat
    have htl : t.length = 9 := by rw [ht]; simp [hl4, hl4']
    have ek : (((3 : UInt8) :: (ix ++ t)).getD 0 0).toNat = 3 := rfl
    have g17 : ((3 : UInt8) :: (ix ++ t)).getD 17 0 = numB nb := by rw [e4 0, ht]; rfl
    have g18 : getN ((3 : UInt8) :: (ix ++ t)) 18 4 = ps.toNat := by
      rw [show 18 = 17 + 1 from rfl, getN_tail e2, getN_seg, ht, show ∀ z, numB nb :: (bigL 4 ps.toNat ++ z) = [numB nb] ++ (bigL 4 ps.toNat ++ z) from fun z => rfl, seg_app (show [numB nb].length = 1 from rfl) hl4, small_big]; omega
    have g22 : getN ((3 : UInt8) :: (ix ++ t)) 22 4 = ln.toNat := by
      rw [show 22 = 17 + 5 from rfl, getN_tail e2, getN_seg, ht, show numB nb :: (bigL 4 ps.toNat ++ bigL 4 ln.toNat) = (numB nb :: bigL 4 ps.toNat) ++ (bigL 4 ln.toNat ++ []) from by simp, seg_app (by simp [hl4]) hl4', small_big]; omega
    have g26 : ((3 : UInt8) :: (ix ++ t)).drop 26 = [] := List.drop_of_length_le (by omega)
    unfold decQ
    rw [ek, if_neg (by simp [headQ]), if_neg (by rw [e3]; simp [headQ]; omega), if_neg (by decide), if_neg (by decide), if_pos rfl, g17, if_neg (numB_255 h1 h2), g18, if_neg (by omega), g22, if_neg (by omega), endQ_ok (by rw [e3]; omega), e1, byN_numB h1 (by omega), g26, Int.toNat_of_nonneg h3, Int.toNat_of_nonneg (by omega)]
  · have hb' := List.eq_nil_of_length_eq_zero hb
    subst hb'
    show decQ (4 :: (ix ++ (bigL 4 who ++ bigL 8 till.toNat))) = _
    obtain ⟨t, ht⟩ : ∃ t, t = bigL 4 who ++ bigL 8 till.toNat := ⟨_, rfl⟩
    rw [← ht]
    obtain ⟨e0, e1, e2, e3, e4⟩ := head16 hix 4 t
    have hl4 := bigL_length 4 who
    have hl8 := bigL_length 8 till.toNat
    have htl : t.length = 12 := by rw [ht]; simp [hl4, hl8]
    have ek : (((4 : UInt8) :: (ix ++ t)).getD 0 0).toNat = 4 := rfl
    have g17 : getN ((4 : UInt8) :: (ix ++ t)) 17 4 = who := by
      rw [show 17 = 17 + 0 from rfl, getN_tail e2, getN_seg, ht, show bigL 4 who ++ bigL 8 till.toNat = [] ++ (bigL 4 who ++ bigL 8 till.toNat) from rfl, seg_app (show ([] : List UInt8).length = 0 from rfl) hl4, small_big]; omega
    have g21 : getN ((4 : UInt8) :: (ix ++ t)) 21 8 = till.toNat := by
      rw [show 21 = 17 + 4 from rfl, getN_tail e2, getN_seg, ht, show bigL 4 who ++ bigL 8 till.toNat = bigL 4 who ++ (bigL 8 till.toNat ++ []) from by simp, seg_app hl4 hl8, small_big]; omega
    have g29 : ((4 : UInt8) :: (ix ++ t)).drop 29 = [] := List.drop_of_length_le (by omega)
    unfold decQ
    rw [ek, if_neg (by simp [headQ]), if_neg (by rw [e3]; simp [headQ]; omega), if_neg (by decide), if_neg (by decide), if_neg (by decide), if_pos rfl, g21, if_neg (by omega), endQ_ok (by rw [e3]; omega), e1, g17, g29, Int.toNat_of_nonneg h3]
  · have hb' := List.eq_nil_of_length_eq_zero hb
    subst hb'
    show decQ (5 :: (ix ++ bigL 4 who)) = _
    obtain ⟨t, ht⟩ : ∃ t, t = bigL 4 who := ⟨_, rfl⟩
    rw [← ht]
    obtain ⟨e0, e1, e2, e3, e4⟩ := head16 hix 5 t
    have hl4 := bigL_length 4 who
    have htl : t.length = 4 := by rw [ht]; simp [hl4]
    have ek : (((5 : UInt8) :: (ix ++ t)).getD 0 0).toNat = 5 := rfl
    have g17 : getN ((5 : UInt8) :: (ix ++ t)) 17 4 = who := by
      rw [show 17 = 17 + 0 from rfl, getN_tail e2, getN_seg, ht, show bigL 4 who = [] ++ (bigL 4 who ++ []) from by simp, seg_app (show ([] : List UInt8).length = 0 from rfl) hl4, small_big]; omega
    have g21 : ((5 : UInt8) :: (ix ++ t)).drop 21 = [] := List.drop_of_length_le (by omega)
    unfold decQ
    rw [ek, if_neg (by simp [headQ]), if_neg (by rw [e3]; simp [headQ]; omega), if_neg (by decide), if_neg (by decide), if_neg (by decide), if_neg (by decide), endQ_ok (by rw [e3]; omega), e1, g17, g21]

theorem headQ_cases {k : Nat} (h : headQ k ≠ 0) : k = 1 ∨ k = 2 ∨ k = 3 ∨ k = 4 ∨ k = 5 := by
  unfold headQ at h
  repeat' split at h
  all_goals omega
theorem ix_drop {b : List UInt8} (h : 17 ≤ b.length) : b.getD 0 0 :: (seg b 1 16 ++ b.drop 17) = b := by
  rw [seg_join (show 17 = 1 + 16 from rfl), getD_cons_drop (show 1 = 0 + 1 from rfl) (by omega), List.drop_zero]
theorem endQ_inv {b : List UInt8} {hd n : Nat} {q r : Rq} (h : endQ b hd n q = .ok r) : b.length = hd + n ∧ r = { q with bytes := b.drop hd } := by
  unfold endQ at h
  by_cases hl : b.length ≠ hd + n
  · rw [if_pos hl] at h; cases h
  · rw [if_neg hl] at h
    injection h with h
    exact ⟨by omega, h.symm⟩
theorem byte_of {x : UInt8} {k : Nat} (h : x.toNat = k) : UInt8.ofNat k = x := by rw [← h, UInt8.ofNat_toNat]
/-- bytes that are taken are the request's -/
theorem encQ_dec (b : List UInt8) (q : Rq) (h : decQ b = .ok q) : MayQ q ∧ encQ q = b ∧ q.ix.length = 16 ∧ q.who < 4294967296 ∧ q.kind < 256 := by
  unfold decQ at h
  by_cases h0 : b = [] ∨ headQ (b.getD 0 0).toNat = 0
  · rw [if_pos h0] at h; cases h
  rw [if_neg h0] at h
  by_cases hs : b.length < headQ (b.getD 0 0).toNat
  · rw [if_pos hs] at h; cases h
  rw [if_neg hs] at h
  have hk := headQ_cases (fun e => h0 (.inr e))
  rcases hk with hk | hk | hk | hk | hk
  · rw [if_pos hk] at h
    have hd : headQ 1 = 17 := rfl
    rw [hk, hd] at hs
    obtain ⟨hl, rfl⟩ := endQ_inv h
    have hz : b.drop 17 = [] := List.drop_of_length_le (by omega)
    have hi := ix_drop (b := b) (by omega)
    refine ⟨.inl ⟨rfl, rfl, rfl, rfl, rfl, rfl, by show (b.drop 17).length = 0; rw [hz]; rfl⟩, ?_, seg_len (by omega), by show (0 : Nat) < 4294967296; omega, by show (1 : Nat) < 256; omega⟩
    show UInt8.ofNat 1 :: (seg b 1 16 ++ []) = b
    rw [byte_of hk, ← hz]
    exact hi
  · rw [if_neg (by omega), if_pos hk] at h
    have hd : headQ 2 = 34 := rfl
    rw [hk, hd] at hs
    by_cases h1 : b.getD 17 0 = 255
    · rw [if_pos h1] at h; cases h
    rw [if_neg h1] at h
    by_cases h2 : 1099511627776 < getN b 22 8
    · rw [if_pos h2] at h; cases h
    rw [if_neg h2] at h
    by_cases h3 : 33554432 < getN b 30 4
    · rw [if_pos h3] at h; cases h
    rw [if_neg h3] at h
    obtain ⟨hl, rfl⟩ := endQ_inv h
    have hi := ix_drop (b := b) (by omega)
    have hbl : (b.drop 34).length = getN b 30 4 := by rw [List.length_drop]; omega
    have hw := getN_le (b := b) (p := 18) (n := 4)
    refine ⟨.inr (.inl ⟨rfl, rfl, rfl, ?_, byN_255 h1, ?_, ?_, ?_⟩), ?_, seg_len (by omega), by show getN b 18 4 < _; omega, by show (2 : Nat) < 256; omega⟩
    · show 0 ≤ byN _; unfold byN; omega
    · show (0 : Int) ≤ (getN b 22 8 : Nat); omega
    · show ((getN b 22 8 : Nat) : Int) ≤ 1099511627776; omega
    · show (b.drop 34).length ≤ _; omega
    · show UInt8.ofNat 2 :: (seg b 1 16 ++ (numB (byN (b.getD 17 0)) :: (bigL 4 (getN b 18 4) ++ (bigL 8 (((getN b 22 8 : Nat) : Int).toNat) ++ (bigL 4 (b.drop 34).length ++ b.drop 34))))) = b
      rw [byte_of hk, numB_byN, Int.toNat_natCast, hbl, big_get (by omega), big_get (by omega), big_get (by omega), seg_join (show 34 = 30 + 4 from rfl), seg_join (show 30 = 22 + 8 from rfl), seg_join (show 22 = 18 + 4 from rfl), getD_cons_drop (show 18 = 17 + 1 from rfl) (by omega)]
      exact hi
  · rw [if_neg (by omega), if_neg (by omega), if_pos hk] at h
    have hd : headQ 3 = 26 := rfl
    rw [hk, hd] at hs
    by_cases h1 : b.getD 17 0 = 255
    · rw [if_pos h1] at h; cases h
    rw [if_neg h1] at h
    by_cases h2 : 33554432 < getN b 18 4
    · rw [if_pos h2] at h; cases h
    rw [if_neg h2] at h
    by_cases h3 : getN b 22 4 < 1 ∨ 131072 < getN b 22 4
    · rw [if_pos h3] at h; cases h
    rw [if_neg h3] at h
    obtain ⟨hl, rfl⟩ := endQ_inv h
    have hi := ix_drop (b := b) (by omega)
    have hz : b.drop 26 = [] := List.drop_of_length_le (by omega)
    refine ⟨.inr (.inr (.inl ⟨rfl, ?_, byN_255 h1, ?_, ?_, ?_, ?_, rfl, rfl, ?_⟩)), ?_, seg_len (by omega), by show (0 : Nat) < _; omega, by show (3 : Nat) < 256; omega⟩
    · show 0 ≤ byN _; unfold byN; omega
    · show (0 : Int) ≤ (getN b 18 4 : Nat); omega
    · show ((getN b 18 4 : Nat) : Int) ≤ _; omega
    · show (1 : Int) ≤ (getN b 22 4 : Nat); omega
    · show ((getN b 22 4 : Nat) : Int) ≤ _; omega
    · show (b.drop 26).length = 0; rw [hz]; rfl
    · show UInt8.ofNat 3 :: (seg b 1 16 ++ (numB (byN (b.getD 17 0)) :: (bigL 4 (((getN b 18 4 : Nat) : Int).toNat) ++ bigL 4 (((getN b 22 4 : Nat) : Int).toNat)))) = b
      rw [byte_of hk, numB_byN, Int.toNat_natCast, Int.toNat_natCast, big_get (by omega), big_get (by omega), ← List.append_nil (seg b 22 4), ← hz, seg_join (show 26 = 22 + 4 from rfl), seg_join (show 22 = 18 + 4 from rfl), getD_cons_drop (show 18 = 17 + 1 from rfl) (by omega)]
      exact hi
  · rw [if_neg (by omega), if_neg (by omega), if_neg (by omega), if_pos hk] at h
    have hd : headQ 4 = 29 := rfl
    rw [hk, hd] at hs
    by_cases h1 : 1099511627776 < getN b 21 8
    · rw [if_pos h1] at h; cases h
    rw [if_neg h1] at h
    obtain ⟨hl, rfl⟩ := endQ_inv h
    have hi := ix_drop (b := b) (by omega)
    have hz : b.drop 29 = [] := List.drop_of_length_le (by omega)
    have hw := getN_le (b := b) (p := 17) (n := 4)
    refine ⟨.inr (.inr (.inr (.inl ⟨rfl, rfl, rfl, rfl, ?_, ?_, ?_⟩))), ?_, seg_len (by omega), by show getN b 17 4 < _; omega, by show (4 : Nat) < 256; omega⟩
    · show (0 : Int) ≤ (getN b 21 8 : Nat); omega
    · show ((getN b 21 8 : Nat) : Int) ≤ _; omega
    · show (b.drop 29).length = 0; rw [hz]; rfl
    · show UInt8.ofNat 4 :: (seg b 1 16 ++ (bigL 4 (getN b 17 4) ++ bigL 8 (((getN b 21 8 : Nat) : Int).toNat))) = b
      rw [byte_of hk, Int.toNat_natCast, big_get (by omega), big_get (by omega), ← List.append_nil (seg b 21 8), ← hz, seg_join (show 29 = 21 + 8 from rfl), seg_join (show 21 = 17 + 4 from rfl)]
      exact hi
  · rw [if_neg (by omega), if_neg (by omega), if_neg (by omega), if_neg (by omega)] at h
    have hd : headQ 5 = 21 := rfl
    rw [hk, hd] at hs
    obtain ⟨hl, rfl⟩ := endQ_inv h
    have hi := ix_drop (b := b) (by omega)
    have hz : b.drop 21 = [] := List.drop_of_length_le (by omega)
    have hw := getN_le (b := b) (p := 17) (n := 4)
    refine ⟨.inr (.inr (.inr (.inr ⟨rfl, rfl, rfl, rfl, rfl, ?_⟩))), ?_, seg_len (by omega), by show getN b 17 4 < _; omega, by show (5 : Nat) < 256; omega⟩
    · show (b.drop 21).length = 0; rw [hz]; rfl
    · show UInt8.ofNat 5 :: (seg b 1 16 ++ bigL 4 (getN b 17 4)) = b
      rw [byte_of hk, big_get (by omega), ← List.append_nil (seg b 17 4), ← hz, seg_join (show 21 = 17 + 4 from rfl)]
      exact hi

theorem hq1 : headQ 1 = 17 := rfl
theorem hq2 : headQ 2 = 34 := rfl
theorem hq3 : headQ 3 = 26 := rfl
theorem hq4 : headQ 4 = 29 := rfl
theorem hq5 : headQ 5 = 21 := rfl
/-- how many bytes a request has -/
def totQ (b : List UInt8) : Nat := if (b.getD 0 0).toNat = 2 then 34 + getN b 30 4 else headQ (b.getD 0 0).toNat
theorem decQ_place (b : List UInt8) (n : Nat) (h : decQ b = .error n) : n ≤ b.length := by
  unfold decQ at h
  by_cases h0 : b = [] ∨ headQ (b.getD 0 0).toNat = 0
  · rw [if_pos h0] at h; injection h with h; omega
  rw [if_neg h0] at h
  by_cases hs : b.length < headQ (b.getD 0 0).toNat
  · rw [if_pos hs] at h; injection h with h; omega
  rw [if_neg hs] at h
  have hend : ∀ hd m q, endQ b hd m q = .error n → n ≤ b.length := fun hd m q h => by
    unfold endQ at h
    split at h
    · injection h with h; omega
    · cases h
  have hk := headQ_cases (fun e => h0 (.inr e))
  rcases hk with hk | hk | hk | hk | hk <;> rw [hk] at h hs <;> simp only [hq1, hq2, hq3, hq4, hq5] at hs
  all_goals
    repeat' split at h
    all_goals first
      | exact hend _ _ _ h
      | (injection h with h; omega)
      | omega
theorem decQ_tot {b : List UInt8} {q : Rq} (h : decQ b = .ok q) : b.length = totQ b ∧ headQ (b.getD 0 0).toNat ≠ 0 ∧ headQ (b.getD 0 0).toNat ≤ b.length := by
  unfold decQ at h
  by_cases h0 : b = [] ∨ headQ (b.getD 0 0).toNat = 0
  · rw [if_pos h0] at h; cases h
  rw [if_neg h0] at h
  by_cases hs : b.length < headQ (b.getD 0 0).toNat
  · rw [if_pos hs] at h; cases h
  rw [if_neg hs] at h
  refine ⟨?_, fun e => h0 (.inr e), by omega⟩
  have hk := headQ_cases (fun e => h0 (.inr e))
  unfold totQ
  rcases hk with hk | hk | hk | hk | hk <;> rw [hk] at h ⊢ <;> simp only [hq1, hq2, hq3, hq4, hq5]
  all_goals
    repeat' split at h
    all_goals first
      | (cases h; done)
      | (have := (endQ_inv h).1; simp; omega)
      | omega
theorem headQ_lt (k : Nat) : headQ k ≠ 0 → 17 ≤ headQ k ∧ headQ k ≤ 34 := by
  intro h
  rcases headQ_cases h with rfl | rfl | rfl | rfl | rfl <;> decide
/-- no beginning of a request is one -/
theorem decQ_short {b : List UInt8} {q : Rq} (h : decQ b = .ok q) {k : Nat} (hk : k < b.length) : ∃ n, decQ (b.take k) = .error n := by
  obtain ⟨h1, h2, h3⟩ := decQ_tot h
  cases hd : decQ (b.take k) with
  | error n => exact ⟨n, rfl⟩
  | ok r' =>
    obtain ⟨k1, k2, k3⟩ := decQ_tot hd
    have hl : (b.take k).length = k := by rw [List.length_take]; omega
    rw [hl] at k1 k3
    have hk0 : 0 < k := by have := (headQ_lt _ k2).1; omega
    rw [getD_take hk0] at k2 k3
    unfold totQ at h1 k1
    rw [getD_take hk0] at k1
    by_cases e2 : (b.getD 0 0).toNat = 2
    · rw [if_pos e2] at h1 k1
      have hd2 : headQ 2 = 34 := rfl
      rw [e2, hd2] at k3
      rw [getN_take (by omega)] at k1
      omega
    · rw [if_neg e2] at h1 k1
      omega
theorem endQ_long {b : List UInt8} {m : UInt8} {hd n : Nat} {q : Rq} (h : b.length = hd + n) : endQ (b ++ [m]) hd n q = .error b.length := by
  unfold endQ
  rw [if_pos (by simp; omega)]
  congr 1
  simp
  omega
/-- nothing longer is one -/
theorem decQ_long {b : List UInt8} {q : Rq} (h : decQ b = .ok q) (m : UInt8) : decQ (b ++ [m]) = .error b.length := by
  have ht := decQ_tot h
  obtain ⟨h1, h2, h3⟩ := ht
  have hd17 := headQ_lt _ h2
  have hl : (b ++ [m]).length = b.length + 1 := by simp
  unfold decQ at h ⊢
  rw [getD_snoc (show 0 < b.length by omega)]
  have hne : ¬ (b = [] ∨ headQ (b.getD 0 0).toNat = 0) := fun h => by
    rcases h with h | h
    · have : b.length = 0 := by rw [h]; rfl
      omega
    · exact h2 h
  rw [if_neg hne, if_neg (by omega)] at h
  rw [if_neg (fun h => by rcases h with h | h; exact absurd h (by simp); exact h2 h), if_neg (by omega)]
  have hk := headQ_cases h2
  rcases hk with hk | hk | hk | hk | hk <;> rw [hk] at h hd17 h3 ⊢ <;> simp only [hq1, hq2, hq3, hq4, hq5] at hd17 h3
  · rw [if_pos rfl] at h ⊢
    exact endQ_long (endQ_inv h).1
  · rw [if_neg (by decide), if_pos rfl] at h ⊢
    rw [getD_snoc (show 17 < b.length by omega), getN_snoc (by omega), getN_snoc (by omega)]
    split at h
    · cases h
    rename_i c1
    rw [if_neg c1]
    split at h
    · cases h
    rename_i c2
    rw [if_neg c2]
    split at h
    · cases h
    rename_i c3
    rw [if_neg c3]
    exact endQ_long (endQ_inv h).1
  · rw [if_neg (by decide), if_neg (by decide), if_pos rfl] at h ⊢
    rw [getD_snoc (show 17 < b.length by omega), getN_snoc (by omega), getN_snoc (by omega)]
    split at h
    · cases h
    rename_i c1
    rw [if_neg c1]
    split at h
    · cases h
    rename_i c2
    rw [if_neg c2]
    split at h
    · cases h
    rename_i c3
    rw [if_neg c3]
    exact endQ_long (endQ_inv h).1
  · rw [if_neg (by decide), if_neg (by decide), if_neg (by decide), if_pos rfl] at h ⊢
    rw [getN_snoc (show 21 + 8 ≤ b.length by omega)]
    split at h
    · cases h
    rename_i c1
    rw [if_neg c1]
    exact endQ_long (endQ_inv h).1
  · rw [if_neg (by decide), if_neg (by decide), if_neg (by decide), if_neg (by decide)] at h ⊢
    exact endQ_long (endQ_inv h).1
end Go.Proofs.Ytkdmebcfedehiaa
/- wire.taker: what a request's fields are taken into; its methods. Printed by gens/taker.py. -/
namespace Go.Proofs.Ytkdmebcfedehiaa
open Go.RowKit

/-- a request's cells, and what the taker has besides -/
def tkC (q : Rq) (s : Value) (rest : Int) : Array Value := (.int .u8 (q.kind : Int) :: (q.ix.map bval ++ [.int .i64 q.number, .int .i64 q.pos, .int .i64 q.len, .int .u32 (q.who : Int), .int .i64 q.till, s, .int .i64 rest])).toArray
theorem tk_get (q : Rq) (s : Value) (rest : Int) (h : q.ix.length = 16) (j : Nat) : (tkC q s rest)[17 + j]? = ([.int .i64 q.number, .int .i64 q.pos, .int .i64 q.len, .int .u32 (q.who : Int), .int .i64 q.till, s, .int .i64 rest] : List Value)[j]? := by
  unfold tkC
  rw [List.getElem?_toArray, show 17 + j = (16 + j) + 1 by omega, List.getElem?_cons_succ, List.getElem?_append_right (by simp [h])]
  congr 1
  simp [h]
theorem tk_set (q : Rq) (s : Value) (rest : Int) (h : q.ix.length = 16) (j : Nat) (v : Value) : (tkC q s rest).setIfInBounds (17 + j) v = (.int .u8 (q.kind : Int) :: (q.ix.map bval ++ ([.int .i64 q.number, .int .i64 q.pos, .int .i64 q.len, .int .u32 (q.who : Int), .int .i64 q.till, s, .int .i64 rest] : List Value).set j v)).toArray := by
  unfold tkC
  rw [List.setIfInBounds_toArray, show 17 + j = (16 + j) + 1 by omega, List.set_cons_succ, List.set_append_right _ _ (by simp [h])]
  congr 3
  simp [h]
theorem tk_cell {w : World} {g : Nat} {q : Rq} {s : Value} {rest : Int} (h : Row w g 75 (tkC q s rest)) (hx : q.ix.length = 16) (j : Nat) : w.cell? ⟨g, 17 + j, none⟩ = ([.int .i64 q.number, .int .i64 q.pos, .int .i64 q.len, .int .u32 (q.who : Int), .int .i64 q.till, s, .int .i64 rest] : List Value)[j]? := by
  rw [Row.cell h, tk_get q s rest hx]

/-- fields of a request -/
inductive Fd where
  | num | who | til | rst | at_ | len
def Fd.size : Fd → Nat
  | .num => 1
  | .til => 8
  | _ => 4
def Fd.fid : Fd → FuncId
  | .num => 51
  | .who => 50
  | .til => 52
  | .rst => 53
  | .at_ => 54
  | .len => 55
/-- what is laid down -/
def Fd.put : Fd → Rq × Nat → Nat → Rq × Nat
  | .num, (q, r), x => ({ q with number := x }, r)
  | .who, (q, r), x => ({ q with who := x }, r)
  | .til, (q, r), x => ({ q with till := (min x 1099511627777 : Nat) }, r)
  | .rst, (q, _), x => (q, x)
  | .at_, (q, r), x => ({ q with pos := x }, r)
  | .len, (q, r), x => ({ q with len := x }, r)
def Fd.ok : Fd → Nat → Bool
  | .num, x => decide (x < 255)
  | .who, _ => true
  | .til, x => decide (x ≤ 1099511627776)
  | .rst, x => decide (x ≤ 33554432)
  | .at_, x => decide (x ≤ 33554432)
  | .len, x => decide (1 ≤ x) && decide (x ≤ 131072)
theorem Fd.put_ix (f : Fd) (s : Rq × Nat) (x : Nat) : (f.put s x).1.ix = s.1.ix := by
  obtain ⟨q, r⟩ := s
  cases f <;> rfl
theorem okD_yes {rem : List UInt8} {k : Nat} (h : k ≤ rem.length) : okD false rem (k : Int) = true := by
  unfold okD
  rw [decide_eq_true (by omega), decide_eq_true (by omega)]
  rfl
theorem numD_yes {rem : List UInt8} {k : Nat} (h : k ≤ rem.length) : numD false rem k = smallL (rem.take k) ∧ fD false rem (k : Int) = false ∧ remD false rem (k : Int) = rem.drop k := by
  have e := okD_yes h
  unfold numD fD remD pD
  rw [e]
  exact ⟨rfl, rfl, rfl⟩
theorem byteT {w : World} {g b : Nat} {rem : List UInt8} (h : RA w g b false rem) (hs : 1 ≤ rem.length) : Calls Try.prog 68 #[.pointer (some ⟨g, 0, none⟩)] w fun e w' => e = .returned (.int .u8 (smallL (rem.take 1) : Nat)) ∧ RA w' g b false (rem.drop 1) ∧ w.grownBy w' (some g) := by
  obtain ⟨h1, h2, h3⟩ := numD_yes hs
  have := byteA h
  rw [h1, show (1 : Int) = ((1 : Nat) : Int) from rfl, h2, h3] at this
  exact this
theorem wordT {w : World} {g b : Nat} {rem : List UInt8} (h : RA w g b false rem) (hs : 4 ≤ rem.length) : Calls Try.prog 67 #[.pointer (some ⟨g, 0, none⟩)] w fun e w' => e = .returned (.int .u32 (smallL (rem.take 4) : Nat)) ∧ RA w' g b false (rem.drop 4) ∧ w.grownBy w' (some g) := by
  obtain ⟨h1, h2, h3⟩ := numD_yes hs
  have := wordA h
  rw [h1, show (4 : Int) = ((4 : Nat) : Int) from rfl, h2, h3] at this
  exact this
theorem longT {w : World} {g b : Nat} {rem : List UInt8} (h : RA w g b false rem) (hs : 8 ≤ rem.length) : Calls Try.prog 69 #[.pointer (some ⟨g, 0, none⟩)] w fun e w' => e = .returned (.int .u64 (smallL (rem.take 8) : Nat)) ∧ RA w' g b false (rem.drop 8) ∧ w.grownBy w' (some g) := by
  obtain ⟨h1, h2, h3⟩ := numD_yes hs
  have := longA h
  rw [h1, show (8 : Int) = ((8 : Nat) : Int) from rfl, h2, h3] at this
  exact this

/-- what a field's method does -/
def TakeP (f : Fd) (q : Rq) (r : Nat) (s : Value) (gT gR bR : Nat) (rem : List UInt8) (w : World) (e : Ending) (w' : World) : Prop :=
  e = .returned (.bool (f.ok (smallL (rem.take f.size)))) ∧ Row w' gT 75 (tkC (f.put (q, r) (smallL (rem.take f.size))).1 s ((f.put (q, r) (smallL (rem.take f.size))).2 : Nat)) ∧ RA w' gR bR false (rem.drop f.size) ∧ Ch (fun x => x = gT ∨ x = gR) w w'
set_option maxRecDepth 100000 in
set_option maxHeartbeats 4000000 in
theorem number_t (q : Rq) (r : Nat) (s : Value) (gT gR bR : Nat) (rem : List UInt8) (w : World) (hx : q.ix.length = 16) (hT : Row w gT 75 (tkC q s (r : Nat))) (hR : RA w gR bR false rem) (hne : gT ≠ gR ∧ gT ≠ bR) (hs : 1 ≤ rem.length) :
    Calls Try.prog 51 #[.pointer (some ⟨gT, 0, none⟩), .pointer (some ⟨gR, 0, none⟩)] w (TakeP .num q r s gT gR bR rem w) := by
  have HRD := Lib.hid (byteT hR hs)
  have HT := Lib.hid hT
  have HX := Lib.hid hx
  have HNE := Lib.hid hne
  have hXl : smallL (rem.take 1) < 256 := smallL_lt 1 _ (by rw [List.length_take]; omega)
  obtain ⟨X, hX⟩ : ∃ X, X = smallL (rem.take 1) := ⟨_, rfl⟩
  rw [← hX] at HRD hXl
  have hw : IntKind.i64.wrap (X : Int) = (X : Int) := IntWalk.i64_in _ (by omega)
  have HXX := Lib.hid hX
  skip
  clear hX hT hR hx hne hs
  go_enter Try.func51, Try.ntmps51
  go_wp2_with fail
  refine HRD.out.mono ?_
  rintro e w1 ⟨rfl, hr1, g⟩
  have HR1 := Lib.hid hr1
  have HT1 := Lib.hid (HT.out.grownNe g HNE.out.1)
  have HC1 := Lib.hid (Ch.ofSome (S := fun x => x = gT ∨ x = gR) g (.inr rfl))
  have c1 := tk_cell HT1.out HX.out 0
  have f1 := Row.frozen HT1.out 17
  simp at c1
  clear hr1 g
  go_upto_region 2 with fail
  obtain ⟨w2, h2⟩ : ∃ w2, w2 = w1.setCell ⟨gT, 17, none⟩ (.int .i64 (X : Int)) := ⟨_, rfl⟩
  rw [← h2]
  have g2 : w1.grownBy w2 (some gT) := h2 ▸ grownBy_setCell _ _ _ _
  have hr2 : Row w2 gT 75 (tkC { q with number := X } s (r : Nat)) := by
    have h := Row.setc HT1.out 17 (.int .i64 (X : Int))
    rw [show 17 = 17 + 0 from rfl, tk_set _ _ _ HX.out] at h
    rw [h2]
    exact h
  have HT2 := Lib.hid hr2
  have HC2 := Lib.hid (HC1.out.trans (Ch.ofSome (S := fun x => x = gT) g2 rfl) (fun _ _ h => .inl h))
  have HR2 := Lib.hid (HR1.out.ch (Ch.ofSome (S := fun x => x = gT) g2 rfl) (fun h => HNE.out.1 h.symm) (fun h => HNE.out.2 h.symm))
  clear h2 g2 hr2 c1 f1
  have c2 := tk_cell HT2.out HX.out 0
  simp at c2
  go_wp2_with fail
  refine (number_n (X : Int) _).mono ?_
  rintro e w' ⟨rfl, rfl⟩
  go_wp2_with fail
  go_ret
  exact ⟨by unfold Fd.size Fd.ok; rw [← HXX.out]; exact ret_bool (a := decide ((X : Int) < 255)) (decide_eq_decide.2 ⟨fun h => by omega, fun h => by omega⟩), by unfold Fd.size Fd.put; rw [← HXX.out]; exact HT2.out, HR2.out, HC2.out⟩
set_option maxRecDepth 100000 in
set_option maxHeartbeats 4000000 in
theorem who_t (q : Rq) (r : Nat) (s : Value) (gT gR bR : Nat) (rem : List UInt8) (w : World) (hx : q.ix.length = 16) (hT : Row w gT 75 (tkC q s (r : Nat))) (hR : RA w gR bR false rem) (hne : gT ≠ gR ∧ gT ≠ bR) (hs : 4 ≤ rem.length) :
    Calls Try.prog 50 #[.pointer (some ⟨gT, 0, none⟩), .pointer (some ⟨gR, 0, none⟩)] w (TakeP .who q r s gT gR bR rem w) := by
  have HRD := Lib.hid (wordT hR hs)
  have HT := Lib.hid hT
  have HX := Lib.hid hx
  have HNE := Lib.hid hne
  have hXl : smallL (rem.take 4) < 4294967296 := smallL_lt 4 _ (by rw [List.length_take]; omega)
  obtain ⟨X, hX⟩ : ∃ X, X = smallL (rem.take 4) := ⟨_, rfl⟩
  rw [← hX] at HRD hXl
  have HXX := Lib.hid hX
  skip
  clear hX hT hR hx hne hs
  go_enter Try.func50, Try.ntmps50
  go_wp2_with fail
  refine HRD.out.mono ?_
  rintro e w1 ⟨rfl, hr1, g⟩
  have HR1 := Lib.hid hr1
  have HT1 := Lib.hid (HT.out.grownNe g HNE.out.1)
  have HC1 := Lib.hid (Ch.ofSome (S := fun x => x = gT ∨ x = gR) g (.inr rfl))
  have c1 := tk_cell HT1.out HX.out 3
  have f1 := Row.frozen HT1.out 20
  simp at c1
  clear hr1 g
  go_upto_region 2 with fail
  obtain ⟨w2, h2⟩ : ∃ w2, w2 = w1.setCell ⟨gT, 20, none⟩ (.int .u32 (X : Int)) := ⟨_, rfl⟩
  rw [← h2]
  have g2 : w1.grownBy w2 (some gT) := h2 ▸ grownBy_setCell _ _ _ _
  have hr2 : Row w2 gT 75 (tkC { q with who := X } s (r : Nat)) := by
    have h := Row.setc HT1.out 20 (.int .u32 (X : Int))
    rw [show 20 = 17 + 3 from rfl, tk_set _ _ _ HX.out] at h
    rw [h2]
    exact h
  have HT2 := Lib.hid hr2
  have HC2 := Lib.hid (HC1.out.trans (Ch.ofSome (S := fun x => x = gT) g2 rfl) (fun _ _ h => .inl h))
  have HR2 := Lib.hid (HR1.out.ch (Ch.ofSome (S := fun x => x = gT) g2 rfl) (fun h => HNE.out.1 h.symm) (fun h => HNE.out.2 h.symm))
  clear h2 g2 hr2 c1 f1
  go_wp2_with fail
  go_ret
  exact ⟨by unfold Fd.size Fd.ok; rw [← HXX.out]; exact rfl, by unfold Fd.size Fd.put; rw [← HXX.out]; exact HT2.out, HR2.out, HC2.out⟩
set_option maxRecDepth 100000 in
set_option maxHeartbeats 4000000 in
theorem bytes_t (q : Rq) (r : Nat) (s : Value) (gT gR bR : Nat) (rem : List UInt8) (w : World) (hx : q.ix.length = 16) (hT : Row w gT 75 (tkC q s (r : Nat))) (hR : RA w gR bR false rem) (hne : gT ≠ gR ∧ gT ≠ bR) (hs : 4 ≤ rem.length) :
    Calls Try.prog 53 #[.pointer (some ⟨gT, 0, none⟩), .pointer (some ⟨gR, 0, none⟩)] w (TakeP .rst q r s gT gR bR rem w) := by
  have HRD := Lib.hid (wordT hR hs)
  have HT := Lib.hid hT
  have HX := Lib.hid hx
  have HNE := Lib.hid hne
  have hXl : smallL (rem.take 4) < 4294967296 := smallL_lt 4 _ (by rw [List.length_take]; omega)
  obtain ⟨X, hX⟩ : ∃ X, X = smallL (rem.take 4) := ⟨_, rfl⟩
  rw [← hX] at HRD hXl
  have hw : IntKind.i64.wrap (X : Int) = (X : Int) := IntWalk.i64_in _ (by omega)
  have HXX := Lib.hid hX
  skip
  clear hX hT hR hx hne hs
  go_enter Try.func53, Try.ntmps53
  go_wp2_with fail
  refine HRD.out.mono ?_
  rintro e w1 ⟨rfl, hr1, g⟩
  have HR1 := Lib.hid hr1
  have HT1 := Lib.hid (HT.out.grownNe g HNE.out.1)
  have HC1 := Lib.hid (Ch.ofSome (S := fun x => x = gT ∨ x = gR) g (.inr rfl))
  have c1 := tk_cell HT1.out HX.out 6
  have f1 := Row.frozen HT1.out 23
  simp at c1
  clear hr1 g
  go_upto_region 2 with fail
  obtain ⟨w2, h2⟩ : ∃ w2, w2 = w1.setCell ⟨gT, 23, none⟩ (.int .i64 (X : Int)) := ⟨_, rfl⟩
  rw [← h2]
  have g2 : w1.grownBy w2 (some gT) := h2 ▸ grownBy_setCell _ _ _ _
  have hr2 : Row w2 gT 75 (tkC q s (X : Nat)) := by
    have h := Row.setc HT1.out 23 (.int .i64 (X : Int))
    rw [show 23 = 17 + 6 from rfl, tk_set _ _ _ HX.out] at h
    rw [h2]
    exact h
  have HT2 := Lib.hid hr2
  have HC2 := Lib.hid (HC1.out.trans (Ch.ofSome (S := fun x => x = gT) g2 rfl) (fun _ _ h => .inl h))
  have HR2 := Lib.hid (HR1.out.ch (Ch.ofSome (S := fun x => x = gT) g2 rfl) (fun h => HNE.out.1 h.symm) (fun h => HNE.out.2 h.symm))
  clear h2 g2 hr2 c1 f1
  have c2 := tk_cell HT2.out HX.out 6
  simp at c2
  by_cases hle : X ≤ 33554432
  · have hd : decide ((X : Int) ≤ 33554432) = true := decide_eq_true (by omega)
    have hd2 : decide (X ≤ 33554432) = true := decide_eq_true hle
    go_wp2_with fail
    go_ret
    exact ⟨by unfold Fd.size Fd.ok; rw [← HXX.out]; exact ret_bool hd2.symm, by unfold Fd.size Fd.put; rw [← HXX.out]; exact HT2.out, HR2.out, HC2.out⟩
  · have hd : decide ((X : Int) ≤ 33554432) = false := decide_eq_false (by omega)
    have hd2 : decide (X ≤ 33554432) = false := decide_eq_false hle
    go_wp2_with fail
    go_ret
    exact ⟨by unfold Fd.size Fd.ok; rw [← HXX.out]; exact ret_bool hd2.symm, by unfold Fd.size Fd.put; rw [← HXX.out]; exact HT2.out, HR2.out, HC2.out⟩
set_option maxRecDepth 100000 in
set_option maxHeartbeats 4000000 in
theorem at_t (q : Rq) (r : Nat) (s : Value) (gT gR bR : Nat) (rem : List UInt8) (w : World) (hx : q.ix.length = 16) (hT : Row w gT 75 (tkC q s (r : Nat))) (hR : RA w gR bR false rem) (hne : gT ≠ gR ∧ gT ≠ bR) (hs : 4 ≤ rem.length) :
    Calls Try.prog 54 #[.pointer (some ⟨gT, 0, none⟩), .pointer (some ⟨gR, 0, none⟩)] w (TakeP .at_ q r s gT gR bR rem w) := by
  have HRD := Lib.hid (wordT hR hs)
  have HT := Lib.hid hT
  have HX := Lib.hid hx
  have HNE := Lib.hid hne
  have hXl : smallL (rem.take 4) < 4294967296 := smallL_lt 4 _ (by rw [List.length_take]; omega)
  obtain ⟨X, hX⟩ : ∃ X, X = smallL (rem.take 4) := ⟨_, rfl⟩
  rw [← hX] at HRD hXl
  have hw : IntKind.i64.wrap (X : Int) = (X : Int) := IntWalk.i64_in _ (by omega)
  have HXX := Lib.hid hX
  skip
  clear hX hT hR hx hne hs
  go_enter Try.func54, Try.ntmps54
  go_wp2_with fail
  refine HRD.out.mono ?_
  rintro e w1 ⟨rfl, hr1, g⟩
  have HR1 := Lib.hid hr1
  have HT1 := Lib.hid (HT.out.grownNe g HNE.out.1)
  have HC1 := Lib.hid (Ch.ofSome (S := fun x => x = gT ∨ x = gR) g (.inr rfl))
  have c1 := tk_cell HT1.out HX.out 1
  have f1 := Row.frozen HT1.out 18
  simp at c1
  clear hr1 g
  go_upto_region 2 with fail
  obtain ⟨w2, h2⟩ : ∃ w2, w2 = w1.setCell ⟨gT, 18, none⟩ (.int .i64 (X : Int)) := ⟨_, rfl⟩
  rw [← h2]
  have g2 : w1.grownBy w2 (some gT) := h2 ▸ grownBy_setCell _ _ _ _
  have hr2 : Row w2 gT 75 (tkC { q with pos := X } s (r : Nat)) := by
    have h := Row.setc HT1.out 18 (.int .i64 (X : Int))
    rw [show 18 = 17 + 1 from rfl, tk_set _ _ _ HX.out] at h
    rw [h2]
    exact h
  have HT2 := Lib.hid hr2
  have HC2 := Lib.hid (HC1.out.trans (Ch.ofSome (S := fun x => x = gT) g2 rfl) (fun _ _ h => .inl h))
  have HR2 := Lib.hid (HR1.out.ch (Ch.ofSome (S := fun x => x = gT) g2 rfl) (fun h => HNE.out.1 h.symm) (fun h => HNE.out.2 h.symm))
  clear h2 g2 hr2 c1 f1
  have c2 := tk_cell HT2.out HX.out 1
  simp at c2
  by_cases hle : X ≤ 33554432
  · have hd : decide ((X : Int) ≤ 33554432) = true := decide_eq_true (by omega)
    have hd2 : decide (X ≤ 33554432) = true := decide_eq_true hle
    go_wp2_with fail
    go_ret
    exact ⟨by unfold Fd.size Fd.ok; rw [← HXX.out]; exact ret_bool hd2.symm, by unfold Fd.size Fd.put; rw [← HXX.out]; exact HT2.out, HR2.out, HC2.out⟩
  · have hd : decide ((X : Int) ≤ 33554432) = false := decide_eq_false (by omega)
    have hd2 : decide (X ≤ 33554432) = false := decide_eq_false hle
    go_wp2_with fail
    go_ret
    exact ⟨by unfold Fd.size Fd.ok; rw [← HXX.out]; exact ret_bool hd2.symm, by unfold Fd.size Fd.put; rw [← HXX.out]; exact HT2.out, HR2.out, HC2.out⟩
set_option maxRecDepth 100000 in
set_option maxHeartbeats 4000000 in
theorem len_t (q : Rq) (r : Nat) (s : Value) (gT gR bR : Nat) (rem : List UInt8) (w : World) (hx : q.ix.length = 16) (hT : Row w gT 75 (tkC q s (r : Nat))) (hR : RA w gR bR false rem) (hne : gT ≠ gR ∧ gT ≠ bR) (hs : 4 ≤ rem.length) :
    Calls Try.prog 55 #[.pointer (some ⟨gT, 0, none⟩), .pointer (some ⟨gR, 0, none⟩)] w (TakeP .len q r s gT gR bR rem w) := by
  have HRD := Lib.hid (wordT hR hs)
  have HT := Lib.hid hT
  have HX := Lib.hid hx
  have HNE := Lib.hid hne
  have hXl : smallL (rem.take 4) < 4294967296 := smallL_lt 4 _ (by rw [List.length_take]; omega)
  obtain ⟨X, hX⟩ : ∃ X, X = smallL (rem.take 4) := ⟨_, rfl⟩
  rw [← hX] at HRD hXl
  have hw : IntKind.i64.wrap (X : Int) = (X : Int) := IntWalk.i64_in _ (by omega)
  have HXX := Lib.hid hX
  skip
  clear hX hT hR hx hne hs
  go_enter Try.func55, Try.ntmps55
  go_wp2_with fail
  refine HRD.out.mono ?_
  rintro e w1 ⟨rfl, hr1, g⟩
  have HR1 := Lib.hid hr1
  have HT1 := Lib.hid (HT.out.grownNe g HNE.out.1)
  have HC1 := Lib.hid (Ch.ofSome (S := fun x => x = gT ∨ x = gR) g (.inr rfl))
  have c1 := tk_cell HT1.out HX.out 2
  have f1 := Row.frozen HT1.out 19
  simp at c1
  clear hr1 g
  go_upto_region 2 with fail
  obtain ⟨w2, h2⟩ : ∃ w2, w2 = w1.setCell ⟨gT, 19, none⟩ (.int .i64 (X : Int)) := ⟨_, rfl⟩
  rw [← h2]
  have g2 : w1.grownBy w2 (some gT) := h2 ▸ grownBy_setCell _ _ _ _
  have hr2 : Row w2 gT 75 (tkC { q with len := X } s (r : Nat)) := by
    have h := Row.setc HT1.out 19 (.int .i64 (X : Int))
    rw [show 19 = 17 + 2 from rfl, tk_set _ _ _ HX.out] at h
    rw [h2]
    exact h
  have HT2 := Lib.hid hr2
  have HC2 := Lib.hid (HC1.out.trans (Ch.ofSome (S := fun x => x = gT) g2 rfl) (fun _ _ h => .inl h))
  have HR2 := Lib.hid (HR1.out.ch (Ch.ofSome (S := fun x => x = gT) g2 rfl) (fun h => HNE.out.1 h.symm) (fun h => HNE.out.2 h.symm))
  clear h2 g2 hr2 c1 f1
  have c2 := tk_cell HT2.out HX.out 2
  simp at c2
  by_cases h1 : 1 ≤ X
  · have e1 : decide ((1 : Int) ≤ (X : Int)) = true := decide_eq_true (by omega)
    have e2 : decide (1 ≤ X) = true := decide_eq_true h1
    by_cases hle : X ≤ 131072
    · have hd : decide ((X : Int) ≤ 131072) = true := decide_eq_true (by omega)
      have hd2 : decide (X ≤ 131072) = true := decide_eq_true hle
      go_wp2_with fail
      go_ret
      exact ⟨by unfold Fd.size Fd.ok; rw [← HXX.out]; exact ret_bool (show _ = (decide (1 ≤ X) && decide (X ≤ 131072)) by rw [e2, hd2]; rfl), by unfold Fd.size Fd.put; rw [← HXX.out]; exact HT2.out, HR2.out, HC2.out⟩
    · have hd : decide ((X : Int) ≤ 131072) = false := decide_eq_false (by omega)
      have hd2 : decide (X ≤ 131072) = false := decide_eq_false hle
      go_wp2_with fail
      go_ret
      exact ⟨by unfold Fd.size Fd.ok; rw [← HXX.out]; exact ret_bool (show _ = (decide (1 ≤ X) && decide (X ≤ 131072)) by rw [e2, hd2]; rfl), by unfold Fd.size Fd.put; rw [← HXX.out]; exact HT2.out, HR2.out, HC2.out⟩
  · have e1 : decide ((1 : Int) ≤ (X : Int)) = false := decide_eq_false (by omega)
    have e2 : decide (1 ≤ X) = false := decide_eq_false h1
    go_wp2_with fail
    go_ret
    exact ⟨by unfold Fd.size Fd.ok; rw [← HXX.out]; exact ret_bool (show _ = (decide (1 ≤ X) && decide (X ≤ 131072)) by rw [e2]; rfl), by unfold Fd.size Fd.put; rw [← HXX.out]; exact HT2.out, HR2.out, HC2.out⟩
set_option maxRecDepth 100000 in
set_option maxHeartbeats 4000000 in
theorem until_t (q : Rq) (r : Nat) (s : Value) (gT gR bR : Nat) (rem : List UInt8) (w : World) (hx : q.ix.length = 16) (hT : Row w gT 75 (tkC q s (r : Nat))) (hR : RA w gR bR false rem) (hne : gT ≠ gR ∧ gT ≠ bR) (hs : 8 ≤ rem.length) :
    Calls Try.prog 52 #[.pointer (some ⟨gT, 0, none⟩), .pointer (some ⟨gR, 0, none⟩)] w (TakeP .til q r s gT gR bR rem w) := by
  have HRD := Lib.hid (longT hR hs)
  have HT := Lib.hid hT
  have HX := Lib.hid hx
  have HNE := Lib.hid hne
  have hXl : smallL (rem.take 8) < 18446744073709551616 := smallL_lt 8 _ (by rw [List.length_take]; omega)
  obtain ⟨X, hX⟩ : ∃ X, X = smallL (rem.take 8) := ⟨_, rfl⟩
  rw [← hX] at HRD hXl
  obtain ⟨Y, hY⟩ : ∃ Y, Y = min X 1099511627777 := ⟨_, rfl⟩
  have hYb : Y ≤ 1099511627777 := by omega
  have hif : (if (1099511627777 : Int) < (X : Int) then (1099511627777 : Int) else (X : Int)) = (Y : Int) := by split <;> omega
  have hw : IntKind.i64.wrap (Y : Int) = (Y : Int) := IntWalk.i64_in _ (by omega)
  have HXX := Lib.hid hX
  have HYY := Lib.hid hY
  clear hX hT hR hx hne hs hY
  go_enter Try.func52, Try.ntmps52
  go_wp2_with fail
  refine HRD.out.mono ?_
  rintro e w1 ⟨rfl, hr1, g⟩
  have HR1 := Lib.hid hr1
  have HT1 := Lib.hid (HT.out.grownNe g HNE.out.1)
  have HC1 := Lib.hid (Ch.ofSome (S := fun x => x = gT ∨ x = gR) g (.inr rfl))
  have c1 := tk_cell HT1.out HX.out 4
  have f1 := Row.frozen HT1.out 21
  simp at c1
  clear hr1 g
  go_upto_region 3 with fail
  obtain ⟨w2, h2⟩ : ∃ w2, w2 = w1.setCell ⟨gT, 21, none⟩ (.int .i64 (Y : Int)) := ⟨_, rfl⟩
  rw [← h2]
  have g2 : w1.grownBy w2 (some gT) := h2 ▸ grownBy_setCell _ _ _ _
  have hr2 : Row w2 gT 75 (tkC { q with till := (Y : Nat) } s (r : Nat)) := by
    have h := Row.setc HT1.out 21 (.int .i64 (Y : Int))
    rw [show 21 = 17 + 4 from rfl, tk_set _ _ _ HX.out] at h
    rw [h2]
    exact h
  have HT2 := Lib.hid hr2
  have HC2 := Lib.hid (HC1.out.trans (Ch.ofSome (S := fun x => x = gT) g2 rfl) (fun _ _ h => .inl h))
  have HR2 := Lib.hid (HR1.out.ch (Ch.ofSome (S := fun x => x = gT) g2 rfl) (fun h => HNE.out.1 h.symm) (fun h => HNE.out.2 h.symm))
  clear h2 g2 hr2 c1 f1
  by_cases hle : X ≤ 1099511627776
  · have hd : decide ((X : Int) ≤ 1099511627776) = true := decide_eq_true (by omega)
    have hd2 : decide (X ≤ 1099511627776) = true := decide_eq_true hle
    go_wp2_with fail
    go_ret
    exact ⟨by unfold Fd.size Fd.ok; rw [← HXX.out]; exact ret_bool hd2.symm, by unfold Fd.size Fd.put; rw [← HXX.out]; exact (show Row w2 gT 75 (tkC { q with till := ((min X 1099511627777 : Nat) : Int) } s (r : Nat)) by rw [← HYY.out]; exact HT2.out), HR2.out, HC2.out⟩
  · have hd : decide ((X : Int) ≤ 1099511627776) = false := decide_eq_false (by omega)
    have hd2 : decide (X ≤ 1099511627776) = false := decide_eq_false hle
    go_wp2_with fail
    go_ret
    exact ⟨by unfold Fd.size Fd.ok; rw [← HXX.out]; exact ret_bool hd2.symm, by unfold Fd.size Fd.put; rw [← HXX.out]; exact (show Row w2 gT 75 (tkC { q with till := ((min X 1099511627777 : Nat) : Int) } s (r : Nat)) by rw [← HYY.out]; exact HT2.out), HR2.out, HC2.out⟩
theorem take_t (f : Fd) (q : Rq) (r : Nat) (s : Value) (gT gR bR : Nat) (rem : List UInt8) (w : World) (hx : q.ix.length = 16) (hT : Row w gT 75 (tkC q s (r : Nat))) (hR : RA w gR bR false rem) (hne : gT ≠ gR ∧ gT ≠ bR) (hs : f.size ≤ rem.length) :
    Calls Try.prog f.fid #[.pointer (some ⟨gT, 0, none⟩), .pointer (some ⟨gR, 0, none⟩)] w (TakeP f q r s gT gR bR rem w) := by
  cases f
  · exact number_t q r s gT gR bR rem w hx hT hR hne hs
  · exact who_t q r s gT gR bR rem w hx hT hR hne hs
  · exact until_t q r s gT gR bR rem w hx hT hR hne hs
  · exact bytes_t q r s gT gR bR rem w hx hT hR hne hs
  · exact at_t q r s gT gR bR rem w hx hT hR hne hs
  · exact len_t q r s gT gR bR rem w hx hT hR hne hs
end Go.Proofs.Ytkdmebcfedehiaa
/- wire.taker's fields: which fields a kind of request has. Printed by gens/fields.py. -/
namespace Go.Proofs.Ytkdmebcfedehiaa
open Go.RowKit

def fieldsQ (k : Nat) : List Fd := if k = 2 then [.num, .who, .til, .rst] else if k = 3 then [.num, .at_, .len] else if k = 4 then [.who, .til] else if k = 5 then [.who] else []
def fdV (gT : Nat) (f : Fd) : List Value := [.int .i64 (f.size : Int), .func (Fn.func f.fid) #[.pointer (some ⟨gT, 0, none⟩)] #[]]
def fdC (gT : Nat) (F : List Fd) : List Value := F.flatMap (fdV gT)
theorem info_field : ∃ i z, Try.prog.info? 81 = some i ∧ i.zero = some z ∧ i.size = z.cells.size ∧ z.cells.size = 2 := ⟨(Try.prog.info? 81).getD default, .agg #[.int .i64 0, .nilFunc], by kernel_rfl, by kernel_rfl, by kernel_rfl, by kernel_rfl⟩
theorem own_fields (w : World) (gT : Nat) (F : List Fd) (n : Nat) (hn : F.length = n) (hm : n ≤ 10) : Own (w.alloc (.cells (fdC gT F).toArray 81)) w.heap.size 81 2 (some ⟨w.heap.size, 0, none⟩) n n (fdC gT F) := by
  have hl : (fdC gT F).length = n * 2 := by
    subst hn
    unfold fdC fdV
    induction F with
    | nil => rfl
    | cons f r ih => simp only [List.flatMap_cons, List.length_append, List.length_cons, List.length_nil]; have := ih (by simp at hm ⊢; omega); omega
  refine ⟨hl, .inr ⟨w.heap.size, (fdC gT F).toArray, rfl, Nat.le_refl _, heap_alloc_new w _, Nat.le_refl _, by unfold maxLen; omega, by simpa using hl, ?_⟩⟩
  rw [← hl]
  exact List.take_length

set_option maxRecDepth 100000 in
set_option maxHeartbeats 4000000 in
theorem fields_n (K : Int) (k gT : Nat) (w : World) (hK : K = (k : Int)) :
    Calls Try.prog 29 #[.pointer (some ⟨gT, 0, none⟩), .int .u8 K] w fun e w' => ∃ aF nF cF, e = .returned (.tuple #[.slice aF nF cF, .bool (decide (headQ k ≠ 0))]) ∧ Own w' w.heap.size 81 2 aF nF cF (fdC gT (fieldsQ k)) ∧ (fieldsQ k).length = nF ∧ w.grownBy w' none := by
  obtain ⟨iF, zF, hiF, hzF, hsF, hcF⟩ := info_field
  by_cases h1 : k = 1
  · subst h1
    have hK1 : K = 1 := hK
    subst hK1
    clear hK
    go_enter Try.func29, Try.ntmps29
    go_wp2_with (first | (refine wpList_fresh rfl rfl rfl rfl rfl hiF hzF hsF #[.int .i64 4, .func (Fn.func 50) #[.pointer (some ⟨gT, 0, none⟩)] #[]] rfl rfl hcF (by simp [Value.oneCell']) ?_; intro w1 hs g hr; have G1 := Lib.hid g; have R1 := Lib.hid hr; clear hs g hr) | (refine wpList_load_row rfl 81 _ rfl w.heap.size rfl 81 #[.int .i64 4, .func (Fn.func 50) #[.pointer (some ⟨gT, 0, none⟩)] #[]] (0, 0) _ R1.out Try.underlying81 rfl (by kernel_rfl) ?_))
    go_ret2
    exact ⟨_, _, _, rfl, Own.nil _ _ _ _ _, rfl, G1.out⟩
  by_cases h2 : k = 2
  · subst h2
    have hK1 : K = 2 := hK
    subst hK1
    clear hK
    go_enter Try.func29, Try.ntmps29
    go_wp2_with (first | (refine wpList_fresh rfl rfl rfl rfl rfl hiF hzF hsF #[.int .i64 4, .func (Fn.func 50) #[.pointer (some ⟨gT, 0, none⟩)] #[]] rfl rfl hcF (by simp [Value.oneCell']) ?_; intro w1 hs g hr; have G1 := Lib.hid g; have R1 := Lib.hid hr; clear hs g hr) | (refine wpList_load_row rfl 81 _ rfl w.heap.size rfl 81 #[.int .i64 4, .func (Fn.func 50) #[.pointer (some ⟨gT, 0, none⟩)] #[]] (0, 0) _ R1.out Try.underlying81 rfl (by kernel_rfl) ?_))
    go_ret2
    exact ⟨_, _, _, rfl, Own.mono (own_fields w1 gT (fieldsQ 2) 4 rfl (by omega)) G1.out.size, rfl, grownBy_trans G1.out (World.grownBy_alloc _ _ _)⟩
  by_cases h3 : k = 3
  · subst h3
    have hK1 : K = 3 := hK
    subst hK1
    clear hK
    go_enter Try.func29, Try.ntmps29
    go_wp2_with (first | (refine wpList_fresh rfl rfl rfl rfl rfl hiF hzF hsF #[.int .i64 4, .func (Fn.func 50) #[.pointer (some ⟨gT, 0, none⟩)] #[]] rfl rfl hcF (by simp [Value.oneCell']) ?_; intro w1 hs g hr; have G1 := Lib.hid g; have R1 := Lib.hid hr; clear hs g hr) | (refine wpList_load_row rfl 81 _ rfl w.heap.size rfl 81 #[.int .i64 4, .func (Fn.func 50) #[.pointer (some ⟨gT, 0, none⟩)] #[]] (0, 0) _ R1.out Try.underlying81 rfl (by kernel_rfl) ?_))
    go_ret2
    exact ⟨_, _, _, rfl, Own.mono (own_fields w1 gT (fieldsQ 3) 3 rfl (by omega)) G1.out.size, rfl, grownBy_trans G1.out (World.grownBy_alloc _ _ _)⟩
  by_cases h4 : k = 4
  · subst h4
    have hK1 : K = 4 := hK
    subst hK1
    clear hK
    go_enter Try.func29, Try.ntmps29
    go_wp2_with (first | (refine wpList_fresh rfl rfl rfl rfl rfl hiF hzF hsF #[.int .i64 4, .func (Fn.func 50) #[.pointer (some ⟨gT, 0, none⟩)] #[]] rfl rfl hcF (by simp [Value.oneCell']) ?_; intro w1 hs g hr; have G1 := Lib.hid g; have R1 := Lib.hid hr; clear hs g hr) | (refine wpList_load_row rfl 81 _ rfl w.heap.size rfl 81 #[.int .i64 4, .func (Fn.func 50) #[.pointer (some ⟨gT, 0, none⟩)] #[]] (0, 0) _ R1.out Try.underlying81 rfl (by kernel_rfl) ?_))
    go_ret2
    exact ⟨_, _, _, rfl, Own.mono (own_fields w1 gT (fieldsQ 4) 2 rfl (by omega)) G1.out.size, rfl, grownBy_trans G1.out (World.grownBy_alloc _ _ _)⟩
  by_cases h5 : k = 5
  · subst h5
    have hK1 : K = 5 := hK
    subst hK1
    clear hK
    go_enter Try.func29, Try.ntmps29
    go_wp2_with (first | (refine wpList_fresh rfl rfl rfl rfl rfl hiF hzF hsF #[.int .i64 4, .func (Fn.func 50) #[.pointer (some ⟨gT, 0, none⟩)] #[]] rfl rfl hcF (by simp [Value.oneCell']) ?_; intro w1 hs g hr; have G1 := Lib.hid g; have R1 := Lib.hid hr; clear hs g hr) | (refine wpList_load_row rfl 81 _ rfl w.heap.size rfl 81 #[.int .i64 4, .func (Fn.func 50) #[.pointer (some ⟨gT, 0, none⟩)] #[]] (0, 0) _ R1.out Try.underlying81 rfl (by kernel_rfl) ?_))
    go_ret2
    exact ⟨_, _, _, rfl, Own.mono (own_fields w1 gT (fieldsQ 5) 1 rfl (by omega)) G1.out.size, rfl, grownBy_trans G1.out (World.grownBy_alloc _ _ _)⟩
  have hh : headQ k = 0 := by unfold headQ; rw [if_neg h1, if_neg h2, if_neg h3, if_neg h4, if_neg h5]
  have hf : fieldsQ k = [] := by unfold fieldsQ; rw [if_neg h2, if_neg h3, if_neg h4, if_neg h5]
  rw [hh, hf]
  have e1 : (K == 1) = false := by rw [beq_eq_false_iff_ne]; omega
  have e2 : (K == 2) = false := by rw [beq_eq_false_iff_ne]; omega
  have e3 : (K == 3) = false := by rw [beq_eq_false_iff_ne]; omega
  have e4 : (K == 4) = false := by rw [beq_eq_false_iff_ne]; omega
  have e5 : (K == 5) = false := by rw [beq_eq_false_iff_ne]; omega
  clear hK hh hf h1 h2 h3 h4 h5
  go_enter Try.func29, Try.ntmps29
  go_wp2_with (first | (refine wpList_fresh rfl rfl rfl rfl rfl hiF hzF hsF #[.int .i64 4, .func (Fn.func 50) #[.pointer (some ⟨gT, 0, none⟩)] #[]] rfl rfl hcF (by simp [Value.oneCell']) ?_; intro w1 hs g hr; have G1 := Lib.hid g; have R1 := Lib.hid hr; clear hs g hr) | (refine wpList_load_row rfl 81 _ rfl w.heap.size rfl 81 #[.int .i64 4, .func (Fn.func 50) #[.pointer (some ⟨gT, 0, none⟩)] #[]] (0, 0) _ R1.out Try.underlying81 rfl (by kernel_rfl) ?_))
  go_ret2
  exact ⟨_, _, _, rfl, Own.nil _ _ _ _ _, rfl, G1.out⟩
end Go.Proofs.Ytkdmebcfedehiaa
/- Plain Lean: a request's fields, one behind the other, are the request. -/
namespace Go.Proofs.Ytkdmebcfedehiaa
open Go.RowKit

def sumS : List Fd → Nat
  | [] => 0
  | f :: r => f.size + sumS r
/-- fields taken in, one behind the other -/
def runF (b : List UInt8) : List Fd → Rq × Nat → Nat → Except Nat (Rq × Nat)
  | [], s, _ => .ok s
  | f :: r, s, p => if f.ok (getN b p f.size) = true then runF b r (f.put s (getN b p f.size)) (p + f.size) else .error p
theorem head_sum {k : Nat} (h : headQ k ≠ 0) : headQ k = 17 + sumS (fieldsQ k) := by
  rcases headQ_cases h with rfl | rfl | rfl | rfl | rfl <;> rfl
def q0 (b : List UInt8) : Rq := ⟨(b.getD 0 0).toNat, seg b 1 16, 0, 0, 0, 0, 0, []⟩
/-- what is made of the taker at the end -/
def endG (b : List UInt8) (h : Nat) : Except Nat (Rq × Nat) → Except Nat Rq
  | .error p => .error p
  | .ok (q, r) => endQ b h r q
theorem endQ_kind {b : List UInt8} {h n : Nat} {q q' : Rq} (e : q = q') : endQ b h n q = endQ b h n q' := by rw [e]
theorem ok_num (b : List UInt8) (p : Nat) (hp : p < b.length) : (Fd.ok .num (getN b p 1) = true ↔ b.getD p 0 ≠ 255) ∧ ((getN b p 1 : Nat) : Int) = byN (b.getD p 0) := by
  have e : getN b p 1 = (b.getD p 0).toNat := by
    unfold getN
    rw [← getD_cons_drop (b := b) (p := p) rfl hp]
    simp [smallL]
  rw [e]
  refine ⟨?_, rfl⟩
  show decide ((b.getD p 0).toNat < 255) = true ↔ _
  rw [decide_eq_true_eq]
  have h255 : b.getD p 0 = 255 ↔ (b.getD p 0).toNat = 255 := by rw [← UInt8.toNat_inj]; rfl
  have := (b.getD p 0).toNat_lt
  rw [ne_eq, h255]
  omega
theorem decG (b : List UInt8) (hk : headQ (b.getD 0 0).toNat ≠ 0) (hl : headQ (b.getD 0 0).toNat ≤ b.length) (hb : b ≠ []) : decQ b = endG b (headQ (b.getD 0 0).toNat) (runF b (fieldsQ (b.getD 0 0).toNat) (q0 b, 0) 17) := by
  unfold decQ
  rw [if_neg (fun h => h.elim hb hk), if_neg (by omega)]
  have hq : q0 b = ⟨(b.getD 0 0).toNat, seg b 1 16, 0, 0, 0, 0, 0, []⟩ := rfl
  rcases headQ_cases hk with e | e | e | e | e <;> rw [e] at hq hl ⊢ <;> rw [hq]
  · rfl
  · have hl34 : 34 ≤ b.length := hl
    obtain ⟨n1, n2⟩ := ok_num b 17 (by omega)
    rw [if_neg (by decide), if_pos rfl]
    show _ = endG b 34 (runF b [.num, .who, .til, .rst] _ 17)
    unfold runF
    show _ = endG b 34 (if Fd.ok .num (getN b 17 1) = true then _ else .error 17)
    by_cases h1 : b.getD 17 0 = 255
    · rw [if_pos h1, if_neg (fun h => (n1.1 h) h1)]; rfl
    rw [if_neg h1, if_pos (n1.2 h1)]
    unfold runF
    show _ = endG b 34 (if true = true then _ else _)
    rw [if_pos rfl]
    unfold runF
    show _ = endG b 34 (if decide (getN b 22 8 ≤ 1099511627776) = true then _ else .error 22)
    by_cases h2 : 1099511627776 < getN b 22 8
    · rw [if_pos h2, if_neg (show ¬ decide (getN b 22 8 ≤ 1099511627776) = true by rw [decide_eq_true_eq]; omega)]; rfl
    rw [if_neg h2, if_pos (show decide (getN b 22 8 ≤ 1099511627776) = true by rw [decide_eq_true_eq]; omega)]
    unfold runF
    show _ = endG b 34 (if decide (getN b 30 4 ≤ 33554432) = true then _ else .error 30)
    by_cases h3 : 33554432 < getN b 30 4
    · rw [if_pos h3, if_neg (show ¬ decide (getN b 30 4 ≤ 33554432) = true by rw [decide_eq_true_eq]; omega)]; rfl
    rw [if_neg h3, if_pos (show decide (getN b 30 4 ≤ 33554432) = true by rw [decide_eq_true_eq]; omega)]
    show _ = endQ b 34 (getN b 30 4) ⟨2, seg b 1 16, (getN b 17 1 : Nat), 0, 0, getN b 18 4, (min (getN b 22 8) 1099511627777 : Nat), []⟩
    rw [n2, Nat.min_eq_left (by omega)]
  · have hl26 : 26 ≤ b.length := hl
    obtain ⟨n1, n2⟩ := ok_num b 17 (by omega)
    rw [if_neg (by decide), if_neg (by decide), if_pos rfl]
    show _ = endG b 26 (runF b [.num, .at_, .len] _ 17)
    unfold runF
    show _ = endG b 26 (if Fd.ok .num (getN b 17 1) = true then _ else .error 17)
    by_cases h1 : b.getD 17 0 = 255
    · rw [if_pos h1, if_neg (fun h => (n1.1 h) h1)]; rfl
    rw [if_neg h1, if_pos (n1.2 h1)]
    unfold runF
    show _ = endG b 26 (if decide (getN b 18 4 ≤ 33554432) = true then _ else .error 18)
    by_cases h2 : 33554432 < getN b 18 4
    · rw [if_pos h2, if_neg (show ¬ decide (getN b 18 4 ≤ 33554432) = true by rw [decide_eq_true_eq]; omega)]; rfl
    rw [if_neg h2, if_pos (show decide (getN b 18 4 ≤ 33554432) = true by rw [decide_eq_true_eq]; omega)]
    unfold runF
    show _ = endG b 26 (if (decide (1 ≤ getN b 22 4) && decide (getN b 22 4 ≤ 131072)) = true then _ else .error 22)
    by_cases h3 : getN b 22 4 < 1 ∨ 131072 < getN b 22 4
    · rw [if_pos h3, if_neg (show ¬ (decide (1 ≤ getN b 22 4) && decide (getN b 22 4 ≤ 131072)) = true by rw [Bool.and_eq_true, decide_eq_true_eq, decide_eq_true_eq]; omega)]; rfl
    rw [if_neg h3, if_pos (show (decide (1 ≤ getN b 22 4) && decide (getN b 22 4 ≤ 131072)) = true by rw [Bool.and_eq_true, decide_eq_true_eq, decide_eq_true_eq]; omega)]
    show _ = endQ b 26 0 ⟨3, seg b 1 16, (getN b 17 1 : Nat), (getN b 18 4 : Nat), (getN b 22 4 : Nat), 0, 0, []⟩
    rw [n2]
  · rw [if_neg (by decide), if_neg (by decide), if_neg (by decide), if_pos rfl]
    show _ = endG b 29 (runF b [.who, .til] _ 17)
    unfold runF
    show _ = endG b 29 (if true = true then _ else _)
    rw [if_pos rfl]
    unfold runF
    show _ = endG b 29 (if decide (getN b 21 8 ≤ 1099511627776) = true then _ else .error 21)
    by_cases h2 : 1099511627776 < getN b 21 8
    · rw [if_pos h2, if_neg (show ¬ decide (getN b 21 8 ≤ 1099511627776) = true by rw [decide_eq_true_eq]; omega)]; rfl
    rw [if_neg h2, if_pos (show decide (getN b 21 8 ≤ 1099511627776) = true by rw [decide_eq_true_eq]; omega)]
    show _ = endQ b 29 0 ⟨4, seg b 1 16, 0, 0, 0, getN b 17 4, (min (getN b 21 8) 1099511627777 : Nat), []⟩
    rw [Nat.min_eq_left (by omega)]
  · rw [if_neg (by decide), if_neg (by decide), if_neg (by decide), if_neg (by decide)]
    rfl
theorem runF_drop {b : List UInt8} {F : List Fd} {j : Nat} {s : Rq × Nat} {p : Nat} (hj : j < F.length) : runF b (F.drop j) s p = (if (F[j]).ok (getN b p (F[j]).size) = true then runF b (F.drop (j + 1)) ((F[j]).put s (getN b p (F[j]).size)) (p + (F[j]).size) else .error p) := by
  rw [List.drop_eq_getElem_cons hj]
  rfl
theorem sumS_drop {F : List Fd} {j : Nat} (hj : j < F.length) : sumS (F.drop j) = (F[j]).size + sumS (F.drop (j + 1)) := by
  rw [List.drop_eq_getElem_cons hj]
  rfl
theorem fields_len (k : Nat) : (fieldsQ k).length ≤ 4 := by
  unfold fieldsQ
  repeat' split
  all_goals simp
theorem Fd.size_le (f : Fd) : 1 ≤ f.size ∧ f.size ≤ 8 := by cases f <;> simp [Fd.size]
theorem fdC_get (gT : Nat) : ∀ (F : List Fd) (j : Nat) (hj : j < F.length) (i : Nat), i < 2 → (fdC gT F)[j * 2 + i]? = (fdV gT F[j])[i]?
  | [], j, hj, _, _ => by simp at hj
  | f :: r, 0, _, i, hi => by
    unfold fdC
    rw [List.flatMap_cons, List.getElem?_append_left (by simp [fdV]; omega)]
    simp
  | f :: r, j + 1, hj, i, hi => by
    have ih := fdC_get gT r j (by simpa using hj) i hi
    unfold fdC at ih ⊢
    rw [List.flatMap_cons, List.getElem?_append_right (by simp [fdV]; omega)]
    have e : (j + 1) * 2 + i - (fdV gT f).length = j * 2 + i := by simp [fdV]; omega
    rw [e, ih]
    simp
end Go.Proofs.Ytkdmebcfedehiaa
/- As XRegX, where operations that read nothing stand behind the last one that writes. -/
namespace Go.Proofs.Ytkdmebcfedehiaa
open Go.RowKit
section
variable {P : Program} {ops : Array Oper} {Q : Exit → Act → World → Prop} {md : Region.Mode} {L : Nat}

/-- i stands ahead of o, over so many steps -/
def aheadD (md : Region.Mode) (ops : Array Oper) (i : Nat) : Nat → Oper → Bool
  | 0, o => o.after.any (fun e => Region.binds md e && e.on == i)
  | d + 1, o => o.after.any (fun e => Region.binds md e && (e.on == i || (match ops[e.on]? with
    | some o' => aheadD md ops i d o'
    | none => false)))
theorem aheadD_listed {listed : Array Bool} {i : Nat} (hc : Closed md ops listed) : ∀ (d : Nat) (o : Oper), aheadD md ops i d o = true → (∀ e ∈ o.after, Region.binds md e = true → listed.getD e.on false = true) → listed.getD i false = true
  | 0, o, h, hall => by
    obtain ⟨e, he, hb⟩ := Array.any_eq_true'.1 h
    simp only [Bool.and_eq_true, beq_iff_eq] at hb
    rw [← hb.2]
    exact hall e he hb.1
  | d + 1, o, h, hall => by
    obtain ⟨e, he, hb⟩ := Array.any_eq_true'.1 h
    simp only [Bool.and_eq_true, Bool.or_eq_true, beq_iff_eq] at hb
    rcases hb.2 with h1 | h1
    · rw [← h1]
      exact hall e he hb.1
    · cases ho : ops[e.on]? with
      | none => rw [ho] at h1; cases h1
      | some o' =>
        rw [ho] at h1
        exact aheadD_listed hc d o' h1 (fun f hf hb2 => hc e.on o' ho (hall e he hb.1) f hf hb2)
def wpY (P : Program) (md : Region.Mode) (ops : Array Oper) (Q : Exit → Act → World → Prop) (L : Nat) : Nat → (World → Prop) → Array Bool → Act → Prop
  | 0, _, _, _ => False
  | n + 1, S, listed, a => Region.ready md ops listed ≠ [] ∧
    ∀ i ∈ Region.ready md ops listed, ∀ w, S w → wpOp P ops Q i (fun a' w' => if i = L then wpAny P md ops Q n (listed.setIfInBounds i true) a' w' else
      ∃ S' : World → Prop, S' w' ∧ (∀ w, S' w → S w) ∧ Clo S' ∧ wpY P md ops Q L n S' (listed.setIfInBounds i true) a') a w

theorem wpY_any : ∀ (n : Nat) (S : World → Prop) (listed : Array Bool) (a : Act) (w : World), wpY P md ops Q L n S listed a → S w → wpAny P md ops Q n listed a w
  | 0, _, _, _, _, h, _ => h.elim
  | n + 1, S, listed, a, w, h, hS => by
    refine ⟨fun h0 => absurd h0 h.1, fun i hi => wpOp_mono (fun a' w' h' => ?_) (h.2 i hi w hS)⟩
    by_cases hL : i = L
    · rw [if_pos hL] at h'
      exact h'
    · rw [if_neg hL] at h'
      obtain ⟨S', hs, _, _, hw⟩ := h'
      exact wpY_any n S' _ a' w' hw hs

theorem wpY_first {D i : Nat} {oi oL : Oper} {v : Value} (hi : ops[i]? = some oi) (hoL : ops[L]? = some oL) (hiL : i ≠ L) (hLi : aheadD md ops i D oL = true) (hsel : ∀ (j : Nat) (o : Oper) cs b, ops[j]? = some o → o.op ≠ .select cs b)
    (hQ : ∀ c a w, Q (.panic c) (a.put oi.dst v) w → Q (.panic c) a w) : ∀ (n : Nat) (S : World → Prop) (listed : Array Bool) (a : Act), Clo S → Closed md ops listed →
      (∀ j oj, ops[j]? = some oj → j ≠ i → listed.getD j true = false → (∀ e ∈ oj.after, Region.binds md e = true → e.on ≠ i) → oi.apart ops oj = true) →
      i ∈ Region.ready md ops listed → YG P ops S oi v a → wpY P md ops Q L n S (listed.setIfInBounds i true) (a.put oi.dst v) → wpY P md ops Q L (n + 1) S listed a := by
  intro n
  induction n with
  | zero => intro S listed a _ _ _ _ _ H; exact H.elim
  | succ n ih =>
    intro S listed a hclo hcl hfree hr hy H
    refine ⟨fun h => (by rw [h] at hr; cases hr), fun j hj w hS => ?_⟩
    obtain ⟨hjun, oj, hoj, hall⟩ := mem_ready.1 hj
    have hnot : ∀ e ∈ oj.after, Region.binds md e = true → e.on ≠ i := by
      intro e he hb heq
      have h1 := hall e he hb
      have h0 := (mem_ready.1 hr).1
      rw [heq] at h1
      rcases Nat.lt_or_ge i listed.size with h' | h'
      · simp [h'] at h0 h1; rw [h0] at h1; cases h1
      · simp [Array.getElem?_eq_none h'] at h1
    by_cases hji : j = i
    · subst hji
      refine hy.op hi hS fun w' hg => ?_
      rw [if_neg hiL]
      exact ⟨S, hclo w w' hS hg, fun _ h => h, hclo, H⟩
    · have hjL : j ≠ L := by
        rintro rfl
        rw [hoL] at hoj
        injection hoj with hoj
        subst hoj
        have h1 := aheadD_listed hcl _ _ hLi hall
        have h0 := (mem_ready.1 hr).1
        rcases Nat.lt_or_ge i listed.size with h' | h'
        · simp [h'] at h0 h1; rw [h0] at h1; cases h1
        · simp [Array.getElem?_eq_none h'] at h1
      have h1 := H.2 j (ready_mono hj hji) w hS
      have h2 := wpX_put hoj (hfree j oj hoj hji hjun hnot) (fun cs b => hsel i oi cs b hi) (fun cs b => hsel j oj cs b hoj) hQ hy h1
      refine wpOp_mono (fun a' w' h3 => ?_) h2
      rw [if_neg hjL] at h3 ⊢
      obtain ⟨hya, S', hs', hsub, hclo', hwx⟩ := h3
      refine ⟨S', hs', hsub, hclo', ih S' (listed.setIfInBounds j true) a' hclo' (hcl.set hj) (fun k ok hk hki hun hno => ?_) (ready_mono hr (Ne.symm hji)) (hya.sub hsub) ?_⟩
      · refine hfree k ok hk hki ?_ hno
        by_cases hjk : j = k
        · subst hjk; exact hjun
        · rw [getD_set_ne true hjk] at hun; exact hun
      · rw [Array.setIfInBounds_comm _ _ hji]
        exact hwx

/-- number i first -/
theorem wpY_take (D i : Nat) {S : World → Prop} {oi oL : Oper} {v : Value} {n : Nat} {listed : Array Bool} {a : Act} (hclo : Clo S) (hi : ops[i]? = some oi) (hoL : ops[L]? = some oL) (hiL : (i == L) = false) (hLi : aheadD md ops i D oL = true) (hcl : closedB md ops listed = true)
    (hs : Region.noSelect ops = true) (hf : Region.free md ops listed i = true) (hr : (Region.ready md ops listed).contains i = true)
    (hQ : ∀ c a w, Q (.panic c) (a.put oi.dst v) w → Q (.panic c) a w) (hy : YG P ops S oi v a)
    (h : wpY P md ops Q L n S (listed.setIfInBounds i true) (a.put oi.dst v)) : wpY P md ops Q L (n + 1) S listed a :=
  wpY_first hi hoL (by simpa using hiL) hLi (Region.noSelect_spec hs) hQ n S listed a hclo (closed_of hcl) (Region.free_spec hi hf) (by simpa using hr) hy h
/-- the one that may come up alone is carried out; the condition may grow stronger -/
theorem wpY_step (k : Nat) {S : World → Prop} {o : Oper} {n : Nat} {listed : Array Bool} {a : Act} (ho : ops[k]? = some o) (hkL : (k == L) = false) (hr : Region.ready md ops listed = [k]) (hw : Region.wanted o (yielded ops a.tmps) = true)
    (h : ∀ w, S w → ∀ K : Act → World → Prop, (∀ (S' : World → Prop) a' w', S' w' → (∀ w, S' w → S w) → Clo S' → wpY P md ops Q L n S' (listed.setIfInBounds k true) a' → K a' w') → o.wp P a w K Q) : wpY P md ops Q L (n + 1) S listed a := by
  refine ⟨by rw [hr]; simp, fun i hi w hS => ?_⟩
  rw [hr] at hi
  obtain rfl : i = k := by simpa using hi
  have hne : i ≠ L := by simpa using hkL
  unfold wpOp
  simp only [ho, hw, if_true]
  refine .inl (h w hS _ fun S' a' w' h1 h2 h3 h4 => ?_)
  rw [if_neg hne]
  exact ⟨S', h1, h2, h3, h4⟩
/-- the last one that writes, carried out -/
theorem wpY_last {S : World → Prop} {oL : Oper} {n : Nat} {listed : Array Bool} {a : Act} (hoL : ops[L]? = some oL) (hr : Region.ready md ops listed = [L]) (hw : Region.wanted oL (yielded ops a.tmps) = true)
    (h : ∀ w, S w → ∀ K : Act → World → Prop, (∀ a' w', wpAny P md ops Q n (listed.setIfInBounds L true) a' w' → K a' w') → oL.wp P a w K Q) : wpY P md ops Q L (n + 1) S listed a := by
  refine ⟨by rw [hr]; simp, fun i hi w hS => ?_⟩
  rw [hr] at hi
  obtain rfl : i = L := by simpa using hi
  unfold wpOp
  simp only [hoL, hw, if_true]
  refine .inl (h w hS _ fun a' w' hq => ?_)
  first | exact hq | (simp only [if_true]; exact hq)
/-- one that comes up alone -/
theorem wpAny_one (k : Nat) {o : Oper} {n : Nat} {listed : Array Bool} {a : Act} {w : World} (ho : ops[k]? = some o) (hr : Region.ready md ops listed = [k]) (hw : Region.wanted o (yielded ops a.tmps) = true)
    {v : Value} (hv : (execOp a.eval o).run P w = .ok (.value v) w) (h : wpAny P md ops Q n (listed.setIfInBounds k true) (a.put o.dst v) w) : wpAny P md ops Q (n + 1) listed a w := by
  refine ⟨fun h0 => (by rw [hr] at h0; cases h0), fun i hi => ?_⟩
  rw [hr] at hi
  obtain rfl : i = k := by simpa using hi
  unfold wpOp
  simp only [ho, hw, if_true]
  refine .inl ?_
  unfold Oper.wp
  rw [hv]
  exact h
theorem wp_regionY (S : World → Prop) (L : Nat) {id : Nat} {a : Act} {w : World} (hm : P.follows .mixedOrders = true) (hS : S w.drew)
    (h : wpY P .any ops Q L ops.size S (Array.replicate ops.size false) a) : (Code.region id ops true).wp P Q a w :=
  wp_region_any hm (wpY_any _ _ _ _ _ h hS)

end
end Go.Proofs.Ytkdmebcfedehiaa
