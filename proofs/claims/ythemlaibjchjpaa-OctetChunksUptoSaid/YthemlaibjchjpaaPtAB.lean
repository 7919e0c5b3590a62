/- Helpers and contracts of the proofs over this seat: Reader2, AppB, Frm, RefBig, Framed, Unfr, SameLists, OctApartL. Each states what a function of the program answers, or is plain Lean; its conditions stand in each statement. -/
import Derived.Lib.AppendZeros
import Derived.Test.YthemlaibjchjpaaPtAA
set_option linter.unusedVariables false
/- The reader: what comes, to the byte; its numbers of eight bytes. -/
namespace Go.Proofs.Ythemlaibjchjpaa
open Go.RowKit

/-- what is taken, and how the reader is left -/
def Det (f : Bool) (rem : List UInt8) (x : Int) (ok : Bool) (p : List UInt8) (f' : Bool) (rem' : List UInt8) : Prop :=
  (ok = true ∧ f = false ∧ 0 ≤ x ∧ x ≤ rem.length ∧ p = rem.take x.toNat ∧ f' = false ∧ rem' = rem.drop x.toNat) ∨ (ok = false ∧ (f = true ∨ x < 0 ∨ (rem.length : Int) < x) ∧ p = [] ∧ f' = true ∧ rem' = rem)
def TookP2 (w : World) (g : Nat) (f : Bool) (rem : List UInt8) (la : Option Addr) (x : Int) (e : Ending) (w' : World) : Prop :=
  ∃ a n c ok p f' rem' la' lm' lc', e = .returned (.tuple #[.slice a n c, .bool ok]) ∧ Det f rem x ok p f' rem' ∧ Took w w' g f rem la a n p f' rem' la' lm' lc'

set_option maxRecDepth 100000 in
set_option maxHeartbeats 4000000 in
theorem take2_n (g : Nat) (f : Bool) (rem : List UInt8) (la : Option Addr) (lm lc : Nat) (x : Int) (w : World) (h : Rdr w g f rem la lm lc) :
    Calls Try.prog 68 #[.pointer (some ⟨g, 0, none⟩), .int .i64 x] w fun e w' => TookP2 w g f rem la x e w' := by
  have c0 := Row.cell h.row 0
  have c1 := Row.cell h.row 1
  have c2 := Row.cell h.row 2
  have f0 := Row.frozen h.row 0
  have f2 := Row.frozen h.row 2
  simp at c0 c1 c2
  have H := Lib.hid h
  have hcap := h.cap
  have hbig := h.big
  clear h
  cases f with
  | true =>
    go_enter Try.func68, Try.ntmps68
    go_wp2_with fail
    go_ret2
    exact ⟨none, 0, 0, false, [], true, rem, la, lm, lc, rfl, .inr ⟨rfl, .inl rfl, rfl, rfl, rfl⟩, BLies.nil _ _, rfl, H.out, fun h => (by cases h), by simp, World.grownBy.refl _ _, fun _ b off e => ⟨off, e⟩⟩
  | false =>
    by_cases hx : x < 0
    · have hd : decide (x < 0) = true := by simpa using hx
      go_enter Try.func68, Try.ntmps68
      go_wp2_with fail
      go_ret2
      refine ⟨none, 0, 0, false, [], true, rem, la, lm, lc, rfl, .inr ⟨rfl, .inr (.inl hx), rfl, rfl, rfl⟩, BLies.nil _ _, rfl, ⟨?_, H.out.set _ _, H.out.len, H.out.cap, H.out.big, H.out.apart⟩, fun h => (by cases h), by simp, grownBy_setCell _ _ _ _, fun _ b off e => ⟨off, e⟩⟩
      exact Row.setc H.out.row 2 (.bool true)
    · obtain ⟨n, rfl⟩ : ∃ n : Nat, x = (n : Int) := ⟨x.toNat, by omega⟩
      have hd : decide ((n : Int) < 0) = false := by simp
      by_cases hn : lm < n
      · have hd2 : decide ((lm : Int) < (n : Int)) = true := by simp; omega
        have hd3 : decide (lm < n) = true := by simp; omega
        go_enter Try.func68, Try.ntmps68
        go_wp2_with fail
        go_ret2
        refine ⟨none, 0, 0, false, [], true, rem, la, lm, lc, rfl, .inr ⟨rfl, .inr (.inr (by have := H.out.len; omega)), rfl, rfl, rfl⟩, BLies.nil _ _, rfl, ⟨?_, H.out.set _ _, H.out.len, H.out.cap, H.out.big, H.out.apart⟩, fun h => (by cases h), by simp, grownBy_setCell _ _ _ _, fun _ b off e => ⟨off, e⟩⟩
        exact Row.setc H.out.row 2 (.bool true)
      · have hd2 : decide ((lm : Int) < (n : Int)) = false := by simp; omega
        have hd3 : decide (lm < n) = false := by simp; omega
        have hnc : n ≤ lc := by omega
        have hnl : n ≤ lm := by omega
        rcases Nat.eq_zero_or_pos n with rfl | hpos
        · have hrow : Row (w.setCell ⟨g, 0, none⟩ (.slice la lm lc)) g 67 #[.slice la lm lc, .bool true, .bool false] := Row.setc H.out.row 0 _
          have hadd0 : ∀ a : Addr, a.add 0 = a := fun a => by simp [Addr.add]
          have hm0 : la.map (fun a => a.add 0) = la := by cases la <;> simp [hadd0]
          have HROW := Lib.hid hrow
          clear hrow
          by_cases hc0 : lc = 0
          · subst hc0
            obtain rfl : lm = 0 := by omega
            go_enter Try.func68, Try.ntmps68
            go_wp2_with fail
            go_ret2
            exact ⟨la, 0, 0, true, [], false, rem, la, 0, 0, rfl, .inl ⟨rfl, rfl, by simp, by simp, by simp, rfl, by simp⟩, ⟨fun k hk => absurd hk (by simp), rfl, ⟨HROW.out, H.out.set _ _, H.out.len, H.out.cap, H.out.big, H.out.apart⟩, fun _ => ⟨rfl, rfl⟩, by simp, grownBy_setCell _ _ _ _, fun _ b off e => ⟨off, e⟩⟩⟩
          · go_enter Try.func68, Try.ntmps68
            go_wp2_with fail
            go_ret2
            exact ⟨la, 0, 0, true, [], false, rem, la, lm, lc, rfl, .inl ⟨rfl, rfl, by simp, by simp, by simp, rfl, by simp⟩, ⟨fun k hk => absurd hk (by simp), rfl, ⟨HROW.out, H.out.set _ _, H.out.len, H.out.cap, H.out.big, H.out.apart⟩, fun _ => ⟨rfl, rfl⟩, by simp, grownBy_setCell _ _ _ _, fun _ b off e => ⟨off, e⟩⟩⟩
        · obtain ⟨b, off, rfl⟩ := H.out.lies.addr (by have := H.out.len; omega)
          have hap := H.out.apart (by omega) b off rfl
          have hlen := H.out.len
          have htl : (rem.take n).length = n := by rw [List.length_take]; omega
          have hdl : (rem.drop n).length = lm - n := by rw [List.length_drop, hlen]
          have hadd : (⟨b, off, none⟩ : Addr).add n = ⟨b, off + n, none⟩ := by unfold Addr.add; split <;> simp_all
          have HTL := Lib.hid htl
          have HDL := Lib.hid hdl
          have HLEN := Lib.hid hlen
          by_cases hcn : lc = n
          · subst hcn
            obtain rfl : lm = lc := by omega
            have hsub : lm - lm = 0 := Nat.sub_self _
            clear htl hdl hlen hadd
            go_enter Try.func68, Try.ntmps68
            go_wp2_with fail
            go_ret2
            have hbs := H.out.set 0 (.slice (some ⟨b, off, none⟩) 0 0)
            refine ⟨some ⟨b, off, none⟩, lm, lm, true, rem.take lm, false, rem.drop lm, some ⟨b, off, none⟩, 0, 0, rfl, .inl ⟨rfl, rfl, by omega, by have := HLEN.out; omega, rfl, rfl, rfl⟩, ⟨hbs.take lm, HTL.out, ⟨Row.setc H.out.row 0 _, fun k hk => absurd hk (by rw [HDL.out]; omega), by rw [HDL.out]; omega, Nat.le_refl _, by omega, fun h => absurd h (by omega)⟩, fun _ => ⟨rfl, (List.take_append_drop _ _).symm⟩, by rw [HTL.out, HDL.out, HLEN.out]; omega, grownBy_setCell _ _ _ _, fun h => absurd h (by omega)⟩⟩
          · have hsubl : (lm : Int) - (n : Int) = ((lm - n : Nat) : Int) := by omega
            clear htl hdl hlen
            go_enter Try.func68, Try.ntmps68
            go_wp2_with fail
            go_ret2
            have hbs := H.out.set 0 (.slice (some ⟨b, off + n, none⟩) (lm - n) (lc - n))
            refine ⟨some ⟨b, off, none⟩, n, n, true, rem.take n, false, rem.drop n, some ⟨b, off + n, none⟩, lm - n, lc - n, rfl, .inl ⟨rfl, rfl, by omega, by have := HLEN.out; omega, rfl, rfl, rfl⟩, ⟨hbs.take n, HTL.out, ⟨Row.setc H.out.row 0 _, drop_lies hbs n, HDL.out, by omega, by omega, fun _ b' off' e => by injection e with e; injection e with e; omega⟩, fun _ => ⟨rfl, (List.take_append_drop _ _).symm⟩, by rw [HTL.out, HDL.out, HLEN.out]; omega, grownBy_setCell _ _ _ _, fun _ b' off' e => by injection e with e; injection e with e1 e2; subst e1; exact ⟨off, rfl⟩⟩⟩


/-- what Bytes does -/
def BytesP2 (w : World) (g : Nat) (f : Bool) (rem : List UInt8) (la : Option Addr) (x : Int) (e : Ending) (w' : World) : Prop :=
  ∃ a n c ok p f' rem' la' lm' lc', e = .returned (.slice a n c) ∧ Det f rem x ok p f' rem' ∧ BOwn w' w.heap.size a n c p ∧ Rdr w' g f' rem' la' lm' lc' ∧ w.grownBy w' (some g) ∧
    (0 < lm' → ∀ b off, la' = some ⟨b, off, none⟩ → ∃ o, la = some ⟨b, o, none⟩)
set_option maxRecDepth 100000 in
set_option maxHeartbeats 1000000 in
theorem bytes2_n (g : Nat) (f : Bool) (rem : List UInt8) (la : Option Addr) (lm lc : Nat) (x : Int) (w : World) (h : Rdr w g f rem la lm lc) (hb : lm ≤ 4000000000) :
    Calls Try.prog 34 #[.pointer (some ⟨g, 0, none⟩), .int .i64 x] w fun e w' => BytesP2 w g f rem la x e w' := by
  have HT := Lib.hid (take2_n g f rem la lm lc x w h)
  have HLN := Lib.hid h.len
  clear h
  go_enter Try.func34, Try.ntmps34
  go_wp2_with fail
  refine HT.out.mono ?_
  rintro e w1 ⟨a, n, c, ok, p, f', rem', la', lm', lc', rfl, hd, ht⟩
  have HD := Lib.hid hd
  have HK := Lib.hid ht
  have hs := ht.short
  have hl := ht.len
  have hln := HLN.out
  have hcl := clone_n a c n p w1 ht.lies ht.len (by omega)
  have HCL := Lib.hid hcl
  clear ht hs hl hln hcl hd
  go_wp2_with fail
  refine HCL.out.mono ?_
  rintro e w2 ⟨a2, c2, rfl, ho, hg⟩
  have HO := Lib.hid ho
  have HG := Lib.hid hg
  clear ho hg
  go_wp2_with fail
  go_ret
  exact ⟨a2, n, c2, ok, p, f', rem', la', lm', lc', rfl, HD.out, Own.mono HO.out HK.out.grown.size, HK.out.rdr.grown HG.out, grownBy_trans HK.out.grown (grownBy_some HG.out _), HK.out.src⟩

/-- what Long does -/
def LongP (w : World) (g : Nat) (f : Bool) (rem : List UInt8) (la : Option Addr) (e : Ending) (w' : World) : Prop :=
  ∃ ok p f' rem' la' lm' lc', e = .returned (.int .u64 (if ok = true then smallL p else 0 : Nat)) ∧ Det f rem 8 ok p f' rem' ∧ Rdr w' g f' rem' la' lm' lc' ∧ w.grownBy w' (some g) ∧
    (0 < lm' → ∀ b off, la' = some ⟨b, off, none⟩ → ∃ o, la = some ⟨b, o, none⟩)
set_option maxRecDepth 100000 in
set_option maxHeartbeats 1000000 in
theorem number64_n (g : Nat) (f : Bool) (rem : List UInt8) (la : Option Addr) (lm lc : Nat) (w : World) (h : Rdr w g f rem la lm lc) :
    Calls Try.prog 74 #[.pointer (some ⟨g, 0, none⟩)] w fun e w' => LongP w g f rem la e w' := by
  have HT := Lib.hid (take2_n g f rem la lm lc 8 w h)
  clear h
  go_enter Try.func74, Try.ntmps74
  go_upto_region 2 with (first
    | (go_at_call 76; refine (width64_any _).mono ?_; rintro e w' ⟨rfl, rfl⟩)
    | (go_at_call 68; refine HT.out.mono ?_; rintro e w1 ⟨a, n, c, ok, p, f', rem', la', lm', lc', rfl, hd, ht⟩; have HD := Lib.hid hd; have HK := Lib.hid ht; clear hd ht))
  cases ok with
  | false =>
    go_wp2_with fail
    go_ret
    exact ⟨false, p, f', rem', la', lm', lc', rfl, HD.out, HK.out.rdr, HK.out.grown, HK.out.src⟩
  | true =>
    have hn : n = 8 := by
      have h1 := HK.out.len
      rcases HD.out with ⟨_, _, _, h2, h3, _⟩ | ⟨h, _⟩
      · rw [h3, List.length_take] at h1
        have : (8 : Int).toNat = 8 := rfl
        omega
      · cases h
    subst hn
    have HS := Lib.hid (small64_any a c 8 p w1 HK.out.lies HK.out.len (by unfold maxLen; omega))
    go_wp2_with fail
    refine HS.out.mono ?_
    rintro e w2 ⟨rfl, rfl⟩
    rw [if_neg (by omega), if_neg (by omega)]
    go_wp2_with fail
    go_ret
    exact ⟨true, p, f', rem', la', lm', lc', rfl, HD.out, HK.out.rdr, HK.out.grown, HK.out.src⟩
set_option maxRecDepth 100000 in
set_option maxHeartbeats 1000000 in
theorem long_n (g : Nat) (f : Bool) (rem : List UInt8) (la : Option Addr) (lm lc : Nat) (w : World) (h : Rdr w g f rem la lm lc) :
    Calls Try.prog 45 #[.pointer (some ⟨g, 0, none⟩)] w fun e w' => LongP w g f rem la e w' := by
  have HT := Lib.hid (number64_n g f rem la lm lc w h)
  clear h
  go_enter Try.func45, Try.ntmps45
  go_wp2_with fail
  refine HT.out.mono ?_
  rintro e w1 ⟨ok, p, f', rem', la', lm', lc', rfl, h1, h2, h3, h4⟩
  have H1 := Lib.hid h1
  have H2 := Lib.hid h2
  have H3 := Lib.hid h3
  have H4 := Lib.hid h4
  clear h1 h2 h3 h4
  generalize hv : (if ok = true then smallL p else 0) = v
  have HV := Lib.hid hv
  clear hv
  go_wp2_with fail
  go_ret
  exact ⟨ok, p, f', rem', la', lm', lc', congrArg (fun z : Nat => Ending.returned (.int .u64 (z : Int))) HV.out.symm, H1.out, H2.out, H3.out, H4.out⟩
set_option maxRecDepth 100000 in
set_option maxHeartbeats 1000000 in
theorem left_t (g : Nat) (rem : List UInt8) (la : Option Addr) (lm lc : Nat) (w : World) (h : Rdr w g true rem la lm lc) :
    Calls Try.prog 33 #[.pointer (some ⟨g, 0, none⟩)] w fun e w' => e = .returned (.int .i64 0) ∧ w = w' := by
  have c0 := Row.cell h.row 0
  have c1 := Row.cell h.row 1
  have c2 := Row.cell h.row 2
  simp at c0 c1 c2
  clear h
  go_enter Try.func33, Try.ntmps33
  go_wp2_with fail
  go_ret
  exact ⟨rfl, rfl⟩
/-- what Left tells -/
theorem leftf_n (g : Nat) (f : Bool) (rem : List UInt8) (la : Option Addr) (lm lc : Nat) (w : World) (h : Rdr w g f rem la lm lc) :
    Calls Try.prog 33 #[.pointer (some ⟨g, 0, none⟩)] w fun e w' => e = .returned (.int .i64 ((if f = true then 0 else lm : Nat) : Int)) ∧ w = w' := by
  cases f with
  | true => exact left_t g rem la lm lc w h
  | false => exact left_n g rem la lm lc w h
end Go.Proofs.Ythemlaibjchjpaa
/- Bytes laid behind bytes: append(out, s...) whatever their numbers; CopyBytes. -/
namespace Go.Proofs.Ythemlaibjchjpaa
open Go.RowKit

theorem run_app_zero (w : World) (a : Option Addr) (n c : Nat) (hc : n ≤ c) (sa : Option Addr) (sc : Nat) (ty : TypeId) :
    (Builtin.append_ #[22, 22] ty #[.slice a n c, .slice sa 0 sc]).run Try.prog w = .ok (.slice a n c) w := by
  obtain ⟨i, hi, hz, hs, hb⟩ := elB.info
  cases a <;> cases sa <;> simp [Builtin.append_, run_underlying Try.underlying22, sizeOf, typeInfo, hi, hs, Builtin.lenOf, Builtin.firstCells, loadCells, loadCellsFrom, hc]
  all_goals simp [storeCells, Result.andThen]

theorem bcells {w : World} {g o : Nat} {s : List UInt8} (hs : BLies w (some ⟨g, o, none⟩) s) : ∀ j u, (s.map bval)[j]? = some u → w.cell? ((⟨g, o, none⟩ : Addr).add j) = some u := by
  intro j u hj
  have hjl : j < s.length := by
    rcases Nat.lt_or_ge j s.length with h | h
    · exact h
    · rw [List.getElem?_eq_none (by simpa using h)] at hj; cases hj
  rw [List.getElem?_map, List.getElem?_eq_getElem hjl] at hj
  injection hj with hj
  obtain ⟨b, off, e, hc⟩ := hs j hjl
  injection e with e; injection e with e1 e2
  subst e1; subst e2
  have ha : (⟨g, o, none⟩ : Addr).add j = ⟨g, o + j, none⟩ := by unfold Addr.add; split <;> simp_all
  rw [ha, hc, ← hj]
  rfl
/-- append(out, s...) of bytes -/
theorem run_appB (w : World) {base : Nat} {a : Option Addr} {n c : Nat} {l : List UInt8} (hown : BOwn w base a n c l) (sa : Option Addr) (m sc : Nat) (s : List UInt8) (hs : BLies w sa s) (hm : s.length = m) (hb : n + m ≤ 4000000100) (hbase : base ≤ w.heap.size) (ty : TypeId) :
    ∃ a' c' w1, (Builtin.append_ #[22, 22] ty #[.slice a n c, .slice sa m sc]).run Try.prog w = .ok (.slice a' (n + m) c') w1 ∧ BOwn w1 base a' (n + m) c' (l ++ s) ∧ Ch (In a c) w w1 ∧ (∀ g, In a' c' g → In a c g ∨ w.heap.size ≤ g) := by
  rcases Nat.eq_zero_or_pos m with h0 | h0
  · subst h0
    obtain rfl : s = [] := List.eq_nil_of_length_eq_zero hm
    exact ⟨a, c, w, run_app_zero w a n c hown.cap.1 sa sc ty, by simpa using hown, Ch.refl _ _, fun g h => .inl h⟩
  · obtain ⟨gb, ob, rfl⟩ := BLies.addr hs (by omega)
    obtain ⟨g, c', w1, hrun, ho, hgr⟩ := run_app (P := Try.prog) (ty := ty) w elB hown ⟨gb, ob, none⟩ m sc (s.map bval) (by simp [hm]) (bcells hs) (fun u hu => by
      obtain ⟨y, _, rfl⟩ := List.mem_map.1 hu
      rfl) (by unfold maxLen; omega) (by omega) hbase (fun _ _ _ => trivial) h0
    refine ⟨_, c', w1, hrun, ?_, GrewP.ch hgr, ?_⟩
    · have : BOwn w1 base (some ⟨g, 0, none⟩) (n + m) c' (l ++ s) := by
        show Own _ _ _ _ _ _ _ _
        rw [List.map_append]
        exact ho
      exact this
    · rintro g2 ⟨hc, e⟩
      injection e with e; injection e with e
      subst e
      rcases hgr with ⟨g1, e1, e2, h3, h4, _⟩ | ⟨g1, e1, h2, _⟩
      · exact .inl ⟨h3, e2⟩
      · injection e1 with e1; injection e1 with e1
        subst e1
        exact .inr h2
end Go.Proofs.Ythemlaibjchjpaa
/- Plain Lean: numbers there and back; frames there and back; the order of lists of bytes. -/
namespace Go.Proofs.Ythemlaibjchjpaa
open Go.RowKit

theorem small_big : ∀ (k x : Nat), smallL (bigL k x) = x % 256 ^ k
  | 0, x => by simp [bigL, smallL, Nat.mod_one]
  | k + 1, x => by
    rw [bigL, smallL_snoc, small_big k, UInt8.toNat_ofNat']
    have e : x % 256 ^ (k + 1) = x % 256 + 256 * (x / 256 % 256 ^ k) := by rw [Nat.pow_succ, Nat.mul_comm (256 ^ k) 256, Nat.mod_mul]
    rw [e]
    generalize x / 256 % 256 ^ k = y
    omega
theorem big_small : ∀ (k : Nat) (l : List UInt8), l.length = k → bigL k (smallL l) = l
  | 0, l, h => by rw [List.eq_nil_of_length_eq_zero h]; rfl
  | k + 1, l, h => by
    have hne : l ≠ [] := fun e => by rw [e] at h; cases h
    have hl := List.dropLast_concat_getLast hne
    have hlen : l.dropLast.length = k := by rw [List.length_dropLast]; omega
    have ih := big_small k _ hlen
    generalize l.dropLast = a at hl hlen ih
    generalize l.getLast hne = b at hl
    subst hl
    rw [smallL_snoc, bigL]
    have hb := b.toNat_lt
    have e1 : (smallL a * 256 + b.toNat) / 256 = smallL a := by omega
    rw [e1, ih]
    congr 2
    apply UInt8.toNat_inj.1
    rw [UInt8.toNat_ofNat']
    omega
theorem small_cons (x : UInt8) (t : List UInt8) : smallL (x :: t) = x.toNat * 256 ^ t.length + smallL t := by
  have go : ∀ (t : List UInt8) (a : Nat), t.foldl (fun x b => x * 256 + b.toNat) a = a * 256 ^ t.length + t.foldl (fun x b => x * 256 + b.toNat) 0 := by
    intro t
    induction t with
    | nil => intro a; simp
    | cons y t ih =>
      intro a
      simp only [List.foldl_cons, List.length_cons]
      rw [ih (a * 256 + y.toNat), ih (0 * 256 + y.toNat), Nat.pow_succ, Nat.add_mul, Nat.add_mul]
      simp only [Nat.zero_mul, Nat.zero_add]
      rw [Nat.mul_comm (256 ^ t.length) 256, Nat.mul_assoc, Nat.add_assoc]
  show (x :: t).foldl _ 0 = _
  rw [List.foldl_cons, go]
  simp [smallL]

/-- one list ahead of another, byte by byte -/
def lessL : List UInt8 → List UInt8 → Bool
  | _, [] => false
  | [], _ :: _ => true
  | x :: s, y :: t => if x = y then lessL s t else x.toNat < y.toNat
theorem lessL_refl : ∀ l, lessL l l = false
  | [] => rfl
  | x :: t => by rw [lessL, if_pos rfl]; exact lessL_refl t
theorem lessL_small : ∀ (a b : List UInt8), a.length = b.length → smallL a < smallL b → lessL a b = true
  | [], [], _, h => by simp at h
  | [], _ :: _, h, _ => by cases h
  | _ :: _, [], h, _ => by cases h
  | x :: s, y :: t, hl, h => by
    have hl' : s.length = t.length := by simpa using hl
    rw [small_cons, small_cons, hl'] at h
    rw [lessL]
    by_cases e : x = y
    · subst e
      rw [if_pos rfl]
      exact lessL_small s t hl' (by omega)
    · rw [if_neg e]
      have hs := smallL_lt s.length s rfl
      have ht := smallL_lt t.length t rfl
      rw [hl'] at hs
      have hne : x.toNat ≠ y.toNat := fun h => e (UInt8.toNat_inj.1 h)
      have : ¬ y.toNat < x.toNat := fun hlt => by
        have h1 : (y.toNat + 1) * 256 ^ t.length ≤ x.toNat * 256 ^ t.length := Nat.mul_le_mul_right _ hlt
        rw [Nat.add_mul, Nat.one_mul] at h1
        omega
      simp
      omega

/-- the frames of a row of lists -/
def fr : List (List UInt8) → List UInt8
  | [] => []
  | p :: ps => bigL 8 p.length ++ (p ++ fr ps)
theorem fr_snoc (ps : List (List UInt8)) (p : List UInt8) : fr (ps ++ [p]) = fr ps ++ (bigL 8 p.length ++ p) := by
  induction ps with
  | nil => simp [fr]
  | cons q ps ih => simp [fr, ih]
theorem fr_length (ps : List (List UInt8)) : (fr ps).length = 8 * ps.length + ps.flatten.length := by
  induction ps with
  | nil => rfl
  | cons p ps ih => simp only [fr, List.length_append, bigL_length, ih, List.length_cons, List.flatten_cons]; omega
/-- the row of which these are the frames -/
def unf (l : List UInt8) : Option (List (List UInt8)) :=
  if h0 : l = [] then some []
  else if l.length < 8 then none
  else if l.length - 8 < smallL (l.take 8) then none
  else (unf ((l.drop 8).drop (smallL (l.take 8)))).map ((l.drop 8).take (smallL (l.take 8)) :: ·)
termination_by l.length
decreasing_by
  have := List.length_pos_iff.2 h0
  simp only [List.length_drop]
  omega
theorem unf_nil : unf [] = some [] := by rw [unf]; simp
theorem unf_short {l : List UInt8} (h0 : l ≠ []) (h : l.length < 8) : unf l = none := by rw [unf]; simp [h0, h]
theorem unf_long {l : List UInt8} (h8 : 8 ≤ l.length) (h : l.length - 8 < smallL (l.take 8)) : unf l = none := by
  have h0 : l ≠ [] := fun e => by rw [e] at h8; simp at h8
  rw [unf, dif_neg h0, if_neg (by omega), if_pos h]
theorem unf_step {l : List UInt8} (h8 : 8 ≤ l.length) (h : ¬ l.length - 8 < smallL (l.take 8)) : unf l = (unf ((l.drop 8).drop (smallL (l.take 8)))).map ((l.drop 8).take (smallL (l.take 8)) :: ·) := by
  have h0 : l ≠ [] := fun e => by rw [e] at h8; simp at h8
  rw [unf, dif_neg h0, if_neg (by omega), if_neg h]
theorem unf_fr : ∀ (ps : List (List UInt8)), (∀ p ∈ ps, p.length < 18446744073709551616) → unf (fr ps) = some ps
  | [], _ => unf_nil
  | p :: ps, h => by
    have hp := h p (by simp)
    have ih := unf_fr ps (fun q hq => h q (by simp [hq]))
    have hl : (fr (p :: ps)).length = 8 + (p.length + (fr ps).length) := by simp [fr, bigL_length]
    have ht : (fr (p :: ps)).take 8 = bigL 8 p.length := by rw [fr, List.take_left' (bigL_length 8 _)]
    have hd : (fr (p :: ps)).drop 8 = p ++ fr ps := by rw [fr, List.drop_left' (bigL_length 8 _)]
    have hs : smallL (bigL 8 p.length) = p.length := by rw [small_big]; exact Nat.mod_eq_of_lt (by simpa using hp)
    rw [unf_step (by omega) (by rw [ht, hs, hl]; omega), ht, hd, hs, List.drop_left' rfl, List.take_left' rfl, ih]
    rfl
theorem fr_unf : ∀ (N : Nat) (l : List UInt8) (ps : List (List UInt8)), l.length ≤ N → unf l = some ps → fr ps = l := by
  intro N
  induction N with
  | zero =>
    intro l ps h hu
    obtain rfl : l = [] := List.eq_nil_of_length_eq_zero (by omega)
    rw [unf_nil] at hu
    injection hu with hu
    subst hu
    rfl
  | succ N ih =>
    intro l ps h hu
    by_cases h0 : l = []
    · subst h0
      rw [unf_nil] at hu
      injection hu with hu
      subst hu
      rfl
    · by_cases h8 : l.length < 8
      · rw [unf_short h0 h8] at hu; cases hu
      · by_cases hl : l.length - 8 < smallL (l.take 8)
        · rw [unf_long (by omega) hl] at hu; cases hu
        · rw [unf_step (by omega) hl] at hu
          cases hr : unf ((l.drop 8).drop (smallL (l.take 8))) with
          | none => rw [hr] at hu; cases hu
          | some qs =>
            rw [hr] at hu
            injection hu with hu
            subst hu
            have h1 := ih _ qs (by simp only [List.length_drop]; omega) hr
            have hlen : ((l.drop 8).take (smallL (l.take 8))).length = smallL (l.take 8) := by simp only [List.length_take, List.length_drop]; omega
            rw [fr, h1, hlen, big_small 8 _ (by rw [List.length_take]; omega), List.take_append_drop, List.take_append_drop]
theorem fr_inj {ps qs : List (List UInt8)} (hp : ∀ p ∈ ps, p.length < 18446744073709551616) (hq : ∀ p ∈ qs, p.length < 18446744073709551616) (h : fr ps = fr qs) : ps = qs := by
  have h1 := unf_fr ps hp
  rw [h, unf_fr qs hq] at h1
  injection h1 with h1
  exact h1.symm
theorem unf_flat {l : List UInt8} {ps : List (List UInt8)} (h : unf l = some ps) : 8 * ps.length + ps.flatten.length = l.length := by
  rw [← fr_length, fr_unf _ l ps (Nat.le_refl _) h]

end Go.Proofs.Ythemlaibjchjpaa
/- The document's Big and Small. -/
namespace Go.Proofs.Ythemlaibjchjpaa
open Go.RowKit

theorem bigL_get : ∀ (k x i : Nat) (h : i < (bigL k x).length), (bigL k x)[i] = UInt8.ofNat (x / 256 ^ (k - 1 - i)) := by
  intro k
  induction k with
  | zero => intro x i h; simp [bigL] at h
  | succ k ih =>
    intro x i h
    simp only [bigL]
    by_cases hi : i < k
    · rw [List.getElem_append_left (by rw [bigL_length]; exact hi), ih, Nat.div_div_eq_div_mul]
      congr 2
      rw [Nat.mul_comm, ← Nat.pow_succ]
      congr 1
      omega
    · have : i = k := by simp [bigL_length] at h; omega
      subst this
      rw [List.getElem_append_right (by rw [bigL_length]; exact Nat.le_refl _)]
      simp [bigL_length]

theorem shr_byte (x j : Nat) : (x : Int) / 2 ^ (8 * j) % 256 = ((UInt8.ofNat (x / 256 ^ j)).toNat : Int) := by
  have e : (2 : Int) ^ (8 * j) = ((256 ^ j : Nat) : Int) := by
    rw [show (256 : Nat) = 2 ^ 8 from rfl, ← Nat.pow_mul, Int.natCast_pow]
    rfl
  rw [u8i, e]
  rfl
theorem bigL_take_succ (k x m : Nat) (h : m < k) : (bigL k x).take (m + 1) = (bigL k x).take m ++ [UInt8.ofNat (x / 256 ^ (k - m - 1))] := by
  rw [List.take_succ_eq_append_getElem (by rw [bigL_length]; exact h), bigL_get, show k - 1 - m = k - m - 1 from by omega]

set_option maxRecDepth 100000 in
set_option maxHeartbeats 400000 in
theorem refBig_any (x k : Nat) (hx : x < 18446744073709551616) (hk : k ≤ 8) (w : World) : Calls Try.prog 22 #[.int .u64 x, .int .i64 k] w fun e w' => ∃ a c, e = .returned (.slice a k c) ∧ BOwn w' w.heap.size a k c (bigL k x) ∧ w.grownBy w' none := by
  go_enter Try.func22, Try.ntmps22
  go_wp2
  go_loopw [5, 6] (fun v i wr => ∃ (m : Nat) (a : Option Addr) (c : Nat), m ≤ k ∧ i = .int .i64 ((k : Int) - (m : Int) - 1) ∧ v = .slice a m c ∧ BOwn wr w.heap.size a m c ((bigL k x).take m) ∧ w.grownBy wr none) (fun _ i _ => (intOf i + 1).toNat)
  case atStart => exact ⟨0, none, 0, by omega, by go_num, rfl, Own.nil _ _ _ _ _, World.grownBy.refl _ _⟩
  case round =>
    obtain ⟨m, a, c, hm, rfl, rfl, hown, hg⟩ := hrel
    have hsz := hg.size
    by_cases hlt : m < k
    · go_wp2_with (at_builtin; refine wpList_push elB rfl (.tmp 13) (.tmp 20) rfl rfl hown (.int .u8 ((x : Int) / 2 ^ (8 * (k - m - 1)) % 256)) rfl rfl (by unfold maxLen; omega) (by omega) hsz ?_; intro g cap w1 hown1 hgr)
      go_roundw
      case rel => exact ⟨m + 1, _, _, by omega, by go_num, rfl, by unfold BOwn; rw [bigL_take_succ _ _ _ hlt, List.map_append]; rw [shr_byte] at hown1; exact hown1, hgr.grew.grown hown hg (Nat.le_refl _)⟩
      case measure => simp [intOf]; omega
    · obtain rfl : m = k := by omega
      go_wp2
      go_ret
      exact ⟨a, c, rfl, by rw [List.take_of_length_le (by rw [bigL_length]; exact Nat.le_refl _)] at hown; exact hown, hg⟩

set_option maxRecDepth 100000 in
set_option maxHeartbeats 400000 in
theorem refSmall_any (a : Option Addr) (c n k : Nat) (l : List UInt8) (w : World) (ha : BLies w a l) (hn : l.length = n) (hm : n ≤ maxLen) (hk : k ≤ 8) :
    Calls Try.prog 27 #[.slice a n c, .int .i64 k] w fun e w' => e = .returned (if n < k then .tuple #[.int .u64 0, .int .i64 10] else if k < n then .tuple #[.int .u64 0, .int .i64 11] else .tuple #[.int .u64 (smallL l), .int .i64 0]) ∧ w = w' := by
  unfold maxLen at hm
  by_cases h1 : n < k
  · have e : ∀ x y : Value, (if n < k then x else y) = x := fun x y => by rw [if_pos h1]
    rw [e]
    clear e
    go_enter Try.func27, Try.ntmps27
    go_wp2
    go_ret2
    exact ⟨rfl, rfl⟩
  by_cases h2 : k < n
  · have e : ∀ x y z : Value, (if n < k then x else if k < n then y else z) = y := fun x y z => by rw [if_neg h1, if_pos h2]
    rw [e]
    clear e
    go_enter Try.func27, Try.ntmps27
    go_wp2
    go_ret2
    exact ⟨rfl, rfl⟩
  have e : ∀ x y z : Value, (if n < k then x else if k < n then y else z) = z := fun x y z => by rw [if_neg h1, if_neg h2]
  rw [e]
  clear e
  obtain rfl : n = k := by omega
  clear h1 h2
  have HA : Hid (BLies w a l) := ha
  have HN := Lib.hid hn
  clear ha hn hm
  go_enter Try.func27, Try.ntmps27
  go_wp2
  go_loop [6, 7] (fun x i => ∃ k : Nat, k ≤ n ∧ i = .int .i64 k ∧ x = .int .u64 (smallL (l.take k))) (fun _ i => n - (intOf i).toNat)
  case atStart => exact ⟨0, by omega, rfl, rfl⟩
  case round =>
    obtain ⟨k, hk, rfl, rfl⟩ := hrel
    by_cases hlt : k < n
    · obtain ⟨b, off, rfl, hc⟩ := HA.out k (by rw [HN.out]; exact hlt)
      have hle := smallL_le (l := l) (k := k) (by rw [HN.out]; omega) (by omega)
      have hb := (l[k]'(by rw [HN.out]; exact hlt)).toNat_lt
      go_wp2
      go_round
      case rel => exact ⟨k + 1, by omega, by go_num, by rw [smallL_take (by rw [HN.out]; exact hlt)]; go_num⟩
      case measure => simp [intOf]; omega
    · obtain rfl : k = n := by omega
      have e0 : l.take k = l := List.take_of_length_le (by rw [HN.out]; omega)
      rw [e0]
      clear e0
      go_wp2
      go_ret2
      exact ⟨rfl, rfl⟩

end Go.Proofs.Ythemlaibjchjpaa
/- octet.Framed; the document's Join and Framed. -/
namespace Go.Proofs.Ythemlaibjchjpaa
open Go.RowKit

theorem wpList_appB {ops : Array Oper} {rest : List Oper} {o : Oper} {a : Act} {w : World} {Q : Exit → Act → World → Prop} (hg : o.guard = none) (x y : Operand) (ho : o.op = .call { callee := .builtin .append, args := #[x, y], argTypes := #[22, 22] })
    {base : Nat} {a1 : Option Addr} {n c : Nat} {l : List UInt8} {sa : Option Addr} {m sc : Nat} {s : List UInt8} (hx : a.eval x = .slice a1 n c) (hy : a.eval y = .slice sa m sc) (hown : BOwn w base a1 n c l) (hs : BLies w sa s) (hm : s.length = m) (hb : n + m ≤ 4000000100) (hbase : base ≤ w.heap.size)
    (h : ∀ a' c' w1, BOwn w1 base a' (n + m) c' (l ++ s) → Ch (In a1 c) w w1 → (∀ g, In a' c' g → In a1 c g ∨ w.heap.size ≤ g) → wpList Try.prog ops Q rest (a.put o.dst (.slice a' (n + m) c')) w1) : wpList Try.prog ops Q (o :: rest) a w := by
  obtain ⟨a', c', w1, hr, h1, h2, h3⟩ := run_appB w hown sa m sc s hs hm hb hbase o.type
  refine wpList_plain hg fun K hK => ?_
  unfold Oper.wp
  simp [execOp, ho, resolve, invoke, builtin, hx, hy, hr, Result.andThen]
  exact hK _ _ (h a' c' w1 h1 h2 h3)
/-- the cell of a list of slices -/
theorem LLies.at_ {w : World} {a : Option Addr} {L : List Sl} {bs : List (List UInt8)} (h : LLies w a L bs) (i : Nat) (hi : i < bs.length) : ∃ (g o : Nat) (sl : Sl), a = some ⟨g, o, none⟩ ∧ w.cell? ⟨g, o + i, none⟩ = some (.slice sl.a sl.n sl.c) ∧ BLies w sl.a bs[i] ∧ (bs[i]).length = sl.n := by
  have hiL : i < L.length := by rw [h.2.1]; exact hi
  obtain ⟨g, o, haa, hc⟩ := h.1 i (by rw [List.length_map]; exact hiL)
  obtain ⟨h1, h2⟩ := h.2.2 i hiL hi
  exact ⟨g, o, L[i], haa, by rw [hc]; simp [Sl.val], h1, h2.symm⟩
theorem flat_le {bs : List (List UInt8)} (i : Nat) (hi : i < bs.length) : (bs[i]).length + (bs.take i).flatten.length ≤ bs.flatten.length := by
  have h : bs = bs.take i ++ bs[i] :: bs.drop (i + 1) := by
    rw [← List.drop_eq_getElem_cons hi, List.take_append_drop]
  have h2 := congrArg (fun l => (List.flatten l).length) h
  simp only [List.flatten_append, List.length_append, List.flatten_cons] at h2
  omega

set_option maxRecDepth 100000 in
set_option maxHeartbeats 4000000 in
theorem refJoin_n (a : Option Addr) (c K : Nat) (L : List Sl) (bs : List (List UInt8)) (w : World) (hL : LLies w a L bs) (hK : bs.length = K) (hf : bs.flatten.length ≤ 1000000000) (hK2 : K ≤ 100000000) :
    Calls Try.prog 55 #[.slice a K c] w fun e w' => ∃ a' m c', e = .returned (.slice a' m c') ∧ BOwn w' w.heap.size a' m c' bs.flatten ∧ w.grownBy w' none := by
  have HLL := Lib.hid hL
  have HK := Lib.hid hK
  have HF := Lib.hid hf
  clear hL hK hf
  go_enter Try.func55, Try.ntmps55
  go_wp2_with fail
  go_loopw [3, 4] (fun vo vi wr => ∃ (i m : Nat) (ao : Option Addr) (co : Nat), i ≤ K ∧ vi = .int .i64 i ∧ vo = .slice ao m co ∧ BOwn wr w.heap.size ao m co (List.flatten (bs.take i)) ∧ w.grownBy wr none) (fun _ vi _ => K - (intOf vi).toNat)
  case atStart => exact ⟨0, 0, none, 0, Nat.zero_le _, rfl, rfl, Own.nil _ _ _ _ _, World.grownBy.refl _ _⟩
  case round =>
    obtain ⟨i, m, ao, co, hi, rfl, rfl, ho, hg⟩ := hrel
    have HO := Lib.hid ho
    have HG := Lib.hid hg
    have HM := Lib.hid ho.len
    clear ho hg
    by_cases hlt : i < K
    · have hib : i < bs.length := by rw [HK.out]; exact hlt
      obtain ⟨g, o, ⟨sa, sn, sc⟩, haa, hc0, hpl0, hpn⟩ := HLL.out.at_ i hib
      subst haa
      have hcg : ∀ u, w.grownBy u none → u.cell? ⟨g, o + i, none⟩ = some (.slice sa sn sc) := fun u hu => (World.cell?_of_block (hu.block g (World.block_lt_of_cell? _ _ hc0) (by simp))).trans hc0
      have HCG := Lib.hid hcg
      have HPG0 : Hid (∀ u, w.grownBy u none → BLies u sa bs[i]) := Lib.hid (fun u hu => hpl0.grown hu)
      have hc := hcg wr HG.out
      have hpl := HPG0.out wr HG.out
      clear hcg hc0 hpl0
      obtain ⟨p, hp⟩ : ∃ p, p = bs[i] := ⟨_, rfl⟩
      rw [← hp] at hpl hpn
      have HPG : Hid (∀ u, w.grownBy u none → BLies u sa p) := Lib.hid (by rw [hp]; exact HPG0.out)
      simp only at hc hpl hpn
      have hfl := flat_le i hib
      rw [← hp, hpn] at hfl
      have hts : bs.take (i + 1) = bs.take i ++ [p] := by rw [List.take_succ_eq_append_getElem hib, hp]
      have HPL := Lib.hid hpl
      have HPN := Lib.hid hpn
      have HTS := Lib.hid hts
      have HFL := Lib.hid hfl
      clear hp hpl hpn hts hfl
      have hmb : m ≤ 1000000000 := by
        have h1 := HM.out
        have h2 := HFL.out
        have h3 := HF.out
        omega
      have hws : w.heap.size ≤ wr.heap.size := HG.out.size
      have hsum : m + sn ≤ 4000000100 := by
        have h1 := HM.out
        have h2 := HFL.out
        have h3 := HF.out
        omega
      go_wp2_with (at_builtin; refine wpList_appB rfl (.tmp 11) (.tmp 15) rfl rfl rfl HO.out HPL.out HPN.out hsum hws ?_; intro a5 c5 w5 ho5 hch5 hin5; have HO5 := Lib.hid ho5; have HCH5 := Lib.hid hch5; clear ho5 hch5 hin5)
      go_roundw
      case rel => exact ⟨i + 1, _, _, _, by omega, by go_num, rfl, by rw [HTS.out, List.flatten_append]; simpa using HO5.out, Ch.fresh HG.out HCH5.out (fun g hg h => by have := (Own.inn HO.out h).1; omega)⟩
      case measure => simp [intOf] <;> omega
    · obtain rfl : i = K := by omega
      have htk : bs.take i = bs := List.take_of_length_le (by rw [HK.out]; exact Nat.le_refl _)
      rw [htk] at HO
      go_wp2_with fail
      go_ret
      exact ⟨_, _, _, rfl, HO.out, HG.out⟩

set_option maxRecDepth 100000 in
set_option maxHeartbeats 4000000 in
theorem framed_n (a : Option Addr) (c K : Nat) (L : List Sl) (bs : List (List UInt8)) (w : World) (hL : LLies w a L bs) (hK : bs.length = K) (hf : bs.flatten.length ≤ 1000000000) (hK2 : K ≤ 100000000) :
    Calls Try.prog 47 #[.slice a K c] w fun e w' => ∃ a' m c', e = .returned (.slice a' m c') ∧ BOwn w' w.heap.size a' m c' (fr bs) ∧ w.grownBy w' none := by
  have HLL := Lib.hid hL
  have HK := Lib.hid hK
  have HF := Lib.hid hf
  clear hL hK hf
  go_enter Try.func47, Try.ntmps47
  go_wp2_with fail
  go_loopw [3, 8] (fun vo vi wr => ∃ (i m : Nat) (ao : Option Addr) (co : Nat), i ≤ K ∧ vi = .int .i64 i ∧ vo = .slice ao m co ∧ BOwn wr w.heap.size ao m co (fr (bs.take i)) ∧ w.grownBy wr none) (fun _ vi _ => K - (intOf vi).toNat)
  case atStart => exact ⟨0, 0, none, 0, Nat.zero_le _, rfl, rfl, Own.nil _ _ _ _ _, World.grownBy.refl _ _⟩
  case round =>
    obtain ⟨i, m, ao, co, hi, rfl, rfl, ho, hg⟩ := hrel
    have HO := Lib.hid ho
    have HG := Lib.hid hg
    have HM := Lib.hid ho.len
    clear ho hg
    by_cases hlt : i < K
    · have hib : i < bs.length := by rw [HK.out]; exact hlt
      obtain ⟨g, o, ⟨sa, sn, sc⟩, haa, hc0, hpl0, hpn⟩ := HLL.out.at_ i hib
      subst haa
      have hcg : ∀ u, w.grownBy u none → u.cell? ⟨g, o + i, none⟩ = some (.slice sa sn sc) := fun u hu => (World.cell?_of_block (hu.block g (World.block_lt_of_cell? _ _ hc0) (by simp))).trans hc0
      have HCG := Lib.hid hcg
      have HPG0 : Hid (∀ u, w.grownBy u none → BLies u sa bs[i]) := Lib.hid (fun u hu => hpl0.grown hu)
      have hc := hcg wr HG.out
      have hpl := HPG0.out wr HG.out
      clear hcg hc0 hpl0
      obtain ⟨p, hp⟩ : ∃ p, p = bs[i] := ⟨_, rfl⟩
      rw [← hp] at hpl hpn
      have HPG : Hid (∀ u, w.grownBy u none → BLies u sa p) := Lib.hid (by rw [hp]; exact HPG0.out)
      simp only at hc hpl hpn
      have hfl := flat_le i hib
      rw [← hp, hpn] at hfl
      have hts : bs.take (i + 1) = bs.take i ++ [p] := by rw [List.take_succ_eq_append_getElem hib, hp]
      have HPL := Lib.hid hpl
      have HPN := Lib.hid hpn
      have HTS := Lib.hid hts
      have HFL := Lib.hid hfl
      clear hp hpl hpn hts hfl
      have hlen : m = 8 * i + (bs.take i).flatten.length := by
        have h1 := HM.out
        rw [fr_length, List.length_take, HK.out] at h1
        omega
      have hws : w.heap.size ≤ wr.heap.size := HG.out.size
      have hs1 : m + 8 ≤ 4000000100 := by
        have h2 := HFL.out
        have h3 := HF.out
        omega
      have hs2 : m + 8 + sn ≤ 4000000100 := by
        have h2 := HFL.out
        have h3 := HF.out
        omega
      have hsn : sn < 18446744073709551616 := by
        have h2 := HFL.out
        have h3 := HF.out
        omega
      have hcu : IntKind.u64.wrap (sn : Int) = (sn : Int) := IntWalk.u64_in _ (by omega)
      have HCU := Lib.hid hcu
      clear hcu hlen
      have hcu := HCU.out
      go_wp2_with (first
        | (go_at_call 50; refine (big64_any sn hsn _).mono ?_; rintro e w4 ⟨rfl, rfl⟩; have HB4 := Lib.hid (BRow.lies (t := 5) (show BRow (wr.alloc (.cells ((bigL 8 sn).map bval).toArray 5)) wr.heap.size 5 (bigL 8 sn) from heap_alloc_new wr _)); have HO4 := Lib.hid (HO.out.grown (World.grownBy_alloc wr (.cells ((bigL 8 sn).map bval).toArray 5) none)); have HG4 := Lib.hid (grownBy_trans HG.out (World.grownBy_alloc wr (.cells ((bigL 8 sn).map bval).toArray 5) none)); have HZ4 := Lib.hid (World.grownBy_alloc wr (.cells ((bigL 8 sn).map bval).toArray 5) none).size)
        | (at_builtin; refine wpList_appB rfl (.tmp 12) (.tmp 16) rfl rfl rfl HO4.out HB4.out (bigL_length 8 sn) hs1 (Nat.le_trans hws HZ4.out) ?_; intro a5 c5 w5 ho5 hch5 hin5; have HO5 := Lib.hid ho5; have HG5 := Lib.hid (Ch.fresh HG4.out hch5 (fun g hg h => by have := (Own.inn HO4.out h).1; omega)); have HZ5 := Lib.hid (Nat.le_trans HZ4.out hch5.size); have hc5 := HCG.out _ HG5.out; clear ho5 hch5 hin5)
        | (at_builtin; refine wpList_appB rfl (.tmp 18) (.tmp 19) rfl rfl rfl HO5.out (HPG.out _ HG5.out) HPN.out hs2 (Nat.le_trans hws HZ5.out) ?_; intro a6 c6 w6 ho6 hch6 hin6; have HO6 := Lib.hid ho6; have HG6 := Lib.hid (Ch.fresh HG5.out hch6 (fun g hg h => by have := (Own.inn HO5.out h).1; omega)); clear ho6 hch6 hin6))
      clear hcu
      go_roundw
      case rel => exact ⟨i + 1, _, _, _, by omega, by go_num, rfl, by rw [HTS.out, fr_snoc, ← List.append_assoc, HPN.out]; exact HO6.out, HG6.out⟩
      case measure => simp [intOf] <;> omega
    · obtain rfl : i = K := by omega
      have htk : bs.take i = bs := List.take_of_length_le (by rw [HK.out]; exact Nat.le_refl _)
      rw [htk] at HO
      go_wp2_with fail
      go_ret
      exact ⟨_, _, _, rfl, HO.out, HG.out⟩

set_option maxRecDepth 100000 in
set_option maxHeartbeats 4000000 in
theorem refFramed_n (a : Option Addr) (c K : Nat) (L : List Sl) (bs : List (List UInt8)) (w : World) (hL : LLies w a L bs) (hK : bs.length = K) (hf : bs.flatten.length ≤ 1000000000) (hK2 : K ≤ 100000000) :
    Calls Try.prog 56 #[.slice a K c] w fun e w' => ∃ a' m c', e = .returned (.slice a' m c') ∧ BOwn w' w.heap.size a' m c' (fr bs) ∧ w.grownBy w' none := by
  have HLL := Lib.hid hL
  have HK := Lib.hid hK
  have HF := Lib.hid hf
  clear hL hK hf
  go_enter Try.func56, Try.ntmps56
  go_wp2_with fail
  go_loopw [3, 4] (fun vo vi wr => ∃ (i m : Nat) (ao : Option Addr) (co : Nat), i ≤ K ∧ vi = .int .i64 i ∧ vo = .slice ao m co ∧ BOwn wr w.heap.size ao m co (fr (bs.take i)) ∧ w.grownBy wr none) (fun _ vi _ => K - (intOf vi).toNat)
  case atStart => exact ⟨0, 0, none, 0, Nat.zero_le _, rfl, rfl, Own.nil _ _ _ _ _, World.grownBy.refl _ _⟩
  case round =>
    obtain ⟨i, m, ao, co, hi, rfl, rfl, ho, hg⟩ := hrel
    have HO := Lib.hid ho
    have HG := Lib.hid hg
    have HM := Lib.hid ho.len
    clear ho hg
    by_cases hlt : i < K
    · have hib : i < bs.length := by rw [HK.out]; exact hlt
      obtain ⟨g, o, ⟨sa, sn, sc⟩, haa, hc0, hpl0, hpn⟩ := HLL.out.at_ i hib
      subst haa
      have hcg : ∀ u, w.grownBy u none → u.cell? ⟨g, o + i, none⟩ = some (.slice sa sn sc) := fun u hu => (World.cell?_of_block (hu.block g (World.block_lt_of_cell? _ _ hc0) (by simp))).trans hc0
      have HCG := Lib.hid hcg
      have HPG0 : Hid (∀ u, w.grownBy u none → BLies u sa bs[i]) := Lib.hid (fun u hu => hpl0.grown hu)
      have hc := hcg wr HG.out
      have hpl := HPG0.out wr HG.out
      clear hcg hc0 hpl0
      obtain ⟨p, hp⟩ : ∃ p, p = bs[i] := ⟨_, rfl⟩
      rw [← hp] at hpl hpn
      have HPG : Hid (∀ u, w.grownBy u none → BLies u sa p) := Lib.hid (by rw [hp]; exact HPG0.out)
      simp only at hc hpl hpn
      have hfl := flat_le i hib
      rw [← hp, hpn] at hfl
      have hts : bs.take (i + 1) = bs.take i ++ [p] := by rw [List.take_succ_eq_append_getElem hib, hp]
      have HPL := Lib.hid hpl
      have HPN := Lib.hid hpn
      have HTS := Lib.hid hts
      have HFL := Lib.hid hfl
      clear hp hpl hpn hts hfl
      have hlen : m = 8 * i + (bs.take i).flatten.length := by
        have h1 := HM.out
        rw [fr_length, List.length_take, HK.out] at h1
        omega
      have hws : w.heap.size ≤ wr.heap.size := HG.out.size
      have hs1 : m + 8 ≤ 4000000100 := by
        have h2 := HFL.out
        have h3 := HF.out
        omega
      have hs2 : m + 8 + sn ≤ 4000000100 := by
        have h2 := HFL.out
        have h3 := HF.out
        omega
      have hsn : sn < 18446744073709551616 := by
        have h2 := HFL.out
        have h3 := HF.out
        omega
      have hcu : IntKind.u64.wrap (sn : Int) = (sn : Int) := IntWalk.u64_in _ (by omega)
      have HCU := Lib.hid hcu
      clear hcu hlen
      have hcu := HCU.out
      go_wp2_with (first
        | (go_at_call 22; refine (refBig_any sn 8 hsn (by omega) _).mono ?_; rintro e w4 ⟨a4, c4, rfl, ho4, hg4⟩; have HB4 := Lib.hid (BOwn.lies ho4); have HO4 := Lib.hid (HO.out.grown hg4); have HG4 := Lib.hid (grownBy_trans HG.out hg4); have HZ4 := Lib.hid hg4.size; clear ho4 hg4)
        | (at_builtin; refine wpList_appB rfl (.tmp 11) (.tmp 18) rfl rfl rfl HO4.out HB4.out (bigL_length 8 sn) hs1 (Nat.le_trans hws HZ4.out) ?_; intro a5 c5 w5 ho5 hch5 hin5; have HO5 := Lib.hid ho5; have HG5 := Lib.hid (Ch.fresh HG4.out hch5 (fun g hg h => by have := (Own.inn HO4.out h).1; omega)); have HZ5 := Lib.hid (Nat.le_trans HZ4.out hch5.size); have hc5 := HCG.out _ HG5.out; clear ho5 hch5 hin5)
        | (at_builtin; refine wpList_appB rfl (.tmp 20) (.tmp 24) rfl rfl rfl HO5.out (HPG.out _ HG5.out) HPN.out hs2 (Nat.le_trans hws HZ5.out) ?_; intro a6 c6 w6 ho6 hch6 hin6; have HO6 := Lib.hid ho6; have HG6 := Lib.hid (Ch.fresh HG5.out hch6 (fun g hg h => by have := (Own.inn HO5.out h).1; omega)); clear ho6 hch6 hin6))
      clear hcu
      go_roundw
      case rel => exact ⟨i + 1, _, _, _, by omega, by go_num, rfl, by rw [HTS.out, fr_snoc, ← List.append_assoc, HPN.out]; exact HO6.out, HG6.out⟩
      case measure => simp [intOf] <;> omega
    · obtain rfl : i = K := by omega
      have htk : bs.take i = bs := List.take_of_length_le (by rw [HK.out]; exact Nat.le_refl _)
      rw [htk] at HO
      go_wp2_with fail
      go_ret
      exact ⟨_, _, _, rfl, HO.out, HG.out⟩

end Go.Proofs.Ythemlaibjchjpaa
/- octet.Unframed. -/
namespace Go.Proofs.Ythemlaibjchjpaa
open Go.RowKit

/-- one list more, made since the others -/
theorem LIs.pushC {w w1 w2 : World} {base : Nat} {a : Option Addr} {n c : Nat} {bs : List (List UInt8)} {L : List Sl} (h : LIs w base a n c bs L) (hb : base ≤ w.heap.size) (h' : LIs w1 base a n c bs L)
    {a' : Option Addr} {n' c' : Nat} {b : List UInt8} (ho : BOwn w1 w.heap.size a' n' c' b) {a2 : Option Addr} {c2 : Nat}
    (hs : Own w2 base 22 1 a2 (n + 1) c2 (L.map Sl.val ++ [.slice a' n' c'])) (hgr : GrewP w1 w2 a c a2 c2) : LIs w2 base a2 (n + 1) c2 (bs ++ [b]) (L ++ [⟨a', n', c'⟩]) := by
  have hK := h'
  obtain ⟨h1, h2, h3, h4⟩ := h
  have h1' : SOwn w1 base a n c L := h'.outer
  have hin : ∀ i (h : i < L.length) (h' : i < bs.length), BOwn w2 base (L[i]).a (L[i]).n (L[i]).c bs[i] := fun i h h' => Own.grewOther (hK.inner i h h') h1' hgr (by decide)
  have hnew : BOwn w2 base a' n' c' b := Own.grewOther (ho.mono hb) h1' hgr (by decide)
  refine ⟨?_, by simp [h2], ?_, ?_⟩
  · unfold SOwn; rw [List.map_append]; exact hs
  · intro i hi hi'
    by_cases e : i < L.length
    · have e' : i < bs.length := by omega
      rw [List.getElem_append_left e, List.getElem_append_left e']
      exact hin i e e'
    · simp only [List.length_append, List.length_singleton] at hi
      obtain rfl : i = L.length := by omega
      have e2 : (L ++ [⟨a', n', c'⟩])[L.length] = (⟨a', n', c'⟩ : Sl) := by simp
      have e3 : (bs ++ [b])[L.length] = b := by simp [h2]
      rw [e2, e3]
      exact hnew
  · have old : ∀ i (hi : i < L.length) g, (L[i]).blk = some g → g < w.heap.size := by
      intro i hi g hgb
      have hbo := h3 i hi (by omega)
      obtain ⟨hc, ha⟩ := hbo.blk hgb
      obtain ⟨g', ha', _, hlt⟩ := Own.block hbo hc
      rw [ha] at ha'
      obtain rfl : g = g' := by simpa using ha'
      exact hlt
    have new : ∀ g, (⟨a', n', c'⟩ : Sl).blk = some g → w.heap.size ≤ g := by
      intro g hgb
      have hbo : BOwn w1 w.heap.size (⟨a', n', c'⟩ : Sl).a (⟨a', n', c'⟩ : Sl).n (⟨a', n', c'⟩ : Sl).c b := ho
      obtain ⟨hc, ha⟩ := hbo.blk hgb
      obtain ⟨g', ha', hlt, _⟩ := Own.block hbo hc
      rw [ha] at ha'
      obtain rfl : g = g' := by simpa using ha'
      exact hlt
    intro i j hi hj hij g hgi hgj
    simp only [List.length_append, List.length_singleton] at hi hj
    by_cases ei : i < L.length
    · by_cases ej : j < L.length
      · rw [List.getElem_append_left ei] at hgi
        rw [List.getElem_append_left ej] at hgj
        exact h4 i j ei ej hij g hgi hgj
      · obtain rfl : j = L.length := by omega
        rw [List.getElem_append_left ei] at hgi
        have e2 : (L ++ [⟨a', n', c'⟩])[L.length]'(by simp) = (⟨a', n', c'⟩ : Sl) := by simp
        rw [e2] at hgj
        have := old i ei g hgi
        have := new g hgj
        omega
    · obtain rfl : i = L.length := by omega
      have ej : j < L.length := by omega
      rw [List.getElem_append_left ej] at hgj
      have e2 : (L ++ [⟨a', n', c'⟩])[L.length]'(by simp) = (⟨a', n', c'⟩ : Sl) := by simp
      rw [e2] at hgi
      have := old j ej g hgj
      have := new g hgi
      omega
theorem LIs.liesT {w : World} {base : Nat} {a : Option Addr} {n c : Nat} {bs : List (List UInt8)} {L : List Sl} (h : LIs w base a n c bs L) : LLies w a L bs := by
  refine ⟨?_, h.len, fun i h1 h2 => ⟨(h.inner i h1 h2).lies, (h.inner i h1 h2).len.symm⟩⟩
  intro k hk
  obtain ⟨g, e, _, _, hc, _⟩ := Own.cell h.outer k hk
  exact ⟨g, 0, e, by rw [Nat.zero_add, hc]⟩

theorem LIs.chT {w w' : World} {base : Nat} {a : Option Addr} {n c : Nat} {bs : List (List UInt8)} {L : List Sl} {S : Nat → Prop} (h : LIs w base a n c bs L) (hc : Ch S w w') (ho : ∀ g, In a c g → ¬ S g) (hi : ∀ i (hi : i < L.length) g, In (L[i]).a (L[i]).c g → ¬ S g) : LIs w' base a n c bs L :=
  ⟨Own.ch h.outer hc (fun h0 g e => ho g ⟨h0, e⟩), h.len, fun i h1 h2 => Own.ch (h.inner i h1 h2) hc (fun h0 g e => hi i h1 g ⟨h0, e⟩), h.apart⟩


/-- Unframed: the lists, the error -/
def unP (l : List UInt8) : List (List UInt8) := (unf l).getD []
def unE (l : List UInt8) : Nat := if (unf l).isSome = true then 0 else 13
/-- how much is left to do -/
def rmeas (g : Nat) (w : World) : Nat :=
  match w.cell? ⟨g, 2, none⟩, w.cell? ⟨g, 0, none⟩ with
  | some (.bool false), some (.slice _ m _) => m + 1
  | _, _ => 0
theorem rmeas_eq {w : World} {g : Nat} {f : Bool} {rem : List UInt8} {la : Option Addr} {lm lc : Nat} (h : Rdr w g f rem la lm lc) : rmeas g w = if f = true then 0 else lm + 1 := by
  have c0 := Row.cell h.row 0
  have c2 := Row.cell h.row 2
  simp at c0 c2
  unfold rmeas
  rw [c0, c2]
  cases f <;> rfl
theorem Rdr.app {w2 w3 : World} {g B : Nat} {f : Bool} {rem : List UInt8} {la : Option Addr} {lm lc : Nat} {e : TypeId} {n c c' : Nat} {a a' : Option Addr} {xs : List Value} (h : Rdr w2 g f rem la lm lc) (ho : Own w2 B e 1 a n c xs) (hg : GrewP w2 w3 a c a' c') (hgB : g < B)
    (hlb : 0 < lm → ∀ b off, la = some ⟨b, off, none⟩ → b < B) : Rdr w3 g f rem la lm lc := by
  have hch := hg.ch
  have hin : ∀ x, In a c x → B ≤ x := fun x hx => (Own.inn ho hx).1
  refine ⟨h.row.ch hch (fun h => by have := hin _ h; omega), ?_, h.len, h.cap, h.big, h.apart⟩
  by_cases h0 : 0 < lm
  · exact BLies.ch h.lies hch (fun b' off' e hh => by
      have h1 := hin _ hh
      have h2 := hlb h0 b' off' e
      omega)
  · have h3 := h.len
    intro i hi; omega
set_option maxRecDepth 100000 in
set_option maxHeartbeats 4000000 in
theorem unframed_n (a : Option Addr) (c n : Nat) (l : List UInt8) (w : World) (ha : BLies w a l) (hl : l.length = n) (hn : n ≤ 1000000000) :
    Calls Try.prog 48 #[.slice a n c] w fun e w' => ∃ ao co L, e = .returned (.tuple #[.slice ao (unP l).length co, .int .i64 (unE l : Nat)]) ∧ LIs w' w.heap.size ao (unP l).length co (unP l) L ∧ w.grownBy w' none := by
  have HNR := Lib.hid (newReader_n a c n l w ha hl (by omega))
  clear ha
  go_enter Try.func48, Try.ntmps48
  go_wp2_with fail
  refine HNR.out.mono ?_
  rintro e w1 ⟨g, la0, lc0, rfl, hg0, hr, hg⟩
  have HR := Lib.hid hr
  have HG := Lib.hid hg
  have HG0 := Lib.hid hg0
  have hgl : g < w1.heap.size := hr.row.lt
  have hlb : 0 < n → ∀ b off, la0 = some ⟨b, off, none⟩ → b < w1.heap.size := fun h0 b off e => by
    have h1 := hr.len
    obtain ⟨b', off', e', hc⟩ := hr.lies 0 (by omega)
    rw [e] at e'
    injection e' with e'; injection e' with e1 e2
    subst e1
    exact World.block_lt_of_cell? _ _ hc
  have HLB := Lib.hid hlb
  obtain ⟨B, hB⟩ : ∃ B, B = w1.heap.size := ⟨_, rfl⟩
  rw [← hB] at hgl HLB
  have hb1 : B ≤ w1.heap.size := by rw [hB]; exact Nat.le_refl _
  have HGL := Lib.hid hgl
  have HWB := Lib.hid (show w.heap.size ≤ B by rw [hB]; exact HG.out.size)
  have HLN := Lib.hid hl
  clear hr hg hg0 hlb hB hgl HNR hl
  go_wp2_with fail
  go_loopw [4] (fun vo wr => ∃ (K : Nat) (ao : Option Addr) (co : Nat) (ps : List (List UInt8)) (L : List Sl) (f : Bool) (rem : List UInt8) (la : Option Addr) (lm lc : Nat), vo = .slice ao K co ∧ LIs wr B ao K co ps L ∧ Rdr wr g f rem la lm lc ∧ ((f = false ∧ unf l = (unf rem).map (ps ++ ·)) ∨ (f = true ∧ unf l = none)) ∧
      (f = false → 8 * K + lm ≤ n) ∧ K ≤ n + 1 ∧ lm ≤ n ∧ w.grownBy wr none ∧ B ≤ wr.heap.size ∧ (0 < lm → ∀ b off, la = some ⟨b, off, none⟩ → b < B)) (fun _ wr => rmeas g wr)
  case atStart => exact ⟨0, none, 0, [], [], false, l, la0, n, lc0, rfl, ⟨Own.nil _ _ _ _ _, rfl, fun i h => absurd h (by simp), fun i j h => absurd h (by simp)⟩, HR.out, .inl ⟨rfl, by cases unf l <;> simp⟩, fun _ => by omega, by omega, Nat.le_refl _, HG.out, hb1, HLB.out⟩
  case round =>
    obtain ⟨K, ao, co, ps, L, f, rem, la, lm, lc, rfl, hli, hr, hst, hkl, hk1, hlm, hg, hbs, hlb⟩ := hrel
    replace HR := Lib.hid hr
    have HLI := Lib.hid hli
    have HST := Lib.hid hst
    replace HG := Lib.hid hg
    have HBS := Lib.hid hbs
    replace HLB := Lib.hid hlb
    have HRM := Lib.hid (rmeas_eq hr)
    clear hr hli hst hg hbs hlb
    go_wp2_with fail
    refine (leftf_n g f rem la lm lc _ HR.out).mono ?_
    rintro e w2 ⟨rfl, rfl⟩
    cases f with
    | true =>
      have hu : unf l = none := by
        rcases HST.out with ⟨h, _⟩ | ⟨_, h⟩
        · cases h
        · exact h
      have HU := Lib.hid hu
      clear hu hkl
      rw [if_pos rfl]
      go_wp2_with fail
      refine (end_n g true rem la lm lc _ HR.out).mono ?_
      rintro e w3 ⟨rfl, rfl⟩
      rw [if_pos rfl]
      go_wp2_with fail
      go_ret2
      refine ⟨none, 0, [], ?_, ?_, HG.out⟩
      · unfold unP unE; rw [HU.out]; rfl
      · unfold unP; rw [HU.out]; exact ⟨Own.nil _ _ _ _ _, rfl, fun i h => absurd h (by simp), fun i j h => absurd h (by simp)⟩
    | false =>
      have hu : unf l = (unf rem).map (ps ++ ·) := by
        rcases HST.out with ⟨_, h⟩ | ⟨h, _⟩
        · exact h
        · cases h
      have HU := Lib.hid hu
      have hkl2 := hkl rfl
      clear hu hkl
      rw [if_neg (by simp)]
      rcases Nat.eq_zero_or_pos lm with h0 | h0
      · subst h0
        have hrem : rem = [] := List.eq_nil_of_length_eq_zero HR.out.len
        have hu2 : unf l = some ps := by rw [HU.out, hrem, unf_nil]; simp
        have HU2 := Lib.hid hu2
        have hKp : ps.length = K := by have h1 := HLI.out.len; have h2 := HLI.out.outer.1; simp at h2; omega
        clear hrem hu2
        go_wp2_with fail
        refine (end_n g false rem la 0 lc _ HR.out).mono ?_
        rintro e w3 ⟨rfl, rfl⟩
        rw [if_neg (by simp), if_neg (by omega)]
        go_wp2_with fail
        go_ret2
        refine ⟨ao, co, L, ?_, ?_, HG.out⟩
        · unfold unP unE; rw [HU2.out]; simp [hKp]
        · unfold unP; rw [HU2.out]
          show LIs _ _ _ ps.length _ ps _
          rw [hKp]
          exact ⟨Own.mono HLI.out.outer HWB.out, HLI.out.len, fun i h1 h2 => Own.mono (HLI.out.inner i h1 h2) HWB.out, HLI.out.apart⟩
      · have hd0 : decide ((0 : Int) < (lm : Int)) = true := decide_eq_true (by omega)
        have hd0' : decide (0 < lm) = true := decide_eq_true h0
        go_wp2_with fail
        refine (long_n g false rem la lm lc _ HR.out).mono ?_
        rintro e w3 ⟨ok, p, f2, rem2, la2, lm2, lc2, rfl, hd, hr2, hg2, hs2⟩
        have HR2 := Lib.hid hr2
        have HG2 := Lib.hid hg2
        have HS2 := Lib.hid hs2
        have HD := Lib.hid hd
        have HRL := Lib.hid HR.out.len
        clear hr2 hg2 hs2 hd
        rcases HD.out with ⟨rfl, _, _, h8, rfl, rfl, rfl⟩ | ⟨rfl, h8, rfl, rfl, rfl⟩
        · have h8' : 8 ≤ rem.length := by omega
          have hl2 : lm2 = rem.length - 8 := by have := HR2.out.len; simp at this; omega
          obtain ⟨v, hv⟩ : ∃ v, v = smallL (rem.take 8) := ⟨_, rfl⟩
          have hlt : v < 18446744073709551616 := by have := smallL_lt 8 (rem.take 8) (by rw [List.length_take, Nat.min_eq_left h8']); rw [hv]; simpa using this
          have HV := Lib.hid hv
          have hR2' : Rdr w3 g false (rem.drop 8) la2 lm2 lc2 := HR2.out
          clear HR2 HD
          have HR2 := Lib.hid hR2'
          clear hR2'
          have hlm2 : lm2 ≤ lm := by have := HRL.out; omega
          have hwr : IntKind.u64.wrap (lm2 : Int) = (lm2 : Int) := IntWalk.u64_in _ (by omega)
          simp only [if_true]
          rw [show smallL (rem.take (Int.toNat 8)) = v from hv.symm]
          have HL2 := Lib.hid hl2
          have H8 := Lib.hid h8'
          clear hv hl2 h8 h8'
          rcases Nat.lt_or_ge lm2 v with hc | hc
          · have hcd : decide ((lm2 : Int) < (v : Int)) = true := decide_eq_true (by omega)
            go_wp2_with fail
            refine (leftf_n g false _ la2 lm2 lc2 _ HR2.out).mono ?_
            rintro e w4 ⟨rfl, rfl⟩
            rw [if_neg (by simp)]
            go_wp2_with fail
            go_ret2
            have hu3 : unf l = none := by rw [HU.out, unf_long H8.out (by have := HV.out; have := HL2.out; omega)]; rfl
            refine ⟨none, 0, [], ?_, ?_, Ch.fresh HG.out (Ch.ofSome (S := fun x => x = g) HG2.out rfl) (fun x h1 h2 => by have := HG0.out; omega)⟩
            · unfold unP unE; rw [hu3]; rfl
            · unfold unP; rw [hu3]; exact ⟨Own.nil _ _ _ _ _, rfl, fun i h => absurd h (by simp), fun i j h => absurd h (by simp)⟩
          · have hcd : decide ((lm2 : Int) < (v : Int)) = false := decide_eq_false (by omega)
            have hv64 : wrap64 (v : Int) = (v : Int) := IntWalk.wrap64_in _ (by omega)
            go_wp2_with fail
            refine (leftf_n g false _ la2 lm2 lc2 _ HR2.out).mono ?_
            rintro e w4 ⟨rfl, rfl⟩
            rw [if_neg (by simp)]
            go_wp2_with fail
            refine (bytes2_n g false (rem.drop 8) la2 lm2 lc2 v _ HR2.out (by have := HR2.out.len; omega)).mono ?_
            rintro e w5 ⟨a5, n5, c5, ok5, p5, f5, rem5, la5, lm5, lc5, rfl, hd5, ho5, hr5, hg5, hs5⟩
            have HD5 := Lib.hid hd5
            have HO5 := Lib.hid ho5
            have HR5 := Lib.hid hr5
            have HG5 := Lib.hid hg5
            have HS5 := Lib.hid hs5
            have hch5 : Ch (fun x => x = g) wr w5 := (Ch.ofSome (S := fun x => x = g) HG2.out rfl).trans (Ch.ofSome (S := fun x => x = g) hg5 rfl) (fun _ _ h => h)
            have hL5 : LIs w5 B ao K co ps L := LIs.chT HLI.out hch5 (fun x hx e => by subst e; have h1 := (Own.inn HLI.out.outer hx).1; have h2 := HGL.out; omega) (fun i hi x hx e => by subst e; have h1 := (Own.inn (HLI.out.inner i hi (by have := HLI.out.len; omega)) hx).1; have h2 := HGL.out; omega)
            have hL3 : LIs w3 B ao K co ps L := LIs.chT HLI.out (Ch.ofSome (S := fun x => x = g) HG2.out rfl) (fun x hx e => by subst e; have h1 := (Own.inn HLI.out.outer hx).1; have h2 := HGL.out; omega) (fun i hi x hx e => by subst e; have h1 := (Own.inn (HLI.out.inner i hi (by have := HLI.out.len; omega)) hx).1; have h2 := HGL.out; omega)
            have HL3 := Lib.hid hL3
            clear hL3
            have hGG : w.grownBy w5 none := Ch.fresh HG.out hch5 (fun x h1 h2 => by have := HG0.out; omega)
            have hB3 : B ≤ w3.heap.size := by have h1 := HBS.out; have h2 := HG2.out.size; omega
            have hB5 : B ≤ w5.heap.size := by have h2 := hg5.size; omega
            have HL5 := Lib.hid hL5
            have HGG := Lib.hid hGG
            clear hd5 ho5 hr5 hg5 hs5 hch5 hL5 hGG
            go_wp2_with (at_builtin; refine wpList_push elS rfl (.tmp 19) (.tmp 24) rfl rfl HL5.out.outer (.slice a5 n5 c5) rfl rfl (by unfold maxLen; omega) (by omega) hB5 ?_; intro g7 c7 w7 hown7 hgr7; have HO7 := Lib.hid hown7; have HGR7 := Lib.hid hgr7; clear hown7 hgr7)
            go_roundw
            case rel =>
              have hP7 := LIs.pushC HL3.out hB3 HL5.out HO5.out HO7.out HGR7.out
              have hlb5 : 0 < lm5 → ∀ b off, la5 = some ⟨b, off, none⟩ → b < B := fun h0 b off e => by
                have h1 := HR5.out.len; have h2 := HR2.out.len; have h3 := HRL.out; obtain ⟨o1, e1⟩ := HS5.out h0 b off e; obtain ⟨o2, e2⟩ := HS2.out (by rcases HD5.out with ⟨_, _, _, _, _, _, h6⟩ | ⟨_, _, _, _, h6⟩ <;> rw [h6] at h1 <;> simp at h1 h2 <;> omega) b o1 e1; exact HLB.out (by omega) b o2 e2
              refine ⟨K + 1, _, _, _, _, f5, rem5, la5, lm5, lc5, rfl, hP7, HR5.out.app HL5.out.outer HGR7.out HGL.out hlb5, ?_, ?_, by omega, ?_, Ch.fresh HGG.out HGR7.out.ch (fun x h1 h2 => by have := (Own.inn HL5.out.outer h2).1; have := HWB.out; omega), Nat.le_trans hB5 HGR7.out.ch.size, hlb5⟩
              · rcases HD5.out with ⟨_, _, _, h9, rfl, rfl, rfl⟩ | ⟨_, h9, _⟩
                · refine .inl ⟨rfl, ?_⟩
                  have hs := unf_step (l := rem) H8.out (by have := HV.out; have := HL2.out; omega)
                  rw [HU.out, hs, ← HV.out]
                  simp [Option.map_map, Function.comp_def]
                · exfalso; have h1 := HR2.out.len; rcases h9 with h | h | h
                  · cases h
                  · omega
                  · simp at h h1; omega
              · intro hf; have h4 := H8.out; rcases HD5.out with ⟨_, _, _, _, _, _, h6⟩ | ⟨_, _, _, _, h6⟩ <;> have h1 := HR5.out.len <;> rw [h6] at h1 <;> have h2 := HL2.out <;> have h3 := HRL.out <;> simp at h1 <;> omega
              · rcases HD5.out with ⟨_, _, _, _, _, _, h6⟩ | ⟨_, _, _, _, h6⟩ <;> have h1 := HR5.out.len <;> rw [h6] at h1 <;> have h2 := HL2.out <;> have h3 := HRL.out <;> simp at h1 <;> omega
            case measure =>
              rw [HRM.out, rmeas_eq (HR5.out.app HL5.out.outer HGR7.out HGL.out (fun h0 b off e => by
                have h1 := HR5.out.len; have h2 := HR2.out.len; have h3 := HRL.out; obtain ⟨o1, e1⟩ := HS5.out h0 b off e; obtain ⟨o2, e2⟩ := HS2.out (by rcases HD5.out with ⟨_, _, _, _, _, _, h6⟩ | ⟨_, _, _, _, h6⟩ <;> rw [h6] at h1 <;> simp at h1 h2 <;> omega) b o1 e1; exact HLB.out (by omega) b o2 e2))]
              have h4 := H8.out; rcases HD5.out with ⟨_, _, _, _, _, _, h6⟩ | ⟨_, _, _, _, h6⟩ <;> have h1 := HR5.out.len <;> rw [h6] at h1 <;> have h2 := HL2.out <;> have h3 := HRL.out <;> simp at h1 <;> split <;> simp <;> omega
        · have h8' : rem2.length < 8 := by rcases h8 with h | h | h <;> first | (cases h) | omega
          have hr0 : rem2 ≠ [] := fun e => by have h1 := HRL.out; rw [e] at h1; simp at h1; omega
          have hu3 : unf l = none := by rw [HU.out, unf_short hr0 h8']; rfl
          have HU3 := Lib.hid hu3
          clear hu3
          go_wp2_with fail
          refine (leftf_n g true _ la2 lm2 lc2 _ HR2.out).mono ?_
          rintro e w4 ⟨rfl, rfl⟩
          rw [if_pos rfl]
          have hl2 : lm2 = lm := by have h1 := HR2.out.len; have h2 := HRL.out; omega
          go_wp2_with fail
          refine (bytes2_n g true rem2 la2 lm2 lc2 0 _ HR2.out (by have := HR2.out.len; omega)).mono ?_
          rintro e w5 ⟨a5, n5, c5, ok5, p5, f5, rem5, la5, lm5, lc5, rfl, hd5, ho5, hr5, hg5, hs5⟩
          have HD5 := Lib.hid hd5
          have HO5 := Lib.hid ho5
          have HR5 := Lib.hid hr5
          have HG5 := Lib.hid hg5
          have HS5 := Lib.hid hs5
          have hch5 : Ch (fun x => x = g) wr w5 := (Ch.ofSome (S := fun x => x = g) HG2.out rfl).trans (Ch.ofSome (S := fun x => x = g) hg5 rfl) (fun _ _ h => h)
          have hL5 : LIs w5 B ao K co ps L := LIs.chT HLI.out hch5 (fun x hx e => by subst e; have h1 := (Own.inn HLI.out.outer hx).1; have h2 := HGL.out; omega) (fun i hi x hx e => by subst e; have h1 := (Own.inn (HLI.out.inner i hi (by have := HLI.out.len; omega)) hx).1; have h2 := HGL.out; omega)
          have hL3 : LIs w3 B ao K co ps L := LIs.chT HLI.out (Ch.ofSome (S := fun x => x = g) HG2.out rfl) (fun x hx e => by subst e; have h1 := (Own.inn HLI.out.outer hx).1; have h2 := HGL.out; omega) (fun i hi x hx e => by subst e; have h1 := (Own.inn (HLI.out.inner i hi (by have := HLI.out.len; omega)) hx).1; have h2 := HGL.out; omega)
          have HL3 := Lib.hid hL3
          clear hL3
          have hGG : w.grownBy w5 none := Ch.fresh HG.out hch5 (fun x h1 h2 => by have := HG0.out; omega)
          have hB3 : B ≤ w3.heap.size := by have h1 := HBS.out; have h2 := HG2.out.size; omega
          have hB5 : B ≤ w5.heap.size := by have h2 := hg5.size; omega
          have HL5 := Lib.hid hL5
          have HGG := Lib.hid hGG
          clear hd5 ho5 hr5 hg5 hs5 hch5 hL5 hGG
          go_wp2_with (at_builtin; refine wpList_push elS rfl (.tmp 19) (.tmp 24) rfl rfl HL5.out.outer (.slice a5 n5 c5) rfl rfl (by unfold maxLen; omega) (by omega) hB5 ?_; intro g7 c7 w7 hown7 hgr7; have HO7 := Lib.hid hown7; have HGR7 := Lib.hid hgr7; clear hown7 hgr7)
          go_roundw
          case rel =>
            have hP7 := LIs.pushC HL3.out hB3 HL5.out HO5.out HO7.out HGR7.out
            have hlb5 : 0 < lm5 → ∀ b off, la5 = some ⟨b, off, none⟩ → b < B := fun h0 b off e => by
              have h1 := HR5.out.len; have h2 := HR2.out.len; have h3 := HRL.out; have h7 : lm5 = lm2 := by { rcases HD5.out with ⟨_, h, _⟩ | ⟨_, _, _, _, h6⟩; { cases h }; { rw [h6] at h1; omega } }; obtain ⟨o1, e1⟩ := HS5.out h0 b off e; obtain ⟨o2, e2⟩ := HS2.out (by omega) b o1 e1; exact HLB.out (by omega) b o2 e2
            refine ⟨K + 1, _, _, _, _, f5, rem5, la5, lm5, lc5, rfl, hP7, HR5.out.app HL5.out.outer HGR7.out HGL.out hlb5, ?_, ?_, by omega, ?_, Ch.fresh HGG.out HGR7.out.ch (fun x h1 h2 => by have := (Own.inn HL5.out.outer h2).1; have := HWB.out; omega), Nat.le_trans hB5 HGR7.out.ch.size, hlb5⟩
            · rcases HD5.out with ⟨_, h, _⟩ | ⟨_, _, _, h, _⟩
              · cases h
              · exact .inr ⟨h, HU3.out⟩
            · intro hf; rcases HD5.out with ⟨_, h, _⟩ | ⟨_, _, _, h, _⟩
              · cases h
              · rw [h] at hf; cases hf
            · rcases HD5.out with ⟨_, h, _⟩ | ⟨_, _, _, _, h6⟩
              · cases h
              · have h1 := HR5.out.len; rw [h6] at h1; have h3 := HRL.out; omega
          case measure =>
            rw [HRM.out, rmeas_eq (HR5.out.app HL5.out.outer HGR7.out HGL.out (fun h0 b off e => by
              have h1 := HR5.out.len; have h2 := HR2.out.len; have h3 := HRL.out; have h7 : lm5 = lm2 := by { rcases HD5.out with ⟨_, h, _⟩ | ⟨_, _, _, _, h6⟩; { cases h }; { rw [h6] at h1; omega } }; obtain ⟨o1, e1⟩ := HS5.out h0 b off e; obtain ⟨o2, e2⟩ := HS2.out (by omega) b o1 e1; exact HLB.out (by omega) b o2 e2))]
            rcases HD5.out with ⟨_, h, _⟩ | ⟨_, _, _, h, _⟩
            · cases h
            · rw [h]; simp
end Go.Proofs.Ythemlaibjchjpaa
/- SameLists: what it tells. -/
namespace Go.Proofs.Ythemlaibjchjpaa
open Go.RowKit

theorem quietSL {P : Program} {f : FuncId} {args : Array Value} {w : World} {n : Nat} {v : Value} (h : Calls P f args (w.drewN n) fun e w' => e = .returned v ∧ ∃ q, w' = (w.drewN n).drewN q) : Calls P f args (w.drewN n) fun e w'' => e = .returned v ∧ ∃ m, w'' = w.drewN m :=
  h.mono fun _ _ ⟨he, q, hw⟩ => ⟨he, n + q, by rw [hw, World.drewN_drewN]⟩

/-- where list i lies -/
theorem LLies.atS {w : World} {a : Option Addr} {L : List Sl} {bs : List (List UInt8)} (h : LLies w a L bs) (i : Nat) (hi : i < bs.length) : ∃ g o sa m sc, a = some ⟨g, o, none⟩ ∧ w.cell? ⟨g, o + i, none⟩ = some (.slice sa m sc) ∧ BLies w sa bs[i] ∧ (bs[i]).length = m := by
  have hiL : i < L.length := by rw [h.2.1]; exact hi
  obtain ⟨g, o, e, hc⟩ := h.1 i (by rw [List.length_map]; exact hiL)
  obtain ⟨h1, h2⟩ := h.2.2 i hiL hi
  refine ⟨g, o, (L[i]).a, (L[i]).n, (L[i]).c, e, ?_, h1, h2.symm⟩
  rw [hc]
  simp [Sl.val]


set_option maxRecDepth 100000 in
set_option maxHeartbeats 1000000 in
theorem sameLists_n (a a' : Option Addr) (c c' n n' : Nat) (L L' : List Sl) (bs cs : List (List UInt8)) (w : World) (ha : LLies w a L bs) (hb : LLies w a' L' cs) (hn : bs.length = n) (hn' : cs.length = n') (hm : n ≤ maxLen) (hl : ∀ b ∈ bs, b.length ≤ maxLen) :
    Calls Try.prog 20 #[.slice a n c, .slice a' n' c'] w fun e w' => e = .returned (.bool (decide (bs = cs))) ∧ ∃ q, w' = w.drewN q := by
  unfold maxLen at hm
  have HA := Lib.hid ha
  have HB := Lib.hid hb
  have HN := Lib.hid hn
  have HN' := Lib.hid hn'
  have HL := Lib.hid hl
  clear ha hb hn hn' hl
  by_cases hnn : n = n'
  · subst hnn
    go_enter Try.func20, Try.ntmps20
    go_wp2_with fail
    go_loopw [5] (fun vi wr => ∃ i q : Nat, i ≤ n ∧ vi = .int .i64 i ∧ wr = w.drewN q ∧ bs.take i = cs.take i) (fun vi _ => n - (intOf vi).toNat)
    case atStart => exact ⟨0, 0, by omega, rfl, rfl, by simp⟩
    case round =>
      obtain ⟨i, q0, hi, rfl, hq0, ht⟩ := hrel
      have hgw : w.grownBy wr none := by rw [hq0]; exact grownBy_drewN _ _ _
      have HGW := Lib.hid hgw
      have HQ0 := Lib.hid hq0
      have HT := Lib.hid ht
      clear hgw hq0 ht
      by_cases hlt : i < n
      · have hib : i < bs.length := by rw [HN.out]; exact hlt
        have hic : i < cs.length := by rw [HN'.out]; exact hlt
        obtain ⟨g, o, sa, m, sc, rfl, c1, l1, h1⟩ := (HA.out.grown HGW.out).atS i hib
        obtain ⟨g', o', sa', m', sc', rfl, c2, l2, h2⟩ := (HB.out.grown HGW.out).atS i hic
        have hmx : (bs[i]).length ≤ maxLen := HL.out _ (List.getElem_mem _)
        have L1 := Lib.hid l1
        have L2 := Lib.hid l2
        have H1 := Lib.hid h1
        have H2 := Lib.hid h2
        have HMX := Lib.hid hmx
        clear l1 l2 h1 h2 hmx
        obtain ⟨r, hr⟩ : ∃ r, r = decide (bs[i] = cs[i]) := ⟨_, rfl⟩
        have HR := Lib.hid hr
        clear hr
        cases r with
        | true =>
          have he : bs[i] = cs[i] := of_decide_eq_true HR.out.symm
          have HE := Lib.hid he
          clear he
          go_wp2_with fail
          go_quiet ((go_at_call 19; exact quietSL ((same_n sa sa' sc sc' m m' _ _ _ (L1.out.drewN _) (L2.out.drewN _) H1.out H2.out (by rw [← H1.out]; exact HMX.out)).mono (fun e w' h => ⟨by rw [h.1, ← HR.out], h.2⟩))))
          go_wp2_with fail
          go_roundw
          case rel => exact ⟨i + 1, q0 + nq, by omega, by go_num, by rw [HQ0.out, World.drewN_drewN], by rw [List.take_succ_eq_append_getElem hib, List.take_succ_eq_append_getElem hic, HT.out, HE.out]⟩
          case measure => simp [intOf]; omega
        | false =>
          have he : bs[i] ≠ cs[i] := of_decide_eq_false HR.out.symm
          have HE := Lib.hid he
          clear he
          go_wp2_with fail
          go_quiet ((go_at_call 19; exact quietSL ((same_n sa sa' sc sc' m m' _ _ _ (L1.out.drewN _) (L2.out.drewN _) H1.out H2.out (by rw [← H1.out]; exact HMX.out)).mono (fun e w' h => ⟨by rw [h.1, ← HR.out], h.2⟩))))
          go_wp2_with fail
          go_ret
          exact ⟨ret_bool (by rw [eq_comm, decide_eq_false_iff_not]; intro h; exact HE.out (by simp [h])), q0 + nq, by rw [HQ0.out, World.drewN_drewN]⟩
      · obtain rfl : i = n := by omega
        go_wp2_with fail
        go_ret
        exact ⟨ret_bool (by have h1 := HT.out; have h2 := HN.out; have h3 := HN'.out; rw [eq_comm, decide_eq_true_iff]; rwa [List.take_of_length_le (by omega), List.take_of_length_le (by omega)] at h1), _, HQ0.out⟩
  · have hlb : ((n : Int) != (n' : Int)) = true := by rw [bne_iff_ne]; omega
    go_enter Try.func20, Try.ntmps20
    go_wp2_with fail
    go_ret
    exact ⟨ret_bool (by rw [eq_comm, decide_eq_false_iff_not]; intro h; exact hnn (by rw [← HN.out, ← HN'.out, h])), 0, rfl⟩
end Go.Proofs.Ythemlaibjchjpaa
/- The law OctetApart. -/
namespace Go.Proofs.Ythemlaibjchjpaa
open Go.RowKit

set_option maxRecDepth 100000 in
set_option maxHeartbeats 4000000 in
theorem octApart_walk (a0 a1 a2 : Option Addr) (c0 c1 c2 n0 n1 n2 : Nat) (L0 L1 : List Sl) (B0 B1 : List (List UInt8)) (l2 : List UInt8) (w : World) (h0 : LLies w a0 L0 B0) (h1 : LLies w a1 L1 B1) (h2 : BLies w a2 l2)
    (hn0 : B0.length = n0) (hn1 : B1.length = n1) (hn2 : l2.length = n2) (hf0 : B0.flatten.length ≤ 1048576) (hf1 : B1.flatten.length ≤ 1048576) (hk0 : n0 ≤ 1048576) (hk1 : n1 ≤ 1048576) (hk2 : n2 ≤ 1048576) :
    Calls Try.prog 10 #[.slice a0 n0 c0, .slice a1 n1 c1, .slice a2 n2 c2] w fun e w' => e = .returned (.bool true) ∧ w.grownBy w' none := by
  have fit : ∀ {B : List (List UInt8)}, B.flatten.length ≤ 1048576 → ∀ b ∈ B, b.length ≤ 1048576 := fun {B} hf b hb => by
    obtain ⟨i, hi, rfl⟩ := List.getElem_of_mem hb
    have := flat_le (bs := B) i hi
    omega
  have hb0 := fit hf0
  have hb1 := fit hf1
  have hfr : ∀ {B : List (List UInt8)} {n : Nat}, B.length = n → B.flatten.length ≤ 1048576 → n ≤ 1048576 → (fr B).length ≤ 10000000 := fun {B} {n} e hf hk => by rw [fr_length]; omega
  have hm0 := hfr hn0 hf0 hk0
  have hm1 := hfr hn1 hf1 hk1
  have hu0 : unf (fr B0) = some B0 := unf_fr B0 (fun p hp => by have := hb0 p hp; omega)
  have hinj : fr B0 = fr B1 → B0 = B1 := fr_inj (fun p hp => by have := hb0 p hp; omega) (fun p hp => by have := hb1 p hp; omega)
  have hdec : decide (fr B0 = fr B1) = decide (B0 = B1) := by
    by_cases h : B0 = B1
    · rw [h]; simp
    · rw [decide_eq_false h, decide_eq_false (fun e => h (hinj e))]
  have H0 := Lib.hid h0
  have H1 := Lib.hid h1
  have H2 := Lib.hid h2
  have HN0 := Lib.hid hn0
  have HN1 := Lib.hid hn1
  have HN2 := Lib.hid hn2
  have HF0 := Lib.hid hf0
  have HF1 := Lib.hid hf1
  have HB0 := Lib.hid hb0
  have HB1 := Lib.hid hb1
  have HM0 := Lib.hid hm0
  have HM1 := Lib.hid hm1
  have HU0 := Lib.hid hu0
  have HDC := Lib.hid hdec
  clear fit hfr h0 h1 h2 hn0 hn1 hn2 hf0 hf1 hb0 hb1 hm0 hm1 hu0 hinj hdec
  go_enter Try.func10, Try.ntmps10
  go_wp2_with fail
  refine (framed_n a0 c0 n0 L0 B0 w H0.out HN0.out (by have := HF0.out; omega) (by omega)).mono ?_
  rintro e w1 ⟨af, mf, cf, rfl, hof, hg1⟩
  have HOF := Lib.hid hof
  have HG1 := Lib.hid hg1
  clear hof hg1
  go_wp2_with fail
  refine (framed_n a1 c1 n1 L1 B1 w1 (H1.out.grown HG1.out) HN1.out (by have := HF1.out; omega) (by omega)).mono ?_
  rintro e w2 ⟨ag, mg, cg, rfl, hog, hg2⟩
  have HOG := Lib.hid hog
  have HG2 := Lib.hid (grownBy_trans HG1.out hg2)
  have HG12 := Lib.hid hg2
  clear hog hg2
  have hmf : (fr B0).length = mf := BOwn.len HOF.out
  have hmg : (fr B1).length = mg := BOwn.len HOG.out
  have HMF := Lib.hid hmf
  have HMG := Lib.hid hmg
  clear hmf hmg
  go_wp2_with fail
  refine (unframed_n af cf mf (fr B0) w2 ((BOwn.lies HOF.out).grown HG12.out) HMF.out (by have := HM0.out; have := HMF.out; omega)).mono ?_
  rintro e w3 ⟨ab, cb, Lb, rfl, hlb, hg3⟩
  rw [show unP (fr B0) = B0 by unfold unP; rw [HU0.out]; rfl, show unE (fr B0) = 0 by unfold unE; rw [HU0.out]; rfl] at *
  have HLB := Lib.hid hlb
  have HG3 := Lib.hid (grownBy_trans HG2.out hg3)
  have HG13 := Lib.hid (grownBy_trans HG12.out hg3)
  have HG23 := Lib.hid hg3
  clear hlb hg3
  go_wp2_with fail
  refine (sameLists_n ab a0 cb c0 B0.length n0 Lb L0 B0 B0 w3 (LIs.liesT HLB.out) (H0.out.grown HG3.out) rfl HN0.out (by have := HN0.out; unfold maxLen; omega) (fun b hb => by have := HB0.out b hb; unfold maxLen; omega)).mono ?_
  rintro e w4 ⟨rfl, q1, rfl⟩
  rw [decide_eq_true rfl]
  go_wp2_with fail
  refine (same_n af ag cf cg mf mg (fr B0) (fr B1) _ (((BOwn.lies HOF.out).grown HG13.out).drewN _) (((BOwn.lies HOG.out).grown HG23.out).drewN _) HMF.out HMG.out (by have := HM0.out; have := HMF.out; unfold maxLen; omega)).mono ?_
  rintro e w5 ⟨rfl, q2, rfl⟩
  rw [HDC.out]
  go_wp2_with fail
  refine (sameLists_n a0 a1 c0 c1 n0 n1 L0 L1 B0 B1 _ (H0.out.grown (grownBy_trans HG3.out (grownBy_drewN w3 (q1 + q2) none))) (H1.out.grown (grownBy_trans HG3.out (grownBy_drewN w3 (q1 + q2) none))) HN0.out HN1.out (by unfold maxLen; omega) (fun b hb => by have := HB0.out b hb; unfold maxLen; omega)).mono ?_
  rintro e w6 ⟨rfl, q3, rfl⟩
  have HG6 := Lib.hid (grownBy_trans HG3.out (grownBy_drewN w3 (q1 + q2 + q3) none))
  obtain ⟨r, hr⟩ : ∃ r, r = decide (B0 = B1) := ⟨_, rfl⟩
  rw [← hr]
  clear hr HDC
  rw [World.drewN_drewN]
  obtain ⟨W, hW⟩ : ∃ W, W = w3.drewN (q1 + q2 + q3) := ⟨_, rfl⟩
  rw [← hW] at HG6 ⊢
  clear hW
  go_wp2_with fail
  refine (unframed_n a2 c2 n2 l2 W (H2.out.grown HG6.out) HN2.out (by omega)).mono ?_
  rintro e w7 ⟨al, cl, Ll, rfl, hll, hg7⟩
  have HLL := Lib.hid hll
  have HG7 := Lib.hid (grownBy_trans HG6.out hg7)
  clear hll hg7
  cases hu : unf l2 with
  | none =>
    have e1 : unP l2 = [] := by unfold unP; rw [hu]; rfl
    have e2 : unE l2 = 13 := by unfold unE; rw [hu]; rfl
    rw [e1, e2]
    clear HLL hu e1 e2
    go_wp2_with fail
    go_ret
    exact ⟨rfl, HG7.out⟩
  | some ps =>
    have e1 : unP l2 = ps := by unfold unP; rw [hu]; rfl
    have e2 : unE l2 = 0 := by unfold unE; rw [hu]; rfl
    have hfu : fr ps = l2 := fr_unf _ l2 ps (Nat.le_refl _) hu
    have hlen : 8 * ps.length + ps.flatten.length = l2.length := unf_flat hu
    have hll : LIs w7 W.heap.size al ps.length cl ps Ll := by have h := HLL.out; rw [e1] at h; exact h
    rw [e1, e2]
    clear HLL hu e1 e2
    have HLL := Lib.hid (LIs.liesT hll)
    have HFU := Lib.hid hfu
    have HLN := Lib.hid hlen
    clear hll hfu hlen
    go_wp2_with fail
    refine (framed_n al cl ps.length Ll ps w7 HLL.out rfl (by have := HLN.out; have := HN2.out; omega) (by have := HLN.out; have := HN2.out; omega)).mono ?_
    rintro e w8 ⟨ah, mh, ch, rfl, hoh, hg8⟩
    rw [HFU.out] at hoh
    have HOH := Lib.hid hoh
    have HG8 := Lib.hid (grownBy_trans HG7.out hg8)
    clear hoh hg8
    go_wp2_with fail
    refine (same_yes ah a2 ch c2 mh n2 l2 w8 (BOwn.lies HOH.out) (H2.out.grown HG8.out) (BOwn.len HOH.out) HN2.out (by have := BOwn.len HOH.out; have := HN2.out; unfold maxLen; omega)).mono ?_
    rintro e w9 ⟨rfl, q9, rfl⟩
    go_wp2_with fail
    go_ret
    exact ⟨rfl, grownBy_trans HG8.out (grownBy_drewN _ _ _)⟩
end Go.Proofs.Ythemlaibjchjpaa
