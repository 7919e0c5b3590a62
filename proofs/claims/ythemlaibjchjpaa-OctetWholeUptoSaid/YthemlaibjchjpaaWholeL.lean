/- The law OctetWhole. -/
import Derived.Test.YthemlaibjchjpaaReader
import Derived.Test.YthemlaibjchjpaaConcat
import Derived.Test.YthemlaibjchjpaaRdInts
namespace Go.Proofs.Ythemlaibjchjpaa
open Go.RowKit

/-- lists that the call owns, whether they lie apart or not -/
structure Pcs (w : World) (base : Nat) (a : Option Addr) (n c : Nat) (bs : List (List UInt8)) (L : List Sl) : Prop where
  outer : SOwn w base a n c L
  len : L.length = bs.length
  inner : ∀ i (h : i < L.length) (h' : i < bs.length), BOwn w base (L[i]).a (L[i]).n (L[i]).c bs[i]
theorem Pcs.nil (w : World) (base : Nat) : Pcs w base none 0 0 [] [] := ⟨Own.nil _ _ _ _ _, rfl, fun i (h : i < 0) => absurd h (by omega)⟩
theorem Pcs.ch {w w' : World} {base : Nat} {a : Option Addr} {n c : Nat} {bs : List (List UInt8)} {L : List Sl} {S : Nat → Prop} (h : Pcs w base a n c bs L) (hc : Ch S w w') (hS : ∀ g, base ≤ g → ¬ S g) : Pcs w' base a n c bs L :=
  ⟨Own.ch h.outer hc (fun h0 g e => hS g (Own.inn h.outer ⟨h0, e⟩).1), h.len, fun i h1 h2 => Own.ch (h.inner i h1 h2) hc (fun h0 g e => hS g (Own.inn (h.inner i h1 h2) ⟨h0, e⟩).1)⟩
theorem Pcs.push {w1 w2 : World} {base base' : Nat} {a : Option Addr} {n c : Nat} {bs : List (List UInt8)} {L : List Sl} (h : Pcs w1 base a n c bs L) (hb : base ≤ base')
    {a' : Option Addr} {n' c' : Nat} {b : List UInt8} (ho : BOwn w1 base' a' n' c' b) {a2 : Option Addr} {c2 : Nat}
    (hs : Own w2 base 22 1 a2 (n + 1) c2 (L.map Sl.val ++ [.slice a' n' c'])) (hgr : GrewP w1 w2 a c a2 c2) : Pcs w2 base a2 (n + 1) c2 (bs ++ [b]) (L ++ [⟨a', n', c'⟩]) := by
  obtain ⟨h1, h2, h3⟩ := h
  have hin : ∀ i (h : i < L.length) (h' : i < bs.length), BOwn w2 base (L[i]).a (L[i]).n (L[i]).c bs[i] := fun i h h' => Own.grewOther (h3 i h h') h1 hgr (by decide)
  have hnew : BOwn w2 base a' n' c' b := Own.grewOther (ho.mono hb) h1 hgr (by decide)
  refine ⟨?_, by simp [h2], ?_⟩
  · unfold SOwn; rw [List.map_append]; exact hs
  · intro i hi hi'
    by_cases e : i < L.length
    · have e' : i < bs.length := by omega
      rw [List.getElem_append_left e, List.getElem_append_left e']
      exact hin i e e'
    · simp only [List.length_append, List.length_singleton] at hi
      obtain rfl : i = L.length := by omega
      have e2 : (L ++ [⟨a', n', c'⟩])[L.length] = (⟨a', n', c'⟩ : Sl) := by simp
      have e3 : (bs ++ [b])[L.length] = b := by simp [h2]
      rw [e2, e3]
      exact hnew
theorem Pcs.lies {w : World} {base : Nat} {a : Option Addr} {n c : Nat} {bs : List (List UInt8)} {L : List Sl} (h : Pcs w base a n c bs L) : LLies w a L bs := by
  refine ⟨?_, h.len, fun i h1 h2 => ⟨(h.inner i h1 h2).lies, (h.inner i h1 h2).len.symm⟩⟩
  intro k hk
  obtain ⟨g, e, _, _, hc, _⟩ := Own.cell h.outer k hk
  exact ⟨g, 0, e, by rw [Nat.zero_add, hc]⟩

set_option maxRecDepth 100000 in
set_option maxHeartbeats 4000000 in
theorem wholeLaw_walk (a : Option Addr) (n c : Nat) (l : List UInt8) (a1 : Option Addr) (n1 c1 : Nat) (zs : List Int) (w : World) (ha : BLies w a l) (hl : l.length = n) (hz : Lies w a1 (IV zs)) (hzl : zs.length = n1) (hn : n ≤ 1000000000) (hn1 : n1 ≤ 1000000000) :
    Calls Try.prog 6 #[.slice a n c, .slice a1 n1 c1] w fun e w' => e = .returned (.bool true) ∧ w.grownBy w' none := by
  have HA := Lib.hid ha
  have HL := Lib.hid hl
  have HZ := Lib.hid hz
  have HZL := Lib.hid hzl
  clear ha hl hz hzl
  go_enter Try.func6, Try.ntmps6
  go_wp2_with fail
  refine (newReader_n a c n l w HA.out HL.out (by omega)).mono ?_
  rintro e w1 ⟨g, la, lc, rfl, hg0, hr, hg⟩
  have HR := Lib.hid hr
  have HG := Lib.hid hg
  have HG0 := Lib.hid hg0
  have hgl : g < w1.heap.size := hr.row.lt
  have hlb : 0 < n → ∀ b off, la = some ⟨b, off, none⟩ → b < w1.heap.size := fun h0 b off e => by
    have h1 := hr.len
    obtain ⟨b', off', e', hc⟩ := hr.lies 0 (by omega)
    rw [e] at e'
    injection e' with e'; injection e' with e1 e2
    subst e1
    exact World.block_lt_of_cell? _ _ hc
  have HLB := Lib.hid hlb
  obtain ⟨B, hB⟩ : ∃ B, B = w1.heap.size := ⟨_, rfl⟩
  rw [← hB] at hgl HLB
  have hb1 : B ≤ w1.heap.size := by rw [hB]; exact Nat.le_refl _
  have HGL := Lib.hid hgl
  have hq : ∀ a a' : Addr, True := fun _ _ => trivial
  clear hr hg hg0 hlb hB hgl hq
  go_wp2_with fail
  refine (left_n g l la n lc w1 HR.out).mono ?_
  rintro e w1' ⟨rfl, rfl⟩
  go_wp2_with fail
  go_loopw [6, 7] (fun vp vi wr => ∃ (k : Nat) (aP : Option Addr) (cP : Nat) (f : Bool) (rem : List UInt8) (la' : Option Addr) (lm lc' : Nat) (ps : List (List UInt8)) (L : List Sl), k ≤ n1 ∧ vi = .int .i64 k ∧ vp = .slice aP k cP ∧
      Rdr wr g f rem la' lm lc' ∧ Pcs wr B aP k cP ps L ∧ (f = false → ps.flatten ++ rem = l) ∧ ps.flatten.length + rem.length ≤ n ∧ ps.length = k ∧ w.grownBy wr none ∧ B ≤ wr.heap.size ∧ (0 < lm → ∀ b off, la' = some ⟨b, off, none⟩ → b < B)) (fun _ vi _ => n1 - (intOf vi).toNat)
  case atStart => exact ⟨0, none, 0, false, l, la, n, lc, [], [], Nat.zero_le _, rfl, rfl, HR.out, Pcs.nil _ _, fun _ => rfl, by simp [HL.out], rfl, HG.out, hb1, HLB.out⟩
  case round =>
    obtain ⟨k, aP, cP, f, rem, la', lm, lc', ps, L, hk, rfl, rfl, hr, hp, hw, hs, hpl, hg, hbs, hlb⟩ := hrel
    replace HR := Lib.hid hr
    have HP := Lib.hid hp
    have HW := Lib.hid hw
    have HS := Lib.hid hs
    have HPL := Lib.hid hpl
    replace HG := Lib.hid hg
    replace HLB := Lib.hid hlb
    have hlm : lm ≤ n := by have := hr.len; omega
    clear hr hp hw hs hpl hg hlb
    by_cases hlt : k < n1
    · have hzk : k < zs.length := by rw [HZL.out]; exact hlt
      obtain ⟨b, o, haa, hc⟩ := HZ.out k (by unfold IV; rw [List.length_map]; exact hzk)
      obtain ⟨x, hx⟩ : ∃ x, x = zs[k] := ⟨_, rfl⟩
      have hcw : wr.cell? ⟨b, o + k, none⟩ = some (.int .i64 x) := by
        rw [hx]
        have h1 := World.block_lt_of_cell? _ _ hc
        refine (World.cell?_of_block (HG.out.block b h1 (by simp))).trans (hc.trans ?_)
        simp [IV]
      subst haa
      have HBY := Lib.hid (bytes_n g f rem la' lm lc' x wr HR.out (by omega))
      clear hx hc
      go_wp2_with fail
      refine HBY.out.mono ?_
      rintro e w2 ⟨a3, m3, c3, p, f2, rem2, la2, lm2, lc2, rfl, ho, hr2, hst, hsh, hg2, hsrc⟩
      have hgB := HGL.out
      have hch : Ch (fun x => x = g) wr w2 := Ch.ofSome hg2 rfl
      have hP2 : Pcs w2 B aP k cP ps L := HP.out.ch hch (fun x h1 h2 => by omega)
      have hGG : w.grownBy w2 none := Ch.fresh HG.out hch (fun x h1 h2 => by have := HG0.out; omega)
      have HCH := Lib.hid hch
      have HO := Lib.hid ho
      have HR2 := Lib.hid hr2
      have HST := Lib.hid hst
      have HSH := Lib.hid hsh
      have HSRC := Lib.hid hsrc
      have HP2 := Lib.hid hP2
      have HG2 := Lib.hid hGG
      have hsz2 : wr.heap.size ≤ w2.heap.size := hg2.size
      have hB2 : B ≤ w2.heap.size := by omega
      clear ho hr2 hst hsh hg2 hsrc hch hP2 hGG hgB
      go_wp2_with (at_builtin; refine wpList_push elS rfl (.tmp 26) (.tmp 33) rfl rfl HP2.out.outer (.slice a3 m3 c3) rfl rfl (by unfold maxLen; omega) (by omega) hB2 ?_; intro g3 cap3 w3 hown3 hgr3; have HO3 := Lib.hid hown3; have HGR3 := Lib.hid hgr3; clear hown3 hgr3)
      have hcut : True := trivial
      go_roundw
      case rel =>
        have hP3 := HP2.out.push (by omega) HO.out HO3.out HGR3.out
        have hch3 := HGR3.out.ch
        have hin : ∀ x, In aP cP x → B ≤ x := fun x hx => (Own.inn HP2.out.outer hx).1
        refine ⟨k + 1, _, _, f2, rem2, la2, lm2, lc2, ps ++ [p], _, by omega, by go_num, rfl, ⟨HR2.out.row.ch hch3 (fun h => by have := hin _ h; have := HGL.out; omega), ?_, HR2.out.len, HR2.out.cap, HR2.out.big, HR2.out.apart⟩, hP3, ?_, ?_, by simp [HPL.out], Ch.fresh HG2.out hch3 (fun x h1 h2 => by have := hin _ h2; have := HG0.out; have := HGL.out; omega), Nat.le_trans hB2 hch3.size, ?_⟩
        · by_cases h0 : 0 < lm2
          · exact BLies.ch HR2.out.lies hch3 (fun b' off' e h => by
              obtain ⟨o', e'⟩ := HSRC.out h0 b' off' e
              have h1 := hin _ h
              have h2 := HLB.out (by
                have h3 := HR2.out.len
                have h4 := HR.out.len
                have h5 := HSH.out
                omega) b' o' e'
              omega)
          · have h3 := HR2.out.len
            intro i hi; omega
        · intro h
          obtain ⟨h1, h2⟩ := HST.out h
          have h3 := HW.out h1
          rw [h2] at h3
          rw [← h3]
          simp
        · have h1 := HSH.out
          have h2 := HS.out
          simp only [List.flatten_append, List.length_append, List.flatten_cons, List.flatten_nil, List.length_nil]
          omega
        · intro h0 b' off' e
          obtain ⟨o', e'⟩ := HSRC.out h0 b' off' e
          exact HLB.out (by
                have h3 := HR2.out.len
                have h4 := HR.out.len
                have h5 := HSH.out
                omega) b' o' e'
      case measure => simp [intOf]; omega
    · obtain rfl : k = n1 := by omega
      have hlb2 := fun b => (HLB.out b)
      have hf : ps.flatten.length ≤ 1000000000 := by have := HS.out; omega
      have HJ := Lib.hid (joinB_n aP cP k L ps wr HP.out.lies HPL.out hf (by omega))
      clear hlb2 hf
      go_wp2_with fail
      refine HJ.out.mono ?_
      rintro e w2 ⟨a4, m4, c4, rfl, ho, hg2⟩
      have hml : ps.flatten.length = m4 := BOwn.len ho
      have HML := Lib.hid hml
      have HO := Lib.hid ho
      have HG2 := Lib.hid hg2
      have hm4 : m4 ≤ 1000000000 := by have := HS.out; omega
      clear ho hg2 hml
      go_wp2_with fail
      refine (same_n a4 a c4 c m4 n ps.flatten l w2 (BOwn.lies HO.out) (HA.out.grown (grownBy_trans HG.out HG2.out)) HML.out HL.out (by unfold maxLen; omega)).mono ?_
      rintro e w3 ⟨rfl, q, rfl⟩
      go_wp2_with fail
      refine (end_n g f rem la' lm lc' _ ((HR.out.grown HG2.out).grown (grownBy_drewN _ _ _))).mono ?_
      rintro e w4 ⟨rfl, rfl⟩
      have hret : w.grownBy (w2.drewN q) none := grownBy_trans (grownBy_trans HG.out HG2.out) (grownBy_drewN _ _ _)
      have HRET := Lib.hid hret
      clear hret
      cases f with
      | true =>
        go_wp2_with fail
        go_ret
        exact ⟨by simp, HRET.out⟩
      | false =>
        by_cases h0 : 0 < lm
        · rw [if_neg (by simp), if_pos h0]
          go_wp2_with fail
          go_ret
          exact ⟨by simp, HRET.out⟩
        · have hw := HW.out rfl
          have hrem : rem = [] := List.eq_nil_of_length_eq_zero (by have := HR.out.len; omega)
          rw [hrem, List.append_nil] at hw
          rw [if_neg (by simp), if_neg h0, hw]
          have hdl : decide (l = l) = true := by simp
          rw [hdl]
          go_wp2_with fail
          go_ret
          exact ⟨by simp, HRET.out⟩

end Go.Proofs.Ythemlaibjchjpaa
