/- gf: Times by its bounds; Through. -/
import Derived.Test.YtfikeilpgnahkaaGfTimes
import Derived.Test.YtfikeilpgnahkaaCh
import Derived.Deep.MidRow
import Derived.Lib.AppendZeros
namespace Go.Proofs.Ytfikeilpgnahkaa
open Go.RowKit Go.Shelf

def timesV (a b : List UInt8) : List UInt8 := if trimN a a.length ≤ 256 ∧ trimN b b.length ≤ 256 then prodL (trimL a) (trimL b) else []
def timesE (a b : List UInt8) : Nat := if trimN a a.length ≤ 256 ∧ trimN b b.length ≤ 256 then 0 else 61

set_option maxRecDepth 100000 in
set_option maxHeartbeats 1000000 in
theorem timesT_n (aa ab : Option Addr) (ca cb n m : Nat) (a b : List UInt8) (w : World) (ha : BLies w aa a) (hb : BLies w ab b) (hla : a.length = n) (hlb : b.length = m) (hn : n ≤ 140737488355328) (hm : m ≤ 140737488355328) (hca : n ≤ ca) (hcb : m ≤ cb) :
    Calls Try.prog 43 #[.slice aa n ca, .slice ab m cb] w fun e w' => ∃ a' n' c', e = .returned (.tuple #[.slice a' n' c', .int .i64 (timesE a b : Nat)]) ∧ BOwn w' w.heap.size a' n' c' (timesV a b) ∧ w.grownBy w' none := by
  have HA := Lib.hid ha
  have HB := Lib.hid hb
  have HLA := Lib.hid hla
  have HLB := Lib.hid hlb
  have hta := trimN_le a n
  have htb := trimN_le b m
  obtain ⟨p, hp⟩ : ∃ p, p = trimN a n := ⟨_, rfl⟩
  obtain ⟨q, hq⟩ : ∃ q, q = trimN b m := ⟨_, rfl⟩
  have hpl : (trimL a).length = p := by rw [trimL_len, hla, hp]
  have hql : (trimL b).length = q := by rw [trimL_len, hlb, hq]
  have HPL := Lib.hid hpl
  have HQL := Lib.hid hql
  have hV : timesV a b = if p ≤ 256 ∧ q ≤ 256 then prodL (trimL a) (trimL b) else [] := by unfold timesV; rw [hla, hlb, hp, hq]
  have hE : timesE a b = if p ≤ 256 ∧ q ≤ 256 then 0 else 61 := by unfold timesE; rw [hla, hlb, hp, hq]
  rw [← hp] at hta
  rw [← hq] at htb
  have HTA : Hid (BLies w aa (trimL a)) := Lib.hid (by unfold trimL; exact ha.take _)
  have HTB : Hid (BLies w ab (trimL b)) := Lib.hid (by unfold trimL; exact hb.take _)
  have HP := Lib.hid hp
  have HQ := Lib.hid hq
  clear ha hb hla hlb hp hq hpl hql
  have ct1 : ∀ W, Calls Try.prog 54 #[.slice aa n ca] w W → Calls Try.prog 54 #[.slice aa n ca] w W := fun _ h => h
  clear ct1
  rw [hV, hE]
  clear hV hE
  by_cases h1 : p ≤ 256
  · have hd1 : decide ((256 : Int) < (p : Int)) = false := by simp; omega
    by_cases h2 : q ≤ 256
    · have hd2 : decide ((256 : Int) < (q : Int)) = false := by simp; omega
      rw [if_pos ⟨h1, h2⟩, if_pos ⟨h1, h2⟩]
      go_enter Try.func43, Try.ntmps43
      go_wp2_with fail
      refine (trim_n aa ca n a w HA.out HLA.out (by unfold maxLen; omega) hca).mono ?_
      rintro e w' ⟨rfl, rfl⟩
      rw [← HP.out]
      go_wp2_with fail
      refine (trim_n ab cb m b w HB.out HLB.out (by unfold maxLen; omega) hcb).mono ?_
      rintro e w' ⟨rfl, rfl⟩
      rw [← HQ.out]
      go_wp2_with fail
      refine (times_n aa ab ca cb p q (trimL a) (trimL b) w HTA.out HTB.out HPL.out HQL.out (by omega) (by omega)).mono ?_
      rintro e W ⟨a', n', c', rfl, hown, hg⟩
      have HO := Lib.hid hown
      have HG := Lib.hid hg
      clear hown hg
      go_wp2_with fail
      go_ret2
      exact ⟨a', n', c', rfl, HO.out, HG.out⟩
    · have hd2 : decide ((256 : Int) < (q : Int)) = true := by simp; omega
      rw [if_neg (by omega), if_neg (by omega)]
      go_enter Try.func43, Try.ntmps43
      go_wp2_with fail
      refine (trim_n aa ca n a w HA.out HLA.out (by unfold maxLen; omega) hca).mono ?_
      rintro e w' ⟨rfl, rfl⟩
      rw [← HP.out]
      go_wp2_with fail
      refine (trim_n ab cb m b w HB.out HLB.out (by unfold maxLen; omega) hcb).mono ?_
      rintro e w' ⟨rfl, rfl⟩
      rw [← HQ.out]
      go_wp2_with fail
      go_ret2
      exact ⟨none, 0, 0, rfl, Own.nil _ _ _ _ _, World.grownBy.refl _ _⟩
  · have hd1 : decide ((256 : Int) < (p : Int)) = true := by simp; omega
    rw [if_neg (by omega), if_neg (by omega)]
    go_enter Try.func43, Try.ntmps43
    go_wp2_with fail
    refine (trim_n aa ca n a w HA.out HLA.out (by unfold maxLen; omega) hca).mono ?_
    rintro e w' ⟨rfl, rfl⟩
    rw [← HP.out]
    go_wp2_with fail
    refine (trim_n ab cb m b w HB.out HLB.out (by unfold maxLen; omega) hcb).mono ?_
    rintro e w' ⟨rfl, rfl⟩
    rw [← HQ.out]
    go_wp2_with fail
    go_ret2
    exact ⟨none, 0, 0, rfl, Own.nil _ _ _ _ _, World.grownBy.refl _ _⟩

/-- points that lie from an address on -/
def PLies (w : World) (a : Option Addr) (l : List (UInt8 × UInt8)) : Prop :=
  ∀ (k : Nat) (h : k < l.length), ∃ b off, a = some ⟨b, off, none⟩ ∧ w.rangeAt b (off + k * 2) [bval (l[k]).1, bval (l[k]).2]
theorem rangeAt_grown {w w' : World} {b o : Nat} {cs : List Value} (h : w.rangeAt b o cs) (hne : cs ≠ []) (hg : w.grownBy w' none) : w'.rangeAt b o cs := by
  have hb : b < w.heap.size := by
    cases cs with
    | nil => exact absurd rfl hne
    | cons c cs => exact World.block_lt_of_cell? w ⟨b, o + 0, none⟩ (h 0 c rfl)
  intro j v hj
  exact (World.cell?_of_block (hg.block b hb (by simp))).trans (h j v hj)
theorem PLies.grown {w w' : World} {a : Option Addr} {l : List (UInt8 × UInt8)} (h : PLies w a l) (hg : w.grownBy w' none) : PLies w' a l := by
  intro k hk
  obtain ⟨b, off, e, hc⟩ := h k hk
  exact ⟨b, off, e, rangeAt_grown hc (by simp) hg⟩

/-- which elements have been seen -/
def seenL (l : List (UInt8 × UInt8)) : Array Value := ((List.range 256).map fun v => Value.bool (l.any fun p => p.1.toNat == v)).toArray
theorem seenL_size (l : List (UInt8 × UInt8)) : (seenL l).size = 256 := by simp [seenL]
theorem seenL_get (l : List (UInt8 × UInt8)) (x : UInt8) : (seenL l)[x.toNat]? = some (.bool (l.any fun p => p.1 == x)) := by
  have := x.toNat_lt
  have hp : (fun p : UInt8 × UInt8 => p.1 == x) = fun p => p.1.toNat == x.toNat := by
    funext p
    rw [Bool.eq_iff_iff]
    simp [← UInt8.toNat_inj]
  rw [hp]
  simp [seenL, this]
theorem seenL_set (l : List (UInt8 × UInt8)) (p : UInt8 × UInt8) : (seenL l).setIfInBounds p.1.toNat (.bool true) = seenL (l ++ [p]) := by
  apply Array.ext
  · simp [seenL]
  · intro i h1 h2
    rw [Array.getElem_setIfInBounds]
    by_cases h : p.1.toNat = i
    · simp [seenL, h]
    · simp [seenL, h]
    · simpa [seenL] using h2
def okTo (l : List (UInt8 × UInt8)) : Nat → Bool
  | 0 => true
  | k + 1 => okTo l k && !((l.take k).any fun p => p.1 == (l.getD k (0, 0)).1)
theorem okTo_mono (l : List (UInt8 × UInt8)) {k : Nat} (h : okTo l k = false) : ∀ n, k ≤ n → okTo l n = false := by
  intro n
  induction n with
  | zero => intro hk; obtain rfl : k = 0 := by omega
            exact h
  | succ n ih =>
    intro hk
    by_cases he : k = n + 1
    · rw [← he]; exact h
    · rw [okTo, ih (by omega)]; rfl
def throughE (l : List (UInt8 × UInt8)) : Nat := if 256 < l.length then 61 else if okTo l l.length then 0 else 62
/-- sa long sa the other, by noughts -/
def padL (s : List UInt8) (n : Nat) : List UInt8 := s ++ List.replicate (n - s.length) 0
/-- the first k of m are added to s -/
def addF (m s : List UInt8) : Nat → List UInt8
  | 0 => s
  | k + 1 => (addF m s k).set k ((addF m s k).getD k 0 ^^^ m.getD k 0)
theorem addF_len (m s : List UInt8) : ∀ k, (addF m s k).length = s.length
  | 0 => rfl
  | k + 1 => by rw [addF, List.length_set, addF_len m s k]
def thStep (p : UInt8 × UInt8) (sq : List UInt8 × List UInt8) : List UInt8 × List UInt8 :=
  let more := scL (gm (p.2 ^^^ evL sq.1 p.1) (ginv (evL sq.2 p.1))) sq.2
  (addF more (padL sq.1 more.length) more.length, prodL sq.2 [p.1, 1])
def thSQ (l : List (UInt8 × UInt8)) : Nat → List UInt8 × List UInt8
  | 0 => ([], [1])
  | k + 1 => thStep (l.getD k (0, 0)) (thSQ l k)
def throughV (l : List (UInt8 × UInt8)) : List UInt8 := if throughE l = 0 then trimL (thSQ l l.length).1 else []

theorem inF_len' (i : Nat) (x : UInt8) (b l : List UInt8) (k : Nat) : (inF i x b l k).length = l.length := inF_len i x b l k
theorem prodL_le (a b : List UInt8) : (prodL a b).length ≤ a.length + b.length - 1 := by
  unfold prodL
  split
  · simp
  · rw [trimL_len]
    have := trimN_le (prodM a b) (prodM a b).length
    rw [prodM_len] at this ⊢
    omega
theorem thSQ_len (l : List (UInt8 × UInt8)) : ∀ k, (thSQ l k).1.length ≤ k + 1 ∧ (thSQ l k).2.length ≤ k + 1
  | 0 => by simp [thSQ]
  | k + 1 => by
    have ih := thSQ_len l k
    have h1 := prodL_le (thSQ l k).2 [(l.getD k (0, 0)).1, 1]
    simp only [thSQ, thStep, addF_len, padL, List.length_append, List.length_replicate, scL_length]
    simp only [List.length_cons, List.length_nil] at h1
    omega

set_option maxRecDepth 100000 in
set_option maxHeartbeats 1000000 in
theorem through1_n (b7 base g n cs i : Nat) (x : UInt8) (s : List UInt8) (w : World) (hb : Row w b7 33 #[.slice (some ⟨g, 0, none⟩) n cs]) (hs : BOwn w base (some ⟨g, 0, none⟩) n cs s) (hi : i < n) (hn : n ≤ 4611686018427387904) :
    Calls Try.prog 60 #[.int .i64 (i : Int), .int .u8 (x.toNat : Int), .pointer (some ⟨b7, 0, none⟩)] w fun e w' => e = .returned (.tuple #[]) ∧ BOwn w' base (some ⟨g, 0, none⟩) n cs (s.set i (s.getD i 0 ^^^ x)) ∧ w.grownBy w' (some g) := by
  have hsl : s.length = n := hs.len
  have cb := Row.cell hb 0
  simp at cb
  obtain ⟨v, hv⟩ : ∃ v, v = s.getD i 0 := ⟨_, rfl⟩
  have hil : i < (s.map bval).length := by rw [List.length_map]; omega
  obtain ⟨g', e1, _, _, hc, hf⟩ := Own.cell hs i hil
  injection e1 with e1; injection e1 with e1
  subst e1
  have hvv : (s.map bval)[i] = .int .u8 (v.toNat : Int) := by rw [List.getElem_map, hv]; simp [bval, show i < s.length by omega]
  rw [hvv] at hc
  have hx := xor_u8 v x
  have hset := Own.set hs i hil (.int .u8 ((v ^^^ x).toNat : Int))
  have hm : (s.map bval).set i (.int .u8 ((v ^^^ x).toNat : Int)) = (s.set i (v ^^^ x)).map bval := by rw [List.map_set]; rfl
  rw [hm] at hset
  have HS := Lib.hid hset
  rw [← hv]
  clear hset hm hvv hs hb hv
  go_enter Try.func60, Try.ntmps60
  go_wp2_with fail
  go_end0
  rw [← UInt8.toNat_xor]
  exact ⟨rfl, HS.out, grownBy_setCell _ _ _ _⟩

theorem quietD {P : Program} {f : FuncId} {args : Array Value} {w : World} {n : Nat} {v : Value} (h : Calls P f args (w.drewN n) fun e w' => e = .returned v ∧ ∃ q, w' = (w.drewN n).drewN q) : Calls P f args (w.drewN n) fun e w'' => e = .returned v ∧ ∃ m, w'' = w.drewN m :=
  h.mono fun _ _ ⟨he, q, hw⟩ => ⟨he, n + q, by rw [hw, World.drewN_drewN]⟩

def padMs (b nn : Nat) (w : World) : Nat := match w.cell? ⟨b, 0, none⟩ with | some (.slice _ k _) => nn - k | _ => 0
theorem padMs_eq {b nn k c : Nat} {a : Option Addr} {t : TypeId} {w : World} (h : Row w b t #[.slice a k c]) : padMs b nn w = nn - k := by
  have := Row.cell h 0
  simp at this
  unfold padMs
  rw [this]

theorem run_app_none (w : World) (a : Option Addr) (c : Nat) (ty : TypeId) : (Builtin.append_ #[33, 33] ty #[.slice none 0 0, .slice a 0 c]).run Try.prog w = .ok (.slice none 0 0) w := by
  obtain ⟨i, hi, hz, hs, hb⟩ := elB.info
  cases a <;> simp [Builtin.append_, run_underlying Try.underlying33, sizeOf, typeInfo, hi, hs, Builtin.lenOf, Builtin.firstCells, loadCells, loadCellsFrom]
theorem app_src {w : World} {base g n c : Nat} {l : List UInt8} (h : BOwn w base (some ⟨g, 0, none⟩) n c l) (p : Nat) : ∀ j u, ((l.take p).map bval)[j]? = some u → w.cell? ((⟨g, 0, none⟩ : Addr).add j) = some u := by
  intro j u hu
  have hadd : (⟨g, 0, none⟩ : Addr).add j = ⟨g, j, none⟩ := by unfold Addr.add; split <;> simp_all
  rw [hadd]
  obtain ⟨hj, rfl⟩ := List.getElem?_eq_some_iff.1 hu
  have hj2 : j < (l.map bval).length := by simp at hj ⊢; omega
  obtain ⟨g', e1, _, _, hc, _⟩ := Own.cell h j hj2
  injection e1 with e1; injection e1 with e1
  subst e1
  rw [hc]
  simp

theorem zs71 : Try.zeroCells71 = seenL [] := by kernel_rfl
theorem size54 : (Try.prog.info? 54).map (·.size) = some 2 := by kernel_rfl

set_option maxRecDepth 100000 in
set_option maxHeartbeats 1000000 in
theorem through_n (a : Option Addr) (c n : Nat) (l : List (UInt8 × UInt8)) (w : World) (ha : PLies w a l) (hl : l.length = n) (hn : n ≤ 140737488355328) :
    Calls Try.prog 47 #[.slice a n c] w fun e w' => ∃ a' n' c', e = .returned (.tuple #[.slice a' n' c', .int .i64 (throughE l : Nat)]) ∧ BOwn w' w.heap.size a' n' c' (throughV l) ∧ w.grownBy w' none := by
  have HA := Lib.hid ha
  have HL := Lib.hid hl
  clear ha hl
  by_cases hbig : 256 < n
  · have hd : decide ((256 : Int) < (n : Int)) = true := by simp; omega
    have hE : throughE l = 61 := by unfold throughE; rw [HL.out, if_pos hbig]
    have hV : throughV l = [] := by unfold throughV; rw [hE]; rfl
    rw [hE, hV]
    go_enter Try.func47, Try.ntmps47
    go_wp2_with fail
    go_ret2
    exact ⟨none, 0, 0, rfl, Own.nil _ _ _ _ _, World.grownBy.refl _ _⟩
  · have hd : decide ((256 : Int) < (n : Int)) = false := by simp; omega
    obtain ⟨ip, hip, hipz, hips, _⟩ := info_parts (show (Try.prog.info? 54).map (fun i => (i.zero, i.size, i.bytes)) = some (some (.agg #[.int .u8 0, .int .u8 0]), 2, 2) by kernel_rfl)
    go_enter Try.func47, Try.ntmps47
    go_wp2_with fail
    rw [zs71]
    obtain ⟨W1, hW1⟩ : ∃ W1, W1 = w.alloc (.cells (seenL []) 71) := ⟨_, rfl⟩
    rw [← hW1]
    have HR1 := Lib.hid (show Row W1 w.heap.size 71 (seenL []) from hW1 ▸ heap_alloc_new w _)
    have HG1 := Lib.hid (show w.grownBy W1 none from hW1 ▸ World.grownBy_alloc w _ none)
    clear hW1
    go_loopw [20] (fun vi wr => ∃ k : Nat, k ≤ n ∧ vi = .int .i64 k ∧ okTo l k = true ∧ Row wr w.heap.size 71 (seenL (l.take k)) ∧ w.grownBy wr none) (fun vi _ => n - (intOf vi).toNat)
    case atStart => exact ⟨0, by omega, rfl, rfl, HR1.out, HG1.out⟩
    case round =>
      obtain ⟨k, hk, rfl, hok, hrow, hg⟩ := hrel
      have HK := Lib.hid hok
      have HR := Lib.hid hrow
      have HG := Lib.hid hg
      clear hok hrow hg
      by_cases hlt : k < n
      · obtain ⟨b, off, rfl, hc⟩ := HA.out.grown HG.out k (by rw [HL.out]; exact hlt)
        obtain ⟨x, y, hxy⟩ : ∃ x y, l[k]'(by rw [HL.out]; exact hlt) = (x, y) := ⟨_, _, rfl⟩
        rw [hxy] at hc
        have HC := Lib.hid hc
        have hlw : w.heap.size < wr.heap.size := HR.out.lt
        obtain ⟨f, hf⟩ : ∃ f, f = (l.take k).any fun p => p.1 == x := ⟨_, rfl⟩
        have hcell := seenL_get (l.take k) x
        rw [← hf] at hcell
        have hxl := x.toNat_lt
        have hgd : l.getD k (0, 0) = (x, y) := by rw [List.getD_eq_getElem?_getD, List.getElem?_eq_getElem (by rw [HL.out]; exact hlt), hxy]; rfl
        have hok1 : okTo l (k + 1) = !f := by rw [okTo, HK.out, hgd, hf]; rfl
        have HO := Lib.hid hok1
        have HCE := Lib.hid hcell
        have htk : l.take (k + 1) = l.take k ++ [(x, y)] := by rw [List.take_succ_eq_append_getElem (by rw [HL.out]; exact hlt), hxy]
        have HTK := Lib.hid htk
        clear hc hxy hcell hgd hok1 htk hf
        cases f with
        | true =>
          have hE : throughE l = 62 := by unfold throughE; rw [HL.out, if_neg hbig, okTo_mono l HO.out n (by omega)]; rfl
          have hV : throughV l = [] := by unfold throughV; rw [hE]; rfl
          have HE := Lib.hid hE
          have HV := Lib.hid hV
          clear hE hV
          go_wp2_with (first | (refine wpList_load_mid rfl 54 _ rfl b (off + k * 2) rfl [bval x, bval y] _ HC.out Try.underlying54 rfl (by rw [size54]; rfl) ?_) | (refine wpList_fresh rfl rfl rfl rfl rfl hip hipz (by rw [hips]; rfl) #[bval x, bval y] rfl rfl rfl (by simp [bval, Value.oneCell']) ?_; intro W2 hs2 hg2 hr2; have HG2 := Lib.hid (grownBy_trans HG.out hg2); have cx := Row.cell hr2 0; have cy := Row.cell hr2 1; simp [bval] at cx cy; have cs := (Row.cell (HR.out.grown hg2) x.toNat).trans HCE.out; clear hs2 hg2 hr2))
          go_ret2
          rw [HE.out, HV.out]
          exact ⟨none, 0, 0, rfl, Own.nil _ _ _ _ _, HG2.out⟩
        | false =>
          go_wp2_with (first | (refine wpList_load_mid rfl 54 _ rfl b (off + k * 2) rfl [bval x, bval y] _ HC.out Try.underlying54 rfl (by rw [size54]; rfl) ?_) | (refine wpList_fresh rfl rfl rfl rfl rfl hip hipz (by rw [hips]; rfl) #[bval x, bval y] rfl rfl rfl (by simp [bval, Value.oneCell']) ?_; intro W2 hs2 hg2 hr2; have HG2 := Lib.hid (grownBy_trans HG.out hg2); have cx := Row.cell hr2 0; have cy := Row.cell hr2 1; simp [bval] at cx cy; have cs := (Row.cell (HR.out.grown hg2) x.toNat).trans HCE.out; have fs := Row.frozen (HR.out.grown hg2) x.toNat; have HR2 := Lib.hid (HR.out.grown hg2); clear hs2 hg2 hr2))
          go_roundw
          case rel =>
            refine ⟨k + 1, by omega, by go_num, HO.out, ?_, ?_⟩
            · rw [HTK.out, ← seenL_set]
              exact Row.setc HR2.out _ _
            · exact grownBy_old HG2.out (grownBy_setCell _ _ _ _) (Nat.le_refl _)
          case measure => simp [intOf]; omega
      · obtain rfl : k = n := by omega
        have hE : throughE l = 0 := by unfold throughE; rw [HL.out, if_neg hbig, HK.out]; rfl
        have hV : throughV l = trimL (thSQ l k).1 := by unfold throughV; rw [hE, HL.out]; rfl
        have HE := Lib.hid hE
        have HV := Lib.hid hV
        clear hE hV HR
        go_wp2_with fail
        obtain ⟨b7, hb7⟩ : ∃ b7, b7 = wr.heap.size := ⟨_, rfl⟩
        obtain ⟨W2, hW2⟩ : ∃ W2, W2 = (wr.alloc (.cells #[.slice none 0 0] 33)).alloc (.cells #[.int .u8 1] 5) := ⟨_, rfl⟩
        rw [← hW2, ← hb7]
        have hg2 : wr.grownBy W2 none := hW2 ▸ grownBy_al (World.grownBy_alloc _ _ none) _
        have hs2 : W2.heap.size = b7 + 2 := by rw [hW2, hb7]; simp
        have hr7 : Row W2 b7 33 #[.slice none 0 0] := by
          rw [hW2, hb7]
          exact Row.grown (show Row (wr.alloc (.cells #[.slice none 0 0] 33)) wr.heap.size 33 #[.slice none 0 0] from heap_alloc_new wr _) (World.grownBy_alloc _ _ none)
        have hq0 : BOwn W2 (b7 + 1) (some ⟨b7 + 1, 0, none⟩) 1 1 [1] := by
          have h := BRow.own (l := [1]) (g := b7 + 1) (w := W2) (t := 5) (by rw [hW2, hb7]; have := heap_alloc_new (wr.alloc (.cells #[.slice none 0 0] 33)) (.cells #[.int .u8 1] 5); simpa [BRow, Row, rowB, bval] using this) (Nat.le_refl _) 1 rfl (by decide)
          exact h
        have HR7 := Lib.hid hr7
        have HQ0 := Lib.hid hq0
        have HG2 := Lib.hid (grownBy_trans HG.out hg2)
        have hwb : w.heap.size ≤ b7 := by rw [hb7]; exact HG.out.size
        clear hW2 hg2 hr7 hq0 hb7
        go_loopw [35, 8] (fun vi vq wr2 => ∃ (j : Nat) (an : Option Addr) (nn cn : Nat) (sa : Option Addr) (ns cs B : Nat), j ≤ k ∧ vi = .int .i64 j ∧ vq = .slice an nn cn ∧ Row wr2 b7 33 #[.slice sa ns cs] ∧ BOwn wr2 B an nn cn (thSQ l j).2 ∧ BOwn wr2 w.heap.size sa ns cs (thSQ l j).1 ∧ (∀ g, In sa cs g → g < B ∧ g ≠ b7) ∧ b7 < B ∧ B ≤ wr2.heap.size ∧ w.grownBy wr2 none) (fun vi _ _ => k - (intOf vi).toNat)
        case atStart => exact ⟨0, _, _, _, none, 0, 0, b7 + 1, by omega, rfl, rfl, HR7.out, HQ0.out, Own.nil _ _ _ _ _, fun g h => absurd h.1 (by simp), by omega, by omega, HG2.out⟩
        case round =>
          obtain ⟨j, an, nn, cn, sa, ns, cs, B, hj, rfl, rfl, hr7, hq, hs, hne, hB, hBs, hg⟩ := hrel
          have HRB := Lib.hid hr7
          have HQ := Lib.hid hq
          have HS := Lib.hid hs
          have HNE := Lib.hid hne
          have HGR := Lib.hid hg
          have hlen := thSQ_len l j
          have hnn := hq.len
          have hns := hs.len
          have HNN := Lib.hid hnn
          have HNS := Lib.hid hns
          rw [hnn, hns] at hlen
          have HSZ := Lib.hid hBs
          clear hr7 hq hs hne hg hnn hns HQ0 HR7 hBs
          by_cases hlt : j < k
          · obtain ⟨b, off, rfl, hc⟩ := HA.out.grown HGR.out j (by rw [HL.out]; exact hlt)
            obtain ⟨x, y, hxy⟩ : ∃ x y, l[j]'(by rw [HL.out]; exact hlt) = (x, y) := ⟨_, _, rfl⟩
            rw [hxy] at hc
            have HC := Lib.hid hc
            have hgd : l.getD j (0, 0) = (x, y) := by rw [List.getD_eq_getElem?_getD, List.getElem?_eq_getElem (by rw [HL.out]; exact hlt), hxy]; rfl
            obtain ⟨s, hs⟩ : ∃ s, s = (thSQ l j).1 := ⟨_, rfl⟩
            obtain ⟨q, hq⟩ : ∃ q, q = (thSQ l j).2 := ⟨_, rfl⟩
            have hstep : thSQ l (j + 1) = thStep (x, y) (s, q) := by rw [thSQ, hgd, hs, hq]
            rw [← hs] at HS HNS
            rw [← hq] at HQ HNN
            have HST := Lib.hid hstep
            clear hc hxy hgd hs hq hstep
            obtain ⟨bp, hbp⟩ : ∃ bp, bp = wr.heap.size := ⟨_, rfl⟩
            have hBp : B ≤ bp := by rw [hbp]; exact HSZ.out
            have HBP := Lib.hid hbp
            have HBB := Lib.hid hBp
            clear hbp hBp
            obtain ⟨e, he⟩ : ∃ e, e = evL q x := ⟨_, rfl⟩
            have HE1 := Lib.hid he
            clear he
            go_wp2_with (first | (refine wpList_load_mid rfl 54 _ rfl b (off + j * 2) rfl [bval x, bval y] _ HC.out Try.underlying54 rfl (by rw [size54]; rfl) ?_) | (refine wpList_fresh rfl rfl rfl rfl rfl hip hipz (by rw [hips]; rfl) #[bval x, bval y] rfl rfl rfl (by simp [bval, Value.oneCell']) ?_; intro W3 hs3 hg3 hr3; have HG3 := Lib.hid hg3; have HP3 := Lib.hid hr3; have cx := Row.cell hr3 0; have cy := Row.cell hr3 1; simp [bval] at cx cy; clear hg3 hr3))
            refine (eval_n _ _ _ q x _ (BLies.grown (BOwn.lies HQ.out) HG3.out) HNN.out (by unfold maxLen; omega)).mono ?_
            rintro e' w' ⟨rfl, q1, rfl⟩
            rw [← HE1.out]
            go_wp2_with (go_at_call 21; refine (inv_i _ e _ rfl).mono ?_; rintro e' w' ⟨rfl, rfl⟩)
            obtain ⟨W4, hW4⟩ : ∃ W4, W4 = W3.drewN q1 := ⟨_, rfl⟩
            rw [← hW4, ← HBP.out]
            have hg4 : wr.grownBy W4 none := hW4 ▸ grownBy_dr HG3.out q1
            have HG4 := Lib.hid hg4
            have cx4 : W4.cell? ⟨bp, 0, none⟩ = some (.int .u8 (x.toNat : Int)) := hW4 ▸ HBP.out ▸ cx
            have cy4 : W4.cell? ⟨bp, 1, none⟩ = some (.int .u8 (y.toNat : Int)) := hW4 ▸ HBP.out ▸ cy
            have HP4 := Lib.hid (show Row W4 bp 54 #[bval x, bval y] from hW4 ▸ HBP.out ▸ HP3.out)
            have HSW4 := Lib.hid (show W4.heap.size = bp + 1 from hW4 ▸ HBP.out ▸ hs3)
            have cb4 := Row.cell (HRB.out.grown hg4) 0
            simp at cb4
            have HS4 := Lib.hid (Own.ch HS.out (Ch.ofNone hg4 (fun _ => False)) (fun _ _ _ h => h))
            obtain ⟨f, hf⟩ : ∃ f, f = gm (y ^^^ evL s x) (ginv e) := ⟨_, rfl⟩
            have hx1 := xor_u8 y (evL s x)
            have HF := Lib.hid hf
            clear cx cy hW4 hg4 HG3 HP3 hs3 hf
            go_quiet ((first | (go_at_call 29; exact quietD (eval_n sa cs ns s x _ ((BOwn.lies HS4.out).drewN _) HNS.out (by unfold maxLen; omega))) | (go_at_call 19; exact quietS (mul_i _ _ (y ^^^ evL s x) (ginv e) _ rfl rfl))))
            rw [← HF.out]
            obtain ⟨W5, hW5⟩ : ∃ W5, W5 = W4.drewN nq := ⟨_, rfl⟩
            rw [← hW5]
            have hg5 : W4.grownBy W5 none := hW5 ▸ grownBy_drewN _ _ _
            have HG5 := Lib.hid (grownBy_trans HG4.out hg5)
            have HS5 := Lib.hid (Own.ch HS4.out (Ch.ofNone hg5 (fun _ => False)) (fun _ _ _ h => h))
            have HP5 := Lib.hid (HP4.out.grown hg5)
            have HRB5 := Lib.hid (HRB.out.grown HG5.out)
            have HQ5 := Lib.hid (Own.ch HQ.out (Ch.ofNone HG5.out (fun _ => False)) (fun _ _ _ h => h))
            have HZ5 := Lib.hid (show W5.heap.size = bp + 1 by rw [hW5]; exact HSW4.out)
            clear hW5 hg5 cb4 cx4 cy4 hx1 HS4 HP4 HG4 HSW4 HQ HRB HS
            go_wp2_with fail
            refine (scale_n _ _ _ q f _ (BOwn.lies HQ5.out) HNN.out (by omega)).mono ?_
            rintro e' W6 ⟨am, cm, rfl, hmo, hg6⟩
            obtain ⟨mo, hmoe⟩ : ∃ mo, mo = scL f q := ⟨_, rfl⟩
            rw [← hmoe] at hmo
            have HM := Lib.hid hmo
            have HMO := Lib.hid hmoe
            have HG6 := Lib.hid (grownBy_trans HG5.out hg6)
            have HS6 := Lib.hid (Own.ch HS5.out (Ch.ofNone hg6 (fun _ => False)) (fun _ _ _ h => h))
            have HQ6 := Lib.hid (Own.ch HQ5.out (Ch.ofNone hg6 (fun _ => False)) (fun _ _ _ h => h))
            have HP6 := Lib.hid (HP5.out.grown hg6)
            have HRB6 := Lib.hid (HRB5.out.grown hg6)
            have hz6 : bp + 1 ≤ W6.heap.size := by have := HZ5.out; have := hg6.size; omega
            have HZ6 := Lib.hid hz6
            have cb6 := Row.cell HRB6.out 0
            simp at cb6
            clear hmo hmoe hg6 HS5 HQ5 HP5 HRB5 HG5 hz6
            go_wp2_with fail
            go_loopw [59] (fun _ wr3 => ∃ (sb : Option Addr) (nb cb : Nat), Row wr3 b7 33 #[.slice sb nb cb] ∧ BOwn wr3 w.heap.size sb nb cb (s ++ List.replicate (nb - ns) 0) ∧ ns ≤ nb ∧ (nb = ns ∨ nb ≤ nn) ∧ (∀ g, In sb cb g → g ≠ b7 ∧ (In sa cs g ∨ W6.heap.size ≤ g)) ∧ Ch (fun g => g = b7 ∨ In sa cs g) W6 wr3) (fun _ wr3 => padMs b7 nn wr3)
            case atStart => exact ⟨sa, ns, cs, HRB6.out, by rw [Nat.sub_self, List.replicate_zero, List.append_nil]; exact HS6.out, Nat.le_refl _, .inl rfl, fun g h => ⟨(HNE.out g h).2, .inl h⟩, Ch.refl _ _⟩
            case round =>
              obtain ⟨sb, nb, cb, hrb, hsb, hnb1, hnb2, hin, hch⟩ := hrel
              have HRB3 := Lib.hid hrb
              have HSB := Lib.hid hsb
              have HIN := Lib.hid hin
              have HCH := Lib.hid hch
              have cb3 := Row.cell hrb 0
              simp at cb3
              clear hrb hsb hin hch
              by_cases hlt3 : nb < nn
              · have hws : w.heap.size ≤ wr.heap.size := by have := HGR.out.size; have := HG6.out.size; have := HCH.out.size; omega
                go_wp2_with (first | (at_builtin; refine wpList_push elB rfl (.tmp 64) (.tmp 65) rfl rfl HSB.out (.int .u8 0) rfl rfl (by unfold maxLen; omega) (by omega) hws ?_; intro g cap w1 hown1 hgr; have HO1 := Lib.hid hown1; have HGR1 := Lib.hid hgr; have HRB1 := Lib.hid (Row.ch HRB3.out hgr.ch (fun h => (HIN.out _ h).1 rfl)); clear hown1 hgr) | (refine wpList_put1 rfl rfl b7 rfl _ rfl HRB1.out (by kernel_rfl) rfl ?_; intro W7 hs7 hg7 hr7; have HG7 := Lib.hid hg7; have HR7 := Lib.hid hr7; clear hg7 hr7 hs7))
                have hsn := HNS.out
                have hnb : nb - ns + 1 = nb + 1 - ns := by omega
                go_roundw
                case rel =>
                  refine ⟨_, _, _, HR7.out, ?_, by omega, by omega, ?_, ?_⟩
                  · have h1 := Own.ch HO1.out (Ch.ofSome (S := fun g => g = b7) HG7.out rfl) (fun h0 g0 e0 h2 => by
                      rcases GrewP.inn HGR1.out (g := g0) ⟨h0, e0⟩ with h3 | h3
                      · exact (HIN.out _ h3).1 h2
                      · have := HRB3.out.lt; omega)
                    unfold BOwn
                    rw [← hnb, List.replicate_succ', ← List.append_assoc, List.map_append]
                    exact h1
                  · intro g0 h0
                    rcases GrewP.inn HGR1.out h0 with h3 | h3
                    · exact HIN.out _ h3
                    · have := HRB3.out.lt
                      have := HCH.out.size
                      exact ⟨by omega, .inr (by omega)⟩
                  · have hc1 : Ch (fun g => g = b7 ∨ In sb cb g) wr w1 := (HGR1.out.ch).mono (fun _ _ h => .inr h)
                    have hc2 : Ch (fun g => g = b7 ∨ In sb cb g) wr W7 := hc1.trans (Ch.ofSome (S := fun g => g = b7) HG7.out rfl) (fun i _ h => .inl h)
                    refine HCH.out.trans hc2 (fun i hi h => ?_)
                    rcases h with h | h
                    · exact .inl h
                    · rcases (HIN.out _ h).2 with h' | h'
                      · exact .inr h'
                      · omega
                case measure =>
                  rw [padMs_eq HR7.out, padMs_eq HRB3.out]
                  omega
              · have hnb : nb - ns = nn - ns := by omega
                obtain ⟨s3, hs3⟩ : ∃ s3, s3 = padL s nn := ⟨_, rfl⟩
                have hs3' : s ++ List.replicate (nb - ns) 0 = s3 := by rw [hs3, hnb]; unfold padL; rw [HNS.out]
                rw [hs3'] at HSB
                have hs3l : s3.length = nb := HSB.out.len
                have HS3L := Lib.hid hs3l
                have HS3 := Lib.hid hs3
                clear hs3 hs3' hs3l hnb
                have hBp := HBB.out
                have hz5 := HZ5.out
                have hnB : ∀ g, In sa cs g ∨ g = b7 → g < B := fun g h => h.elim (fun h => (HNE.out g h).1) (fun h => by omega)
                have HNB := Lib.hid hnB
                have hent := enters_of Try.func60 (by kernel_rfl) rfl
                have hmr : Own wr W5.heap.size 5 1 am nn cm (mo.map bval) := Own.ch HM.out HCH.out (fun h0 g e h => by
                  have := (Own.inn HM.out ⟨h0, e⟩).1
                  have := HNB.out g h.symm
                  omega)
                have hmlt : ∀ g, In am cm g → g < W6.heap.size ∧ W5.heap.size ≤ g := fun g h => ⟨(Own.inn HM.out h).2, (Own.inn HM.out h).1⟩
                have HMR := Lib.hid hmr
                have hml : mo.length = nn := HM.out.len
                have hJ : ∀ i W, (BOwn W w.heap.size sb nb cb (addF mo s3 i) ∧ Ch (In sb cb) wr W) → BLies W am mo := fun i W h => BOwn.lies (Own.ch HMR.out h.2 (fun h0 g e h1 => by
                  have h2 := hmlt g ⟨h0, e⟩
                  rcases (HIN.out g h1).2 with h3 | h3
                  · have := HNB.out g (.inl h3); omega
                  · omega))
                have h0 : BOwn wr w.heap.size sb nb cb (addF mo s3 0) ∧ Ch (In sb cb) wr wr := ⟨HSB.out, Ch.refl _ _⟩
                have hst : ∀ (i : Nat) (W : World) (hi : i < mo.length), (BOwn W w.heap.size sb nb cb (addF mo s3 i) ∧ Ch (In sb cb) wr W) → Calls Try.prog 60 (#[.int .i64 (i : Int), .int .u8 ((mo[i]).toNat : Int)] ++ #[.pointer (some ⟨b7, 0, none⟩)]) W fun e W' => e = .returned (.tuple #[]) ∧ BOwn W' w.heap.size sb nb cb (addF mo s3 (i + 1)) ∧ Ch (In sb cb) wr W' := by
                  intro i W hi h
                  have hd : mo[i] = mo.getD i 0 := by simp [hi]
                  have hcap := Own.cap h.1
                  obtain ⟨g, e, _, _⟩ := Own.block h.1 (by omega)
                  subst e
                  rw [hd]
                  exact (through1_n b7 w.heap.size g nb cb i (mo.getD i 0) (addF mo s3 i) W (HRB3.out.ch h.2 (fun h1 => (HIN.out _ h1).1 rfl)) h.1 (by omega) (by omega)).mono fun e W' h' => ⟨h'.1, h'.2.1, h.2.trans (Ch.ofSome (S := In (some ⟨g, 0, none⟩) cb) h'.2.2 ⟨by omega, rfl⟩) (fun _ _ h => h)⟩
                have ht := term_n 60 #[.pointer (some ⟨b7, 0, none⟩)] am cm nn mo wr (fun i W => BOwn W w.heap.size sb nb cb (addF mo s3 i) ∧ Ch (In sb cb) wr W) hml (by unfold maxLen; omega) hent hJ hst h0
                have HT := Lib.hid ht
                clear ht hst h0 hJ hmr hnB
                go_wp2_with fail
                refine HT.out.mono ?_
                rintro e' W8 ⟨rfl, h1, h2⟩
                have hz6 := HZ6.out
                have hsb8 : ∀ g, In sb cb g → g < B ∨ W6.heap.size ≤ g := fun g h => (HIN.out g h).2.elim (fun h' => .inl (HNB.out g (.inl h'))) .inr
                have HS8 := Lib.hid h1
                have hq8 : Own W8 B 5 1 an nn cn (q.map bval) := Own.ch (Own.ch HQ6.out HCH.out (fun h0 g e h => by
                  have := (Own.inn HQ6.out ⟨h0, e⟩).1
                  have := HNB.out g h.symm
                  omega)) h2 (fun h0 g e h => by
                  have h3 := (Own.inn HQ6.out ⟨h0, e⟩)
                  have := hsb8 g h
                  omega)
                have hp8 : Row W8 bp 54 #[bval x, bval y] := (HP6.out.ch HCH.out (fun h => by have := HNB.out bp h.symm; omega)).ch h2 (fun h => by have := hsb8 bp h; omega)
                have hb8 : Row W8 b7 33 #[.slice sb nb cb] := HRB3.out.ch h2 (fun h1 => (HIN.out _ h1).1 rfl)
                have hg8 : w.grownBy W8 none := Ch.fresh (Ch.fresh (grownBy_trans HGR.out HG6.out) HCH.out (fun g hg h => by
                  rcases h with h | h
                  · omega
                  · have := (Own.inn HS6.out h).1; omega)) h2 (fun g hg h => by have := (Own.inn HSB.out h).1; omega)
                have hs8 : ∀ g, In sb cb g → g < W8.heap.size ∧ g ≠ b7 := fun g h => ⟨(Own.inn h1 h).2, (HIN.out g h).1⟩
                have hb78 : b7 < W8.heap.size := hb8.lt
                have HQ8 := Lib.hid hq8
                have HB8 := Lib.hid hb8
                have HG8 := Lib.hid hg8
                have HI8 := Lib.hid hs8
                have cx8 := Row.cell hp8 0
                simp [bval] at cx8
                have hE2 : (thSQ l (j + 1)).1 = addF mo s3 nn ∧ (thSQ l (j + 1)).2 = prodL q [x, 1] := by
                  rw [HST.out]
                  unfold thStep
                  simp only
                  rw [← HE1.out, ← HF.out, ← HMO.out, hml, ← HS3.out]
                  first | exact ⟨rfl, rfl⟩ | simp
                have HE2 := Lib.hid hE2
                clear h1 h2 hq8 hp8 hb8 hg8 hs8 hsb8 hE2 hmlt HNB HT HIN HCH HRB3 HSB HMR
                go_wp2_with fail
                have hx2 : BRow (W8.alloc (.cells #[.int .u8 (x.toNat : Int), .int .u8 1] 5)) W8.heap.size 5 [x, 1] := heap_alloc_new W8 _
                have hga := World.grownBy_alloc W8 (.cells #[.int .u8 (x.toNat : Int), .int .u8 1] 5) none
                refine (times_n an (some ⟨W8.heap.size, 0, none⟩) cn 2 nn 2 q [x, 1] _ (BOwn.lies (Own.ch HQ8.out (Ch.ofNone hga (fun _ => False)) (fun _ _ _ h => h))) (BRow.lies hx2) HNN.out rfl (by omega) (by omega)).mono ?_
                rintro e' W9 ⟨ar, nr, cr, rfl, hr9, hg9⟩
                have HG9 := Lib.hid (grownBy_trans hga hg9)
                have HR9 := Lib.hid hr9
                clear hx2 hga hg9 hr9
                go_wp2_with fail
                go_roundw
                case rel =>
                  refine ⟨j + 1, ar, nr, cr, sb, nb, cb, W8.heap.size, by omega, by go_num, rfl, HB8.out.grown HG9.out, ?_, ?_, HI8.out, hb78, HG9.out.size, grownBy_trans HG8.out HG9.out⟩
                  · rw [HE2.out.2]
                    exact HR9.out.mono (by simp)
                  · rw [HE2.out.1]
                    exact Own.ch HS8.out (Ch.ofNone HG9.out (fun _ => False)) (fun _ _ _ h => h)
                case measure => simp [intOf]; omega
          · obtain rfl : j = k := by omega
            have cb9 := Row.cell HRB.out 0
            simp at cb9
            have htl := trimN_le (thSQ l j).1 ns
            obtain ⟨s, hs⟩ : ∃ s, s = (thSQ l j).1 := ⟨_, rfl⟩
            obtain ⟨p, hp⟩ : ∃ p, p = trimN s ns := ⟨_, rfl⟩
            have htL : throughV l = s.take p := by
              rw [HV.out, ← hs]; unfold trimL; rw [hp]
              rw [← hs] at HNS
              rw [HNS.out]
            rw [← hs] at HS HNS htl
            rw [← hp] at htl
            have HTL := Lib.hid htL
            have ct := trim_n sa cs ns s wr (BOwn.lies HS.out) HNS.out (by unfold maxLen; omega) HS.out.cap.1
            rw [← hp] at ct
            have HCT := Lib.hid ct
            clear ct htL hs hp
            rcases Nat.eq_zero_or_pos p with rfl | hpp
            · go_wp2_with (first | (go_at_call 54; refine HCT.out.mono ?_; rintro e w' ⟨rfl, rfl⟩) | (at_builtin; refine Lib.wpList_append_run _ rfl _ _ _ _ rfl _ _ rfl rfl _ _ (run_app_none _ _ _ _) ?_))
              go_ret2
              rw [HE.out, HTL.out]
              exact ⟨none, 0, 0, rfl, Own.nil _ _ _ _ _, HGR.out⟩
            · have hcap := HS.out.cap
              obtain ⟨g, esa, _, _⟩ := Own.block HS.out (by omega)
              subst esa
              have hws := HGR.out.size
              have hone : ∀ u ∈ (s.take p).map bval, u.oneCell' = true := fun u hu => by obtain ⟨_, _, rfl⟩ := List.mem_map.1 hu; rfl
              have hlen2 : ((s.take p).map bval).length = p * 1 := by rw [List.length_map, List.length_take, HNS.out, Nat.min_eq_left (by omega), Nat.mul_one]
              go_wp2_with (first | (go_at_call 54; refine HCT.out.mono ?_; rintro e w' ⟨rfl, rfl⟩) | (at_builtin; refine wpList_app elB rfl (.const (.slice none 0 0)) (.tmp 77) rfl rfl (Own.nil _ w.heap.size 5 1 none) ⟨g, 0, none⟩ p cs ((s.take p).map bval) rfl hlen2 (app_src HS.out p) hone (by unfold maxLen; omega) (by omega) hws hpp ?_; intro g2 c2 w2 hown2 hgr2; have HO2 := Lib.hid hown2; have HG2' := Lib.hid (hgr2.grew.grown (Own.nil wr w.heap.size 5 1 none) HGR.out (Nat.le_refl _)); clear hown2 hgr2))
              go_ret2
              rw [HE.out, HTL.out]
              refine ⟨_, _, _, rfl, ?_, HG2'.out⟩
              have := HO2.out
              simpa [BOwn] using this

end Go.Proofs.Ytfikeilpgnahkaa
