/- The law OctetBack. -/
import Derived.Test.YthemlaibjchjpaaOctXorL
import Derived.Test.YthemlaibjchjpaaNumFns
import Derived.Test.YthemlaibjchjpaaConcat
import Derived.Test.YthemlaibjchjpaaIter2
import Derived.Test.YthemlaibjchjpaaFrm
namespace Go.Proofs.Ythemlaibjchjpaa
open Go.RowKit Go.Shelf
attribute [local go_sem] Oper.semAt_some

theorem func_nil (fn : Fn) (a c : Array Value) (w : World) : (binOp .eql 29 (.func fn a c) .nilFunc).run Try.prog w = .ok (.bool false) w := by
  kernel_rfl
theorem drew_g {w w' : World} {q : Nat} (h : w' = w.drewN q) : w.grownBy w' none := h ▸ grownBy_drewN w q none
theorem cutN_cutN (k x : Nat) : cutN k x % 256 ^ k = cutN k x := Nat.mod_eq_of_lt (Nat.mod_lt _ (Nat.pos_of_ne_zero (by simp)))
theorem xorL_xorL (a b : List UInt8) (h : a.length = b.length) : xorL (xorL a b) b = a := by
  apply List.ext_getElem
  · simp [xorL, h]
  · intro i h1 h2
    simp [xorL, UInt8.xor_assoc]

/-- what has been collected -/
def ColI (w : World) (bp B : Nat) (pre : List Pce) (W : World) : Prop :=
  ∃ ap cp L, Row W bp 24 #[.slice ap pre.length cp] ∧ LIs W B ap pre.length cp (pre.map Pce.b) L ∧ w.grownBy W none
theorem ColI.own {w : World} {bp B b0 : Nat} (hb : w.heap.size ≤ b0) : OwnFrom b0 (ColI w bp B) :=
  fun _ _ _ _ ⟨ap, cp, L, h1, h2, h3⟩ hg hr => ⟨ap, cp, L, h1.nc hg hr, h2.nc hg hr, grown_nc h3 hg hb hr⟩
theorem pre_len_le {pre : List Pce} {x : Pce} {z : Int} {l : List UInt8} {N : Nat} (h : ∃ r, pre.map Pce.pr ++ x.pr :: r = chL z l) (hl : l.length ≤ N) : pre.length + 1 ≤ N := by
  obtain ⟨r, hr⟩ := h
  have h1 := congrArg List.length hr
  rw [List.length_append, List.length_map, List.length_cons] at h1
  have h2 : (chL z l).length ≤ l.length := by
    unfold chL
    split
    · simp
    · exact chs_len _ l.length 0 l (Nat.le_refl _)
  omega

set_option maxRecDepth 100000 in
set_option maxHeartbeats 8000000 in
theorem back_walk (x y : Nat) (a b : Option Addr) (n ca m cb : Nat) (la lb : List UInt8) (z v : Int) (w : World) (hx : x < 18446744073709551616) (hy : y < 18446744073709551616) (ha : BLies w a la) (hb : BLies w b lb) (hla : la.length = n) (hlb : lb.length = m) (hn : n ≤ 1048576) (hm : m ≤ 1048576) :
    Calls Try.prog 9 #[.int .u64 x, .int .u64 y, .slice a n ca, .slice b m cb, .int .i64 z, .int .i64 v] w fun e w' => e = .returned (.bool true) ∧ w.grownBy w' none := by
  obtain ⟨il, hil, hilz, hils, _⟩ := info_parts (show (Try.prog.info? 24).map (fun i => (i.zero, i.size, i.bytes)) = some (some (.slice none 0 0), 1, 24) by kernel_rfl)
  obtain ⟨k, hk⟩ := Wd.ex v
  have hk8 := hk.le
  have h1 := fun (w : World) => lawBig_any x v k hx hk w
  have h1y := fun (w : World) => lawBig_any y v k hy hk w
  have hcx := fun (w : World) => cut_any x v k hx hk w
  have hcy := fun (w : World) => cut_any y v k hy hk w
  have hwd := fun (w : World) => width_any v k hk w
  have h2 : ∀ (al : Option Addr) (c : Nat) (w : World), BLies w al (bigL k (cutN k x)) → Calls Try.prog 26 #[.slice al k c, .int .i64 v] w fun e w' => e = .returned (.tuple #[.int .u64 (cutN k x : Nat), .int .i64 0]) ∧ w = w' := fun al c w h => by
    have hs := lawSmall_v al c k (bigL k (cutN k x)) v k w h (bigL_length k _) (by unfold maxLen; omega) hk
    have e1 : smV k k (bigL k (cutN k x)) = cutN k x := by unfold smV; rw [if_pos rfl, small_big, cutN_cutN]
    have e2 : smE k k = 0 := by unfold smE; rw [if_neg (by omega), if_neg (by omega)]
    rw [e1, e2] at hs
    exact hs
  have hsa : ∀ (al : Option Addr) (c : Nat) (w : World), BLies w al la → Calls Try.prog 26 #[.slice al n c, .int .i64 v] w fun e w' => e = .returned (.tuple #[.int .u64 (smV n k la : Nat), .int .i64 (smE n k : Nat)]) ∧ w = w' := fun al c w h =>
    lawSmall_v al c n la v k w h hla (by unfold maxLen; omega) hk
  have hbz : n = k → ∀ (w : World), Calls Try.prog 25 #[.int .u64 (smV n k la : Nat), .int .i64 v] w fun e w' => ∃ a c, e = .returned (.slice a k c) ∧ BOwn w' w.heap.size a k c la ∧ w.grownBy w' none := fun hnk w => by
    have hl := smallL_lt k la (hla.trans hnk)
    have hp : 256 ^ k ≤ 18446744073709551616 := Nat.le_trans (Nat.pow_le_pow_right (by decide) hk8) (by decide)
    have hs : smV n k la = smallL la := if_pos hnk
    have h := lawBig_any (smV n k la) v k (by rw [hs]; omega) hk w
    have e : bigL k (cutN k (smV n k la)) = la := by rw [hs, cutN, Nat.mod_eq_of_lt hl, big_small k la (hla.trans hnk)]
    rw [e] at h
    exact h
  have hlt : cutN k x < cutN k y → lessL (bigL k (cutN k x)) (bigL k (cutN k y)) = true := fun h =>
    lessL_small _ _ (by rw [bigL_length, bigL_length]) (by rw [small_big, small_big, cutN_cutN, cutN_cutN]; exact h)
  obtain ⟨X, hX⟩ : ∃ X, X = xorL la lb := ⟨_, rfl⟩
  have hxx : ∀ (ab : Option Addr) (nb c2 : Nat) (w : World), BLies w ab X → BLies w b lb → n = m → Calls Try.prog 28 #[.slice ab X.length c2, .slice b m cb] w fun e w' => ∃ ao no co, e = .returned (.tuple #[.slice ao no co, .int .i64 0]) ∧ BOwn w' w.heap.size ao no co la ∧ w.grownBy w' none := fun ab nb c2 w h h' hnm => by
    have hl : la.length = lb.length := by rw [hla, hlb]; exact hnm
    have hXl : X.length = m := by rw [hX, xorL_len hl, hla]; exact hnm
    rw [hXl]
    exact xor_eq ab b m c2 cb X lb w h h' hXl hlb (by omega) la (by rw [hX, xorL_xorL la lb hl])
  have hxx' : ∀ (ab : Option Addr) (nc c2 : Nat) (w : World), BLies w ab X → BLies w b lb → n = m → nc = X.length → Calls Try.prog 28 #[.slice ab nc c2, .slice b m cb] w fun e w' => ∃ ao no co, e = .returned (.tuple #[.slice ao no co, .int .i64 0]) ∧ BOwn w' w.heap.size ao no co la ∧ w.grownBy w' none := fun ab nc c2 w h h' hnm hc => by
    subst hc
    exact hxx ab 0 c2 w h h' hnm
  clear hxx
  have hbl : ∀ X' : List UInt8, X' = bigL k (cutN k x) → X'.length = k := fun X' h => by rw [h, bigL_length]
  generalize hbx : bigL k (cutN k x) = bx at h1 h2 hlt hbl
  have hbxl := hbl bx rfl
  have hby : (bigL k (cutN k y)).length = k := bigL_length k _
  generalize bigL k (cutN k y) = by_ at h1y hlt hby
  generalize cutN k x = cx at h2 hcx hlt
  generalize cutN k y = cy at hcy hlt
  clear hbx hbl
  have H1 := Lib.hid h1
  have H1Y := Lib.hid h1y
  have HCX := Lib.hid hcx
  have HCY := Lib.hid hcy
  have HWD := Lib.hid hwd
  have H2 := Lib.hid h2
  have HSA := Lib.hid hsa
  have HBZ := Lib.hid hbz
  have HLT := Lib.hid hlt
  have HXE := Lib.hid hX
  have HXX := Lib.hid hxx'
  have HA := Lib.hid ha
  have HB := Lib.hid hb
  have HLA := Lib.hid hla
  have HLB := Lib.hid hlb
  have HBXL := Lib.hid hbxl
  have HBYL := Lib.hid hby
  have HG := Lib.hid (World.grownBy.refl w none)
  clear h1 h1y hcx hcy hwd h2 hsa hbz hlt hX hxx' ha hb hla hlb hbxl hby hk
  refine calls_of_wp_marks Try.func9 rfl ?_
  simp only [Try.ntmps9, List.size_toArray, List.length_cons, List.length_nil, Nat.reduceAdd, Nat.reduceSub, Array.replicate_succ, Array.replicate_zero, List.push_toArray, List.append_toArray, List.nil_append, List.cons_append]

  go_wp2_with fail
  refine (H1.out _).mono ?_
  rintro e w1 ⟨al, cl, rfl, ho, g⟩
  have HL := Lib.hid ho
  clear ho
  replace HG := Lib.hid (grownBy_trans HG.out g)
  clear g
  go_wp2_with fail
  refine (H2.out _ _ _ HL.out.lies).mono ?_
  rintro e w' ⟨rfl, rfl⟩
  go_wp2_with fail
  refine (HCX.out _).mono ?_
  rintro e w' ⟨rfl, rfl⟩
  go_wp2_with fail
  refine (HWD.out _).mono ?_
  rintro e w' ⟨rfl, rfl⟩
  go_wp2_with fail
  refine (HCX.out _).mono ?_
  rintro e w' ⟨rfl, rfl⟩
  go_wp2_with fail
  refine (HCY.out _).mono ?_
  rintro e w' ⟨rfl, rfl⟩
  by_cases hc : cx < cy
  · have hd : decide ((cx : Int) < (cy : Int)) = true := by simp; exact hc
    go_wp2_with fail
    refine (H1Y.out _).mono ?_
    rintro e w2 ⟨ay, cy2, rfl, ho, g⟩
    have HY := Lib.hid ho
    clear ho
    replace HG := Lib.hid (grownBy_trans HG.out g)
    replace HL := Lib.hid (HL.out.grown g)
    clear g
    go_wp2_with fail
    refine (less_n _ _ _ _ _ _ bx by_ _ HL.out.lies HBXL.out HY.out.lies HBYL.out).mono ?_
    rintro e w' ⟨rfl, rfl⟩
    rw [HLT.out hc]
    go_wp2_with fail
    refine (less_n _ _ _ _ _ _ bx bx _ HL.out.lies HBXL.out HL.out.lies HBXL.out).mono ?_
    rintro e w' ⟨rfl, rfl⟩
    rw [lessL_refl]
    by_cases hnk : n = k
    · subst hnk
      have hse : smE n n = 0 := by unfold smE; rw [if_neg (by omega), if_neg (by omega)]
      rw [hse] at HSA
      clear hse
      go_wp2_with fail
      refine (HSA.out _ _ _ (HA.out.grown HG.out)).mono ?_
      rintro e w' ⟨rfl, rfl⟩
      go_wp2_with fail
      refine (HBZ.out trivial _).mono ?_
      rintro e w3 ⟨az, cz, rfl, ho, g⟩
      have HZ := Lib.hid ho
      clear ho
      replace HG := Lib.hid (grownBy_trans HG.out g)
      replace HL := Lib.hid (HL.out.grown g)
      replace HY := Lib.hid (HY.out.grown g)
      clear g
      go_wp2_with fail
      refine (same_yes _ _ _ _ _ _ la _ (BOwn.lies HZ.out) (HA.out.grown HG.out) HLA.out HLA.out (by unfold maxLen; omega)).mono ?_
      rintro e w4 ⟨rfl, q, hq⟩
      have g := drew_g hq
      clear hq
      replace HG := Lib.hid (grownBy_trans HG.out g)
      replace HL := Lib.hid (HL.out.grown g)
      replace HY := Lib.hid (HY.out.grown g)
      replace HZ := Lib.hid (HZ.out.grown g)
      clear g
      by_cases hz : z < 1
      · have hdz : decide ((1 : Int) ≤ z) = false := by simp; omega
        rcases Nat.decEq n m with hnm | hnm
        · have hd1 : decide ((n : Int) = (m : Int)) = false := by simp; omega
          have hd2 : ((n : Int) == (m : Int)) = false := by simp; omega
          go_wp2_with fail
          refine (xor_ne a b n m ca cb la lb _ HLA.out HLB.out hnm).mono ?_
          rintro e w5 ⟨rfl, g⟩
          replace HG := Lib.hid (grownBy_trans HG.out g)
          replace HL := Lib.hid (HL.out.grown g)
          replace HY := Lib.hid (HY.out.grown g)
          clear g
          go_wp2_with fail
          refine (xor_nn none b 0 m 0 cb [] lb _ (BLies.nil _ _) (HB.out.grown HG.out) rfl HLB.out (by omega)).mono ?_
          rintro e w6 ⟨ad, nd, cd, rfl, ho, g⟩
          have HD2 := Lib.hid ho
          clear ho
          obtain rfl := HD2.out.len
          replace HG := Lib.hid (grownBy_trans HG.out g)
          replace HL := Lib.hid (HL.out.grown g)
          replace HY := Lib.hid (HY.out.grown g)
          clear g
          go_wp2_with fail
          exact ⟨_, results_tmp rfl _ _ _, rfl, HG.out⟩
        · subst hnm
          go_wp2_with fail
          refine (xor_eq a b n ca cb la lb _ (HA.out.grown HG.out) (HB.out.grown HG.out) HLA.out HLB.out (by omega) X HXE.out).mono ?_
          rintro e w7 ⟨ac, nc, cc, rfl, ho, g⟩
          have HC1 := Lib.hid ho
          clear ho
          obtain rfl := HC1.out.len
          replace HG := Lib.hid (grownBy_trans HG.out g)
          replace HL := Lib.hid (HL.out.grown g)
          replace HY := Lib.hid (HY.out.grown g)
          clear g
          go_wp2_with fail
          refine (HXX.out _ _ _ _ HC1.out.lies (HB.out.grown HG.out) trivial rfl).mono ?_
          rintro e w8 ⟨ad, nd, cd, rfl, ho, g⟩
          have HD1 := Lib.hid ho
          clear ho
          obtain rfl := HD1.out.len
          replace HG := Lib.hid (grownBy_trans HG.out g)
          replace HL := Lib.hid (HL.out.grown g)
          replace HY := Lib.hid (HY.out.grown g)
          replace HC1 := Lib.hid (HC1.out.grown g)
          clear g
          go_wp2_with fail
          refine (same_yes _ _ _ _ _ _ la _ (BOwn.lies HD1.out) (HA.out.grown HG.out) rfl HLA.out (by rw [HLA.out]; unfold maxLen; omega)).mono ?_
          rintro e w9 ⟨rfl, q, hq⟩
          have g := drew_g hq
          clear hq
          replace HG := Lib.hid (grownBy_trans HG.out g)
          replace HL := Lib.hid (HL.out.grown g)
          replace HY := Lib.hid (HY.out.grown g)
          replace HC1 := Lib.hid (HC1.out.grown g)
          replace HD1 := Lib.hid (HD1.out.grown g)
          clear g
          go_wp2_with fail
          exact ⟨_, results_tmp rfl _ _ _, rfl, HG.out⟩
      · have hdz : decide ((1 : Int) ≤ z) = true := by simp; omega
        go_wp2_with fail
        refine (chunks_n a ca n z la _ (HA.out.grown HG.out) HLA.out (by omega)).mono ?_
        rintro e w10 ⟨b1, b2, ac, cc, rfl, hc, g⟩
        have HC := Lib.hid hc
        have HZW := Lib.hid HG.out.size
        clear hc
        replace HG := Lib.hid (grownBy_trans HG.out g)
        replace HL := Lib.hid (HL.out.grown g)
        replace HY := Lib.hid (HY.out.grown g)
        clear g
        have hnf := func_nil (.func 61) #[] #[.pointer (some ⟨b1, 0, none⟩), .pointer (some ⟨b2, 0, none⟩)]
        go_wp2_with (refine wpList_made rfl rfl hil hilz ?_; intro WP hsp g hrp; have HSP := Lib.hid hsp; have HGP := Lib.hid g; have HRP := Lib.hid (show Row WP _ 24 #[.slice none 0 0] from hrp); clear hsp g hrp)
        have hg0 := grownBy_trans HG.out HGP.out
        have hc0 := HC.out.kept (KeptS.of HGP.out)
        have hbw : w.heap.size ≤ w10.heap.size := HG.out.size
        have hbp : ∀ k, Chk.S b1 b2 ac cc k → k < w10.heap.size := fun k hk => (HC.out.lt hk).2
        obtain ⟨bp, hbe⟩ : ∃ bp, bp = w10.heap.size := ⟨_, rfl⟩
        have hsz : WP.heap.size = bp + 1 := by rw [hbe]; exact HSP.out
        rw [← hbe] at HRP hbp hbw ⊢
        have HG0 := Lib.hid hg0
        have HC0 := Lib.hid hc0
        have HBP := Lib.hid hbp
        have HSZ := Lib.hid hsz
        have HBW := Lib.hid hbw
        clear hbe hg0 hc0 hbp hsz hbw HG HC HGP HSP
        refine (wpIn_wide (n := 3)).1 ?_
        refine wpIn_rangeOkA (F := Fence.wide) (n := 3) (fun t x => ((t.setIfInBounds 95 (.int .i64 (x.at_ : Int))).setIfInBounds 96 x.sl.val).setIfInBounds 21 x.sl.val) rfl (by omega) (gf := 61) (lb := #[.pointer (some ⟨b1, 0, none⟩), .pointer (some ⟨b2, 0, none⟩)]) rfl trivial (enters_of Try.func61 (by kernel_rfl) rfl)
          (chunks1_in 2 _ b1 b2 z ac n cc la WP HC0.out (by omega)) KeptS.trans (fun W l o o' hl _ _ _ => KeptS.put W l o' (fun hs => by have := HBP.out _ hs; have := HSZ.out; omega))
          (fun pre x W0 W l o o' h hl ho => h.put l o' hl ho) (Below.refl _ _) (fun _ => rfl)
          (ColI w bp WP.heap.size) (fun _ _ _ => False) (ColI.own HG0.out.size) (fun _ _ _ _ _ h _ _ => h)
          ⟨none, 0, [], HRP.out, ⟨Own.nil _ _ _ _ _, rfl, fun i h => absurd h (by simp), fun i j h => absurd h (by simp)⟩, HG0.out⟩ ?assign ?body ?done ?stop
        case assign =>
          intro lp x W K hK
          simp only [Pce.vals]
          gi_wp2
          exact hK
        case stop =>
          rintro D c pre W _ _ h _
          exact h.elim
        case body =>
          rintro lp pre ⟨at_, ⟨sa, sm, sc⟩, pb⟩ W0 W hI0 hI hkc hok
          obtain ⟨ap, cp, L, hrow0, hli0, _⟩ := hI0
          obtain ⟨_, _, _, _, _, hgw⟩ := hI
          have hrow := hrow0.keptC hkc
          have hli := hli0.keptC hkc
          have hlen := pre_len_le hok.at_ (by rw [HLA.out]; exact hn)
          have c1 := Row.cell hrow 0
          have f1 := Row.frozen hrow 0
          simp at c1
          have hin : ∀ g, In ap cp g → WP.heap.size ≤ g := fun g hg => (Own.inn hli.outer hg).1
          have hown : SOwn W WP.heap.size ap pre.length cp L := hli.outer
          have hpb : BOwn W W0.heap.size sa sm sc pb := hok.own
          have hbb : WP.heap.size ≤ W0.heap.size := by have := hrow0.lt; have := HSZ.out; omega
          have hbbW : WP.heap.size ≤ W.heap.size := Nat.le_trans hbb hkc.size
          have HROW := Lib.hid hrow
          have HLI := Lib.hid hli
          have HLI0 := Lib.hid hli0
          have HIN := Lib.hid hin
          have HOWN := Lib.hid hown
          have HPB := Lib.hid hpb
          have HBB := Lib.hid hbb
          have HKC := Lib.hid hkc
          have HGW := Lib.hid hgw
          clear hrow hrow0 hli hli0 hin hown hpb hbb hkc hgw hok
          simp only [List.setIfInBounds_toArray, List.set_cons_zero, List.set_cons_succ, Sl.val]
          refine wpIn_block ?_
          refine wpIn_regionP (by kernel_rfl) ?_
          go_wp2_with (at_builtin; refine wpList_push elS rfl (.tmp 97) (.tmp 99) rfl rfl HOWN.out (.slice sa sm sc) rfl rfl (by unfold maxLen; omega) (by omega) hbbW ?_; intro gE cE2 w5 hown5 hgr5; have HO5 := Lib.hid hown5; have HGR5 := Lib.hid hgr5; have HROW5 := Lib.hid (HROW.out.ch hgr5.ch (row_in HROW.out HOWN.out (by decide))); have c25 := Row.cell HROW5.out 0; have f25 := Row.frozen HROW5.out 0; simp at c25; clear hown5 hgr5)
          refine ⟨rfl, ?_⟩
          obtain ⟨w6, hw6⟩ : ∃ w6, w6 = w5.setCell ⟨bp, 0, none⟩ (.slice (some ⟨gE, 0, none⟩) (pre.length + 1) cE2) := ⟨_, rfl⟩
          rw [← hw6]
          have hg6 : w5.grownBy w6 (some bp) := hw6 ▸ grownBy_setCell _ _ _ _
          have hrow6 : Row w6 bp 24 #[.slice (some ⟨gE, 0, none⟩) (pre.length + 1) cE2] := hw6 ▸ Row.setc HROW5.out 0 _
          have hE5 : LIs w5 WP.heap.size (some ⟨gE, 0, none⟩) (pre.length + 1) cE2 (pre.map Pce.b ++ [pb]) (L ++ [⟨sa, sm, sc⟩]) := LIs.pushK HLI0.out HBB.out HKC.out HPB.out HO5.out HGR5.out
          have hE6 : LIs w6 WP.heap.size (some ⟨gE, 0, none⟩) (pre.length + 1) cE2 (pre.map Pce.b ++ [pb]) (L ++ [⟨sa, sm, sc⟩]) := hE5.chS (Ch.ofSome (S := fun k => k = bp) hg6 rfl) (fun g hi h => by
            subst h
            exact row_in HROW5.out hE5.outer (by decide) hi) (fun j hj g hi h => by
            subst h
            exact row_in HROW5.out (hE5.inner j hj (by have := hE5.len; omega)) (by decide) hi)
          have hch : Ch (fun g => g = bp ∨ In ap cp g) W w6 := (HGR5.out.ch.mono (fun _ _ h => .inr h)).trans (Ch.ofSome (S := fun k => k = bp) hg6 rfl) (fun _ _ h => .inl h)
          refine ⟨KeepsFrom.ch hch (fun g hS => ?_), KeptS.ch hch (fun g hs hT => ?_), some ⟨gE, 0, none⟩, cE2, L ++ [⟨sa, sm, sc⟩], ?_, ?_, Ch.fresh HGW.out hch (fun g hg hT => ?_)⟩
          · rcases hS with rfl | h
            · exact ⟨_, _, _, HROW.out⟩
            · exact Own.cellsAt HOWN.out h
          · have h1 := HBP.out _ hs
            have h2 := HSZ.out
            rcases hT with h | h
            · omega
            · have := HIN.out _ h
              omega
          · rw [List.length_append]; exact hrow6
          · rw [List.length_append, List.map_append]; exact hE6
          · have h1 := HBW.out
            have h2 := HSZ.out
            rcases hT with h | h
            · omega
            · have := HIN.out _ h
              omega
        case done =>
          rintro D xs W hD hS ⟨ap, cp, L, hrow, hli, hgw⟩ hK
          have hflat : (xs.map Pce.b).flatten = la := by
            rw [flt_pce, hS, chL, if_neg (by omega)]
            exact flt_chs _ la.length 0 la (Nat.le_refl _)
          have hlen : xs.length ≤ n := by
            have h := congrArg List.length hS
            rw [List.length_map, chL, if_neg (by omega)] at h
            rw [h, ← HLA.out]
            exact chs_len _ la.length 0 la (Nat.le_refl _)
          have c1 := Row.cell hrow 0
          simp at c1
          have HLL := Lib.hid hli.lies
          have HFL := Lib.hid hflat
          have HDW := Lib.hid (Nat.le_trans HG0.out.size hD)
          have HK := Lib.hid hK
          have HG := Lib.hid hgw
          clear hrow hli hflat hD hK hgw hS
          go_wp2_with fail
          refine (joinB_n ap cp xs.length L _ W HLL.out (by simp) (by rw [HFL.out, HLA.out]; omega) (by omega)).mono ?_
          rintro e WJ ⟨aj, mj, cj, rfl, ho, g⟩
          rw [HFL.out] at ho
          have HJ := Lib.hid ho
          clear ho
          replace HG := Lib.hid (grownBy_trans HG.out g)
          replace HK := Lib.hid ((g.block _ (Array.getElem?_eq_some_iff.1 HK.out).1 (by simp)).trans HK.out)
          clear g
          go_wp2_with fail
          refine (same_yes _ _ _ _ _ _ la _ (BOwn.lies HJ.out) (HA.out.grown HG.out) (BOwn.len HJ.out) HLA.out (by have := BOwn.len HJ.out; rw [HLA.out] at this; unfold maxLen; omega)).mono ?_
          rintro e w11 ⟨rfl, q, hq⟩
          have g := drew_g hq
          clear hq
          replace HG := Lib.hid (grownBy_trans HG.out g)
          replace HK := Lib.hid ((g.block _ (Array.getElem?_eq_some_iff.1 HK.out).1 (by simp)).trans HK.out)
          replace HJ := Lib.hid (HJ.out.grown g)
          clear g
          rcases Nat.decEq n m with hnm | hnm
          · have hd1 : decide ((n : Int) = (m : Int)) = false := by simp; omega
            have hd2 : ((n : Int) == (m : Int)) = false := by simp; omega
            go_wp2_with fail
            refine (xor_ne a b n m ca cb la lb _ HLA.out HLB.out hnm).mono ?_
            rintro e w12 ⟨rfl, g⟩
            replace HG := Lib.hid (grownBy_trans HG.out g)
            replace HK := Lib.hid ((g.block _ (Array.getElem?_eq_some_iff.1 HK.out).1 (by simp)).trans HK.out)
            clear g
            go_wp2_with fail
            refine (xor_nn none b 0 m 0 cb [] lb _ (BLies.nil _ _) (HB.out.grown HG.out) rfl HLB.out (by omega)).mono ?_
            rintro e w13 ⟨ad, nd, cd, rfl, ho, g⟩
            have HD2 := Lib.hid ho
            clear ho
            obtain rfl := HD2.out.len
            replace HG := Lib.hid (grownBy_trans HG.out g)
            replace HK := Lib.hid ((g.block _ (Array.getElem?_eq_some_iff.1 HK.out).1 (by simp)).trans HK.out)
            clear g
            go_wp2_with fail
            refine ⟨by simp, .inl ⟨_, _, rfl, run_takeDeferred HK.out, ?_⟩⟩
            exact ⟨_, results_tmp rfl _ _ _, rfl, grown_nc HG.out (grownBy_putObj' _ D _) (Nat.le_refl _) (fun r e => by cases e; exact ⟨HDW.out, _, HK.out, rfl⟩)⟩
          · subst hnm
            go_wp2_with fail
            refine (xor_eq a b n ca cb la lb _ (HA.out.grown HG.out) (HB.out.grown HG.out) HLA.out HLB.out (by omega) X HXE.out).mono ?_
            rintro e w14 ⟨ac, nc, cc, rfl, ho, g⟩
            have HC1 := Lib.hid ho
            clear ho
            obtain rfl := HC1.out.len
            replace HG := Lib.hid (grownBy_trans HG.out g)
            replace HK := Lib.hid ((g.block _ (Array.getElem?_eq_some_iff.1 HK.out).1 (by simp)).trans HK.out)
            clear g
            go_wp2_with fail
            refine (HXX.out _ _ _ _ HC1.out.lies (HB.out.grown HG.out) trivial rfl).mono ?_
            rintro e w15 ⟨ad, nd, cd, rfl, ho, g⟩
            have HD1 := Lib.hid ho
            clear ho
            obtain rfl := HD1.out.len
            replace HG := Lib.hid (grownBy_trans HG.out g)
            replace HK := Lib.hid ((g.block _ (Array.getElem?_eq_some_iff.1 HK.out).1 (by simp)).trans HK.out)
            replace HC1 := Lib.hid (HC1.out.grown g)
            clear g
            go_wp2_with fail
            refine (same_yes _ _ _ _ _ _ la _ (BOwn.lies HD1.out) (HA.out.grown HG.out) rfl HLA.out (by rw [HLA.out]; unfold maxLen; omega)).mono ?_
            rintro e w16 ⟨rfl, q, hq⟩
            have g := drew_g hq
            clear hq
            replace HG := Lib.hid (grownBy_trans HG.out g)
            replace HK := Lib.hid ((g.block _ (Array.getElem?_eq_some_iff.1 HK.out).1 (by simp)).trans HK.out)
            replace HC1 := Lib.hid (HC1.out.grown g)
            replace HD1 := Lib.hid (HD1.out.grown g)
            clear g
            go_wp2_with fail
            refine ⟨by simp, .inl ⟨_, _, rfl, run_takeDeferred HK.out, ?_⟩⟩
            exact ⟨_, results_tmp rfl _ _ _, rfl, grown_nc HG.out (grownBy_putObj' _ D _) (Nat.le_refl _) (fun r e => by cases e; exact ⟨HDW.out, _, HK.out, rfl⟩)⟩
    · have hse : ((smE n k : Nat) : Int) ≠ 0 := by unfold smE; split <;> (try split) <;> omega
      have hse1 : decide (((smE n k : Nat) : Int) = 0) = false := by simpa using hse
      have hse2 : (((smE n k : Nat) : Int) == 0) = false := by simpa using hse
      obtain ⟨E, hE⟩ : ∃ E, E = smE n k := ⟨_, rfl⟩
      rw [← hE] at HSA hse1 hse2
      clear hse hE
      go_wp2_with fail
      refine (HSA.out _ _ _ (HA.out.grown HG.out)).mono ?_
      rintro e w' ⟨rfl, rfl⟩
      by_cases hz : z < 1
      · have hdz : decide ((1 : Int) ≤ z) = false := by simp; omega
        rcases Nat.decEq n m with hnm | hnm
        · have hd1 : decide ((n : Int) = (m : Int)) = false := by simp; omega
          have hd2 : ((n : Int) == (m : Int)) = false := by simp; omega
          go_wp2_with fail
          refine (xor_ne a b n m ca cb la lb _ HLA.out HLB.out hnm).mono ?_
          rintro e w17 ⟨rfl, g⟩
          replace HG := Lib.hid (grownBy_trans HG.out g)
          replace HL := Lib.hid (HL.out.grown g)
          replace HY := Lib.hid (HY.out.grown g)
          clear g
          go_wp2_with fail
          refine (xor_nn none b 0 m 0 cb [] lb _ (BLies.nil _ _) (HB.out.grown HG.out) rfl HLB.out (by omega)).mono ?_
          rintro e w18 ⟨ad, nd, cd, rfl, ho, g⟩
          have HD2 := Lib.hid ho
          clear ho
          obtain rfl := HD2.out.len
          replace HG := Lib.hid (grownBy_trans HG.out g)
          replace HL := Lib.hid (HL.out.grown g)
          replace HY := Lib.hid (HY.out.grown g)
          clear g
          go_wp2_with fail
          exact ⟨_, results_tmp rfl _ _ _, rfl, HG.out⟩
        · subst hnm
          go_wp2_with fail
          refine (xor_eq a b n ca cb la lb _ (HA.out.grown HG.out) (HB.out.grown HG.out) HLA.out HLB.out (by omega) X HXE.out).mono ?_
          rintro e w19 ⟨ac, nc, cc, rfl, ho, g⟩
          have HC1 := Lib.hid ho
          clear ho
          obtain rfl := HC1.out.len
          replace HG := Lib.hid (grownBy_trans HG.out g)
          replace HL := Lib.hid (HL.out.grown g)
          replace HY := Lib.hid (HY.out.grown g)
          clear g
          go_wp2_with fail
          refine (HXX.out _ _ _ _ HC1.out.lies (HB.out.grown HG.out) trivial rfl).mono ?_
          rintro e w20 ⟨ad, nd, cd, rfl, ho, g⟩
          have HD1 := Lib.hid ho
          clear ho
          obtain rfl := HD1.out.len
          replace HG := Lib.hid (grownBy_trans HG.out g)
          replace HL := Lib.hid (HL.out.grown g)
          replace HY := Lib.hid (HY.out.grown g)
          replace HC1 := Lib.hid (HC1.out.grown g)
          clear g
          go_wp2_with fail
          refine (same_yes _ _ _ _ _ _ la _ (BOwn.lies HD1.out) (HA.out.grown HG.out) rfl HLA.out (by rw [HLA.out]; unfold maxLen; omega)).mono ?_
          rintro e w21 ⟨rfl, q, hq⟩
          have g := drew_g hq
          clear hq
          replace HG := Lib.hid (grownBy_trans HG.out g)
          replace HL := Lib.hid (HL.out.grown g)
          replace HY := Lib.hid (HY.out.grown g)
          replace HC1 := Lib.hid (HC1.out.grown g)
          replace HD1 := Lib.hid (HD1.out.grown g)
          clear g
          go_wp2_with fail
          exact ⟨_, results_tmp rfl _ _ _, rfl, HG.out⟩
      · have hdz : decide ((1 : Int) ≤ z) = true := by simp; omega
        go_wp2_with fail
        refine (chunks_n a ca n z la _ (HA.out.grown HG.out) HLA.out (by omega)).mono ?_
        rintro e w22 ⟨b1, b2, ac, cc, rfl, hc, g⟩
        have HC := Lib.hid hc
        have HZW := Lib.hid HG.out.size
        clear hc
        replace HG := Lib.hid (grownBy_trans HG.out g)
        replace HL := Lib.hid (HL.out.grown g)
        replace HY := Lib.hid (HY.out.grown g)
        clear g
        have hnf := func_nil (.func 61) #[] #[.pointer (some ⟨b1, 0, none⟩), .pointer (some ⟨b2, 0, none⟩)]
        go_wp2_with (refine wpList_made rfl rfl hil hilz ?_; intro WP hsp g hrp; have HSP := Lib.hid hsp; have HGP := Lib.hid g; have HRP := Lib.hid (show Row WP _ 24 #[.slice none 0 0] from hrp); clear hsp g hrp)
        have hg0 := grownBy_trans HG.out HGP.out
        have hc0 := HC.out.kept (KeptS.of HGP.out)
        have hbw : w.heap.size ≤ w22.heap.size := HG.out.size
        have hbp : ∀ k, Chk.S b1 b2 ac cc k → k < w22.heap.size := fun k hk => (HC.out.lt hk).2
        obtain ⟨bp, hbe⟩ : ∃ bp, bp = w22.heap.size := ⟨_, rfl⟩
        have hsz : WP.heap.size = bp + 1 := by rw [hbe]; exact HSP.out
        rw [← hbe] at HRP hbp hbw ⊢
        have HG0 := Lib.hid hg0
        have HC0 := Lib.hid hc0
        have HBP := Lib.hid hbp
        have HSZ := Lib.hid hsz
        have HBW := Lib.hid hbw
        clear hbe hg0 hc0 hbp hsz hbw HG HC HGP HSP
        refine (wpIn_wide (n := 3)).1 ?_
        refine wpIn_rangeOkA (F := Fence.wide) (n := 3) (fun t x => ((t.setIfInBounds 95 (.int .i64 (x.at_ : Int))).setIfInBounds 96 x.sl.val).setIfInBounds 21 x.sl.val) rfl (by omega) (gf := 61) (lb := #[.pointer (some ⟨b1, 0, none⟩), .pointer (some ⟨b2, 0, none⟩)]) rfl trivial (enters_of Try.func61 (by kernel_rfl) rfl)
          (chunks1_in 2 _ b1 b2 z ac n cc la WP HC0.out (by omega)) KeptS.trans (fun W l o o' hl _ _ _ => KeptS.put W l o' (fun hs => by have := HBP.out _ hs; have := HSZ.out; omega))
          (fun pre x W0 W l o o' h hl ho => h.put l o' hl ho) (Below.refl _ _) (fun _ => rfl)
          (ColI w bp WP.heap.size) (fun _ _ _ => False) (ColI.own HG0.out.size) (fun _ _ _ _ _ h _ _ => h)
          ⟨none, 0, [], HRP.out, ⟨Own.nil _ _ _ _ _, rfl, fun i h => absurd h (by simp), fun i j h => absurd h (by simp)⟩, HG0.out⟩ ?assign ?body ?done ?stop
        case assign =>
          intro lp x W K hK
          simp only [Pce.vals]
          gi_wp2
          exact hK
        case stop =>
          rintro D c pre W _ _ h _
          exact h.elim
        case body =>
          rintro lp pre ⟨at_, ⟨sa, sm, sc⟩, pb⟩ W0 W hI0 hI hkc hok
          obtain ⟨ap, cp, L, hrow0, hli0, _⟩ := hI0
          obtain ⟨_, _, _, _, _, hgw⟩ := hI
          have hrow := hrow0.keptC hkc
          have hli := hli0.keptC hkc
          have hlen := pre_len_le hok.at_ (by rw [HLA.out]; exact hn)
          have c1 := Row.cell hrow 0
          have f1 := Row.frozen hrow 0
          simp at c1
          have hin : ∀ g, In ap cp g → WP.heap.size ≤ g := fun g hg => (Own.inn hli.outer hg).1
          have hown : SOwn W WP.heap.size ap pre.length cp L := hli.outer
          have hpb : BOwn W W0.heap.size sa sm sc pb := hok.own
          have hbb : WP.heap.size ≤ W0.heap.size := by have := hrow0.lt; have := HSZ.out; omega
          have hbbW : WP.heap.size ≤ W.heap.size := Nat.le_trans hbb hkc.size
          have HROW := Lib.hid hrow
          have HLI := Lib.hid hli
          have HLI0 := Lib.hid hli0
          have HIN := Lib.hid hin
          have HOWN := Lib.hid hown
          have HPB := Lib.hid hpb
          have HBB := Lib.hid hbb
          have HKC := Lib.hid hkc
          have HGW := Lib.hid hgw
          clear hrow hrow0 hli hli0 hin hown hpb hbb hkc hgw hok
          simp only [List.setIfInBounds_toArray, List.set_cons_zero, List.set_cons_succ, Sl.val]
          refine wpIn_block ?_
          refine wpIn_regionP (by kernel_rfl) ?_
          go_wp2_with (at_builtin; refine wpList_push elS rfl (.tmp 97) (.tmp 99) rfl rfl HOWN.out (.slice sa sm sc) rfl rfl (by unfold maxLen; omega) (by omega) hbbW ?_; intro gE cE2 w5 hown5 hgr5; have HO5 := Lib.hid hown5; have HGR5 := Lib.hid hgr5; have HROW5 := Lib.hid (HROW.out.ch hgr5.ch (row_in HROW.out HOWN.out (by decide))); have c25 := Row.cell HROW5.out 0; have f25 := Row.frozen HROW5.out 0; simp at c25; clear hown5 hgr5)
          refine ⟨rfl, ?_⟩
          obtain ⟨w6, hw6⟩ : ∃ w6, w6 = w5.setCell ⟨bp, 0, none⟩ (.slice (some ⟨gE, 0, none⟩) (pre.length + 1) cE2) := ⟨_, rfl⟩
          rw [← hw6]
          have hg6 : w5.grownBy w6 (some bp) := hw6 ▸ grownBy_setCell _ _ _ _
          have hrow6 : Row w6 bp 24 #[.slice (some ⟨gE, 0, none⟩) (pre.length + 1) cE2] := hw6 ▸ Row.setc HROW5.out 0 _
          have hE5 : LIs w5 WP.heap.size (some ⟨gE, 0, none⟩) (pre.length + 1) cE2 (pre.map Pce.b ++ [pb]) (L ++ [⟨sa, sm, sc⟩]) := LIs.pushK HLI0.out HBB.out HKC.out HPB.out HO5.out HGR5.out
          have hE6 : LIs w6 WP.heap.size (some ⟨gE, 0, none⟩) (pre.length + 1) cE2 (pre.map Pce.b ++ [pb]) (L ++ [⟨sa, sm, sc⟩]) := hE5.chS (Ch.ofSome (S := fun k => k = bp) hg6 rfl) (fun g hi h => by
            subst h
            exact row_in HROW5.out hE5.outer (by decide) hi) (fun j hj g hi h => by
            subst h
            exact row_in HROW5.out (hE5.inner j hj (by have := hE5.len; omega)) (by decide) hi)
          have hch : Ch (fun g => g = bp ∨ In ap cp g) W w6 := (HGR5.out.ch.mono (fun _ _ h => .inr h)).trans (Ch.ofSome (S := fun k => k = bp) hg6 rfl) (fun _ _ h => .inl h)
          refine ⟨KeepsFrom.ch hch (fun g hS => ?_), KeptS.ch hch (fun g hs hT => ?_), some ⟨gE, 0, none⟩, cE2, L ++ [⟨sa, sm, sc⟩], ?_, ?_, Ch.fresh HGW.out hch (fun g hg hT => ?_)⟩
          · rcases hS with rfl | h
            · exact ⟨_, _, _, HROW.out⟩
            · exact Own.cellsAt HOWN.out h
          · have h1 := HBP.out _ hs
            have h2 := HSZ.out
            rcases hT with h | h
            · omega
            · have := HIN.out _ h
              omega
          · rw [List.length_append]; exact hrow6
          · rw [List.length_append, List.map_append]; exact hE6
          · have h1 := HBW.out
            have h2 := HSZ.out
            rcases hT with h | h
            · omega
            · have := HIN.out _ h
              omega
        case done =>
          rintro D xs W hD hS ⟨ap, cp, L, hrow, hli, hgw⟩ hK
          have hflat : (xs.map Pce.b).flatten = la := by
            rw [flt_pce, hS, chL, if_neg (by omega)]
            exact flt_chs _ la.length 0 la (Nat.le_refl _)
          have hlen : xs.length ≤ n := by
            have h := congrArg List.length hS
            rw [List.length_map, chL, if_neg (by omega)] at h
            rw [h, ← HLA.out]
            exact chs_len _ la.length 0 la (Nat.le_refl _)
          have c1 := Row.cell hrow 0
          simp at c1
          have HLL := Lib.hid hli.lies
          have HFL := Lib.hid hflat
          have HDW := Lib.hid (Nat.le_trans HG0.out.size hD)
          have HK := Lib.hid hK
          have HG := Lib.hid hgw
          clear hrow hli hflat hD hK hgw hS
          go_wp2_with fail
          refine (joinB_n ap cp xs.length L _ W HLL.out (by simp) (by rw [HFL.out, HLA.out]; omega) (by omega)).mono ?_
          rintro e WJ ⟨aj, mj, cj, rfl, ho, g⟩
          rw [HFL.out] at ho
          have HJ := Lib.hid ho
          clear ho
          replace HG := Lib.hid (grownBy_trans HG.out g)
          replace HK := Lib.hid ((g.block _ (Array.getElem?_eq_some_iff.1 HK.out).1 (by simp)).trans HK.out)
          clear g
          go_wp2_with fail
          refine (same_yes _ _ _ _ _ _ la _ (BOwn.lies HJ.out) (HA.out.grown HG.out) (BOwn.len HJ.out) HLA.out (by have := BOwn.len HJ.out; rw [HLA.out] at this; unfold maxLen; omega)).mono ?_
          rintro e w23 ⟨rfl, q, hq⟩
          have g := drew_g hq
          clear hq
          replace HG := Lib.hid (grownBy_trans HG.out g)
          replace HK := Lib.hid ((g.block _ (Array.getElem?_eq_some_iff.1 HK.out).1 (by simp)).trans HK.out)
          replace HJ := Lib.hid (HJ.out.grown g)
          clear g
          rcases Nat.decEq n m with hnm | hnm
          · have hd1 : decide ((n : Int) = (m : Int)) = false := by simp; omega
            have hd2 : ((n : Int) == (m : Int)) = false := by simp; omega
            go_wp2_with fail
            refine (xor_ne a b n m ca cb la lb _ HLA.out HLB.out hnm).mono ?_
            rintro e w24 ⟨rfl, g⟩
            replace HG := Lib.hid (grownBy_trans HG.out g)
            replace HK := Lib.hid ((g.block _ (Array.getElem?_eq_some_iff.1 HK.out).1 (by simp)).trans HK.out)
            clear g
            go_wp2_with fail
            refine (xor_nn none b 0 m 0 cb [] lb _ (BLies.nil _ _) (HB.out.grown HG.out) rfl HLB.out (by omega)).mono ?_
            rintro e w25 ⟨ad, nd, cd, rfl, ho, g⟩
            have HD2 := Lib.hid ho
            clear ho
            obtain rfl := HD2.out.len
            replace HG := Lib.hid (grownBy_trans HG.out g)
            replace HK := Lib.hid ((g.block _ (Array.getElem?_eq_some_iff.1 HK.out).1 (by simp)).trans HK.out)
            clear g
            go_wp2_with fail
            refine ⟨by simp, .inl ⟨_, _, rfl, run_takeDeferred HK.out, ?_⟩⟩
            exact ⟨_, results_tmp rfl _ _ _, rfl, grown_nc HG.out (grownBy_putObj' _ D _) (Nat.le_refl _) (fun r e => by cases e; exact ⟨HDW.out, _, HK.out, rfl⟩)⟩
          · subst hnm
            go_wp2_with fail
            refine (xor_eq a b n ca cb la lb _ (HA.out.grown HG.out) (HB.out.grown HG.out) HLA.out HLB.out (by omega) X HXE.out).mono ?_
            rintro e w26 ⟨ac, nc, cc, rfl, ho, g⟩
            have HC1 := Lib.hid ho
            clear ho
            obtain rfl := HC1.out.len
            replace HG := Lib.hid (grownBy_trans HG.out g)
            replace HK := Lib.hid ((g.block _ (Array.getElem?_eq_some_iff.1 HK.out).1 (by simp)).trans HK.out)
            clear g
            go_wp2_with fail
            refine (HXX.out _ _ _ _ HC1.out.lies (HB.out.grown HG.out) trivial rfl).mono ?_
            rintro e w27 ⟨ad, nd, cd, rfl, ho, g⟩
            have HD1 := Lib.hid ho
            clear ho
            obtain rfl := HD1.out.len
            replace HG := Lib.hid (grownBy_trans HG.out g)
            replace HK := Lib.hid ((g.block _ (Array.getElem?_eq_some_iff.1 HK.out).1 (by simp)).trans HK.out)
            replace HC1 := Lib.hid (HC1.out.grown g)
            clear g
            go_wp2_with fail
            refine (same_yes _ _ _ _ _ _ la _ (BOwn.lies HD1.out) (HA.out.grown HG.out) rfl HLA.out (by rw [HLA.out]; unfold maxLen; omega)).mono ?_
            rintro e w28 ⟨rfl, q, hq⟩
            have g := drew_g hq
            clear hq
            replace HG := Lib.hid (grownBy_trans HG.out g)
            replace HK := Lib.hid ((g.block _ (Array.getElem?_eq_some_iff.1 HK.out).1 (by simp)).trans HK.out)
            replace HC1 := Lib.hid (HC1.out.grown g)
            replace HD1 := Lib.hid (HD1.out.grown g)
            clear g
            go_wp2_with fail
            refine ⟨by simp, .inl ⟨_, _, rfl, run_takeDeferred HK.out, ?_⟩⟩
            exact ⟨_, results_tmp rfl _ _ _, rfl, grown_nc HG.out (grownBy_putObj' _ D _) (Nat.le_refl _) (fun r e => by cases e; exact ⟨HDW.out, _, HK.out, rfl⟩)⟩
  · have hd : decide ((cx : Int) < (cy : Int)) = false := by simp; omega
    go_wp2_with fail
    refine (less_n _ _ _ _ _ _ bx bx _ HL.out.lies HBXL.out HL.out.lies HBXL.out).mono ?_
    rintro e w' ⟨rfl, rfl⟩
    rw [lessL_refl]
    by_cases hnk : n = k
    · subst hnk
      have hse : smE n n = 0 := by unfold smE; rw [if_neg (by omega), if_neg (by omega)]
      rw [hse] at HSA
      clear hse
      go_wp2_with fail
      refine (HSA.out _ _ _ (HA.out.grown HG.out)).mono ?_
      rintro e w' ⟨rfl, rfl⟩
      go_wp2_with fail
      refine (HBZ.out trivial _).mono ?_
      rintro e w29 ⟨az, cz, rfl, ho, g⟩
      have HZ := Lib.hid ho
      clear ho
      replace HG := Lib.hid (grownBy_trans HG.out g)
      replace HL := Lib.hid (HL.out.grown g)
      clear g
      go_wp2_with fail
      refine (same_yes _ _ _ _ _ _ la _ (BOwn.lies HZ.out) (HA.out.grown HG.out) HLA.out HLA.out (by unfold maxLen; omega)).mono ?_
      rintro e w30 ⟨rfl, q, hq⟩
      have g := drew_g hq
      clear hq
      replace HG := Lib.hid (grownBy_trans HG.out g)
      replace HL := Lib.hid (HL.out.grown g)
      replace HZ := Lib.hid (HZ.out.grown g)
      clear g
      by_cases hz : z < 1
      · have hdz : decide ((1 : Int) ≤ z) = false := by simp; omega
        rcases Nat.decEq n m with hnm | hnm
        · have hd1 : decide ((n : Int) = (m : Int)) = false := by simp; omega
          have hd2 : ((n : Int) == (m : Int)) = false := by simp; omega
          go_wp2_with fail
          refine (xor_ne a b n m ca cb la lb _ HLA.out HLB.out hnm).mono ?_
          rintro e w31 ⟨rfl, g⟩
          replace HG := Lib.hid (grownBy_trans HG.out g)
          replace HL := Lib.hid (HL.out.grown g)
          clear g
          go_wp2_with fail
          refine (xor_nn none b 0 m 0 cb [] lb _ (BLies.nil _ _) (HB.out.grown HG.out) rfl HLB.out (by omega)).mono ?_
          rintro e w32 ⟨ad, nd, cd, rfl, ho, g⟩
          have HD2 := Lib.hid ho
          clear ho
          obtain rfl := HD2.out.len
          replace HG := Lib.hid (grownBy_trans HG.out g)
          replace HL := Lib.hid (HL.out.grown g)
          clear g
          go_wp2_with fail
          exact ⟨_, results_tmp rfl _ _ _, rfl, HG.out⟩
        · subst hnm
          go_wp2_with fail
          refine (xor_eq a b n ca cb la lb _ (HA.out.grown HG.out) (HB.out.grown HG.out) HLA.out HLB.out (by omega) X HXE.out).mono ?_
          rintro e w33 ⟨ac, nc, cc, rfl, ho, g⟩
          have HC1 := Lib.hid ho
          clear ho
          obtain rfl := HC1.out.len
          replace HG := Lib.hid (grownBy_trans HG.out g)
          replace HL := Lib.hid (HL.out.grown g)
          clear g
          go_wp2_with fail
          refine (HXX.out _ _ _ _ HC1.out.lies (HB.out.grown HG.out) trivial rfl).mono ?_
          rintro e w34 ⟨ad, nd, cd, rfl, ho, g⟩
          have HD1 := Lib.hid ho
          clear ho
          obtain rfl := HD1.out.len
          replace HG := Lib.hid (grownBy_trans HG.out g)
          replace HL := Lib.hid (HL.out.grown g)
          replace HC1 := Lib.hid (HC1.out.grown g)
          clear g
          go_wp2_with fail
          refine (same_yes _ _ _ _ _ _ la _ (BOwn.lies HD1.out) (HA.out.grown HG.out) rfl HLA.out (by rw [HLA.out]; unfold maxLen; omega)).mono ?_
          rintro e w35 ⟨rfl, q, hq⟩
          have g := drew_g hq
          clear hq
          replace HG := Lib.hid (grownBy_trans HG.out g)
          replace HL := Lib.hid (HL.out.grown g)
          replace HC1 := Lib.hid (HC1.out.grown g)
          replace HD1 := Lib.hid (HD1.out.grown g)
          clear g
          go_wp2_with fail
          exact ⟨_, results_tmp rfl _ _ _, rfl, HG.out⟩
      · have hdz : decide ((1 : Int) ≤ z) = true := by simp; omega
        go_wp2_with fail
        refine (chunks_n a ca n z la _ (HA.out.grown HG.out) HLA.out (by omega)).mono ?_
        rintro e w36 ⟨b1, b2, ac, cc, rfl, hc, g⟩
        have HC := Lib.hid hc
        have HZW := Lib.hid HG.out.size
        clear hc
        replace HG := Lib.hid (grownBy_trans HG.out g)
        replace HL := Lib.hid (HL.out.grown g)
        clear g
        have hnf := func_nil (.func 61) #[] #[.pointer (some ⟨b1, 0, none⟩), .pointer (some ⟨b2, 0, none⟩)]
        go_wp2_with (refine wpList_made rfl rfl hil hilz ?_; intro WP hsp g hrp; have HSP := Lib.hid hsp; have HGP := Lib.hid g; have HRP := Lib.hid (show Row WP _ 24 #[.slice none 0 0] from hrp); clear hsp g hrp)
        have hg0 := grownBy_trans HG.out HGP.out
        have hc0 := HC.out.kept (KeptS.of HGP.out)
        have hbw : w.heap.size ≤ w36.heap.size := HG.out.size
        have hbp : ∀ k, Chk.S b1 b2 ac cc k → k < w36.heap.size := fun k hk => (HC.out.lt hk).2
        obtain ⟨bp, hbe⟩ : ∃ bp, bp = w36.heap.size := ⟨_, rfl⟩
        have hsz : WP.heap.size = bp + 1 := by rw [hbe]; exact HSP.out
        rw [← hbe] at HRP hbp hbw ⊢
        have HG0 := Lib.hid hg0
        have HC0 := Lib.hid hc0
        have HBP := Lib.hid hbp
        have HSZ := Lib.hid hsz
        have HBW := Lib.hid hbw
        clear hbe hg0 hc0 hbp hsz hbw HG HC HGP HSP
        refine (wpIn_wide (n := 3)).1 ?_
        refine wpIn_rangeOkA (F := Fence.wide) (n := 3) (fun t x => ((t.setIfInBounds 95 (.int .i64 (x.at_ : Int))).setIfInBounds 96 x.sl.val).setIfInBounds 21 x.sl.val) rfl (by omega) (gf := 61) (lb := #[.pointer (some ⟨b1, 0, none⟩), .pointer (some ⟨b2, 0, none⟩)]) rfl trivial (enters_of Try.func61 (by kernel_rfl) rfl)
          (chunks1_in 2 _ b1 b2 z ac n cc la WP HC0.out (by omega)) KeptS.trans (fun W l o o' hl _ _ _ => KeptS.put W l o' (fun hs => by have := HBP.out _ hs; have := HSZ.out; omega))
          (fun pre x W0 W l o o' h hl ho => h.put l o' hl ho) (Below.refl _ _) (fun _ => rfl)
          (ColI w bp WP.heap.size) (fun _ _ _ => False) (ColI.own HG0.out.size) (fun _ _ _ _ _ h _ _ => h)
          ⟨none, 0, [], HRP.out, ⟨Own.nil _ _ _ _ _, rfl, fun i h => absurd h (by simp), fun i j h => absurd h (by simp)⟩, HG0.out⟩ ?assign ?body ?done ?stop
        case assign =>
          intro lp x W K hK
          simp only [Pce.vals]
          gi_wp2
          exact hK
        case stop =>
          rintro D c pre W _ _ h _
          exact h.elim
        case body =>
          rintro lp pre ⟨at_, ⟨sa, sm, sc⟩, pb⟩ W0 W hI0 hI hkc hok
          obtain ⟨ap, cp, L, hrow0, hli0, _⟩ := hI0
          obtain ⟨_, _, _, _, _, hgw⟩ := hI
          have hrow := hrow0.keptC hkc
          have hli := hli0.keptC hkc
          have hlen := pre_len_le hok.at_ (by rw [HLA.out]; exact hn)
          have c1 := Row.cell hrow 0
          have f1 := Row.frozen hrow 0
          simp at c1
          have hin : ∀ g, In ap cp g → WP.heap.size ≤ g := fun g hg => (Own.inn hli.outer hg).1
          have hown : SOwn W WP.heap.size ap pre.length cp L := hli.outer
          have hpb : BOwn W W0.heap.size sa sm sc pb := hok.own
          have hbb : WP.heap.size ≤ W0.heap.size := by have := hrow0.lt; have := HSZ.out; omega
          have hbbW : WP.heap.size ≤ W.heap.size := Nat.le_trans hbb hkc.size
          have HROW := Lib.hid hrow
          have HLI := Lib.hid hli
          have HLI0 := Lib.hid hli0
          have HIN := Lib.hid hin
          have HOWN := Lib.hid hown
          have HPB := Lib.hid hpb
          have HBB := Lib.hid hbb
          have HKC := Lib.hid hkc
          have HGW := Lib.hid hgw
          clear hrow hrow0 hli hli0 hin hown hpb hbb hkc hgw hok
          simp only [List.setIfInBounds_toArray, List.set_cons_zero, List.set_cons_succ, Sl.val]
          refine wpIn_block ?_
          refine wpIn_regionP (by kernel_rfl) ?_
          go_wp2_with (at_builtin; refine wpList_push elS rfl (.tmp 97) (.tmp 99) rfl rfl HOWN.out (.slice sa sm sc) rfl rfl (by unfold maxLen; omega) (by omega) hbbW ?_; intro gE cE2 w5 hown5 hgr5; have HO5 := Lib.hid hown5; have HGR5 := Lib.hid hgr5; have HROW5 := Lib.hid (HROW.out.ch hgr5.ch (row_in HROW.out HOWN.out (by decide))); have c25 := Row.cell HROW5.out 0; have f25 := Row.frozen HROW5.out 0; simp at c25; clear hown5 hgr5)
          refine ⟨rfl, ?_⟩
          obtain ⟨w6, hw6⟩ : ∃ w6, w6 = w5.setCell ⟨bp, 0, none⟩ (.slice (some ⟨gE, 0, none⟩) (pre.length + 1) cE2) := ⟨_, rfl⟩
          rw [← hw6]
          have hg6 : w5.grownBy w6 (some bp) := hw6 ▸ grownBy_setCell _ _ _ _
          have hrow6 : Row w6 bp 24 #[.slice (some ⟨gE, 0, none⟩) (pre.length + 1) cE2] := hw6 ▸ Row.setc HROW5.out 0 _
          have hE5 : LIs w5 WP.heap.size (some ⟨gE, 0, none⟩) (pre.length + 1) cE2 (pre.map Pce.b ++ [pb]) (L ++ [⟨sa, sm, sc⟩]) := LIs.pushK HLI0.out HBB.out HKC.out HPB.out HO5.out HGR5.out
          have hE6 : LIs w6 WP.heap.size (some ⟨gE, 0, none⟩) (pre.length + 1) cE2 (pre.map Pce.b ++ [pb]) (L ++ [⟨sa, sm, sc⟩]) := hE5.chS (Ch.ofSome (S := fun k => k = bp) hg6 rfl) (fun g hi h => by
            subst h
            exact row_in HROW5.out hE5.outer (by decide) hi) (fun j hj g hi h => by
            subst h
            exact row_in HROW5.out (hE5.inner j hj (by have := hE5.len; omega)) (by decide) hi)
          have hch : Ch (fun g => g = bp ∨ In ap cp g) W w6 := (HGR5.out.ch.mono (fun _ _ h => .inr h)).trans (Ch.ofSome (S := fun k => k = bp) hg6 rfl) (fun _ _ h => .inl h)
          refine ⟨KeepsFrom.ch hch (fun g hS => ?_), KeptS.ch hch (fun g hs hT => ?_), some ⟨gE, 0, none⟩, cE2, L ++ [⟨sa, sm, sc⟩], ?_, ?_, Ch.fresh HGW.out hch (fun g hg hT => ?_)⟩
          · rcases hS with rfl | h
            · exact ⟨_, _, _, HROW.out⟩
            · exact Own.cellsAt HOWN.out h
          · have h1 := HBP.out _ hs
            have h2 := HSZ.out
            rcases hT with h | h
            · omega
            · have := HIN.out _ h
              omega
          · rw [List.length_append]; exact hrow6
          · rw [List.length_append, List.map_append]; exact hE6
          · have h1 := HBW.out
            have h2 := HSZ.out
            rcases hT with h | h
            · omega
            · have := HIN.out _ h
              omega
        case done =>
          rintro D xs W hD hS ⟨ap, cp, L, hrow, hli, hgw⟩ hK
          have hflat : (xs.map Pce.b).flatten = la := by
            rw [flt_pce, hS, chL, if_neg (by omega)]
            exact flt_chs _ la.length 0 la (Nat.le_refl _)
          have hlen : xs.length ≤ n := by
            have h := congrArg List.length hS
            rw [List.length_map, chL, if_neg (by omega)] at h
            rw [h, ← HLA.out]
            exact chs_len _ la.length 0 la (Nat.le_refl _)
          have c1 := Row.cell hrow 0
          simp at c1
          have HLL := Lib.hid hli.lies
          have HFL := Lib.hid hflat
          have HDW := Lib.hid (Nat.le_trans HG0.out.size hD)
          have HK := Lib.hid hK
          have HG := Lib.hid hgw
          clear hrow hli hflat hD hK hgw hS
          go_wp2_with fail
          refine (joinB_n ap cp xs.length L _ W HLL.out (by simp) (by rw [HFL.out, HLA.out]; omega) (by omega)).mono ?_
          rintro e WJ ⟨aj, mj, cj, rfl, ho, g⟩
          rw [HFL.out] at ho
          have HJ := Lib.hid ho
          clear ho
          replace HG := Lib.hid (grownBy_trans HG.out g)
          replace HK := Lib.hid ((g.block _ (Array.getElem?_eq_some_iff.1 HK.out).1 (by simp)).trans HK.out)
          clear g
          go_wp2_with fail
          refine (same_yes _ _ _ _ _ _ la _ (BOwn.lies HJ.out) (HA.out.grown HG.out) (BOwn.len HJ.out) HLA.out (by have := BOwn.len HJ.out; rw [HLA.out] at this; unfold maxLen; omega)).mono ?_
          rintro e w37 ⟨rfl, q, hq⟩
          have g := drew_g hq
          clear hq
          replace HG := Lib.hid (grownBy_trans HG.out g)
          replace HK := Lib.hid ((g.block _ (Array.getElem?_eq_some_iff.1 HK.out).1 (by simp)).trans HK.out)
          replace HJ := Lib.hid (HJ.out.grown g)
          clear g
          rcases Nat.decEq n m with hnm | hnm
          · have hd1 : decide ((n : Int) = (m : Int)) = false := by simp; omega
            have hd2 : ((n : Int) == (m : Int)) = false := by simp; omega
            go_wp2_with fail
            refine (xor_ne a b n m ca cb la lb _ HLA.out HLB.out hnm).mono ?_
            rintro e w38 ⟨rfl, g⟩
            replace HG := Lib.hid (grownBy_trans HG.out g)
            replace HK := Lib.hid ((g.block _ (Array.getElem?_eq_some_iff.1 HK.out).1 (by simp)).trans HK.out)
            clear g
            go_wp2_with fail
            refine (xor_nn none b 0 m 0 cb [] lb _ (BLies.nil _ _) (HB.out.grown HG.out) rfl HLB.out (by omega)).mono ?_
            rintro e w39 ⟨ad, nd, cd, rfl, ho, g⟩
            have HD2 := Lib.hid ho
            clear ho
            obtain rfl := HD2.out.len
            replace HG := Lib.hid (grownBy_trans HG.out g)
            replace HK := Lib.hid ((g.block _ (Array.getElem?_eq_some_iff.1 HK.out).1 (by simp)).trans HK.out)
            clear g
            go_wp2_with fail
            refine ⟨by simp, .inl ⟨_, _, rfl, run_takeDeferred HK.out, ?_⟩⟩
            exact ⟨_, results_tmp rfl _ _ _, rfl, grown_nc HG.out (grownBy_putObj' _ D _) (Nat.le_refl _) (fun r e => by cases e; exact ⟨HDW.out, _, HK.out, rfl⟩)⟩
          · subst hnm
            go_wp2_with fail
            refine (xor_eq a b n ca cb la lb _ (HA.out.grown HG.out) (HB.out.grown HG.out) HLA.out HLB.out (by omega) X HXE.out).mono ?_
            rintro e w40 ⟨ac, nc, cc, rfl, ho, g⟩
            have HC1 := Lib.hid ho
            clear ho
            obtain rfl := HC1.out.len
            replace HG := Lib.hid (grownBy_trans HG.out g)
            replace HK := Lib.hid ((g.block _ (Array.getElem?_eq_some_iff.1 HK.out).1 (by simp)).trans HK.out)
            clear g
            go_wp2_with fail
            refine (HXX.out _ _ _ _ HC1.out.lies (HB.out.grown HG.out) trivial rfl).mono ?_
            rintro e w41 ⟨ad, nd, cd, rfl, ho, g⟩
            have HD1 := Lib.hid ho
            clear ho
            obtain rfl := HD1.out.len
            replace HG := Lib.hid (grownBy_trans HG.out g)
            replace HK := Lib.hid ((g.block _ (Array.getElem?_eq_some_iff.1 HK.out).1 (by simp)).trans HK.out)
            replace HC1 := Lib.hid (HC1.out.grown g)
            clear g
            go_wp2_with fail
            refine (same_yes _ _ _ _ _ _ la _ (BOwn.lies HD1.out) (HA.out.grown HG.out) rfl HLA.out (by rw [HLA.out]; unfold maxLen; omega)).mono ?_
            rintro e w42 ⟨rfl, q, hq⟩
            have g := drew_g hq
            clear hq
            replace HG := Lib.hid (grownBy_trans HG.out g)
            replace HK := Lib.hid ((g.block _ (Array.getElem?_eq_some_iff.1 HK.out).1 (by simp)).trans HK.out)
            replace HC1 := Lib.hid (HC1.out.grown g)
            replace HD1 := Lib.hid (HD1.out.grown g)
            clear g
            go_wp2_with fail
            refine ⟨by simp, .inl ⟨_, _, rfl, run_takeDeferred HK.out, ?_⟩⟩
            exact ⟨_, results_tmp rfl _ _ _, rfl, grown_nc HG.out (grownBy_putObj' _ D _) (Nat.le_refl _) (fun r e => by cases e; exact ⟨HDW.out, _, HK.out, rfl⟩)⟩
    · have hse : ((smE n k : Nat) : Int) ≠ 0 := by unfold smE; split <;> (try split) <;> omega
      have hse1 : decide (((smE n k : Nat) : Int) = 0) = false := by simpa using hse
      have hse2 : (((smE n k : Nat) : Int) == 0) = false := by simpa using hse
      obtain ⟨E, hE⟩ : ∃ E, E = smE n k := ⟨_, rfl⟩
      rw [← hE] at HSA hse1 hse2
      clear hse hE
      go_wp2_with fail
      refine (HSA.out _ _ _ (HA.out.grown HG.out)).mono ?_
      rintro e w' ⟨rfl, rfl⟩
      by_cases hz : z < 1
      · have hdz : decide ((1 : Int) ≤ z) = false := by simp; omega
        rcases Nat.decEq n m with hnm | hnm
        · have hd1 : decide ((n : Int) = (m : Int)) = false := by simp; omega
          have hd2 : ((n : Int) == (m : Int)) = false := by simp; omega
          go_wp2_with fail
          refine (xor_ne a b n m ca cb la lb _ HLA.out HLB.out hnm).mono ?_
          rintro e w43 ⟨rfl, g⟩
          replace HG := Lib.hid (grownBy_trans HG.out g)
          replace HL := Lib.hid (HL.out.grown g)
          clear g
          go_wp2_with fail
          refine (xor_nn none b 0 m 0 cb [] lb _ (BLies.nil _ _) (HB.out.grown HG.out) rfl HLB.out (by omega)).mono ?_
          rintro e w44 ⟨ad, nd, cd, rfl, ho, g⟩
          have HD2 := Lib.hid ho
          clear ho
          obtain rfl := HD2.out.len
          replace HG := Lib.hid (grownBy_trans HG.out g)
          replace HL := Lib.hid (HL.out.grown g)
          clear g
          go_wp2_with fail
          exact ⟨_, results_tmp rfl _ _ _, rfl, HG.out⟩
        · subst hnm
          go_wp2_with fail
          refine (xor_eq a b n ca cb la lb _ (HA.out.grown HG.out) (HB.out.grown HG.out) HLA.out HLB.out (by omega) X HXE.out).mono ?_
          rintro e w45 ⟨ac, nc, cc, rfl, ho, g⟩
          have HC1 := Lib.hid ho
          clear ho
          obtain rfl := HC1.out.len
          replace HG := Lib.hid (grownBy_trans HG.out g)
          replace HL := Lib.hid (HL.out.grown g)
          clear g
          go_wp2_with fail
          refine (HXX.out _ _ _ _ HC1.out.lies (HB.out.grown HG.out) trivial rfl).mono ?_
          rintro e w46 ⟨ad, nd, cd, rfl, ho, g⟩
          have HD1 := Lib.hid ho
          clear ho
          obtain rfl := HD1.out.len
          replace HG := Lib.hid (grownBy_trans HG.out g)
          replace HL := Lib.hid (HL.out.grown g)
          replace HC1 := Lib.hid (HC1.out.grown g)
          clear g
          go_wp2_with fail
          refine (same_yes _ _ _ _ _ _ la _ (BOwn.lies HD1.out) (HA.out.grown HG.out) rfl HLA.out (by rw [HLA.out]; unfold maxLen; omega)).mono ?_
          rintro e w47 ⟨rfl, q, hq⟩
          have g := drew_g hq
          clear hq
          replace HG := Lib.hid (grownBy_trans HG.out g)
          replace HL := Lib.hid (HL.out.grown g)
          replace HC1 := Lib.hid (HC1.out.grown g)
          replace HD1 := Lib.hid (HD1.out.grown g)
          clear g
          go_wp2_with fail
          exact ⟨_, results_tmp rfl _ _ _, rfl, HG.out⟩
      · have hdz : decide ((1 : Int) ≤ z) = true := by simp; omega
        go_wp2_with fail
        refine (chunks_n a ca n z la _ (HA.out.grown HG.out) HLA.out (by omega)).mono ?_
        rintro e w48 ⟨b1, b2, ac, cc, rfl, hc, g⟩
        have HC := Lib.hid hc
        have HZW := Lib.hid HG.out.size
        clear hc
        replace HG := Lib.hid (grownBy_trans HG.out g)
        replace HL := Lib.hid (HL.out.grown g)
        clear g
        have hnf := func_nil (.func 61) #[] #[.pointer (some ⟨b1, 0, none⟩), .pointer (some ⟨b2, 0, none⟩)]
        go_wp2_with (refine wpList_made rfl rfl hil hilz ?_; intro WP hsp g hrp; have HSP := Lib.hid hsp; have HGP := Lib.hid g; have HRP := Lib.hid (show Row WP _ 24 #[.slice none 0 0] from hrp); clear hsp g hrp)
        have hg0 := grownBy_trans HG.out HGP.out
        have hc0 := HC.out.kept (KeptS.of HGP.out)
        have hbw : w.heap.size ≤ w48.heap.size := HG.out.size
        have hbp : ∀ k, Chk.S b1 b2 ac cc k → k < w48.heap.size := fun k hk => (HC.out.lt hk).2
        obtain ⟨bp, hbe⟩ : ∃ bp, bp = w48.heap.size := ⟨_, rfl⟩
        have hsz : WP.heap.size = bp + 1 := by rw [hbe]; exact HSP.out
        rw [← hbe] at HRP hbp hbw ⊢
        have HG0 := Lib.hid hg0
        have HC0 := Lib.hid hc0
        have HBP := Lib.hid hbp
        have HSZ := Lib.hid hsz
        have HBW := Lib.hid hbw
        clear hbe hg0 hc0 hbp hsz hbw HG HC HGP HSP
        refine (wpIn_wide (n := 3)).1 ?_
        refine wpIn_rangeOkA (F := Fence.wide) (n := 3) (fun t x => ((t.setIfInBounds 95 (.int .i64 (x.at_ : Int))).setIfInBounds 96 x.sl.val).setIfInBounds 21 x.sl.val) rfl (by omega) (gf := 61) (lb := #[.pointer (some ⟨b1, 0, none⟩), .pointer (some ⟨b2, 0, none⟩)]) rfl trivial (enters_of Try.func61 (by kernel_rfl) rfl)
          (chunks1_in 2 _ b1 b2 z ac n cc la WP HC0.out (by omega)) KeptS.trans (fun W l o o' hl _ _ _ => KeptS.put W l o' (fun hs => by have := HBP.out _ hs; have := HSZ.out; omega))
          (fun pre x W0 W l o o' h hl ho => h.put l o' hl ho) (Below.refl _ _) (fun _ => rfl)
          (ColI w bp WP.heap.size) (fun _ _ _ => False) (ColI.own HG0.out.size) (fun _ _ _ _ _ h _ _ => h)
          ⟨none, 0, [], HRP.out, ⟨Own.nil _ _ _ _ _, rfl, fun i h => absurd h (by simp), fun i j h => absurd h (by simp)⟩, HG0.out⟩ ?assign ?body ?done ?stop
        case assign =>
          intro lp x W K hK
          simp only [Pce.vals]
          gi_wp2
          exact hK
        case stop =>
          rintro D c pre W _ _ h _
          exact h.elim
        case body =>
          rintro lp pre ⟨at_, ⟨sa, sm, sc⟩, pb⟩ W0 W hI0 hI hkc hok
          obtain ⟨ap, cp, L, hrow0, hli0, _⟩ := hI0
          obtain ⟨_, _, _, _, _, hgw⟩ := hI
          have hrow := hrow0.keptC hkc
          have hli := hli0.keptC hkc
          have hlen := pre_len_le hok.at_ (by rw [HLA.out]; exact hn)
          have c1 := Row.cell hrow 0
          have f1 := Row.frozen hrow 0
          simp at c1
          have hin : ∀ g, In ap cp g → WP.heap.size ≤ g := fun g hg => (Own.inn hli.outer hg).1
          have hown : SOwn W WP.heap.size ap pre.length cp L := hli.outer
          have hpb : BOwn W W0.heap.size sa sm sc pb := hok.own
          have hbb : WP.heap.size ≤ W0.heap.size := by have := hrow0.lt; have := HSZ.out; omega
          have hbbW : WP.heap.size ≤ W.heap.size := Nat.le_trans hbb hkc.size
          have HROW := Lib.hid hrow
          have HLI := Lib.hid hli
          have HLI0 := Lib.hid hli0
          have HIN := Lib.hid hin
          have HOWN := Lib.hid hown
          have HPB := Lib.hid hpb
          have HBB := Lib.hid hbb
          have HKC := Lib.hid hkc
          have HGW := Lib.hid hgw
          clear hrow hrow0 hli hli0 hin hown hpb hbb hkc hgw hok
          simp only [List.setIfInBounds_toArray, List.set_cons_zero, List.set_cons_succ, Sl.val]
          refine wpIn_block ?_
          refine wpIn_regionP (by kernel_rfl) ?_
          go_wp2_with (at_builtin; refine wpList_push elS rfl (.tmp 97) (.tmp 99) rfl rfl HOWN.out (.slice sa sm sc) rfl rfl (by unfold maxLen; omega) (by omega) hbbW ?_; intro gE cE2 w5 hown5 hgr5; have HO5 := Lib.hid hown5; have HGR5 := Lib.hid hgr5; have HROW5 := Lib.hid (HROW.out.ch hgr5.ch (row_in HROW.out HOWN.out (by decide))); have c25 := Row.cell HROW5.out 0; have f25 := Row.frozen HROW5.out 0; simp at c25; clear hown5 hgr5)
          refine ⟨rfl, ?_⟩
          obtain ⟨w6, hw6⟩ : ∃ w6, w6 = w5.setCell ⟨bp, 0, none⟩ (.slice (some ⟨gE, 0, none⟩) (pre.length + 1) cE2) := ⟨_, rfl⟩
          rw [← hw6]
          have hg6 : w5.grownBy w6 (some bp) := hw6 ▸ grownBy_setCell _ _ _ _
          have hrow6 : Row w6 bp 24 #[.slice (some ⟨gE, 0, none⟩) (pre.length + 1) cE2] := hw6 ▸ Row.setc HROW5.out 0 _
          have hE5 : LIs w5 WP.heap.size (some ⟨gE, 0, none⟩) (pre.length + 1) cE2 (pre.map Pce.b ++ [pb]) (L ++ [⟨sa, sm, sc⟩]) := LIs.pushK HLI0.out HBB.out HKC.out HPB.out HO5.out HGR5.out
          have hE6 : LIs w6 WP.heap.size (some ⟨gE, 0, none⟩) (pre.length + 1) cE2 (pre.map Pce.b ++ [pb]) (L ++ [⟨sa, sm, sc⟩]) := hE5.chS (Ch.ofSome (S := fun k => k = bp) hg6 rfl) (fun g hi h => by
            subst h
            exact row_in HROW5.out hE5.outer (by decide) hi) (fun j hj g hi h => by
            subst h
            exact row_in HROW5.out (hE5.inner j hj (by have := hE5.len; omega)) (by decide) hi)
          have hch : Ch (fun g => g = bp ∨ In ap cp g) W w6 := (HGR5.out.ch.mono (fun _ _ h => .inr h)).trans (Ch.ofSome (S := fun k => k = bp) hg6 rfl) (fun _ _ h => .inl h)
          refine ⟨KeepsFrom.ch hch (fun g hS => ?_), KeptS.ch hch (fun g hs hT => ?_), some ⟨gE, 0, none⟩, cE2, L ++ [⟨sa, sm, sc⟩], ?_, ?_, Ch.fresh HGW.out hch (fun g hg hT => ?_)⟩
          · rcases hS with rfl | h
            · exact ⟨_, _, _, HROW.out⟩
            · exact Own.cellsAt HOWN.out h
          · have h1 := HBP.out _ hs
            have h2 := HSZ.out
            rcases hT with h | h
            · omega
            · have := HIN.out _ h
              omega
          · rw [List.length_append]; exact hrow6
          · rw [List.length_append, List.map_append]; exact hE6
          · have h1 := HBW.out
            have h2 := HSZ.out
            rcases hT with h | h
            · omega
            · have := HIN.out _ h
              omega
        case done =>
          rintro D xs W hD hS ⟨ap, cp, L, hrow, hli, hgw⟩ hK
          have hflat : (xs.map Pce.b).flatten = la := by
            rw [flt_pce, hS, chL, if_neg (by omega)]
            exact flt_chs _ la.length 0 la (Nat.le_refl _)
          have hlen : xs.length ≤ n := by
            have h := congrArg List.length hS
            rw [List.length_map, chL, if_neg (by omega)] at h
            rw [h, ← HLA.out]
            exact chs_len _ la.length 0 la (Nat.le_refl _)
          have c1 := Row.cell hrow 0
          simp at c1
          have HLL := Lib.hid hli.lies
          have HFL := Lib.hid hflat
          have HDW := Lib.hid (Nat.le_trans HG0.out.size hD)
          have HK := Lib.hid hK
          have HG := Lib.hid hgw
          clear hrow hli hflat hD hK hgw hS
          go_wp2_with fail
          refine (joinB_n ap cp xs.length L _ W HLL.out (by simp) (by rw [HFL.out, HLA.out]; omega) (by omega)).mono ?_
          rintro e WJ ⟨aj, mj, cj, rfl, ho, g⟩
          rw [HFL.out] at ho
          have HJ := Lib.hid ho
          clear ho
          replace HG := Lib.hid (grownBy_trans HG.out g)
          replace HK := Lib.hid ((g.block _ (Array.getElem?_eq_some_iff.1 HK.out).1 (by simp)).trans HK.out)
          clear g
          go_wp2_with fail
          refine (same_yes _ _ _ _ _ _ la _ (BOwn.lies HJ.out) (HA.out.grown HG.out) (BOwn.len HJ.out) HLA.out (by have := BOwn.len HJ.out; rw [HLA.out] at this; unfold maxLen; omega)).mono ?_
          rintro e w49 ⟨rfl, q, hq⟩
          have g := drew_g hq
          clear hq
          replace HG := Lib.hid (grownBy_trans HG.out g)
          replace HK := Lib.hid ((g.block _ (Array.getElem?_eq_some_iff.1 HK.out).1 (by simp)).trans HK.out)
          replace HJ := Lib.hid (HJ.out.grown g)
          clear g
          rcases Nat.decEq n m with hnm | hnm
          · have hd1 : decide ((n : Int) = (m : Int)) = false := by simp; omega
            have hd2 : ((n : Int) == (m : Int)) = false := by simp; omega
            go_wp2_with fail
            refine (xor_ne a b n m ca cb la lb _ HLA.out HLB.out hnm).mono ?_
            rintro e w50 ⟨rfl, g⟩
            replace HG := Lib.hid (grownBy_trans HG.out g)
            replace HK := Lib.hid ((g.block _ (Array.getElem?_eq_some_iff.1 HK.out).1 (by simp)).trans HK.out)
            clear g
            go_wp2_with fail
            refine (xor_nn none b 0 m 0 cb [] lb _ (BLies.nil _ _) (HB.out.grown HG.out) rfl HLB.out (by omega)).mono ?_
            rintro e w51 ⟨ad, nd, cd, rfl, ho, g⟩
            have HD2 := Lib.hid ho
            clear ho
            obtain rfl := HD2.out.len
            replace HG := Lib.hid (grownBy_trans HG.out g)
            replace HK := Lib.hid ((g.block _ (Array.getElem?_eq_some_iff.1 HK.out).1 (by simp)).trans HK.out)
            clear g
            go_wp2_with fail
            refine ⟨by simp, .inl ⟨_, _, rfl, run_takeDeferred HK.out, ?_⟩⟩
            exact ⟨_, results_tmp rfl _ _ _, rfl, grown_nc HG.out (grownBy_putObj' _ D _) (Nat.le_refl _) (fun r e => by cases e; exact ⟨HDW.out, _, HK.out, rfl⟩)⟩
          · subst hnm
            go_wp2_with fail
            refine (xor_eq a b n ca cb la lb _ (HA.out.grown HG.out) (HB.out.grown HG.out) HLA.out HLB.out (by omega) X HXE.out).mono ?_
            rintro e w52 ⟨ac, nc, cc, rfl, ho, g⟩
            have HC1 := Lib.hid ho
            clear ho
            obtain rfl := HC1.out.len
            replace HG := Lib.hid (grownBy_trans HG.out g)
            replace HK := Lib.hid ((g.block _ (Array.getElem?_eq_some_iff.1 HK.out).1 (by simp)).trans HK.out)
            clear g
            go_wp2_with fail
            refine (HXX.out _ _ _ _ HC1.out.lies (HB.out.grown HG.out) trivial rfl).mono ?_
            rintro e w53 ⟨ad, nd, cd, rfl, ho, g⟩
            have HD1 := Lib.hid ho
            clear ho
            obtain rfl := HD1.out.len
            replace HG := Lib.hid (grownBy_trans HG.out g)
            replace HK := Lib.hid ((g.block _ (Array.getElem?_eq_some_iff.1 HK.out).1 (by simp)).trans HK.out)
            replace HC1 := Lib.hid (HC1.out.grown g)
            clear g
            go_wp2_with fail
            refine (same_yes _ _ _ _ _ _ la _ (BOwn.lies HD1.out) (HA.out.grown HG.out) rfl HLA.out (by rw [HLA.out]; unfold maxLen; omega)).mono ?_
            rintro e w54 ⟨rfl, q, hq⟩
            have g := drew_g hq
            clear hq
            replace HG := Lib.hid (grownBy_trans HG.out g)
            replace HK := Lib.hid ((g.block _ (Array.getElem?_eq_some_iff.1 HK.out).1 (by simp)).trans HK.out)
            replace HC1 := Lib.hid (HC1.out.grown g)
            replace HD1 := Lib.hid (HD1.out.grown g)
            clear g
            go_wp2_with fail
            refine ⟨by simp, .inl ⟨_, _, rfl, run_takeDeferred HK.out, ?_⟩⟩
            exact ⟨_, results_tmp rfl _ _ _, rfl, grown_nc HG.out (grownBy_putObj' _ D _) (Nat.le_refl _) (fun r e => by cases e; exact ⟨HDW.out, _, HK.out, rfl⟩)⟩

end Go.Proofs.Ythemlaibjchjpaa
