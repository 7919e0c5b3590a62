/- gf: times, Times. -/
import Derived.Test.YtfikeilpgnahkaaGfTrim
import Derived.Test.YtfikeilpgnahkaaBox
import Derived.Shelf.Abstract
namespace Go.Proofs.Ytfikeilpgnahkaa
open Go.RowKit Go.Shelf

/-- the first k products of a row laid over l from i on -/
def inF (i : Nat) (x : UInt8) (b l : List UInt8) : Nat → List UInt8
  | 0 => l
  | k + 1 => (inF i x b l k).set (i + k) ((inF i x b l k).getD (i + k) 0 ^^^ gm x (b.getD k 0))
theorem inF_len (i : Nat) (x : UInt8) (b l : List UInt8) : ∀ k, (inF i x b l k).length = l.length
  | 0 => rfl
  | k + 1 => by rw [inF, List.length_set, inF_len i x b l k]
def outF (a b l : List UInt8) : Nat → List UInt8
  | 0 => l
  | k + 1 => inF k (a.getD k 0) b (outF a b l k) b.length
theorem outF_len (a b l : List UInt8) : ∀ k, (outF a b l k).length = l.length
  | 0 => rfl
  | k + 1 => by rw [outF, inF_len, outF_len a b l k]
def prodM (a b : List UInt8) : List UInt8 := outF a b (List.replicate (a.length + b.length - 1) 0) a.length
def prodL (a b : List UInt8) : List UInt8 := if a.length = 0 ∨ b.length = 0 then [] else trimL (prodM a b)
theorem prodM_len (a b : List UInt8) : (prodM a b).length = a.length + b.length - 1 := by unfold prodM; rw [outF_len]; simp

theorem i64_nat (n : Nat) (h : n ≤ 4611686018427387904) : IntKind.i64.wrap (n : Int) = (n : Int) := IntWalk.i64_in _ (by omega)

set_option maxRecDepth 100000 in
set_option maxHeartbeats 1000000 in
theorem times3_n (bo bi bx g M i j : Nat) (x y : UInt8) (l : List UInt8) (w : World) (ho : Row w bo 33 #[.slice (some ⟨g, 0, none⟩) M M]) (hi : Row w bi 3 #[.int .i64 (i : Int)]) (hx : Row w bx 5 #[.int .u8 (x.toNat : Int)])
    (hr : BRow w g 5 l) (hl : l.length = M) (hij : i + j < M) (hM : M ≤ 4611686018427387904) :
    Calls Try.prog 63 #[.int .i64 (j : Int), .int .u8 (y.toNat : Int), .pointer (some ⟨bo, 0, none⟩), .pointer (some ⟨bi, 0, none⟩), .pointer (some ⟨bx, 0, none⟩)] w fun e w' => e = .returned (.tuple #[]) ∧ BRow w' g 5 (l.set (i + j) (l.getD (i + j) 0 ^^^ gm x y)) ∧ w.grownBy w' (some g) := by
  have co : w.drew.cell? ⟨bo, 0, none⟩ = some (.slice (some ⟨g, 0, none⟩) M M) := Row.cell ho 0
  have ci : w.drew.cell? ⟨bi, 0, none⟩ = some (.int .i64 (i : Int)) := Row.cell hi 0
  have cx : w.drew.cell? ⟨bx, 0, none⟩ = some (.int .u8 (x.toNat : Int)) := Row.cell hx 0
  obtain ⟨v, hv⟩ : ∃ v, v = l.getD (i + j) 0 := ⟨_, rfl⟩
  have cg : w.drew.cell? ⟨g, i + j, none⟩ = some (.int .u8 (v.toNat : Int)) := hv ▸ BRow.cell hr (i + j) (by omega)
  have fg : w.drew.frozen? ⟨g, i + j, none⟩ = false := BRow.frozen hr (i + j)
  have HR : Hid (BRow w.drew g 5 l) := Lib.hid hr
  have hw : IntKind.i64.wrap ((i : Int) + (j : Int)) = (i : Int) + (j : Int) := IntWalk.i64_in _ (by omega)
  have hb1 : (0 : Int) ≤ (i : Int) + (j : Int) := by omega
  have hb2 : (i : Int) + (j : Int) < (M : Int) := by omega
  have hb3 : ((i : Int) + (j : Int)).toNat = i + j := by omega
  have hxx := xor_u8 v (gm x y)
  have hg0 : w.grownBy w.drew (some g) := ⟨rfl, rfl, rfl, Nat.le_refl _, fun _ _ _ => rfl⟩
  have HG := Lib.hid hg0
  rw [← hv]
  clear ho hi hx hr hg0 hv
  go_enter Try.func63, Try.ntmps63
  refine wp_region_still_tail 11 (by kernel_rfl) (by kernel_rfl) ?_
  simp only [List.take_succ_cons, List.take_zero, List.drop_succ_cons, List.drop_zero]
  change wpStill _ _ w.drew (fun a' => wpList _ _ _ _ a' w.drew) _ _
  generalize w.drew = W2 at *
  still_step
  still_step
  still_step
  still_step
  still_step
  still_step
  still_step
  still_step
  still_call ((mul_i _ _ x y _ rfl rfl).mono (fun _ _ h => ⟨h.1, h.2.symm⟩))
  still_step
  still_step
  refine wpStill_nil ?_
  go_wp2_with fail
  go_end0
  rw [← UInt8.toNat_xor]
  exact ⟨rfl, BRow.set HR.out _ _, grownBy_trans HG.out (grownBy_setCell _ _ _ _)⟩

set_option maxRecDepth 100000 in
set_option maxHeartbeats 1000000 in
theorem times2_n (bb bo g M i m cb : Nat) (ab : Option Addr) (x : UInt8) (b l : List UInt8) (w : World) (hb : Row w bb 33 #[.slice ab m cb]) (ho : Row w bo 33 #[.slice (some ⟨g, 0, none⟩) M M])
    (hbl : BLies w ab b) (hne : ∀ q off, ab = some ⟨q, off, none⟩ → q ≠ g) (hbb : bb ≠ g) (hbo : bo ≠ g) (hr : BRow w g 5 l) (hl : l.length = M) (hm : b.length = m) (hij : i + m ≤ M) (hM : M ≤ 4611686018427387904) :
    Calls Try.prog 62 #[.int .i64 (i : Int), .int .u8 (x.toNat : Int), .pointer (some ⟨bb, 0, none⟩), .pointer (some ⟨bo, 0, none⟩)] w fun e w' => e = .returned (.tuple #[]) ∧ BRow w' g 5 (inF i x b l m) ∧ w.grownBy w' (some g) := by
  have hgl := hr.lt
  have HB := Lib.hid hb
  have HO := Lib.hid ho
  have HBL := Lib.hid hbl
  have HNE := Lib.hid hne
  have HR := Lib.hid hr
  have HL := Lib.hid hl
  have HM := Lib.hid hm
  have HG := Lib.hid (World.grownBy.refl w none)
  obtain ⟨ii, hii, hiz, his, _⟩ := info_parts (show (Try.prog.info? 3).map (fun i => (i.zero, i.size, i.bytes)) = some (some (.int .i64 0), 1, 8) by kernel_rfl)
  clear hb ho hbl hne hr hl hm
  have hent := enters_of Try.func63 (by kernel_rfl) rfl
  go_enter Try.func62, Try.ntmps62
  go_wp2_with (first | (refine wpList_box1 rfl rfl (.int .i64 (i : Int)) rfl rfl ?_; intro W1 hs1 hg1 hr1; have HI1 := Lib.hid hr1; have HG1 := Lib.hid hg1; clear hr1 hg1) | (refine wpList_box1 rfl rfl (.int .u8 (x.toNat : Int)) rfl rfl ?_; intro W2 hs2 hg2 hr2; rw [hs1] at hr2; have HX2 := Lib.hid hr2; have HG2 := Lib.hid (grownBy_trans HG1.out hg2); have HI2 := Lib.hid (HI1.out.grown hg2); have cb2 := Row.cell (HB.out.grown HG2.out) 0; simp at cb2; clear hr2 hg2 hs2))
  have hJ : ∀ k W, (BRow W g 5 (inF i x b l k) ∧ W2.grownBy W (some g)) → BLies W ab b := fun k W h => (HBL.out.grown HG2.out).grownNe h.2 HNE.out
  have h0 : BRow W2 g 5 (inF i x b l 0) ∧ W2.grownBy W2 (some g) := ⟨HR.out.grown HG2.out, World.grownBy.refl _ _⟩
  have hst : ∀ (k : Nat) (W : World) (hk : k < b.length), (BRow W g 5 (inF i x b l k) ∧ W2.grownBy W (some g)) → Calls Try.prog 63 (#[.int .i64 (k : Int), .int .u8 ((b[k]).toNat : Int)] ++ #[.pointer (some ⟨bo, 0, none⟩), .pointer (some ⟨w.heap.size, 0, none⟩), .pointer (some ⟨w.heap.size + 1, 0, none⟩)]) W fun e W' => e = .returned (.tuple #[]) ∧ BRow W' g 5 (inF i x b l (k + 1)) ∧ W2.grownBy W' (some g) := by
    intro k W hk h
    have hd : b[k] = b.getD k 0 := by simp [hk]
    rw [hd]
    have h3 := times3_n bo w.heap.size (w.heap.size + 1) g M i k x (b.getD k 0) (inF i x b l k) W ((HO.out.grown HG2.out).grownNe h.2 hbo) (HI2.out.grownNe h.2 (by omega)) (HX2.out.grownNe h.2 (by omega)) h.1 (by rw [inF_len]; exact HL.out) (by have := HM.out; omega) hM
    exact h3.mono fun e W' h' => ⟨h'.1, h'.2.1, grownBy_trans h.2 h'.2.2⟩
  have ht := term_n 63 #[.pointer (some ⟨bo, 0, none⟩), .pointer (some ⟨w.heap.size, 0, none⟩), .pointer (some ⟨w.heap.size + 1, 0, none⟩)] ab cb m b W2 (fun k W => BRow W g 5 (inF i x b l k) ∧ W2.grownBy W (some g)) HM.out (by unfold maxLen; omega) hent hJ hst h0
  refine ht.mono ?_
  rintro e W3 ⟨rfl, h1, h2⟩
  have H1 := Lib.hid h1
  have H2 := Lib.hid (grownBy_trans (grownBy_some HG2.out (some g)) h2)
  clear h1 h2 hJ
  go_wp2_with fail
  go_end0
  exact ⟨rfl, H1.out, H2.out⟩

set_option maxRecDepth 100000 in
set_option maxHeartbeats 1000000 in
theorem times_n (aa ab : Option Addr) (ca cb n m : Nat) (a b : List UInt8) (w : World) (ha : BLies w aa a) (hb : BLies w ab b) (hla : a.length = n) (hlb : b.length = m) (hn : n ≤ 4000000000) (hm : m ≤ 4000000000) :
    Calls Try.prog 55 #[.slice aa n ca, .slice ab m cb] w fun e w' => ∃ a' n' c', e = .returned (.slice a' n' c') ∧ BOwn w' w.heap.size a' n' c' (prodL a b) ∧ w.grownBy w' none := by
  have HA := Lib.hid ha
  have HB := Lib.hid hb
  have HLA := Lib.hid hla
  have HLB := Lib.hid hlb
  clear ha hb hla hlb
  have hent := enters_of Try.func62 (by kernel_rfl) rfl
  obtain ⟨iu, hiu, hiuz, hius, hiub⟩ := info_parts (show (Try.prog.info? 5).map (fun i => (i.zero, i.size, i.bytes)) = some (some (.int .u8 0), 1, 1) by kernel_rfl)
  obtain ⟨is, his, hisz, hiss, hisb⟩ := info_parts (show (Try.prog.info? 33).map (fun i => (i.zero, i.size, i.bytes)) = some (some (.slice none 0 0), 1, 24) by kernel_rfl)
  have harm : True := trivial
  by_cases hz : n = 0 ∨ m = 0
  · have hp : prodL a b = [] := by unfold prodL; rw [HLA.out, HLB.out, if_pos hz]
    rw [hp]
    have hz1 : ((n : Int) == 0 || (m : Int) == 0) = true := by simp; omega
    rcases Nat.eq_zero_or_pos n with rfl | hnp
    · go_enter Try.func55, Try.ntmps55
      go_wp2_with (refine wpList_box1 rfl rfl (.slice ab m cb) rfl rfl ?_; intro W1 hs1 hg1 hr1; have HI1 := Lib.hid hr1; have HG1 := Lib.hid hg1; have cb1 := Row.cell hr1 0; simp at cb1; clear hr1 hg1 hs1)
      go_ret
      exact ⟨none, 0, 0, rfl, Own.nil _ _ _ _ _, HG1.out⟩
    · obtain rfl : m = 0 := by omega
      have hn0 : ((n : Int) == 0) = false := by simp; omega
      go_enter Try.func55, Try.ntmps55
      go_wp2_with (refine wpList_box1 rfl rfl (.slice ab 0 cb) rfl rfl ?_; intro W1 hs1 hg1 hr1; have HI1 := Lib.hid hr1; have HG1 := Lib.hid hg1; have cb1 := Row.cell hr1 0; simp at cb1; clear hr1 hg1 hs1)
      go_ret
      exact ⟨none, 0, 0, rfl, Own.nil _ _ _ _ _, HG1.out⟩
  · have hn0 : ((n : Int) == 0) = false := by simp; omega
    have hm0 : ((m : Int) == 0) = false := by simp; omega
    obtain ⟨M, hM⟩ : ∃ M, n + m - 1 = M := ⟨_, rfl⟩
    have hw1 : IntKind.i64.wrap ((n : Int) + (m : Int)) = (n : Int) + (m : Int) := IntWalk.i64_in _ (by omega)
    have hw2 : IntKind.i64.wrap ((n : Int) + (m : Int) - 1) = (M : Int) := by rw [show (n : Int) + (m : Int) - 1 = (M : Int) by omega]; exact IntWalk.i64_in _ (by omega)
    go_enter Try.func55, Try.ntmps55
    go_wp2_with (first | (refine wpList_box1 rfl rfl (.slice ab m cb) rfl rfl ?_; intro W1 hs1 hg1 hr1; have HI1 := Lib.hid hr1; have HG1 := Lib.hid hg1; have cb1 := Row.cell hr1 0; simp at cb1; clear hr1 hg1) | (refine wpList_mkB rfl _ _ 33 rfl 5 Try.underlying33 hiu hiuz hius hiub M rfl rfl (by omega) ?_; intro W2 hs2 hg2 hr2; have HR2 := Lib.hid hr2; have HG2 := Lib.hid (grownBy_trans HG1.out hg2); have HI2 := Lib.hid (HI1.out.grown hg2); clear hg2 hr2 cb1) | (refine wpList_fresh1 rfl rfl rfl rfl rfl his hisz hiss rfl _ rfl rfl rfl ?_; intro W3 hs3 hg3 hr3; have HO3 := Lib.hid hr3; have HG3 := Lib.hid (grownBy_trans HG2.out hg3); have HI3 := Lib.hid (HI2.out.grown hg3); have HR3 := Lib.hid (HR2.out.grown hg3); clear hg3 hr3))
    have r1 := HR3.out
    have r2 := HO3.out
    rw [hs1] at r1
    rw [hs2, hs1] at r2
    have HR4 := Lib.hid r1
    have HO4 := Lib.hid r2
    clear r1 r2 HR3 HO3
    have hs3' : W3.heap.size = w.heap.size + 3 := by omega
    have HSZ := Lib.hid hs3'
    clear hs1 hs2 hs3 hs3' harm HR2 HI2 HI1
    obtain ⟨z, hzz⟩ : ∃ z, z = List.replicate M (0 : UInt8) := ⟨_, rfl⟩
    have hzl : z.length = M := by rw [hzz]; simp
    rw [← hzz] at HR4
    have hprod : prodL a b = trimL (outF a b z n) := by
      unfold prodL prodM
      rw [HLA.out, HLB.out, if_neg hz, hM, hzz]
    have HP := Lib.hid hprod
    clear hprod hzz
    have hneA : ∀ q off, aa = some ⟨q, off, none⟩ → q ≠ w.heap.size + 1 := by
      intro q off e
      obtain ⟨b1, o1, e1, hc1⟩ := HA.out 0 (by rw [HLA.out]; omega)
      have := World.block_lt_of_cell? w _ hc1
      rw [e] at e1; injection e1 with e1; injection e1 with e1
      simp at this
      omega
    have hneB : ∀ q off, ab = some ⟨q, off, none⟩ → q ≠ w.heap.size + 1 := by
      intro q off e
      obtain ⟨b1, o1, e1, hc1⟩ := HB.out 0 (by rw [HLB.out]; omega)
      have := World.block_lt_of_cell? w _ hc1
      rw [e] at e1; injection e1 with e1; injection e1 with e1
      simp at this
      omega
    have hJ : ∀ k W, (BRow W (w.heap.size + 1) 5 (outF a b z k) ∧ W3.grownBy W (some (w.heap.size + 1))) → BLies W aa a := fun k W h => (HA.out.grown HG3.out).grownNe h.2 hneA
    have h0 : BRow W3 (w.heap.size + 1) 5 (outF a b z 0) ∧ W3.grownBy W3 (some (w.heap.size + 1)) := ⟨HR4.out, World.grownBy.refl _ _⟩
    have hst : ∀ (k : Nat) (W : World) (hk : k < a.length), (BRow W (w.heap.size + 1) 5 (outF a b z k) ∧ W3.grownBy W (some (w.heap.size + 1))) → Calls Try.prog 62 (#[.int .i64 (k : Int), .int .u8 ((a[k]).toNat : Int)] ++ #[.pointer (some ⟨w.heap.size, 0, none⟩), .pointer (some ⟨w.heap.size + 1 + 1, 0, none⟩)]) W fun e W' => e = .returned (.tuple #[]) ∧ BRow W' (w.heap.size + 1) 5 (outF a b z (k + 1)) ∧ W3.grownBy W' (some (w.heap.size + 1)) := by
      intro k W hk h
      have hd : a[k] = a.getD k 0 := by simp [hk]
      rw [hd]
      have h3 := times2_n w.heap.size (w.heap.size + 1 + 1) (w.heap.size + 1) M k m cb ab (a.getD k 0) b (outF a b z k) W (HI3.out.grownNe h.2 (by omega)) (HO4.out.grownNe h.2 (by omega)) ((HB.out.grown HG3.out).grownNe h.2 hneB) hneB (by omega) (by omega) h.1 (by rw [outF_len]; exact hzl) HLB.out (by have := HLA.out; omega) (by omega)
      have hbl := HLB.out
      rw [outF, hbl]
      exact h3.mono fun e W' h' => ⟨h'.1, h'.2.1, grownBy_trans h.2 h'.2.2⟩
    have ht := term_n 62 #[.pointer (some ⟨w.heap.size, 0, none⟩), .pointer (some ⟨w.heap.size + 1 + 1, 0, none⟩)] aa ca n a W3 (fun k W => BRow W (w.heap.size + 1) 5 (outF a b z k) ∧ W3.grownBy W (some (w.heap.size + 1))) HLA.out (by unfold maxLen; omega) hent hJ hst h0
    refine ht.mono ?_
    rintro e W4 ⟨rfl, h1, h2⟩
    have HO5 := HO4.out.grownNe h2 (by omega)
    have co := Row.cell HO5 0
    simp at co
    have HR5 := Lib.hid h1
    have HG5 := Lib.hid (grownBy_old HG3.out h2 (by omega))
    clear h1 h2 hJ h0 hst ht HO5 hneA hneB
    obtain ⟨p, hp⟩ : ∃ p, p = outF a b z n := ⟨_, rfl⟩
    have hpl : p.length = M := by rw [hp, outF_len]; exact hzl
    rw [← hp] at HR5 HP
    have HPL := Lib.hid hpl
    have htl := trimN_le p M
    clear hp hpl hzl
    go_wp2_with (go_at_call 54; refine (trim_n _ _ _ p _ (HR5.out.lies) HPL.out (by unfold maxLen; omega) (Nat.le_refl _)).mono ?_; rintro e w' ⟨rfl, rfl⟩)
    go_ret
    refine ⟨_, _, _, rfl, ?_, HG5.out⟩
    rw [HP.out]
    unfold BOwn trimL
    rw [HPL.out]
    exact BRow.ownTake HR5.out (by omega) _ _ HPL.out htl (by unfold maxLen; omega)

end Go.Proofs.Ytfikeilpgnahkaa
