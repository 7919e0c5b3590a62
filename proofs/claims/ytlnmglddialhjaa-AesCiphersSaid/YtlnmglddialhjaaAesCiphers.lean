/- The law AesCiphers. -/
import Derived.Test.YtlnmglddialhjaaAesRefDec
import Derived.Test.YtlnmglddialhjaaAesNamesL
import Derived.Test.YtlnmglddialhjaaAesRd
namespace Go.Proofs.Ytlnmglddialhjaa
open Go.RowKit

/-- a step of the script -/
structure AStep where
  sec : Bool
  back : Bool
  blk : List UInt8
instance : Inhabited AStep := ⟨⟨false, false, []⟩⟩
def AStep.cells (s : AStep) : List Value := .bool s.sec :: .bool s.back :: s.blk.map bval

section
open Go.ChangeShapes Go.WideShapes Go.ChangeAt
theorem rd_steps {H : Type} {enc : TypeId × Value → H} {W : World} {base : Nat} {spare : Nat → Bool} {held : Bool} {fuel : Nat} {a : Option Addr} {len cap : Nat} {d : DataW H} {p : List MemPlace}
    (h : DataW.trod enc Try.prog W base spare held fuel 49 [.slice a len cap] = some (d, p)) : ∃ L : List AStep, len ≤ maxLen ∧ L.length = len ∧ (∀ s ∈ L, s.blk.length = 16) ∧ ∀ i (hi : i < L.length), ∃ b off, a = some ⟨b, off, none⟩ ∧ W.rangeAt b (off + i * 18) (L[i]).cells := by
  rcases Go.Deep.open_slice Try.underlying49 h with ⟨hcs, _⟩ | ⟨a', len', cap', m, n, D, Pl, hcs, hb, hl, hm, hmm, hx, hall⟩
  · injection hcs with hcs; injection hcs with h1 h2 h3
    subst h2
    exact ⟨[], (by unfold maxLen; omega), rfl, (fun s hs => by cases hs), (fun i hi => absurd hi (by simp))⟩
  · injection hcs with hcs; injection hcs with h1 h2 h3
    subst h1 h2 h3
    have hlm : len ≤ m := by rw [hmm]; split <;> omega
    have hce : Try.prog.cellsOf 53 = 18 := by kernel_rfl
    have each : ∀ i, i < len → ∃ s : AStep, s.blk.length = 16 ∧ ∀ j v, s.cells[j]? = some v → W.cell? ((a'.add (i * 18)).add j) = some v := by
      intro i hi
      obtain ⟨cs', h1, h2⟩ := hall i (by omega)
      rw [hce] at h1
      obtain ⟨_, hlen, hcell⟩ := World.cells?_some h1
      obtain ⟨xs, n', _, _, _, hxl, hf⟩ := DataW.trod_struct Try.underlying53 h2
      have hxl3 : xs.length = 3 := hxl
      have q0 := hf 0 _ rfl
      have q1 := hf 1 _ rfl
      have q2 := hf 2 _ rfl
      obtain ⟨y0, y1, y2, rfl⟩ : ∃ y0 y1 y2, xs = [y0, y1, y2] := by
        match xs, hxl3 with
        | [y0, y1, y2], _ => exact ⟨y0, y1, y2, rfl⟩
      obtain ⟨b0, e0, _⟩ := DataW.trod_bool (P := Try.prog) Try.underlying4 q0
      obtain ⟨b1, e1, _⟩ := DataW.trod_bool (P := Try.prog) Try.underlying4 q1
      obtain ⟨l, e2⟩ := allb_list (allb_one Try.underlying27 Try.underlying5 (by kernel_rfl) (by kernel_rfl) q2)
      match cs', hlen with
      | c0 :: c1 :: r, hlen =>
        have f0 : [c0] = [.bool b0] := e0
        have f1 : [c1] = [.bool b1] := e1
        have hr : r.length = 16 := by simp at hlen; omega
        have f2 : r.take 16 = l.map bval := e2
        rw [List.take_of_length_le (by omega)] at f2
        injection f0 with f0; injection f1 with f1
        subst f0 f1 f2
        refine ⟨⟨b0, b1, l⟩, by simpa using hr, fun j v hj => ?_⟩
        have hj2 : j < 18 := by
          have := (List.getElem?_eq_some_iff.1 hj).1
          simp [AStep.cells] at this
          simp at hr
          omega
        rw [hcell j hj2]
        exact hj
    obtain ⟨S, hS⟩ := Go.Deep.choose_lt each
    by_cases h0 : len = 0
    · subst h0
      exact ⟨[], (by unfold maxLen; omega), rfl, (fun s hs => by cases hs), (fun i hi => absurd hi (by simp))⟩
    · have hcell0 := (hS 0 (by omega)).2 0 (.bool (S 0).sec) rfl
      obtain ⟨b, off, spot⟩ := a'
      have hspot : spot = none := by simpa [Addr.add] using World.cell?_spot hcell0
      subst hspot
      refine ⟨(List.range len).map S, by omega, by simp, fun s hs => ?_, fun i hi => ⟨b, off, rfl, fun j v hj => ?_⟩⟩
      · obtain ⟨i, hi, rfl⟩ := List.mem_map.1 hs
        exact (hS i (by simpa using hi)).1
      · have hi2 : i < len := by simpa using hi
        have e : ((List.range len).map S)[i] = S i := by simp
        rw [e] at hj
        have := (hS i hi2).2 j v hj
        rw [Go.WideShapes.add_plain, Go.WideShapes.add_plain] at this
        exact this
end

theorem step_info : ∃ i, Try.prog.info? 53 = some i ∧ i.zero = some (.agg (.mk (⟨false, false, z16⟩ : AStep).cells)) ∧ i.size = 18 := ⟨(Try.prog.info? 53).getD default, by kernel_rfl, by kernel_rfl, by kernel_rfl⟩
theorem size_step : (Try.prog.info? 53).map (·.size) = some 18 := by kernel_rfl

/-- what stands while the script is gone through -/
def CS (w0 : World) (ga gb g1 g2 : Nat) (one two kk1 kk2 : List UInt8) (u : World) : Prop := w0.grownBy u none ∧ Blk u ga 26 one ∧ Blk u gb 26 two ∧ CipAt u g1 kk1 ∧ CipAt u g2 kk2
section
variable {w0 w w' : World} {ga gb g1 g2 : Nat} {one two kk1 kk2 : List UInt8}
theorem CS.grown (h : CS w0 ga gb g1 g2 one two kk1 kk2 w) (hg : w.grownBy w' none) : CS w0 ga gb g1 g2 one two kk1 kk2 w' := ⟨grownBy_trans h.1 hg, h.2.1.grown hg (by simp), h.2.2.1.grown hg (by simp), h.2.2.2.1.grown hg, h.2.2.2.2.grown hg⟩
theorem CS.lt (h : CS w0 ga gb g1 g2 one two kk1 kk2 w) : w0.heap.size ≤ w.heap.size ∧ ga < w.heap.size ∧ gb < w.heap.size ∧ g1 < w.heap.size ∧ g2 < w.heap.size := ⟨h.1.size, h.2.1.lt, h.2.2.1.lt, h.2.2.2.1.lt, h.2.2.2.2.lt⟩
theorem CS.far {g : Nat} (h : CS w0 ga gb g1 g2 one two kk1 kk2 w) (hg : w.grownBy w' (some g)) (hd : w0.heap.size ≤ g ∧ ga < g ∧ gb < g ∧ g1 < g ∧ g2 < g) : CS w0 ga gb g1 g2 one two kk1 kk2 w' :=
  ⟨grownBy_old h.1 hg hd.1, h.2.1.grown hg (by simp; omega), h.2.2.1.grown hg (by simp; omega), h.2.2.2.1.far hg (by omega), h.2.2.2.2.far hg (by omega)⟩
end
theorem Row.far {w w' : World} {g g' : Nat} {t : TypeId} {cs : Array Value} (h : Row w g t cs) (hg : w.grownBy w' (some g')) (hne : g < g' ∨ g' < g) : Row w' g t cs := h.grownNe hg (by omega)

set_option maxRecDepth 100000 in
set_option maxHeartbeats 8000000 in
theorem ciphers_walk (one two : List UInt8) (a : Option Addr) (n c : Nat) (L : List AStep) (ho : one.length = 16) (ht : two.length = 16) (hL : L.length = n) (hnM : n ≤ maxLen) (hB : ∀ s ∈ L, s.blk.length = 16) (w : World)
    (hl : ∀ i (hi : i < L.length), ∃ b off, a = some ⟨b, off, none⟩ ∧ w.rangeAt b (off + i * 18) (L[i]).cells) : Calls Try.prog 11 #[aggB one, aggB two, .slice a n c] w fun e w' => e = .returned (.bool true) ∧ w.grownBy w' none := by
  have hmB : Try.prog.eqGuardType Try.prog.depth 27 = false := by kernel_rfl
  obtain ⟨ib, hib, hibz, hibs⟩ := block_info
  obtain ⟨iy, hiy, hiyz, hiys⟩ := key_info
  obtain ⟨ip, hip, hipz, hips⟩ := step_info
  have IB := Lib.hid hib
  have IBZ := Lib.hid hibz
  have IBS := Lib.hid hibs
  have IY := Lib.hid hiy
  have IYZ := Lib.hid hiyz
  have IYS := Lib.hid hiys
  have IP := Lib.hid hip
  have IPZ := Lib.hid hipz
  have IPS := Lib.hid hips
  clear hib hibz hibs hiy hiyz hiys hip hipz hips
  have hn1 := fun w => new_n one ho w
  have hn2 := fun w => new_n two ht w
  have hk1 := keysL_len one
  have hk2 := keysL_len two
  have hre1 := fun b hb w => refEncrypt_n one b ho hb w
  have hre2 := fun b hb w => refEncrypt_n two b ht hb w
  have hrd1 := fun b hb w => refDecrypt_n one b ho hb w
  have hrd2 := fun b hb w => refDecrypt_n two b ht hb w
  generalize keysL one = kk1 at hn1 hk1 hre1 hrd1
  generalize keysL two = kk2 at hn2 hk2 hre2 hrd2
  have HN1 := Lib.hid hn1
  have HN2 := Lib.hid hn2
  have HRE1 := Lib.hid hre1
  have HRE2 := Lib.hid hre2
  have HRD1 := Lib.hid hrd1
  have HRD2 := Lib.hid hrd2
  have HLS := Lib.hid hl
  have HLL := Lib.hid hL
  have HBL := Lib.hid hB
  clear hn1 hn2 hre1 hre2 hrd1 hrd2 hl hL hB
  unfold aggB at HN1 HN2 HRE1 HRE2 HRD1 HRD2 ⊢
  go_enter Try.func11, Try.ntmps11
  go_wp2_with (first | (refine wpList_boxed (T := 26) rfl rfl (cellsB one) rfl ?_; intro wa hsa hga hra; have HSa := Lib.hid hsa; have HGa := Lib.hid hga; have HRa := Lib.hid (show Blk wa w.heap.size 26 one from hra); clear hsa hga hra) | (refine wpList_boxed (T := 26) rfl rfl (cellsB two) rfl ?_; intro wb hsb hgb hrb; have HSb := Lib.hid hsb; have HGb := Lib.hid (grownBy_trans HGa.out hgb); have HKb := Lib.hid (HRa.out.grown hgb (by simp)); have HRb := Lib.hid (show Blk wb wa.heap.size 26 two from hrb); clear hsb hgb hrb) | (refine wpList_load_rowW (by rfl) 26 _ rfl (w.heap.size) rfl 26 (cellsB one) (0, 0) _ HKb.out Try.underlying26 rfl (by rw [size_key, cellsB_size, ho]) ?_))
  refine (HN1.out _).mono ?_
  rintro e w1 ⟨g1, rfl, hgc1, hc1, hg1⟩
  have HG1 := Lib.hid (grownBy_trans HGb.out hg1)
  have HA1 := Lib.hid (HKb.out.grown hg1 (by simp))
  have HB1 := Lib.hid (HRb.out.grown hg1 (by simp))
  have HC1 := Lib.hid hc1
  clear hgc1 hc1 hg1
  go_wp2_with (first | (refine wpList_load_rowW (by rfl) 26 _ rfl (wa.heap.size) rfl 26 (cellsB two) (0, 0) _ HB1.out Try.underlying26 rfl (by rw [size_key, cellsB_size, ht]) ?_))
  refine (HN2.out _).mono ?_
  rintro e w2 ⟨g2, rfl, hgc2, hc2, hg2⟩
  have HS2 := Lib.hid (show CS w w.heap.size wa.heap.size g1 g2 one two kk1 kk2 w2 from ⟨grownBy_trans HG1.out hg2, HA1.out.grown hg2 (by simp), HB1.out.grown hg2 (by simp), HC1.out.grown hg2, hc2⟩)
  clear hgc2 hc2 hg2
  go_wp2_with fail
  refine (awake_n _).mono ?_
  rintro e w3 ⟨rfl, hg3⟩
  have HS3 := Lib.hid (HS2.out.grown hg3)
  clear hg3 HS2
  obtain ⟨ga, hga⟩ : ∃ g, g = w.heap.size := ⟨_, rfl⟩
  obtain ⟨gb, hgb⟩ : ∃ g, g = wa.heap.size := ⟨_, rfl⟩
  rw [← hga, ← hgb] at HS3
  rw [← hga, ← hgb]
  clear hga hgb HG1 HA1 HB1 HC1 HGa HGb HRa HRb HKb HSa HSb HN1 HN2
  go_wp2_with fail
  go_loopw [32] (fun vi wr => ∃ i : Nat, i ≤ n ∧ vi = .int .i64 i ∧ CS w ga gb g1 g2 one two kk1 kk2 wr) (fun vi _ => n - (intOf vi).toNat)
  case atStart => exact ⟨0, by omega, rfl, HS3.out⟩
  case round =>
    clear HS3
    obtain ⟨i, hi, rfl, hS⟩ := hrel
    have HS := Lib.hid hS
    clear hS
    by_cases hlt : i < n
    · have HLI := Lib.hid hlt
      have hw64 : IntKind.i64.wrap ((i : Int) + 1) = (i : Int) + 1 := IntWalk.i64_in _ (by unfold maxLen at hnM; omega)
      have hiL : i < L.length := by have := HLL.out; omega
      obtain ⟨b, off, rfl, hrg⟩ := HLS.out i hiL
      have hbl := HBL.out _ (List.getElem_mem hiL)
      obtain ⟨st, hst⟩ : ∃ s, s = L[i] := ⟨_, rfl⟩
      rw [← hst] at hrg hbl
      clear hst hiL
      obtain ⟨sec, back, blk⟩ := st
      simp only at hbl
      have hrg2 : wr.rangeAt b (off + i * 18) ((⟨sec, back, blk⟩ : AStep).cells) := range_grown hrg HS.out.1
      have hsz18 : (Try.prog.info? 53).map (·.size) = some ((⟨sec, back, blk⟩ : AStep).cells).length := by rw [size_step]; simp [AStep.cells, hbl]
      have HRG := Lib.hid hrg2
      clear hrg hrg2
      have hlt0 := HS.out.lt
      have HLT := Lib.hid hlt0
      clear hlt0
      have hib2 : (Try.prog.info? 27).map (·.size) = some (blk.map bval).length := by rw [size_block, List.length_map, hbl]
      have hx1 := encS_len hk1 hbl 10 (by omega)
      have hx2 := encS_len hk2 hbl 10 (by omega)
      have hx3 := decS_len hk1 hbl
      have hx4 := decS_len hk2 hbl
      have he1 := fun g w h => encrypt_n g kk1 blk hk1 hbl w h
      have he2 := fun g w h => encrypt_n g kk2 blk hk2 hbl w h
      have hd1 := fun g w h => decrypt_n g kk1 blk hk1 hbl w h
      have hd2 := fun g w h => decrypt_n g kk2 blk hk2 hbl w h
      have hr1 := HRE1.out blk hbl
      have hr2 := HRE2.out blk hbl
      have hs1 := HRD1.out blk hbl
      have hs2 := HRD2.out blk hbl
      generalize encS kk1 blk 10 = X1 at hx1 he1 hr1
      generalize encS kk2 blk 10 = X2 at hx2 he2 hr2
      generalize decS kk1 blk = X3 at hx3 hd1 hs1
      generalize decS kk2 blk = X4 at hx4 hd2 hs2
      have q1 := fun w => nsame_block X1 hx1 w
      have q2 := fun w => nsame_block X2 hx2 w
      have q3 := fun w => nsame_block X3 hx3 w
      have q4 := fun w => nsame_block X4 hx4 w
      have HE1 := Lib.hid he1
      have HE2 := Lib.hid he2
      have HD1 := Lib.hid hd1
      have HD2 := Lib.hid hd2
      have HR1 := Lib.hid hr1
      have HR2 := Lib.hid hr2
      have HT1 := Lib.hid hs1
      have HT2 := Lib.hid hs2
      clear he1 he2 hd1 hd2 hr1 hr2 hs1 hs2
      unfold aggB at HE1 HE2 HD1 HD2 HR1 HR2 HT1 HT2
      cases sec
      · cases back
        · skip
          go_wp2_with (first | (refine wpList_load_mid rfl 53 _ rfl b (off + i * 18) rfl ((⟨false, false, blk⟩ : AStep).cells) _ HRG.out Try.underlying53 rfl hsz18 ?_) | (refine wpList_fresh rfl rfl rfl rfl rfl IP.out IPZ.out (by rw [IPS.out]; rfl) (.mk ((⟨false, false, blk⟩ : AStep).cells)) rfl rfl (by simp [Value.cells, AStep.cells, hbl, z16]) (by simp [AStep.cells, bval, Value.oneCell']) ?_; intro v1 hsv1 g hr; have HC1 := Lib.hid (HS.out.grown g); have HP1 := Lib.hid hr; have c0 := hr.cell 0; have c1 := hr.cell 1; simp [AStep.cells] at c0 c1; have HV1 := Lib.hid hsv1; clear hsv1 g hr) | (refine wpList_load_rowW (by rfl) 26 _ rfl (ga) rfl 26 (cellsB one) (0, 0) _ HC1.out.2.1 Try.underlying26 rfl (by rw [size_key, cellsB_size, ho]) ?_) | (refine wpList_fresh rfl rfl rfl rfl rfl IY.out IYZ.out (by rw [IYS.out, cells_agg, cellsB_size]; rfl) (cellsB one) rfl rfl (by rw [cells_agg, cellsB_size, cellsB_size, ho]; rfl) (cellsB_one _) ?_; intro v2 hsv2 g hr; have HC2 := Lib.hid (HC1.out.grown g); have HP2 := Lib.hid (HP1.out.grown g); have HK2 := Lib.hid hr; have HV2 := Lib.hid hsv2; have c02 := HP2.out.cell 0; have c12 := HP2.out.cell 1; simp [AStep.cells] at c02 c12; clear hsv2 g hr) | (refine wpList_made rfl rfl IB.out IBZ.out ?_; intro v5 hsm g hr; have HC5 := Lib.hid (HC4.out.grown g); have HP5 := Lib.hid (HP4.out.grown g); have HK5 := Lib.hid (HK4.out.grown g); have HM5 := Lib.hid (HM4.out.grown g); have HN5 := Lib.hid (show Row v5 v4.heap.size 27 (cellsB z16) from hr); have c15x := HP5.out.cell 1; simp [AStep.cells] at c15x; clear hsm g hr) | (refine wpList_made rfl rfl IB.out IBZ.out ?_; intro v4 hsm g hr; have HC4 := Lib.hid (HC2.out.grown g); have HP4 := Lib.hid (HP2.out.grown g); have HK4 := Lib.hid (HK2.out.grown g); have HM4 := Lib.hid (show Row v4 _ 27 (cellsB z16) from hr); have c14x := HP4.out.cell 1; simp [AStep.cells] at c14x; clear hsm g hr) | (refine wpList_load_mid rfl 27 _ rfl wr.heap.size 2 rfl (blk.map bval) _ (by have h := HP5.out; intro jj vv hj; have h2 := Row.cell h (2 + jj); rw [h2]; simpa [AStep.cells, List.getElem?_cons_succ, Nat.add_comm] using hj) Try.underlying27 rfl hib2 ?_))
          refine (HE1.out g1 _ HC5.out.2.2.2.1).mono ?_
          rintro e v6 ⟨rfl, g⟩
          have HC6 := Lib.hid (HC5.out.grown g)
          have HP6 := Lib.hid (HP5.out.grown g)
          have HK6 := Lib.hid (HK5.out.grown g)
          have HM6 := Lib.hid (HM5.out.grown g)
          have HN6 := Lib.hid (HN5.out.grown g)
          have hz : wr.heap.size < v1.heap.size ∧ v1.heap.size < v2.heap.size ∧ v2.heap.size < v4.heap.size := by
            have h1 := HV1.out
            have h2 := HK2.out.lt
            have h3 := HM4.out.lt
            omega
          have HZ9 := Lib.hid hz
          clear g hz
          go_wp2_with (first | (refine wpList_putrow rfl rfl v2.heap.size rfl (cellsB X1) rfl HM6.out (by rw [size_block, cellsB_size, hx1]) (by rw [cellsB_size, cellsB_size, hx1]; rfl) (cellsB_one _) ?_; intro v7 g hr; have HC7 := Lib.hid (HC6.out.far g (by have := HLT.out; have := HZ9.out; omega)); have HP7 := Lib.hid (HP6.out.far g (.inl (by have := HZ9.out; omega))); have HK7 := Lib.hid (HK6.out.far g (.inl (by have := HZ9.out; omega))); have HM7 := Lib.hid hr; have HN7 := Lib.hid (HN6.out.far g (.inr (by have := HZ9.out; omega))); clear g hr) | (refine wpList_load_rowW (by rfl) 26 _ rfl (v1.heap.size) rfl 26 (cellsB one) (0, 0) _ HK7.out Try.underlying26 rfl (by rw [size_key, cellsB_size, ho]) ?_) | (refine wpList_load_mid rfl 27 _ rfl wr.heap.size 2 rfl (blk.map bval) _ (by have h := HP7.out; intro jj vv hj; have h2 := Row.cell h (2 + jj); rw [h2]; simpa [AStep.cells, List.getElem?_cons_succ, Nat.add_comm] using hj) Try.underlying27 rfl hib2 ?_))
          refine (HR1.out _).mono ?_
          rintro e v8 ⟨rfl, g⟩
          have HC8 := Lib.hid (HC7.out.grown g)
          have HM8 := Lib.hid (HM7.out.grown g)
          have HN8 := Lib.hid (HN7.out.grown g)
          clear g
          go_wp2_with (first | (refine wpList_putrow rfl rfl v4.heap.size rfl (cellsB X1) rfl HN8.out (by rw [size_block, cellsB_size, hx1]) (by rw [cellsB_size, cellsB_size, hx1]; rfl) (cellsB_one _) ?_; intro v9 g hr; have HC9 := Lib.hid (HC8.out.far g (by have := HLT.out; have := HZ9.out; omega)); have HM9 := Lib.hid (HM8.out.far g (.inl (by have := HZ9.out; omega))); have HN9 := Lib.hid hr; clear g hr) | (refine wpList_load_rowW (by rfl) 27 _ rfl (v2.heap.size) rfl 27 (cellsB X1) (0, 0) _ HM9.out Try.underlying27 rfl (by rw [size_block, cellsB_size, hx1]) ?_) | (refine wpList_load_rowW (by rfl) 27 _ rfl (v4.heap.size) rfl 27 (cellsB X1) (0, 0) _ HN9.out Try.underlying27 rfl (by rw [size_block, cellsB_size, hx1]) ?_))
          go_roundw
          case rel => exact ⟨i + 1, by have := HLI.out; omega, by go_num, HC9.out⟩
          case measure => have := HLI.out; simp [intOf]; omega
        · skip
          go_wp2_with (first | (refine wpList_load_mid rfl 53 _ rfl b (off + i * 18) rfl ((⟨false, true, blk⟩ : AStep).cells) _ HRG.out Try.underlying53 rfl hsz18 ?_) | (refine wpList_fresh rfl rfl rfl rfl rfl IP.out IPZ.out (by rw [IPS.out]; rfl) (.mk ((⟨false, true, blk⟩ : AStep).cells)) rfl rfl (by simp [Value.cells, AStep.cells, hbl, z16]) (by simp [AStep.cells, bval, Value.oneCell']) ?_; intro v1 hsv1 g hr; have HC1 := Lib.hid (HS.out.grown g); have HP1 := Lib.hid hr; have c0 := hr.cell 0; have c1 := hr.cell 1; simp [AStep.cells] at c0 c1; have HV1 := Lib.hid hsv1; clear hsv1 g hr) | (refine wpList_load_rowW (by rfl) 26 _ rfl (ga) rfl 26 (cellsB one) (0, 0) _ HC1.out.2.1 Try.underlying26 rfl (by rw [size_key, cellsB_size, ho]) ?_) | (refine wpList_fresh rfl rfl rfl rfl rfl IY.out IYZ.out (by rw [IYS.out, cells_agg, cellsB_size]; rfl) (cellsB one) rfl rfl (by rw [cells_agg, cellsB_size, cellsB_size, ho]; rfl) (cellsB_one _) ?_; intro v2 hsv2 g hr; have HC2 := Lib.hid (HC1.out.grown g); have HP2 := Lib.hid (HP1.out.grown g); have HK2 := Lib.hid hr; have HV2 := Lib.hid hsv2; have c02 := HP2.out.cell 0; have c12 := HP2.out.cell 1; simp [AStep.cells] at c02 c12; clear hsv2 g hr) | (refine wpList_made rfl rfl IB.out IBZ.out ?_; intro v5 hsm g hr; have HC5 := Lib.hid (HC4.out.grown g); have HP5 := Lib.hid (HP4.out.grown g); have HK5 := Lib.hid (HK4.out.grown g); have HM5 := Lib.hid (HM4.out.grown g); have HN5 := Lib.hid (show Row v5 v4.heap.size 27 (cellsB z16) from hr); have c15x := HP5.out.cell 1; simp [AStep.cells] at c15x; clear hsm g hr) | (refine wpList_made rfl rfl IB.out IBZ.out ?_; intro v4 hsm g hr; have HC4 := Lib.hid (HC2.out.grown g); have HP4 := Lib.hid (HP2.out.grown g); have HK4 := Lib.hid (HK2.out.grown g); have HM4 := Lib.hid (show Row v4 _ 27 (cellsB z16) from hr); have c14x := HP4.out.cell 1; simp [AStep.cells] at c14x; clear hsm g hr) | (refine wpList_load_mid rfl 27 _ rfl wr.heap.size 2 rfl (blk.map bval) _ (by have h := HP5.out; intro jj vv hj; have h2 := Row.cell h (2 + jj); rw [h2]; simpa [AStep.cells, List.getElem?_cons_succ, Nat.add_comm] using hj) Try.underlying27 rfl hib2 ?_))
          refine (HD1.out g1 _ HC5.out.2.2.2.1).mono ?_
          rintro e v6 ⟨rfl, g⟩
          have HC6 := Lib.hid (HC5.out.grown g)
          have HP6 := Lib.hid (HP5.out.grown g)
          have HK6 := Lib.hid (HK5.out.grown g)
          have HM6 := Lib.hid (HM5.out.grown g)
          have HN6 := Lib.hid (HN5.out.grown g)
          have hz : wr.heap.size < v1.heap.size ∧ v1.heap.size < v2.heap.size ∧ v2.heap.size < v4.heap.size := by
            have h1 := HV1.out
            have h2 := HK2.out.lt
            have h3 := HM4.out.lt
            omega
          have HZ9 := Lib.hid hz
          clear g hz
          go_wp2_with (first | (refine wpList_putrow rfl rfl v2.heap.size rfl (cellsB X3) rfl HM6.out (by rw [size_block, cellsB_size, hx3]) (by rw [cellsB_size, cellsB_size, hx3]; rfl) (cellsB_one _) ?_; intro v7 g hr; have HC7 := Lib.hid (HC6.out.far g (by have := HLT.out; have := HZ9.out; omega)); have HP7 := Lib.hid (HP6.out.far g (.inl (by have := HZ9.out; omega))); have HK7 := Lib.hid (HK6.out.far g (.inl (by have := HZ9.out; omega))); have HM7 := Lib.hid hr; have HN7 := Lib.hid (HN6.out.far g (.inr (by have := HZ9.out; omega))); clear g hr) | (refine wpList_load_rowW (by rfl) 26 _ rfl (v1.heap.size) rfl 26 (cellsB one) (0, 0) _ HK7.out Try.underlying26 rfl (by rw [size_key, cellsB_size, ho]) ?_) | (refine wpList_load_mid rfl 27 _ rfl wr.heap.size 2 rfl (blk.map bval) _ (by have h := HP7.out; intro jj vv hj; have h2 := Row.cell h (2 + jj); rw [h2]; simpa [AStep.cells, List.getElem?_cons_succ, Nat.add_comm] using hj) Try.underlying27 rfl hib2 ?_))
          refine (HT1.out _).mono ?_
          rintro e v8 ⟨rfl, g⟩
          have HC8 := Lib.hid (HC7.out.grown g)
          have HM8 := Lib.hid (HM7.out.grown g)
          have HN8 := Lib.hid (HN7.out.grown g)
          clear g
          go_wp2_with (first | (refine wpList_putrow rfl rfl v4.heap.size rfl (cellsB X3) rfl HN8.out (by rw [size_block, cellsB_size, hx3]) (by rw [cellsB_size, cellsB_size, hx3]; rfl) (cellsB_one _) ?_; intro v9 g hr; have HC9 := Lib.hid (HC8.out.far g (by have := HLT.out; have := HZ9.out; omega)); have HM9 := Lib.hid (HM8.out.far g (.inl (by have := HZ9.out; omega))); have HN9 := Lib.hid hr; clear g hr) | (refine wpList_load_rowW (by rfl) 27 _ rfl (v2.heap.size) rfl 27 (cellsB X3) (0, 0) _ HM9.out Try.underlying27 rfl (by rw [size_block, cellsB_size, hx3]) ?_) | (refine wpList_load_rowW (by rfl) 27 _ rfl (v4.heap.size) rfl 27 (cellsB X3) (0, 0) _ HN9.out Try.underlying27 rfl (by rw [size_block, cellsB_size, hx3]) ?_))
          go_roundw
          case rel => exact ⟨i + 1, by have := HLI.out; omega, by go_num, HC9.out⟩
          case measure => have := HLI.out; simp [intOf]; omega
      · cases back
        · skip
          go_wp2_with (first | (refine wpList_load_mid rfl 53 _ rfl b (off + i * 18) rfl ((⟨true, false, blk⟩ : AStep).cells) _ HRG.out Try.underlying53 rfl hsz18 ?_) | (refine wpList_fresh rfl rfl rfl rfl rfl IP.out IPZ.out (by rw [IPS.out]; rfl) (.mk ((⟨true, false, blk⟩ : AStep).cells)) rfl rfl (by simp [Value.cells, AStep.cells, hbl, z16]) (by simp [AStep.cells, bval, Value.oneCell']) ?_; intro v1 hsv1 g hr; have HC1 := Lib.hid (HS.out.grown g); have HP1 := Lib.hid hr; have c0 := hr.cell 0; have c1 := hr.cell 1; simp [AStep.cells] at c0 c1; have HV1 := Lib.hid hsv1; clear hsv1 g hr) | (refine wpList_load_rowW (by rfl) 26 _ rfl (ga) rfl 26 (cellsB one) (0, 0) _ HC1.out.2.1 Try.underlying26 rfl (by rw [size_key, cellsB_size, ho]) ?_) | (refine wpList_fresh rfl rfl rfl rfl rfl IY.out IYZ.out (by rw [IYS.out, cells_agg, cellsB_size]; rfl) (cellsB one) rfl rfl (by rw [cells_agg, cellsB_size, cellsB_size, ho]; rfl) (cellsB_one _) ?_; intro v2 hsv2 g hr; have HC2 := Lib.hid (HC1.out.grown g); have HP2 := Lib.hid (HP1.out.grown g); have HK2 := Lib.hid hr; have HV2 := Lib.hid hsv2; have c02 := HP2.out.cell 0; have c12 := HP2.out.cell 1; simp [AStep.cells] at c02 c12; clear hsv2 g hr) | (refine wpList_load_rowW (by rfl) 26 _ rfl (gb) rfl 26 (cellsB two) (0, 0) _ HC2.out.2.2.1 Try.underlying26 rfl (by rw [size_key, cellsB_size, ht]) ?_) | (refine wpList_putrow rfl rfl v1.heap.size rfl (cellsB two) rfl HK2.out (by rw [size_key, cellsB_size, ht]) (by rw [cellsB_size, cellsB_size, ho, ht]) (cellsB_one _) ?_; intro v3 g hr; have HZ := Lib.hid (show wr.heap.size < v1.heap.size from by have := HV1.out; omega); have HC3 := Lib.hid (HC2.out.far g (by have := HLT.out; have := HZ.out; omega)); have HP3 := Lib.hid (HP2.out.far g (.inl HZ.out)); have HK3 := Lib.hid hr; have HZ3 := Lib.hid (show v1.heap.size < v3.heap.size from hr.lt); have c13 := HP3.out.cell 1; simp [AStep.cells] at c13; clear g hr) | (refine wpList_made rfl rfl IB.out IBZ.out ?_; intro v5 hsm g hr; have HC5 := Lib.hid (HC4.out.grown g); have HP5 := Lib.hid (HP4.out.grown g); have HK5 := Lib.hid (HK4.out.grown g); have HM5 := Lib.hid (HM4.out.grown g); have HN5 := Lib.hid (show Row v5 v4.heap.size 27 (cellsB z16) from hr); have c15x := HP5.out.cell 1; simp [AStep.cells] at c15x; clear hsm g hr) | (refine wpList_made rfl rfl IB.out IBZ.out ?_; intro v4 hsm g hr; have HC4 := Lib.hid (HC3.out.grown g); have HP4 := Lib.hid (HP3.out.grown g); have HK4 := Lib.hid (HK3.out.grown g); have HM4 := Lib.hid (show Row v4 _ 27 (cellsB z16) from hr); have c14x := HP4.out.cell 1; simp [AStep.cells] at c14x; clear hsm g hr) | (refine wpList_load_mid rfl 27 _ rfl wr.heap.size 2 rfl (blk.map bval) _ (by have h := HP5.out; intro jj vv hj; have h2 := Row.cell h (2 + jj); rw [h2]; simpa [AStep.cells, List.getElem?_cons_succ, Nat.add_comm] using hj) Try.underlying27 rfl hib2 ?_))
          refine (HE2.out g2 _ HC5.out.2.2.2.2).mono ?_
          rintro e v6 ⟨rfl, g⟩
          have HC6 := Lib.hid (HC5.out.grown g)
          have HP6 := Lib.hid (HP5.out.grown g)
          have HK6 := Lib.hid (HK5.out.grown g)
          have HM6 := Lib.hid (HM5.out.grown g)
          have HN6 := Lib.hid (HN5.out.grown g)
          have hz : wr.heap.size < v1.heap.size ∧ v1.heap.size < v3.heap.size ∧ v3.heap.size < v4.heap.size := by
            have h1 := HV1.out
            have h2 := HK3.out.lt
            have h3 := HM4.out.lt
            omega
          have HZ9 := Lib.hid hz
          clear g hz
          go_wp2_with (first | (refine wpList_putrow rfl rfl v3.heap.size rfl (cellsB X2) rfl HM6.out (by rw [size_block, cellsB_size, hx2]) (by rw [cellsB_size, cellsB_size, hx2]; rfl) (cellsB_one _) ?_; intro v7 g hr; have HC7 := Lib.hid (HC6.out.far g (by have := HLT.out; have := HZ9.out; omega)); have HP7 := Lib.hid (HP6.out.far g (.inl (by have := HZ9.out; omega))); have HK7 := Lib.hid (HK6.out.far g (.inl (by have := HZ9.out; omega))); have HM7 := Lib.hid hr; have HN7 := Lib.hid (HN6.out.far g (.inr (by have := HZ9.out; omega))); clear g hr) | (refine wpList_load_rowW (by rfl) 26 _ rfl (v1.heap.size) rfl 26 (cellsB two) (0, 0) _ HK7.out Try.underlying26 rfl (by rw [size_key, cellsB_size, ht]) ?_) | (refine wpList_load_mid rfl 27 _ rfl wr.heap.size 2 rfl (blk.map bval) _ (by have h := HP7.out; intro jj vv hj; have h2 := Row.cell h (2 + jj); rw [h2]; simpa [AStep.cells, List.getElem?_cons_succ, Nat.add_comm] using hj) Try.underlying27 rfl hib2 ?_))
          refine (HR2.out _).mono ?_
          rintro e v8 ⟨rfl, g⟩
          have HC8 := Lib.hid (HC7.out.grown g)
          have HM8 := Lib.hid (HM7.out.grown g)
          have HN8 := Lib.hid (HN7.out.grown g)
          clear g
          go_wp2_with (first | (refine wpList_putrow rfl rfl v4.heap.size rfl (cellsB X2) rfl HN8.out (by rw [size_block, cellsB_size, hx2]) (by rw [cellsB_size, cellsB_size, hx2]; rfl) (cellsB_one _) ?_; intro v9 g hr; have HC9 := Lib.hid (HC8.out.far g (by have := HLT.out; have := HZ9.out; omega)); have HM9 := Lib.hid (HM8.out.far g (.inl (by have := HZ9.out; omega))); have HN9 := Lib.hid hr; clear g hr) | (refine wpList_load_rowW (by rfl) 27 _ rfl (v3.heap.size) rfl 27 (cellsB X2) (0, 0) _ HM9.out Try.underlying27 rfl (by rw [size_block, cellsB_size, hx2]) ?_) | (refine wpList_load_rowW (by rfl) 27 _ rfl (v4.heap.size) rfl 27 (cellsB X2) (0, 0) _ HN9.out Try.underlying27 rfl (by rw [size_block, cellsB_size, hx2]) ?_))
          go_roundw
          case rel => exact ⟨i + 1, by have := HLI.out; omega, by go_num, HC9.out⟩
          case measure => have := HLI.out; simp [intOf]; omega
        · skip
          go_wp2_with (first | (refine wpList_load_mid rfl 53 _ rfl b (off + i * 18) rfl ((⟨true, true, blk⟩ : AStep).cells) _ HRG.out Try.underlying53 rfl hsz18 ?_) | (refine wpList_fresh rfl rfl rfl rfl rfl IP.out IPZ.out (by rw [IPS.out]; rfl) (.mk ((⟨true, true, blk⟩ : AStep).cells)) rfl rfl (by simp [Value.cells, AStep.cells, hbl, z16]) (by simp [AStep.cells, bval, Value.oneCell']) ?_; intro v1 hsv1 g hr; have HC1 := Lib.hid (HS.out.grown g); have HP1 := Lib.hid hr; have c0 := hr.cell 0; have c1 := hr.cell 1; simp [AStep.cells] at c0 c1; have HV1 := Lib.hid hsv1; clear hsv1 g hr) | (refine wpList_load_rowW (by rfl) 26 _ rfl (ga) rfl 26 (cellsB one) (0, 0) _ HC1.out.2.1 Try.underlying26 rfl (by rw [size_key, cellsB_size, ho]) ?_) | (refine wpList_fresh rfl rfl rfl rfl rfl IY.out IYZ.out (by rw [IYS.out, cells_agg, cellsB_size]; rfl) (cellsB one) rfl rfl (by rw [cells_agg, cellsB_size, cellsB_size, ho]; rfl) (cellsB_one _) ?_; intro v2 hsv2 g hr; have HC2 := Lib.hid (HC1.out.grown g); have HP2 := Lib.hid (HP1.out.grown g); have HK2 := Lib.hid hr; have HV2 := Lib.hid hsv2; have c02 := HP2.out.cell 0; have c12 := HP2.out.cell 1; simp [AStep.cells] at c02 c12; clear hsv2 g hr) | (refine wpList_load_rowW (by rfl) 26 _ rfl (gb) rfl 26 (cellsB two) (0, 0) _ HC2.out.2.2.1 Try.underlying26 rfl (by rw [size_key, cellsB_size, ht]) ?_) | (refine wpList_putrow rfl rfl v1.heap.size rfl (cellsB two) rfl HK2.out (by rw [size_key, cellsB_size, ht]) (by rw [cellsB_size, cellsB_size, ho, ht]) (cellsB_one _) ?_; intro v3 g hr; have HZ := Lib.hid (show wr.heap.size < v1.heap.size from by have := HV1.out; omega); have HC3 := Lib.hid (HC2.out.far g (by have := HLT.out; have := HZ.out; omega)); have HP3 := Lib.hid (HP2.out.far g (.inl HZ.out)); have HK3 := Lib.hid hr; have HZ3 := Lib.hid (show v1.heap.size < v3.heap.size from hr.lt); have c13 := HP3.out.cell 1; simp [AStep.cells] at c13; clear g hr) | (refine wpList_made rfl rfl IB.out IBZ.out ?_; intro v5 hsm g hr; have HC5 := Lib.hid (HC4.out.grown g); have HP5 := Lib.hid (HP4.out.grown g); have HK5 := Lib.hid (HK4.out.grown g); have HM5 := Lib.hid (HM4.out.grown g); have HN5 := Lib.hid (show Row v5 v4.heap.size 27 (cellsB z16) from hr); have c15x := HP5.out.cell 1; simp [AStep.cells] at c15x; clear hsm g hr) | (refine wpList_made rfl rfl IB.out IBZ.out ?_; intro v4 hsm g hr; have HC4 := Lib.hid (HC3.out.grown g); have HP4 := Lib.hid (HP3.out.grown g); have HK4 := Lib.hid (HK3.out.grown g); have HM4 := Lib.hid (show Row v4 _ 27 (cellsB z16) from hr); have c14x := HP4.out.cell 1; simp [AStep.cells] at c14x; clear hsm g hr) | (refine wpList_load_mid rfl 27 _ rfl wr.heap.size 2 rfl (blk.map bval) _ (by have h := HP5.out; intro jj vv hj; have h2 := Row.cell h (2 + jj); rw [h2]; simpa [AStep.cells, List.getElem?_cons_succ, Nat.add_comm] using hj) Try.underlying27 rfl hib2 ?_))
          refine (HD2.out g2 _ HC5.out.2.2.2.2).mono ?_
          rintro e v6 ⟨rfl, g⟩
          have HC6 := Lib.hid (HC5.out.grown g)
          have HP6 := Lib.hid (HP5.out.grown g)
          have HK6 := Lib.hid (HK5.out.grown g)
          have HM6 := Lib.hid (HM5.out.grown g)
          have HN6 := Lib.hid (HN5.out.grown g)
          have hz : wr.heap.size < v1.heap.size ∧ v1.heap.size < v3.heap.size ∧ v3.heap.size < v4.heap.size := by
            have h1 := HV1.out
            have h2 := HK3.out.lt
            have h3 := HM4.out.lt
            omega
          have HZ9 := Lib.hid hz
          clear g hz
          go_wp2_with (first | (refine wpList_putrow rfl rfl v3.heap.size rfl (cellsB X4) rfl HM6.out (by rw [size_block, cellsB_size, hx4]) (by rw [cellsB_size, cellsB_size, hx4]; rfl) (cellsB_one _) ?_; intro v7 g hr; have HC7 := Lib.hid (HC6.out.far g (by have := HLT.out; have := HZ9.out; omega)); have HP7 := Lib.hid (HP6.out.far g (.inl (by have := HZ9.out; omega))); have HK7 := Lib.hid (HK6.out.far g (.inl (by have := HZ9.out; omega))); have HM7 := Lib.hid hr; have HN7 := Lib.hid (HN6.out.far g (.inr (by have := HZ9.out; omega))); clear g hr) | (refine wpList_load_rowW (by rfl) 26 _ rfl (v1.heap.size) rfl 26 (cellsB two) (0, 0) _ HK7.out Try.underlying26 rfl (by rw [size_key, cellsB_size, ht]) ?_) | (refine wpList_load_mid rfl 27 _ rfl wr.heap.size 2 rfl (blk.map bval) _ (by have h := HP7.out; intro jj vv hj; have h2 := Row.cell h (2 + jj); rw [h2]; simpa [AStep.cells, List.getElem?_cons_succ, Nat.add_comm] using hj) Try.underlying27 rfl hib2 ?_))
          refine (HT2.out _).mono ?_
          rintro e v8 ⟨rfl, g⟩
          have HC8 := Lib.hid (HC7.out.grown g)
          have HM8 := Lib.hid (HM7.out.grown g)
          have HN8 := Lib.hid (HN7.out.grown g)
          clear g
          go_wp2_with (first | (refine wpList_putrow rfl rfl v4.heap.size rfl (cellsB X4) rfl HN8.out (by rw [size_block, cellsB_size, hx4]) (by rw [cellsB_size, cellsB_size, hx4]; rfl) (cellsB_one _) ?_; intro v9 g hr; have HC9 := Lib.hid (HC8.out.far g (by have := HLT.out; have := HZ9.out; omega)); have HM9 := Lib.hid (HM8.out.far g (.inl (by have := HZ9.out; omega))); have HN9 := Lib.hid hr; clear g hr) | (refine wpList_load_rowW (by rfl) 27 _ rfl (v3.heap.size) rfl 27 (cellsB X4) (0, 0) _ HM9.out Try.underlying27 rfl (by rw [size_block, cellsB_size, hx4]) ?_) | (refine wpList_load_rowW (by rfl) 27 _ rfl (v4.heap.size) rfl 27 (cellsB X4) (0, 0) _ HN9.out Try.underlying27 rfl (by rw [size_block, cellsB_size, hx4]) ?_))
          go_roundw
          case rel => exact ⟨i + 1, by have := HLI.out; omega, by go_num, HC9.out⟩
          case measure => have := HLI.out; simp [intOf]; omega
    · obtain rfl : i = n := by omega
      go_wp2_with fail
      refine bodyPost_ret (by simp [*, results, Try.results11, go_sem]; try rfl) rfl ?_
      exact ⟨rfl, HS.out.1⟩

end Go.Proofs.Ytlnmglddialhjaa
