/- aes: Encrypt; the laws' awake. -/
import Derived.Test.YtlnmglddialhjaaAesNew
import Derived.Test.YtlnmglddialhjaaAesBehind
namespace Go.Proofs.Ytlnmglddialhjaa
open Go.RowKit

theorem results_ct {P : Program} {fn : Func} {p q : Tmp} {ty : TypeId} (h : fn.results = #[.cell p ty, .tmp q]) (tmps : Array Value) (w : World) (g : Nat) (t : TypeId) (cs : Array Value) (fr : Nat × Nat) (d : TypeDesc) (v : Value)
    (hp : tmps.getD p undef = .pointer (some ⟨g, 0, none⟩)) (hq : tmps.getD q undef = v) (hg : w.heap[g]? = some (.cells cs t fr))
    (hu : P.underlying ty = some d) (hd : (match d with | .struct _ | .array _ _ => true | _ => false) = true) (hi : (P.info? ty).map (·.size) = some cs.size) :
    (results fn tmps).run P w = .ok (.tuple #[.agg cs, v]) w := by
  have hp' : tmps[p]?.getD undef = .pointer (some ⟨g, 0, none⟩) := by simpa using hp
  have hq' : tmps[q]?.getD undef = v := by simpa using hq
  simp [results, h, hp', hq', asAddr, run_loadVar_row w g t ty cs fr d hg hu hd hi]

set_option maxRecDepth 100000 in
set_option maxHeartbeats 2000000 in
theorem encrypt_n (gc : Nat) (kk b : List UInt8) (hk : kk.length = 176) (hb : b.length = 16) (w : World) (hc : CipAt w gc kk) :
    Calls Try.prog 48 #[.pointer (some ⟨gc, 0, none⟩), aggB b] w fun e w' => e = .returned (.tuple #[.agg (cellsB (encS kk b 10)), .int .i64 0]) ∧ w.grownBy w' none := by
  have hyl := encS_len hk hb 10 (by omega)
  have hcb := fun (w1 : World) (h : CipAt w1 gc kk) => behind_n gc 10 kk b hk hb (by omega) w1 h
  obtain ⟨y, hy⟩ : ∃ y, y = encS kk b 10 := ⟨_, rfl⟩
  rw [← hy] at hyl hcb ⊢
  have HCB := Lib.hid hcb
  clear hy hcb
  unfold aggB
  obtain ⟨h1, h2, hg⟩ := two w b z16 27 27
  have HB := Lib.hid h1
  have HR := Lib.hid h2
  have HG := Lib.hid hg
  have hc2 := hc.grown hg
  have HC := Lib.hid hc2
  have hmade := hc2.1 0 _ rfl
  rw [Nat.zero_add] at hmade
  have hmade2 : ((w.alloc (.cells (cellsB b) 27)).alloc (.cells #[.int .u8 0, .int .u8 0, .int .u8 0, .int .u8 0, .int .u8 0, .int .u8 0, .int .u8 0, .int .u8 0, .int .u8 0, .int .u8 0, .int .u8 0, .int .u8 0, .int .u8 0, .int .u8 0, .int .u8 0, .int .u8 0] 27)).cell? ⟨gc, 0, none⟩ = some (.bool true) := hmade
  have hm0 : w.cell? ⟨gc, 0, none⟩ = some (.bool true) := by have h := hc.1 0 _ rfl; rwa [Nat.zero_add] at h
  have hgl := hc.lt
  clear h1 h2 hg hc hc2 hmade
  go_enter Try.func48, Try.ntmps48
  go_wp2_with (refine wpList_load_row rfl 27 _ rfl w.heap.size rfl 27 (cellsB b) (0, 0) _ HB.out Try.underlying27 rfl (by rw [size_block, cellsB_size, hb]) ?_)
  refine (HCB.out _ HC.out).mono ?_
  rintro e w1 ⟨rfl, hg1⟩
  have HR1 := Lib.hid (HR.out.grown hg1 (by simp))
  have HG1 := Lib.hid (grownBy_trans HG.out hg1)
  clear hg1 hmade2 hm0
  unfold aggB
  go_wp2_with (refine wpList_store_row rfl 27 _ _ rfl (w.heap.size + 1) (cellsB y) rfl rfl 27 _ HR1.out (by rw [size_block, cellsB_size, hyl]) (by rw [cellsB_size, cellsB_size, hyl]; rfl) (cellsB_one _) ?_)
  refine bodyPost_ret (v := .tuple #[.agg (cellsB y), .int .i64 0]) (results_ct rfl _ _ (w.heap.size + 1) 27 (cellsB y) (0, 0) _ _ rfl rfl (setRow_heap _ _ _ _ _ _ HR1.out) Try.underlying27 rfl (by rw [size_block, cellsB_size, hyl])) rfl ⟨rfl, ?_⟩
  exact grownBy_old HG1.out (grownBy_setRow _ _ _) (by omega)

theorem wpList_load_rowW {P : Program} {ops : Array Oper} {rest : List Oper} {o : Oper} {a : Act} {w : World} {Q : Exit → Act → World → Prop} (hw : Region.wanted o (yielded ops a.tmps) = true) (ty : TypeId) (x : Operand) (ho : o.op = .load ty x)
    (g : Nat) (hx : a.eval x = .pointer (some ⟨g, 0, none⟩)) (t : TypeId) (cs : Array Value) (fr : Nat × Nat) (d : TypeDesc) (hg : w.heap[g]? = some (.cells cs t fr))
    (hu : P.underlying ty = some d) (hd : (match d with | .struct _ | .array _ _ => true | _ => false) = true) (hi : (P.info? ty).map (·.size) = some cs.size)
    (h : wpList P ops Q rest (a.put o.dst (.agg cs)) w) : wpList P ops Q (o :: rest) a w := by
  unfold wpList
  rw [if_pos hw]
  exact .inl (wp_load_row ty x ho g hx t cs fr d hg hu hd hi h)
theorem size_a16 : (Try.prog.info? 25).map (·.size) = some 16 := by kernel_rfl
def cnF (st i : Nat) (o : List UInt8) : List UInt8 := o.set i (UInt8.ofNat (i * st))
theorem cnF_len (st : Nat) : ∀ i o, (cnF st i o).length = o.length := fun i o => by simp [cnF]
def cnt (st : Nat) : List UInt8 := iterU (cnF st) z16 16
theorem cnt_len (st : Nat) : (cnt st).length = 16 := (iterU_len (cnF_len st) 16).trans rfl

set_option maxRecDepth 100000 in
set_option maxHeartbeats 1000000 in
theorem counted1_n (w : World) : Calls Try.prog 44 #[.int .u8 1] w fun e w' => e = .returned (aggB (cnt 1)) ∧ w.grownBy w' none := by
  have hml := cnt_len 1
  have hme : cnt 1 = iterU (cnF 1) z16 16 := rfl
  obtain ⟨m, hm⟩ : ∃ m, m = cnt 1 := ⟨_, rfl⟩
  rw [← hm] at hml hme ⊢
  have HME := Lib.hid hme
  clear hme hm
  unfold aggB
  obtain ⟨hr, hs, hg⟩ := two w z16 z16 25 25
  have HR := Lib.hid hr
  have HS := Lib.hid hs
  have HG := Lib.hid hg
  clear hr hg hs
  go_enter Try.func44, Try.ntmps44
  go_wp2_with fail
  go_loopw [4] (fun vi wr => ∃ k : Nat, k ≤ 16 ∧ vi = .int .i64 k ∧ Blk wr w.heap.size 25 z16 ∧ Blk wr (w.heap.size + 1) 25 (iterU (cnF 1) z16 k) ∧ w.grownBy wr none) (fun vi _ => 16 - (intOf vi).toNat)
  case atStart => exact ⟨0, by omega, rfl, HR.out, HS.out, HG.out⟩
  case round =>
    obtain ⟨k, hk, rfl, hr, hs, hg⟩ := hrel
    have HRR := Lib.hid hr
    have HGG := Lib.hid hg
    have hlen : (iterU (cnF 1) z16 k).length = 16 := iterU_len (cnF_len 1) k
    have hcell := hs.cell 16 hlen
    have hfree := hs.free
    have HSS := Lib.hid hs
    clear hr hg hs hlen
    by_cases hlt : k < 16
    · have hcj := hcell k hlt
      have hset := HSS.out.set k (UInt8.ofNat (k * 1))
      have he : iterU (cnF 1) z16 (k + 1) = (iterU (cnF 1) z16 k).set k (UInt8.ofNat (k * 1)) := rfl
      rw [← he] at hset
      have hx : ((UInt8.ofNat (k * 1)).toNat : Int) = ((k * 1 : Nat) : Int) := by rw [ofNat_u8 (by omega)]
      obtain ⟨v, hv⟩ : ∃ v : Value, v = .int .u8 ((UInt8.ofNat (k * 1)).toNat : Int) := ⟨_, rfl⟩
      rw [← hv] at hset
      have HV := Lib.hid (show v = .int .u8 ((k * 1 : Nat) : Int) from by rw [hv, hx])
      obtain ⟨u0, hu0⟩ : ∃ u0, _ = some u0 := ⟨_, hcj⟩
      have HSET := Lib.hid hset
      clear hset HSS hcell hcj he hx hv
      go_wp2_with fail
      go_roundw
      case rel =>
        have hs2 := HSET.out
        rw [HV.out] at hs2
        exact ⟨k + 1, by omega, by go_num, HRR.out.other (by omega), by simpa using hs2, grownBy_old HGG.out (grownBy_setCell _ _ _ _) (by omega)⟩
      case measure => simp [intOf]; omega
    · obtain rfl : k = 16 := by omega
      clear hcell hfree
      have hs := HSS.out
      rw [← HME.out] at hs
      have HS2 := Lib.hid hs
      clear hs HSS
      go_wp2_with (first | (refine wpList_load_row rfl 25 _ rfl (w.heap.size + 1) rfl 25 (cellsB m) (0, 0) _ HS2.out Try.underlying25 rfl (by rw [size_a16, cellsB_size, hml]) ?_) | (refine wpList_store_row rfl 25 _ _ rfl w.heap.size (cellsB m) rfl rfl 25 _ HRR.out (by rw [size_a16, cellsB_size, hml]) (by rw [cellsB_size, cellsB_size, hml]; rfl) (cellsB_one _) ?_))
      refine bodyPost_ret (v := .agg (cellsB m)) (results_cell_row rfl _ _ w.heap.size 25 (cellsB m) (0, 0) _ rfl (setRow_heap _ _ _ _ _ _ HRR.out) Try.underlying25 rfl (by rw [size_a16, cellsB_size, hml])) rfl ⟨rfl, ?_⟩
      exact grownBy_old HGG.out (grownBy_setRow _ _ _) (by omega)

set_option maxRecDepth 100000 in
set_option maxHeartbeats 1000000 in
theorem counted17_n (w : World) : Calls Try.prog 44 #[.int .u8 17] w fun e w' => e = .returned (aggB (cnt 17)) ∧ w.grownBy w' none := by
  have hml := cnt_len 17
  have hme : cnt 17 = iterU (cnF 17) z16 16 := rfl
  obtain ⟨m, hm⟩ : ∃ m, m = cnt 17 := ⟨_, rfl⟩
  rw [← hm] at hml hme ⊢
  have HME := Lib.hid hme
  clear hme hm
  unfold aggB
  obtain ⟨hr, hs, hg⟩ := two w z16 z16 25 25
  have HR := Lib.hid hr
  have HS := Lib.hid hs
  have HG := Lib.hid hg
  clear hr hg hs
  go_enter Try.func44, Try.ntmps44
  go_wp2_with fail
  go_loopw [4] (fun vi wr => ∃ k : Nat, k ≤ 16 ∧ vi = .int .i64 k ∧ Blk wr w.heap.size 25 z16 ∧ Blk wr (w.heap.size + 1) 25 (iterU (cnF 17) z16 k) ∧ w.grownBy wr none) (fun vi _ => 16 - (intOf vi).toNat)
  case atStart => exact ⟨0, by omega, rfl, HR.out, HS.out, HG.out⟩
  case round =>
    obtain ⟨k, hk, rfl, hr, hs, hg⟩ := hrel
    have HRR := Lib.hid hr
    have HGG := Lib.hid hg
    have hlen : (iterU (cnF 17) z16 k).length = 16 := iterU_len (cnF_len 17) k
    have hcell := hs.cell 16 hlen
    have hfree := hs.free
    have HSS := Lib.hid hs
    clear hr hg hs hlen
    by_cases hlt : k < 16
    · have hcj := hcell k hlt
      have hset := HSS.out.set k (UInt8.ofNat (k * 17))
      have he : iterU (cnF 17) z16 (k + 1) = (iterU (cnF 17) z16 k).set k (UInt8.ofNat (k * 17)) := rfl
      rw [← he] at hset
      have hx : ((UInt8.ofNat (k * 17)).toNat : Int) = ((k * 17 : Nat) : Int) := by rw [ofNat_u8 (by omega)]
      obtain ⟨v, hv⟩ : ∃ v : Value, v = .int .u8 ((UInt8.ofNat (k * 17)).toNat : Int) := ⟨_, rfl⟩
      rw [← hv] at hset
      have HV := Lib.hid (show v = .int .u8 ((k * 17 : Nat) : Int) from by rw [hv, hx])
      obtain ⟨u0, hu0⟩ : ∃ u0, _ = some u0 := ⟨_, hcj⟩
      have HSET := Lib.hid hset
      clear hset HSS hcell hcj he hx hv
      go_wp2_with fail
      go_roundw
      case rel =>
        have hs2 := HSET.out
        rw [HV.out] at hs2
        exact ⟨k + 1, by omega, by go_num, HRR.out.other (by omega), by first | exact hs2 | simpa using hs2, grownBy_old HGG.out (grownBy_setCell _ _ _ _) (by omega)⟩
      case measure => simp [intOf]; omega
    · obtain rfl : k = 16 := by omega
      clear hcell hfree
      have hs := HSS.out
      rw [← HME.out] at hs
      have HS2 := Lib.hid hs
      clear hs HSS
      go_wp2_with (first | (refine wpList_load_row rfl 25 _ rfl (w.heap.size + 1) rfl 25 (cellsB m) (0, 0) _ HS2.out Try.underlying25 rfl (by rw [size_a16, cellsB_size, hml]) ?_) | (refine wpList_store_row rfl 25 _ _ rfl w.heap.size (cellsB m) rfl rfl 25 _ HRR.out (by rw [size_a16, cellsB_size, hml]) (by rw [cellsB_size, cellsB_size, hml]; rfl) (cellsB_one _) ?_))
      refine bodyPost_ret (v := .agg (cellsB m)) (results_cell_row rfl _ _ w.heap.size 25 (cellsB m) (0, 0) _ rfl (setRow_heap _ _ _ _ _ _ HRR.out) Try.underlying25 rfl (by rw [size_a16, cellsB_size, hml])) rfl ⟨rfl, ?_⟩
      exact grownBy_old HGG.out (grownBy_setRow _ _ _) (by omega)

def exB : List UInt8 := [105, 196, 224, 216, 106, 123, 4, 48, 216, 205, 183, 128, 112, 180, 197, 90]
theorem standard : encS (keysL (cnt 1)) (cnt 17) 10 = exB := by decide +kernel

set_option maxRecDepth 100000 in
set_option maxHeartbeats 2000000 in
theorem awake_n (w : World) : Calls Try.prog 40 #[] w fun e w' => e = .returned (.bool true) ∧ w.grownBy w' none := by
  have hm1 : Try.prog.eqGuardType Try.prog.depth 27 = false := by kernel_rfl
  have hq : ∀ w1, (binOp .eql 27 (.agg (cellsB exB)) (.agg #[.int .u8 105, .int .u8 196, .int .u8 224, .int .u8 216, .int .u8 106, .int .u8 123, .int .u8 4, .int .u8 48, .int .u8 216, .int .u8 205, .int .u8 183, .int .u8 128, .int .u8 112, .int .u8 180, .int .u8 197, .int .u8 90])).run Try.prog w1 = .ok (.bool true) w1 := fun w1 => same_block exB rfl w1
  have c1 := fun w1 : World => counted1_n w1
  have c17 := fun w1 : World => counted17_n w1
  have l1 := cnt_len 1
  have l17 := cnt_len 17
  have hnew := fun w1 : World => new_n (cnt 1) l1 w1
  have hlk := keysL_len (cnt 1)
  have henc := fun (gc : Nat) (w1 : World) (h : CipAt w1 gc (keysL (cnt 1))) => encrypt_n gc _ (cnt 17) hlk l17 w1 h
  rw [standard] at henc
  obtain ⟨k1, hk1⟩ : ∃ k, k = cnt 1 := ⟨_, rfl⟩
  obtain ⟨b1, hb1⟩ : ∃ b, b = cnt 17 := ⟨_, rfl⟩
  obtain ⟨kk, hkk⟩ : ∃ k, k = keysL (cnt 1) := ⟨_, rfl⟩
  obtain ⟨E, hE⟩ : ∃ E, E = exB := ⟨_, rfl⟩
  have hEl : E.length = 16 := by rw [hE]; rfl
  rw [← hkk] at hnew henc
  rw [← hk1] at c1 hnew
  rw [← hb1] at c17 henc
  rw [← hE] at henc hq
  have C1 := Lib.hid c1
  have C17 := Lib.hid c17
  have HN := Lib.hid hnew
  have HE := Lib.hid henc
  clear c1 c17 hnew henc hk1 hb1 hkk hE l1 l17 hlk
  go_enter Try.func40, Try.ntmps40
  go_wp2_with fail
  refine (C1.out _).mono ?_
  rintro e w1 ⟨rfl, hg1⟩
  have HG1 := Lib.hid hg1
  clear hg1
  go_wp2_with fail
  refine (HN.out _).mono ?_
  rintro e w2 ⟨gc, rfl, hgc, hcip, hg2⟩
  have HC2 := Lib.hid hcip
  have HG2 := Lib.hid (grownBy_trans HG1.out hg2)
  clear hcip hg2 HG1
  go_wp2_with fail
  refine (C17.out _).mono ?_
  rintro e w3 ⟨rfl, hg3⟩
  have HC3 := Lib.hid (HC2.out.grown hg3)
  have HG3 := Lib.hid (grownBy_trans HG2.out hg3)
  clear hg3 HC2 HG2
  go_wp2_with fail
  refine (HE.out gc _ HC3.out).mono ?_
  rintro e w4 ⟨rfl, hg4⟩
  have HG4 := Lib.hid (grownBy_trans HG3.out hg4)
  have hn := Blk.new w4 27 z16
  have HNW := Lib.hid hn
  have HRW := Lib.hid (hn.row E)
  have HGF := Lib.hid (grownBy_old (grownBy_trans HG4.out (World.grownBy_alloc w4 (.cells (cellsB z16) 27) none)) (grownBy_setRow _ w4.heap.size (cellsB E)) (by have := HG4.out.size; omega))
  clear hg4 hn HC3 HG3
  go_wp2_with (first | (refine wpList_store_row rfl 27 _ _ rfl w4.heap.size (cellsB E) rfl rfl 27 _ HNW.out (by rw [size_block, cellsB_size, hEl]) (by rw [cellsB_size, cellsB_size, hEl]; rfl) (cellsB_one _) ?_) | (refine wpList_load_rowW (by rfl) 27 _ rfl w4.heap.size rfl 27 (cellsB E) (0, 0) _ HRW.out Try.underlying27 rfl (by rw [size_block, cellsB_size, hEl]) ?_))
  go_ret
  exact ⟨rfl, HGF.out⟩

end Go.Proofs.Ytlnmglddialhjaa
