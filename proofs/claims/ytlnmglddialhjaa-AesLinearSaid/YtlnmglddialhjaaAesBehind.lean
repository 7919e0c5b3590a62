/- aes: the rounds of a cipher. -/
import Derived.Test.YtlnmglddialhjaaAesCip
import Derived.Test.YtlnmglddialhjaaAesQuick
import Derived.Test.YtlnmglddialhjaaAesEach
namespace Go.Proofs.Ytlnmglddialhjaa
open Go.RowKit

/-- the box with the pointer to a cipher, and the cipher -/
def Tb (w : World) (gb gc : Nat) (kk : List UInt8) : Prop := w.cell? ⟨gb, 0, none⟩ = some (.pointer (some ⟨gc, 0, none⟩)) ∧ CipAt w gc kk
section
variable {w w' : World} {gb gc : Nat} {kk : List UInt8}
theorem Tb.lt (h : Tb w gb gc kk) : gb < w.heap.size ∧ gc < w.heap.size := ⟨World.block_lt_of_cell? w ⟨gb, 0, none⟩ h.1, h.2.lt⟩
theorem Tb.grown (h : Tb w gb gc kk) (hg : w.grownBy w' none) : Tb w' gb gc kk := ⟨(World.cell?_of_block (hg.block _ h.lt.1 (by simp))).trans h.1, h.2.grown hg⟩
theorem Tb.far {g : Nat} (h : Tb w gb gc kk) (hg : w.grownBy w' (some g)) (h1 : gb ≠ g) (h2 : gc ≠ g) : Tb w' gb gc kk := ⟨(World.cell?_of_block (hg.block _ h.lt.1 (by simpa using h1))).trans h.1, h.2.far hg h2⟩
theorem Tb.other {g j : Nat} {v : Value} (h : Tb w gb gc kk) (h1 : gb ≠ g) (h2 : gc ≠ g) : Tb (w.setCell ⟨g, j, none⟩ v) gb gc kk := h.far (grownBy_setCell _ _ _ _) h1 h2
theorem Tb.dr (h : Tb w gb gc kk) : Tb w.drew gb gc kk := h.grown (grownBy_d1 (World.grownBy.refl _ _))
end

set_option maxRecDepth 100000 in
set_option maxHeartbeats 1000000 in
theorem tabc_i (z : Int) (x : UInt8) (gb gc : Nat) (kk : List UInt8) (w : World) (hz : (x.toNat : Int) = z) (ht : Tb w gb gc kk) : Calls Try.prog 63 #[.int .u8 z, .pointer (some ⟨gb, 0, none⟩)] w fun e w' => e = .returned (.int .u8 ((asub x).toNat : Nat)) ∧ w = w' := by
  subst hz
  have hx := x.toNat_lt
  have h1 := ht.1
  have hc := tab_cell ht.2.2.2 x
  have hx' : (x.toNat : Int) < 256 := by omega
  clear ht
  go_enter Try.func63, Try.ntmps63
  go_wp2
  go_ret
  exact ⟨rfl, rfl⟩

set_option maxRecDepth 100000 in
set_option maxHeartbeats 1000000 in
theorem eachC_n (l : List UInt8) (hl : l.length = 16) (w : World) (gb gc : Nat) (kk : List UInt8) (ht : Tb w gb gc kk) : Calls Try.prog 55 #[aggB l, .func (.func 63) #[] #[.pointer (some ⟨gb, 0, none⟩)]] w fun e w' => e = .returned (aggB (l.map asub)) ∧ w.grownBy w' none := by
  unfold aggB
  obtain ⟨hb, hr, hg⟩ := two w l z16 33 33
  obtain ⟨htl, htl2⟩ := ht.lt
  have ht := ht.grown hg
  have HR := Lib.hid hr
  have HG := Lib.hid hg
  have HB := Lib.hid hb
  have HT := Lib.hid ht
  clear hr hg hb ht
  go_enter Try.func55, Try.ntmps55
  go_wp2_with fail
  go_loopw [7] (fun vi wr => ∃ k : Nat, k ≤ 4 ∧ vi = .int .i64 k ∧ Blk wr (w.heap.size + 1) 33 z16 ∧ Blk wr w.heap.size 33 (iter2 (eaF asub) l k) ∧ w.grownBy wr none ∧ Tb wr gb gc kk) (fun vi _ => 4 - (intOf vi).toNat)
  case atStart => exact ⟨0, by omega, rfl, HR.out, HB.out, HG.out, HT.out⟩
  case round =>
    obtain ⟨r, hk, rfl, hr, hs, hg, ht⟩ := hrel
    have HRR := Lib.hid hr
    have HGG := Lib.hid hg
    have HSS := Lib.hid hs
    have HTT := Lib.hid ht
    clear hr hg hs ht
    by_cases hlt : r < 4
    · have hr4 : decide ((r : Int) < 4) = true := by simp; omega
      go_wp2_with fail
      clear hr4
      go_loopw [10] (fun vi wr => ∃ k : Nat, k ≤ 4 ∧ vi = .int .i64 k ∧ Blk wr (w.heap.size + 1) 33 z16 ∧ Blk wr w.heap.size 33 (iterU (eaF asub r) (iter2 (eaF asub) l r) k) ∧ w.grownBy wr none ∧ Tb wr gb gc kk) (fun vi _ => 4 - (intOf vi).toNat)
      case atStart => exact ⟨0, by omega, rfl, HRR.out, HSS.out, HGG.out, HTT.out⟩
      case round =>
        clear HRR HGG HSS HTT
        obtain ⟨c, hk, rfl, hr, hs, hg, ht⟩ := hrel
        have HRR := Lib.hid hr
        have HGG := Lib.hid hg
        have HTT := Lib.hid ht
        have hlen : (iterU (eaF asub r) (iter2 (eaF asub) l r) c).length = 16 := (iterU_len (eaF_len asub r) c).trans ((iter2_len (eaF_len asub) r).trans hl)
        have hcell := hs.cell 16 hlen
        have hfree := hs.free
        have HSS := Lib.hid hs
        clear hr hg hs hlen ht
        by_cases hlc : c < 4
        · have hj : r * 4 + c < 16 := by omega
          have hcj := hcell _ hj
          have hset := HSS.out.set (r * 4 + c) (asub ((iterU (eaF asub r) (iter2 (eaF asub) l r) c).getD (r * 4 + c) 0))
          have he : iterU (eaF asub r) (iter2 (eaF asub) l r) (c + 1) = (iterU (eaF asub r) (iter2 (eaF asub) l r) c).set (r * 4 + c) (asub ((iterU (eaF asub r) (iter2 (eaF asub) l r) c).getD (r * 4 + c) 0)) := rfl
          obtain ⟨x, hx⟩ : ∃ x, x = (iterU (eaF asub r) (iter2 (eaF asub) l r) c).getD (r * 4 + c) 0 := ⟨_, rfl⟩
          rw [← hx] at hset hcj he
          rw [← he] at hset
          have HSET := Lib.hid hset
          clear hset HSS hcell hj hx he
          go_wp2_with fail
          go_region_with (go_at_call 63; refine (tabc_i _ x gb gc kk _ rfl HTT.out.dr).mono ?_; rintro e w' ⟨rfl, rfl⟩)
          all_goals trace "WAY"
          all_goals
            go_wp2
            go_roundw
            case rel => exact ⟨c + 1, by omega, by go_num, (HRR.out.other (by omega)).dr, HSET.out.dr, grownBy_d1 (grownBy_old HGG.out (grownBy_setCell _ _ _ _) (by omega)), (HTT.out.other (by omega) (by omega)).dr⟩
            case measure => simp [intOf]; omega
        · obtain rfl : c = 4 := by omega
          clear hcell hfree
          go_wp2_with fail
          go_roundw
          case rel => exact ⟨r + 1, by omega, by go_num, HRR.out, HSS.out, HGG.out, HTT.out⟩
          case measure => simp [intOf]; omega
    · obtain rfl : r = 4 := by omega
      have hs := HSS.out
      rw [ea_end asub hl] at hs
      have HS2 := Lib.hid hs
      clear hs HSS
      go_wp2_with (first | (refine wpList_load_row rfl 33 _ rfl w.heap.size rfl 33 (cellsB (l.map asub)) (0, 0) _ HS2.out Try.underlying33 rfl (by rw [size_state, cellsB_size, map_len asub hl]) ?_) | (refine wpList_store_row rfl 33 _ _ rfl (w.heap.size + 1) (cellsB (l.map asub)) rfl rfl 33 _ HRR.out (by rw [size_state, cellsB_size, map_len asub hl]) (by rw [cellsB_size, cellsB_size, map_len asub hl]; rfl) (cellsB_one _) ?_))
      refine bodyPost_ret (v := .agg (cellsB (l.map asub))) (results_cell_row rfl _ _ (w.heap.size + 1) 33 (cellsB (l.map asub)) (0, 0) _ rfl (setRow_heap _ _ _ _ _ _ HRR.out) Try.underlying33 rfl (by rw [size_state, cellsB_size, map_len asub hl])) rfl ⟨rfl, ?_⟩
      exact grownBy_old HGG.out (grownBy_setRow _ _ _) (by omega)


/-- the n-th key -/
def keyAt (kk : List UInt8) (n : Nat) : List UInt8 := (kk.drop (n * 16)).take 16
theorem keyAt_len {kk : List UInt8} (h : kk.length = 176) {n : Nat} (hn : n ≤ 10) : (keyAt kk n).length = 16 := by simp [keyAt, h]; omega
theorem CipAt.key {w : World} {gc : Nat} {kk : List UInt8} (h : CipAt w gc kk) (n : Nat) : w.rangeAt gc (1 + n * 16) ((keyAt kk n).map bval) := fun j v hj => by
  have h2 := h.2.1 (n * 16 + j) v (by
    have hj' := hj
    unfold keyAt at hj'
    rw [List.map_take, List.map_drop, List.getElem?_take] at hj'
    split at hj'
    · rw [List.getElem?_drop] at hj'; exact hj'
    · cases hj')
  rw [show 1 + n * 16 + j = 1 + (n * 16 + j) by omega]
  exact h2
/-- so many rounds -/
def encS (kk b : List UInt8) : Nat → List UInt8
  | 0 => xorL b (keyAt kk 0)
  | n + 1 => xorL (trL (if n + 1 < 10 then mixL [2, 3, 1, 1] (shL ((trL (encS kk b n)).map asub)) else shL ((trL (encS kk b n)).map asub))) (keyAt kk (n + 1))
theorem encS_len {kk b : List UInt8} (hk : kk.length = 176) (hb : b.length = 16) : ∀ n, n ≤ 10 → (encS kk b n).length = 16
  | 0, _ => xorL_len hb (keyAt_len hk (by omega))
  | n + 1, h => by
    have ih := encS_len hk hb n (by omega)
    have h1 := shL_len (map_len asub (trL_len ih))
    unfold encS
    refine xorL_len (trL_len ?_) (keyAt_len hk h)
    split
    · exact mixL_len rfl h1
    · exact h1

/-- what stands while a cipher works: its box, its cells, the block in hand, the answer's room -/
def BS (w0 : World) (gb gc g1 g2 : Nat) (kk x : List UInt8) (w : World) : Prop := w0.grownBy w none ∧ Blk w g1 27 x ∧ Blk w g2 27 z16 ∧ Tb w gb gc kk
section
variable {w0 w w' : World} {gb gc g1 g2 : Nat} {kk x : List UInt8}
theorem BS.grown (h : BS w0 gb gc g1 g2 kk x w) (hg : w.grownBy w' none) : BS w0 gb gc g1 g2 kk x w' := ⟨grownBy_trans h.1 hg, h.2.1.grown hg (by simp), h.2.2.1.grown hg (by simp), h.2.2.2.grown hg⟩
theorem BS.row (h : BS w0 gb gc g1 g2 kk x w) (y : List UInt8) (hw : w0.heap.size ≤ g1) (h2 : g2 ≠ g1) (hb : gb ≠ g1) (hc : gc ≠ g1) : BS w0 gb gc g1 g2 kk y (w.setRow g1 (cellsB y)) :=
  ⟨grownBy_old h.1 (grownBy_setRow _ _ _) hw, h.2.1.row y, h.2.2.1.rowNe _ h2, h.2.2.2.far (grownBy_setRow _ _ _) hb hc⟩
theorem BS.new (h : BS w0 gb gc g1 g2 kk x w) (g : Nat) (cs : Array Value) (hg : w0.heap.size ≤ g) (h1 : g1 ≠ g) (h2 : g2 ≠ g) (hb : gb ≠ g) (hc : gc ≠ g) : BS w0 gb gc g1 g2 kk x (w.setRow g cs) :=
  ⟨grownBy_old h.1 (grownBy_setRow _ _ _) hg, h.2.1.rowNe _ h1, h.2.2.1.rowNe _ h2, h.2.2.2.far (grownBy_setRow _ _ _) hb hc⟩
end
theorem YS.rowM {ops : Array Oper} {S : World → Prop} {o : Oper} {a : Act} (hw : Region.wanted o (yielded ops a.tmps) = true) (ty : TypeId) (x : Operand) (ho : o.op = .load ty x)
    (b f : Nat) (hx : a.eval x = .pointer (some ⟨b, f, none⟩)) (l : List UInt8) (d : TypeDesc) (hS : ∀ w, S w → w.rangeAt b f (l.map bval))
    (hu : Try.prog.underlying ty = some d) (hd : d.isRow = true) (hi : (Try.prog.info? ty).map (·.size) = some l.length) : YS Try.prog ops S o (.agg (cellsB l)) a := by
  rcases yieldsIf_load_mid (P := Try.prog) (ops := ops) hw ty x ho b f hx (l.map bval) d hS hu hd (by rw [hi, List.length_map]) with ⟨h1, h2⟩ | ⟨h1, h2⟩
  · exact YS.val h1 h2
  · rw [hw] at h1; cases h1
theorem threeO (w : World) (o1 : Obj) (c2 c3 : List UInt8) (t2 t3 : TypeId) :
    (((w.alloc o1).alloc (.cells (cellsB c2) t2)).alloc (.cells (cellsB c3) t3)).heap[w.heap.size]? = some o1 ∧ Blk (((w.alloc o1).alloc (.cells (cellsB c2) t2)).alloc (.cells (cellsB c3) t3)) (w.heap.size + 1) t2 c2 ∧
    Blk (((w.alloc o1).alloc (.cells (cellsB c2) t2)).alloc (.cells (cellsB c3) t3)) (w.heap.size + 1 + 1) t3 c3 ∧ w.grownBy (((w.alloc o1).alloc (.cells (cellsB c2) t2)).alloc (.cells (cellsB c3) t3)) none := by
  have h2 := Blk.new (w.alloc o1) t2 c2
  have h3 := Blk.new ((w.alloc o1).alloc (.cells (cellsB c2) t2)) t3 c3
  have g1 := World.grownBy_alloc w o1 none
  have g2 := World.grownBy_alloc (w.alloc o1) (.cells (cellsB c2) t2) none
  have g3 := World.grownBy_alloc ((w.alloc o1).alloc (.cells (cellsB c2) t2)) (.cells (cellsB c3) t3) none
  rw [World.size_alloc] at h2 h3
  rw [World.size_alloc] at h3
  refine ⟨?_, h2.grown g3 (by simp), h3, grownBy_trans (grownBy_trans g1 g2) g3⟩
  rw [Below.heap_alloc _ _ _ (by simp; omega), Below.heap_alloc _ _ _ (by simp)]
  exact heap_alloc_new w o1

set_option maxRecDepth 100000 in
set_option maxHeartbeats 4000000 in
theorem behind_n (gc R : Nat) (kk b : List UInt8) (hk : kk.length = 176) (hb : b.length = 16) (hR : R ≤ 10) (w : World) (hc : CipAt w gc kk) :
    Calls Try.prog 60 #[.pointer (some ⟨gc, 0, none⟩), aggB b, .int .i64 R] w fun e w' => e = .returned (aggB (encS kk b R)) ∧ w.grownBy w' none := by
  have hi2 : (Try.prog.info? 27).map (·.size) = some b.length := by rw [size_block, hb]
  have hlc := hc.lt
  obtain ⟨h1, h2, h3, h4⟩ := threeO w (.cells #[.pointer (some ⟨gc, 0, none⟩)] 50) b z16 27 27
  have HS0 := Lib.hid (show BS w w.heap.size gc (w.heap.size + 1) (w.heap.size + 1 + 1) kk b _ from ⟨h4, h2, h3, by simp [World.cell?, h1], hc.grown h4⟩)
  clear h1 h2 h3 h4 hc
  unfold aggB
  go_enter Try.func60, Try.ntmps60
  go_upto_region 1 with fail
  refine wp_regionT (BS w w.heap.size gc (w.heap.size + 1) (w.heap.size + 1 + 1) kk b) 7 (by kernel_rfl) (HS0.out.grown (grownBy_d1 (World.grownBy.refl _ _))) ?_
  have hk0 := keyAt_len hk (n := 0) (by omega)
  obtain ⟨k0, hk0e⟩ : ∃ q, q = keyAt kk 0 := ⟨_, rfl⟩
  rw [← hk0e] at hk0
  have hi3 : (Try.prog.info? 27).map (·.size) = some k0.length := by rw [size_block, hk0]
  have HW0 := Lib.hid (fun w1 : World => with_n b k0 hb hk0 w1)
  refine wpT_take 0 (oi := { dst := some 9, op := Op.load 27 (Operand.tmp 4), type := 27, pos := "aes.go:188", after := #[], guard := none }) (oL := { dst := none, op := Op.store 27 (Operand.tmp 4) (Operand.tmp 15), type := 0, pos := "aes.go:188", after := #[{ on := 6, ground := Ground.data }, { on := 6, ground := Ground.chain }, { on := 0, ground := Ground.phase }, { on := 1, ground := Ground.phase }, { on := 2, ground := Ground.phase }, { on := 3, ground := Ground.phase }, { on := 4, ground := Ground.phase }, { on := 5, ground := Ground.phase }, { on := 6, ground := Ground.phase }], guard := none }) rfl rfl rfl (by kernel_rfl) (by kernel_rfl) (by kernel_rfl) (by kernel_rfl) (by kernel_rfl) (fun _ _ _ h => h) (YS.rowM (by rfl) _ _ rfl _ _ rfl b _ (fun _ h => h.2.1.range) Try.underlying27 rfl hi2) ?_
  simp only [Act.put, List.setIfInBounds_toArray, List.set_cons_zero, List.set_cons_succ]
  refine wpT_take 1 (v := .pointer (some ⟨gc, 0, none⟩)) (oi := { dst := some 10, op := Op.load 50 (Operand.tmp 3), type := 50, pos := "aes.go:188", after := #[], guard := none }) (oL := { dst := none, op := Op.store 27 (Operand.tmp 4) (Operand.tmp 15), type := 0, pos := "aes.go:188", after := #[{ on := 6, ground := Ground.data }, { on := 6, ground := Ground.chain }, { on := 0, ground := Ground.phase }, { on := 1, ground := Ground.phase }, { on := 2, ground := Ground.phase }, { on := 3, ground := Ground.phase }, { on := 4, ground := Ground.phase }, { on := 5, ground := Ground.phase }, { on := 6, ground := Ground.phase }], guard := none }) rfl rfl rfl (by kernel_rfl) (by kernel_rfl) (by kernel_rfl) (by kernel_rfl) (by kernel_rfl) (fun _ _ _ h => h) (YS.val (by rfl) (fun w hS => by have h := hS.2.2.2.1; go_simp)) ?_
  simp only [Act.put, List.setIfInBounds_toArray, List.set_cons_zero, List.set_cons_succ]
  refine wpT_take 2 (v := .pointer (some ⟨gc, 0, none⟩)) (oi := { dst := some 11, op := Op.nilCheck (Operand.tmp 10), type := 0, pos := "aes.go:188", after := #[{ on := 1, ground := Ground.data }], guard := none }) (oL := { dst := none, op := Op.store 27 (Operand.tmp 4) (Operand.tmp 15), type := 0, pos := "aes.go:188", after := #[{ on := 6, ground := Ground.data }, { on := 6, ground := Ground.chain }, { on := 0, ground := Ground.phase }, { on := 1, ground := Ground.phase }, { on := 2, ground := Ground.phase }, { on := 3, ground := Ground.phase }, { on := 4, ground := Ground.phase }, { on := 5, ground := Ground.phase }, { on := 6, ground := Ground.phase }], guard := none }) rfl rfl rfl (by kernel_rfl) (by kernel_rfl) (by kernel_rfl) (by kernel_rfl) (by kernel_rfl) (fun _ _ _ h => h) (YS.val (by rfl) (fun w _ => by go_simp)) ?_
  simp only [Act.put, List.setIfInBounds_toArray, List.set_cons_zero, List.set_cons_succ]
  refine wpT_take 3 (v := .pointer (some ⟨gc, 1, none⟩)) (oi := { dst := some 12, op := Op.fieldAddr 59 (Operand.tmp 11) 1, type := 0, pos := "aes.go:188", after := #[{ on := 2, ground := Ground.data }], guard := none }) (oL := { dst := none, op := Op.store 27 (Operand.tmp 4) (Operand.tmp 15), type := 0, pos := "aes.go:188", after := #[{ on := 6, ground := Ground.data }, { on := 6, ground := Ground.chain }, { on := 0, ground := Ground.phase }, { on := 1, ground := Ground.phase }, { on := 2, ground := Ground.phase }, { on := 3, ground := Ground.phase }, { on := 4, ground := Ground.phase }, { on := 5, ground := Ground.phase }, { on := 6, ground := Ground.phase }], guard := none }) rfl rfl rfl (by kernel_rfl) (by kernel_rfl) (by kernel_rfl) (by kernel_rfl) (by kernel_rfl) (fun _ _ _ h => h) (YS.val (by rfl) (fun w _ => by go_simp)) ?_
  simp only [Act.put, List.setIfInBounds_toArray, List.set_cons_zero, List.set_cons_succ]
  refine wpT_take 4 (v := .pointer (some ⟨gc, 1, none⟩)) (oi := { dst := some 13, op := Op.indexAddr 28 (Operand.tmp 12) (Operand.const (Value.int IntKind.i64 0)), type := 0, pos := "aes.go:188", after := #[{ on := 3, ground := Ground.data }], guard := none }) (oL := { dst := none, op := Op.store 27 (Operand.tmp 4) (Operand.tmp 15), type := 0, pos := "aes.go:188", after := #[{ on := 6, ground := Ground.data }, { on := 6, ground := Ground.chain }, { on := 0, ground := Ground.phase }, { on := 1, ground := Ground.phase }, { on := 2, ground := Ground.phase }, { on := 3, ground := Ground.phase }, { on := 4, ground := Ground.phase }, { on := 5, ground := Ground.phase }, { on := 6, ground := Ground.phase }], guard := none }) rfl rfl rfl (by kernel_rfl) (by kernel_rfl) (by kernel_rfl) (by kernel_rfl) (by kernel_rfl) (fun _ _ _ h => h) (YS.val (by rfl) (fun w _ => by go_simp)) ?_
  simp only [Act.put, List.setIfInBounds_toArray, List.set_cons_zero, List.set_cons_succ]
  refine wpT_take 5 (oi := { dst := some 14, op := Op.load 27 (Operand.tmp 13), type := 27, pos := "aes.go:188", after := #[{ on := 4, ground := Ground.data }], guard := none }) (oL := { dst := none, op := Op.store 27 (Operand.tmp 4) (Operand.tmp 15), type := 0, pos := "aes.go:188", after := #[{ on := 6, ground := Ground.data }, { on := 6, ground := Ground.chain }, { on := 0, ground := Ground.phase }, { on := 1, ground := Ground.phase }, { on := 2, ground := Ground.phase }, { on := 3, ground := Ground.phase }, { on := 4, ground := Ground.phase }, { on := 5, ground := Ground.phase }, { on := 6, ground := Ground.phase }], guard := none }) rfl rfl rfl (by kernel_rfl) (by kernel_rfl) (by kernel_rfl) (by kernel_rfl) (by kernel_rfl) (fun _ _ _ h => h) (YS.rowM (by rfl) _ _ rfl gc 1 rfl k0 _ (fun _ h => by rw [hk0e]; exact h.2.2.2.2.key 0) Try.underlying27 rfl hi3) ?_
  simp only [Act.put, List.setIfInBounds_toArray, List.set_cons_zero, List.set_cons_succ]
  refine wpT_take 6 (v := .agg (cellsB (xorL b k0))) (oi := { dst := some 15, op := Op.call { callee := Callee.value (Operand.func 62), args := #[Operand.tmp 9, Operand.tmp 14], argTypes := #[27, 27] }, type := 27, pos := "aes.go:188", after := #[{ on := 0, ground := Ground.data }, { on := 5, ground := Ground.data }], guard := none }) (oL := { dst := none, op := Op.store 27 (Operand.tmp 4) (Operand.tmp 15), type := 0, pos := "aes.go:188", after := #[{ on := 6, ground := Ground.data }, { on := 6, ground := Ground.chain }, { on := 0, ground := Ground.phase }, { on := 1, ground := Ground.phase }, { on := 2, ground := Ground.phase }, { on := 3, ground := Ground.phase }, { on := 4, ground := Ground.phase }, { on := 5, ground := Ground.phase }, { on := 6, ground := Ground.phase }], guard := none }) rfl rfl rfl (by kernel_rfl) (by kernel_rfl) (by kernel_rfl) (by kernel_rfl) (by kernel_rfl) (fun _ _ _ h => h) (YS.grow (f := 62) (args := #[.agg (cellsB b), .agg (cellsB k0)]) (by rfl) (fun w => by go_simp) (fun _ _ h hg => h.grown hg) HW0.out) ?_
  simp only [Act.put, List.setIfInBounds_toArray, List.set_cons_zero, List.set_cons_succ]
  refine wpT_last rfl (by kernel_rfl) (by kernel_rfl) (by rfl) (fun w2 hS K hK => ?_)
  have hx0 := xorL_len hb hk0
  refine wp_store_row 27 _ _ rfl (w.heap.size + 1) (cellsB (xorL b k0)) rfl rfl 27 _ hS.2.1 (by rw [size_block, cellsB_size, hx0]) (by rw [cellsB_size, cellsB_size, hb, hx0]) (cellsB_one _) (hK _ _ ?_)
  have hS1 := hS.row (xorL b k0) (by omega) (by omega) (by omega) (by omega)
  have e0 : encS kk b 0 = xorL b k0 := by rw [hk0e]; rfl
  rw [← e0] at hS1 ⊢
  obtain ⟨W, hW⟩ : ∃ W, W = w2.setRow (w.heap.size + 1) (cellsB (encS kk b 0)) := ⟨_, rfl⟩
  rw [← hW] at hS1 ⊢
  obtain ⟨E, hE⟩ : ∃ E : Nat → List UInt8, E = encS kk b := ⟨_, rfl⟩
  rw [← hE] at hS1 e0 ⊢
  have hEl : ∀ n, n ≤ 10 → (E n).length = 16 := fun n hn => by rw [hE]; exact encS_len hk hb n hn
  have hEs : ∀ n, E (n + 1) = xorL (trL (if n + 1 < 10 then mixL [2, 3, 1, 1] (shL ((trL (E n)).map asub)) else shL ((trL (E n)).map asub))) (keyAt kk (n + 1)) := fun n => by rw [hE]; rfl
  have HS1 := Lib.hid hS1
  have HES := Lib.hid hEs
  have HEL := Lib.hid hEl
  rw [e0]
  have HE := Lib.hid hE
  clear e0 hS1 hW hS hE hEs hEl hx0
  go_wp2_with fail
  go_loopw [7] (fun vi wr => ∃ n : Nat, 1 ≤ n ∧ n ≤ R + 1 ∧ vi = .int .i64 n ∧ BS w w.heap.size gc (w.heap.size + 1) (w.heap.size + 1 + 1) kk (E (n - 1)) wr) (fun vi _ => 12 - (intOf vi).toNat)
  case atStart => exact ⟨1, by omega, by omega, rfl, HS1.out⟩
  case round =>
    clear HS1 HS0
    obtain ⟨n, hn1, hn, rfl, hS⟩ := hrel
    by_cases hlt : n ≤ R
    · have hES := HES.out (n - 1)
      rw [show n - 1 + 1 = n by omega] at hES
      have hxl := HEL.out (n - 1) (by omega)
      obtain ⟨x, hx⟩ : ∃ x, x = E (n - 1) := ⟨_, rfl⟩
      rw [← hx] at hES hxl hS
      obtain ⟨s1, hs1⟩ : ∃ s, s = shL ((trL x).map asub) := ⟨_, rfl⟩
      have hs1l : s1.length = 16 := by rw [hs1]; exact shL_len (map_len asub (trL_len hxl))
      rw [← hs1] at hES
      obtain ⟨kn, hkn⟩ : ∃ q, q = keyAt kk n := ⟨_, rfl⟩
      have hknl : kn.length = 16 := by rw [hkn]; exact keyAt_len hk (by omega)
      rw [← hkn] at hES
      have HESN := Lib.hid hES
      have HSX := Lib.hid hS
      have HKN := Lib.hid hkn
      have HSH := Lib.hid (fun w1 : World => by have h := shift_n ((trL x).map asub) (map_len asub (trL_len hxl)) w1; rw [← hs1] at h; exact h)
      have hmf : ∀ (fn : Fn) (first cap : Array Value) (w : World), (Instr.makeFunc fn first cap).run Try.prog w = .ok (.func fn first cap) w := fun _ _ _ _ => rfl
      have n11 : (n : Int) < 11 := by omega
      have hltc := hS.2.2.2.lt
      clear hES hS hx hs1 hkn
      go_wp2_with (refine wpList_load_row rfl 27 _ rfl (w.heap.size + 1) rfl 27 (cellsB x) (0, 0) _ HSX.out.2.1 Try.underlying27 rfl (by rw [size_block, cellsB_size, hxl]) ?_)
      refine (spread_n x hxl _).mono ?_
      rintro e w1 ⟨rfl, hg1⟩
      have HSY := Lib.hid (HSX.out.grown hg1)
      clear HSX hg1
      unfold aggB
      go_wp2_with fail
      refine (eachC_n (trL x) (trL_len hxl) _ w.heap.size gc kk HSY.out.2.2.2).mono ?_
      rintro e w2 ⟨rfl, hg2⟩
      have HSZ := Lib.hid (HSY.out.grown hg2)
      clear HSY hg2
      unfold aggB
      go_wp2_with fail
      refine (HSH.out _).mono ?_
      rintro e w3 ⟨rfl, hg3⟩
      have hS3 := HSZ.out.grown hg3
      clear HSZ hg3 HSH
      unfold aggB
      have hn8 := Blk.new w3 33 z16
      have gn := World.grownBy_alloc w3 (.cells (cellsB z16) 33) none
      obtain ⟨lt3a, lt3b⟩ := hS3.2.2.2.lt
      have lt3c := hS3.2.1.lt
      have lt3d := hS3.2.2.1.lt
      obtain ⟨W4, hW4⟩ : ∃ W, W = (w3.alloc (.cells #[.int .u8 0, .int .u8 0, .int .u8 0, .int .u8 0, .int .u8 0, .int .u8 0, .int .u8 0, .int .u8 0, .int .u8 0, .int .u8 0, .int .u8 0, .int .u8 0, .int .u8 0, .int .u8 0, .int .u8 0, .int .u8 0] 33)).setRow w3.heap.size (cellsB s1) := ⟨_, rfl⟩
      have HN8 := Lib.hid hn8
      have HS4 := Lib.hid (show BS w w.heap.size gc (w.heap.size + 1) (w.heap.size + 1 + 1) kk x W4 from hW4 ▸ (hS3.grown gn).new w3.heap.size _ (by omega) (by omega) (by omega) (by omega) (by omega))
      have HB4 := Lib.hid (show Blk W4 w3.heap.size 33 s1 from hW4 ▸ hn8.row s1)
      have hi2' : (Try.prog.info? 27).map (·.size) = some kn.length := by rw [size_block, hknl]
      clear hS3 hn8 gn
      by_cases h10 : n < 10
      · obtain ⟨m1, hm1⟩ : ∃ s, s = mixL [2, 3, 1, 1] s1 := ⟨_, rfl⟩
        have hm1l : m1.length = 16 := by rw [hm1]; exact mixL_len rfl hs1l
        have HQ := Lib.hid (fun w1 : World => by have h := quick_n s1 hs1l w1; rw [← hm1] at h; exact h)
        have hEN : E n = xorL (trL m1) kn := by rw [HESN.out, if_pos h10, hm1]
        have HEN := Lib.hid hEN
        clear hm1 hEN
        have h10' : (n : Int) < 10 := by omega
        have h10d : decide ((n : Int) < 10) = true := by simp; omega
        go_wp2_with (first | (refine wpList_store_row rfl 33 _ _ rfl w3.heap.size (cellsB s1) rfl rfl 33 _ HN8.out (by rw [size_state, cellsB_size, hs1l]) (by rw [cellsB_size, cellsB_size, hs1l]; rfl) (cellsB_one _) ?_) | (rw [← hW4]; refine wpList_load_row rfl 33 _ rfl w3.heap.size rfl 33 (cellsB s1) (0, 0) _ HB4.out Try.underlying33 rfl (by rw [size_state, cellsB_size, hs1l]) ?_))
        refine (HQ.out _).mono ?_
        rintro e w5 ⟨rfl, hg5⟩
        rw [← hW4] at hg5
        have hS5 := HS4.out.grown hg5
        have hB5 := HB4.out.grown hg5 (by simp)
        have HB5 := Lib.hid hB5
        obtain ⟨W6, hW6⟩ : ∃ W, W = w5.setRow w3.heap.size (cellsB m1) := ⟨_, rfl⟩
        have HS6 := Lib.hid (show BS w w.heap.size gc (w.heap.size + 1) (w.heap.size + 1 + 1) kk x W6 from hW6 ▸ hS5.new w3.heap.size _ (by omega) (by omega) (by omega) (by omega) (by omega))
        have HB6 := Lib.hid (show Blk W6 w3.heap.size 33 m1 from hW6 ▸ hB5.row m1)
        clear hS5 hB5 hg5 HS4 HB4
        unfold aggB
        go_wp2_with (refine wpList_store_row rfl 33 _ _ rfl w3.heap.size (cellsB m1) rfl rfl 33 _ HB5.out (by rw [size_state, cellsB_size, hm1l]) (by rw [cellsB_size, cellsB_size, hm1l, hs1l]) (cellsB_one _) ?_)
        rw [← hW6]
        go_upto_region 8 with fail
        have HGA := Lib.hid (fun w1 : World => gather_n m1 hm1l w1)
        have HWI := Lib.hid (fun w1 : World => with_n (trL m1) kn (trL_len hm1l) hknl w1)
        have hi4 : (Try.prog.info? 33).map (·.size) = some m1.length := by rw [size_state, hm1l]
        refine wp_regionT (fun w' => BS w w.heap.size gc (w.heap.size + 1) (w.heap.size + 1 + 1) kk x w' ∧ Blk w' w3.heap.size 33 m1) 9 (by kernel_rfl) ⟨HS6.out.grown (grownBy_d1 (World.grownBy.refl _ _)), HB6.out.dr⟩ ?_
        refine wpT_take 0 (oi := { dst := some 30, op := Op.load 33 (Operand.tmp 8), type := 33, pos := "aes.go:194", after := #[], guard := none }) (oL := { dst := none, op := Op.store 27 (Operand.tmp 4) (Operand.tmp 38), type := 0, pos := "aes.go:194", after := #[{ on := 8, ground := Ground.data }, { on := 8, ground := Ground.chain }, { on := 0, ground := Ground.phase }, { on := 1, ground := Ground.phase }, { on := 2, ground := Ground.phase }, { on := 3, ground := Ground.phase }, { on := 4, ground := Ground.phase }, { on := 5, ground := Ground.phase }, { on := 6, ground := Ground.phase }, { on := 7, ground := Ground.phase }, { on := 8, ground := Ground.phase }], guard := none }) rfl rfl rfl (by kernel_rfl) (by kernel_rfl) (by kernel_rfl) (by kernel_rfl) (by kernel_rfl) (fun _ _ _ h => h) (YS.rowM (by rfl) _ _ rfl _ _ rfl m1 _ (fun _ h => h.2.range) Try.underlying33 rfl hi4) ?_
        simp only [Act.put, List.setIfInBounds_toArray, List.set_cons_zero, List.set_cons_succ]
        refine wpT_take 1 (v := .agg (cellsB (trL m1))) (oi := { dst := some 31, op := Op.call { callee := Callee.value (Operand.func 26), args := #[Operand.tmp 30], argTypes := #[33] }, type := 27, pos := "aes.go:194", after := #[{ on := 0, ground := Ground.data }], guard := none }) (oL := { dst := none, op := Op.store 27 (Operand.tmp 4) (Operand.tmp 38), type := 0, pos := "aes.go:194", after := #[{ on := 8, ground := Ground.data }, { on := 8, ground := Ground.chain }, { on := 0, ground := Ground.phase }, { on := 1, ground := Ground.phase }, { on := 2, ground := Ground.phase }, { on := 3, ground := Ground.phase }, { on := 4, ground := Ground.phase }, { on := 5, ground := Ground.phase }, { on := 6, ground := Ground.phase }, { on := 7, ground := Ground.phase }, { on := 8, ground := Ground.phase }], guard := none }) rfl rfl rfl (by kernel_rfl) (by kernel_rfl) (by kernel_rfl) (by kernel_rfl) (by kernel_rfl) (fun _ _ _ h => h) (YS.grow (f := 26) (args := #[.agg (cellsB m1)]) (by rfl) (fun w => by go_simp) (fun _ _ h hg => ⟨h.1.grown hg, h.2.grown hg (by simp)⟩) HGA.out) ?_
        simp only [Act.put, List.setIfInBounds_toArray, List.set_cons_zero, List.set_cons_succ]
        refine wpT_take 2 (v := .pointer (some ⟨gc, 0, none⟩)) (oi := { dst := some 32, op := Op.load 50 (Operand.tmp 3), type := 50, pos := "aes.go:194", after := #[], guard := none }) (oL := { dst := none, op := Op.store 27 (Operand.tmp 4) (Operand.tmp 38), type := 0, pos := "aes.go:194", after := #[{ on := 8, ground := Ground.data }, { on := 8, ground := Ground.chain }, { on := 0, ground := Ground.phase }, { on := 1, ground := Ground.phase }, { on := 2, ground := Ground.phase }, { on := 3, ground := Ground.phase }, { on := 4, ground := Ground.phase }, { on := 5, ground := Ground.phase }, { on := 6, ground := Ground.phase }, { on := 7, ground := Ground.phase }, { on := 8, ground := Ground.phase }], guard := none }) rfl rfl rfl (by kernel_rfl) (by kernel_rfl) (by kernel_rfl) (by kernel_rfl) (by kernel_rfl) (fun _ _ _ h => h) (YS.val (by rfl) (fun w hS => by have h := hS.1.2.2.2.1; go_simp)) ?_
        simp only [Act.put, List.setIfInBounds_toArray, List.set_cons_zero, List.set_cons_succ]
        refine wpT_take 3 (oi := { dst := some 33, op := Op.move (Operand.tmp 7), type := 3, pos := "aes.go:194", after := #[], guard := none }) (oL := { dst := none, op := Op.store 27 (Operand.tmp 4) (Operand.tmp 38), type := 0, pos := "aes.go:194", after := #[{ on := 8, ground := Ground.data }, { on := 8, ground := Ground.chain }, { on := 0, ground := Ground.phase }, { on := 1, ground := Ground.phase }, { on := 2, ground := Ground.phase }, { on := 3, ground := Ground.phase }, { on := 4, ground := Ground.phase }, { on := 5, ground := Ground.phase }, { on := 6, ground := Ground.phase }, { on := 7, ground := Ground.phase }, { on := 8, ground := Ground.phase }], guard := none }) rfl rfl rfl (by kernel_rfl) (by kernel_rfl) (by kernel_rfl) (by kernel_rfl) (by kernel_rfl) (fun _ _ _ h => h) (YS.val (by rfl) (fun _ _ => rfl)) ?_
        simp only [Act.put, List.setIfInBounds_toArray, List.set_cons_zero, List.set_cons_succ]
        refine wpT_take 4 (v := .pointer (some ⟨gc, 0, none⟩)) (oi := { dst := some 34, op := Op.nilCheck (Operand.tmp 32), type := 0, pos := "aes.go:194", after := #[{ on := 2, ground := Ground.data }], guard := none }) (oL := { dst := none, op := Op.store 27 (Operand.tmp 4) (Operand.tmp 38), type := 0, pos := "aes.go:194", after := #[{ on := 8, ground := Ground.data }, { on := 8, ground := Ground.chain }, { on := 0, ground := Ground.phase }, { on := 1, ground := Ground.phase }, { on := 2, ground := Ground.phase }, { on := 3, ground := Ground.phase }, { on := 4, ground := Ground.phase }, { on := 5, ground := Ground.phase }, { on := 6, ground := Ground.phase }, { on := 7, ground := Ground.phase }, { on := 8, ground := Ground.phase }], guard := none }) rfl rfl rfl (by kernel_rfl) (by kernel_rfl) (by kernel_rfl) (by kernel_rfl) (by kernel_rfl) (fun _ _ _ h => h) (YS.val (by rfl) (fun w _ => by go_simp)) ?_
        simp only [Act.put, List.setIfInBounds_toArray, List.set_cons_zero, List.set_cons_succ]
        refine wpT_take 5 (v := .pointer (some ⟨gc, 1, none⟩)) (oi := { dst := some 35, op := Op.fieldAddr 59 (Operand.tmp 34) 1, type := 0, pos := "aes.go:194", after := #[{ on := 4, ground := Ground.data }], guard := none }) (oL := { dst := none, op := Op.store 27 (Operand.tmp 4) (Operand.tmp 38), type := 0, pos := "aes.go:194", after := #[{ on := 8, ground := Ground.data }, { on := 8, ground := Ground.chain }, { on := 0, ground := Ground.phase }, { on := 1, ground := Ground.phase }, { on := 2, ground := Ground.phase }, { on := 3, ground := Ground.phase }, { on := 4, ground := Ground.phase }, { on := 5, ground := Ground.phase }, { on := 6, ground := Ground.phase }, { on := 7, ground := Ground.phase }, { on := 8, ground := Ground.phase }], guard := none }) rfl rfl rfl (by kernel_rfl) (by kernel_rfl) (by kernel_rfl) (by kernel_rfl) (by kernel_rfl) (fun _ _ _ h => h) (YS.val (by rfl) (fun w _ => by go_simp)) ?_
        simp only [Act.put, List.setIfInBounds_toArray, List.set_cons_zero, List.set_cons_succ]
        refine wpT_take 6 (v := .pointer (some ⟨gc, 1 + n * 16, none⟩)) (oi := { dst := some 36, op := Op.indexAddr 28 (Operand.tmp 35) (Operand.tmp 33), type := 0, pos := "aes.go:194", after := #[{ on := 5, ground := Ground.data }, { on := 3, ground := Ground.data }], guard := none }) (oL := { dst := none, op := Op.store 27 (Operand.tmp 4) (Operand.tmp 38), type := 0, pos := "aes.go:194", after := #[{ on := 8, ground := Ground.data }, { on := 8, ground := Ground.chain }, { on := 0, ground := Ground.phase }, { on := 1, ground := Ground.phase }, { on := 2, ground := Ground.phase }, { on := 3, ground := Ground.phase }, { on := 4, ground := Ground.phase }, { on := 5, ground := Ground.phase }, { on := 6, ground := Ground.phase }, { on := 7, ground := Ground.phase }, { on := 8, ground := Ground.phase }], guard := none }) rfl rfl rfl (by kernel_rfl) (by kernel_rfl) (by kernel_rfl) (by kernel_rfl) (by kernel_rfl) (fun _ _ _ h => h) (YS.val (by rfl) (fun w _ => by go_simp)) ?_
        simp only [Act.put, List.setIfInBounds_toArray, List.set_cons_zero, List.set_cons_succ]
        refine wpT_take 7 (oi := { dst := some 37, op := Op.load 27 (Operand.tmp 36), type := 27, pos := "aes.go:194", after := #[{ on := 6, ground := Ground.data }], guard := none }) (oL := { dst := none, op := Op.store 27 (Operand.tmp 4) (Operand.tmp 38), type := 0, pos := "aes.go:194", after := #[{ on := 8, ground := Ground.data }, { on := 8, ground := Ground.chain }, { on := 0, ground := Ground.phase }, { on := 1, ground := Ground.phase }, { on := 2, ground := Ground.phase }, { on := 3, ground := Ground.phase }, { on := 4, ground := Ground.phase }, { on := 5, ground := Ground.phase }, { on := 6, ground := Ground.phase }, { on := 7, ground := Ground.phase }, { on := 8, ground := Ground.phase }], guard := none }) rfl rfl rfl (by kernel_rfl) (by kernel_rfl) (by kernel_rfl) (by kernel_rfl) (by kernel_rfl) (fun _ _ _ h => h) (YS.rowM (by rfl) _ _ rfl gc (1 + n * 16) rfl kn _ (fun _ h => by rw [HKN.out]; exact h.1.2.2.2.2.key n) Try.underlying27 rfl hi2') ?_
        simp only [Act.put, List.setIfInBounds_toArray, List.set_cons_zero, List.set_cons_succ]
        refine wpT_take 8 (v := .agg (cellsB (xorL (trL m1) kn))) (oi := { dst := some 38, op := Op.call { callee := Callee.value (Operand.func 62), args := #[Operand.tmp 31, Operand.tmp 37], argTypes := #[27, 27] }, type := 27, pos := "aes.go:194", after := #[{ on := 1, ground := Ground.data }, { on := 7, ground := Ground.data }, { on := 1, ground := Ground.chain }], guard := none }) (oL := { dst := none, op := Op.store 27 (Operand.tmp 4) (Operand.tmp 38), type := 0, pos := "aes.go:194", after := #[{ on := 8, ground := Ground.data }, { on := 8, ground := Ground.chain }, { on := 0, ground := Ground.phase }, { on := 1, ground := Ground.phase }, { on := 2, ground := Ground.phase }, { on := 3, ground := Ground.phase }, { on := 4, ground := Ground.phase }, { on := 5, ground := Ground.phase }, { on := 6, ground := Ground.phase }, { on := 7, ground := Ground.phase }, { on := 8, ground := Ground.phase }], guard := none }) rfl rfl rfl (by kernel_rfl) (by kernel_rfl) (by kernel_rfl) (by kernel_rfl) (by kernel_rfl) (fun _ _ _ h => h) (YS.grow (f := 62) (args := #[.agg (cellsB (trL m1)), .agg (cellsB kn)]) (by rfl) (fun w => by go_simp) (fun _ _ h hg => ⟨h.1.grown hg, h.2.grown hg (by simp)⟩) HWI.out) ?_
        simp only [Act.put, List.setIfInBounds_toArray, List.set_cons_zero, List.set_cons_succ]
        refine wpT_last rfl (by kernel_rfl) (by kernel_rfl) (by rfl) (fun w7 hS7 K hK => ?_)
        have hxl2 := xorL_len (trL_len hm1l) hknl
        refine wp_store_row 27 _ _ rfl (w.heap.size + 1) (cellsB (xorL (trL m1) kn)) rfl rfl 27 _ hS7.1.2.1 (by rw [size_block, cellsB_size, hxl2]) (by rw [cellsB_size, cellsB_size, hxl, hxl2]) (cellsB_one _) (hK _ _ ?_)
        have hS8 := hS7.1.row (xorL (trL m1) kn) (by omega) (by omega) (by omega) (by omega)
        rw [← HEN.out] at hS8 ⊢
        obtain ⟨W8, hW8⟩ : ∃ W, W = w7.setRow (w.heap.size + 1) (cellsB (E n)) := ⟨_, rfl⟩
        rw [← hW8] at hS8 ⊢
        have HS8 := Lib.hid hS8
        clear hS8 hW8 hS7
        go_wp2_with fail
        go_roundw
        case rel => exact ⟨n + 1, by omega, by omega, by go_num, by rw [show n + 1 - 1 = n by omega]; exact HS8.out⟩
        case measure => simp [intOf]; omega
      · have hEN : E n = xorL (trL s1) kn := by rw [HESN.out, if_neg h10]
        have HEN := Lib.hid hEN
        clear hEN
        have h10' : ¬ (n : Int) < 10 := by omega
        have h10d : decide ((n : Int) < 10) = false := by simp; omega
        go_wp2_with (refine wpList_store_row rfl 33 _ _ rfl w3.heap.size (cellsB s1) rfl rfl 33 _ HN8.out (by rw [size_state, cellsB_size, hs1l]) (by rw [cellsB_size, cellsB_size, hs1l]; rfl) (cellsB_one _) ?_)
        rw [← hW4]
        go_upto_region 8 with fail
        have HGA := Lib.hid (fun w1 : World => gather_n s1 hs1l w1)
        have HWI := Lib.hid (fun w1 : World => with_n (trL s1) kn (trL_len hs1l) hknl w1)
        have hi4 : (Try.prog.info? 33).map (·.size) = some s1.length := by rw [size_state, hs1l]
        refine wp_regionT (fun w' => BS w w.heap.size gc (w.heap.size + 1) (w.heap.size + 1 + 1) kk x w' ∧ Blk w' w3.heap.size 33 s1) 9 (by kernel_rfl) ⟨HS4.out.grown (grownBy_d1 (World.grownBy.refl _ _)), HB4.out.dr⟩ ?_
        refine wpT_take 0 (oi := { dst := some 30, op := Op.load 33 (Operand.tmp 8), type := 33, pos := "aes.go:194", after := #[], guard := none }) (oL := { dst := none, op := Op.store 27 (Operand.tmp 4) (Operand.tmp 38), type := 0, pos := "aes.go:194", after := #[{ on := 8, ground := Ground.data }, { on := 8, ground := Ground.chain }, { on := 0, ground := Ground.phase }, { on := 1, ground := Ground.phase }, { on := 2, ground := Ground.phase }, { on := 3, ground := Ground.phase }, { on := 4, ground := Ground.phase }, { on := 5, ground := Ground.phase }, { on := 6, ground := Ground.phase }, { on := 7, ground := Ground.phase }, { on := 8, ground := Ground.phase }], guard := none }) rfl rfl rfl (by kernel_rfl) (by kernel_rfl) (by kernel_rfl) (by kernel_rfl) (by kernel_rfl) (fun _ _ _ h => h) (YS.rowM (by rfl) _ _ rfl _ _ rfl s1 _ (fun _ h => h.2.range) Try.underlying33 rfl hi4) ?_
        simp only [Act.put, List.setIfInBounds_toArray, List.set_cons_zero, List.set_cons_succ]
        refine wpT_take 1 (v := .agg (cellsB (trL s1))) (oi := { dst := some 31, op := Op.call { callee := Callee.value (Operand.func 26), args := #[Operand.tmp 30], argTypes := #[33] }, type := 27, pos := "aes.go:194", after := #[{ on := 0, ground := Ground.data }], guard := none }) (oL := { dst := none, op := Op.store 27 (Operand.tmp 4) (Operand.tmp 38), type := 0, pos := "aes.go:194", after := #[{ on := 8, ground := Ground.data }, { on := 8, ground := Ground.chain }, { on := 0, ground := Ground.phase }, { on := 1, ground := Ground.phase }, { on := 2, ground := Ground.phase }, { on := 3, ground := Ground.phase }, { on := 4, ground := Ground.phase }, { on := 5, ground := Ground.phase }, { on := 6, ground := Ground.phase }, { on := 7, ground := Ground.phase }, { on := 8, ground := Ground.phase }], guard := none }) rfl rfl rfl (by kernel_rfl) (by kernel_rfl) (by kernel_rfl) (by kernel_rfl) (by kernel_rfl) (fun _ _ _ h => h) (YS.grow (f := 26) (args := #[.agg (cellsB s1)]) (by rfl) (fun w => by go_simp) (fun _ _ h hg => ⟨h.1.grown hg, h.2.grown hg (by simp)⟩) HGA.out) ?_
        simp only [Act.put, List.setIfInBounds_toArray, List.set_cons_zero, List.set_cons_succ]
        refine wpT_take 2 (v := .pointer (some ⟨gc, 0, none⟩)) (oi := { dst := some 32, op := Op.load 50 (Operand.tmp 3), type := 50, pos := "aes.go:194", after := #[], guard := none }) (oL := { dst := none, op := Op.store 27 (Operand.tmp 4) (Operand.tmp 38), type := 0, pos := "aes.go:194", after := #[{ on := 8, ground := Ground.data }, { on := 8, ground := Ground.chain }, { on := 0, ground := Ground.phase }, { on := 1, ground := Ground.phase }, { on := 2, ground := Ground.phase }, { on := 3, ground := Ground.phase }, { on := 4, ground := Ground.phase }, { on := 5, ground := Ground.phase }, { on := 6, ground := Ground.phase }, { on := 7, ground := Ground.phase }, { on := 8, ground := Ground.phase }], guard := none }) rfl rfl rfl (by kernel_rfl) (by kernel_rfl) (by kernel_rfl) (by kernel_rfl) (by kernel_rfl) (fun _ _ _ h => h) (YS.val (by rfl) (fun w hS => by have h := hS.1.2.2.2.1; go_simp)) ?_
        simp only [Act.put, List.setIfInBounds_toArray, List.set_cons_zero, List.set_cons_succ]
        refine wpT_take 3 (oi := { dst := some 33, op := Op.move (Operand.tmp 7), type := 3, pos := "aes.go:194", after := #[], guard := none }) (oL := { dst := none, op := Op.store 27 (Operand.tmp 4) (Operand.tmp 38), type := 0, pos := "aes.go:194", after := #[{ on := 8, ground := Ground.data }, { on := 8, ground := Ground.chain }, { on := 0, ground := Ground.phase }, { on := 1, ground := Ground.phase }, { on := 2, ground := Ground.phase }, { on := 3, ground := Ground.phase }, { on := 4, ground := Ground.phase }, { on := 5, ground := Ground.phase }, { on := 6, ground := Ground.phase }, { on := 7, ground := Ground.phase }, { on := 8, ground := Ground.phase }], guard := none }) rfl rfl rfl (by kernel_rfl) (by kernel_rfl) (by kernel_rfl) (by kernel_rfl) (by kernel_rfl) (fun _ _ _ h => h) (YS.val (by rfl) (fun _ _ => rfl)) ?_
        simp only [Act.put, List.setIfInBounds_toArray, List.set_cons_zero, List.set_cons_succ]
        refine wpT_take 4 (v := .pointer (some ⟨gc, 0, none⟩)) (oi := { dst := some 34, op := Op.nilCheck (Operand.tmp 32), type := 0, pos := "aes.go:194", after := #[{ on := 2, ground := Ground.data }], guard := none }) (oL := { dst := none, op := Op.store 27 (Operand.tmp 4) (Operand.tmp 38), type := 0, pos := "aes.go:194", after := #[{ on := 8, ground := Ground.data }, { on := 8, ground := Ground.chain }, { on := 0, ground := Ground.phase }, { on := 1, ground := Ground.phase }, { on := 2, ground := Ground.phase }, { on := 3, ground := Ground.phase }, { on := 4, ground := Ground.phase }, { on := 5, ground := Ground.phase }, { on := 6, ground := Ground.phase }, { on := 7, ground := Ground.phase }, { on := 8, ground := Ground.phase }], guard := none }) rfl rfl rfl (by kernel_rfl) (by kernel_rfl) (by kernel_rfl) (by kernel_rfl) (by kernel_rfl) (fun _ _ _ h => h) (YS.val (by rfl) (fun w _ => by go_simp)) ?_
        simp only [Act.put, List.setIfInBounds_toArray, List.set_cons_zero, List.set_cons_succ]
        refine wpT_take 5 (v := .pointer (some ⟨gc, 1, none⟩)) (oi := { dst := some 35, op := Op.fieldAddr 59 (Operand.tmp 34) 1, type := 0, pos := "aes.go:194", after := #[{ on := 4, ground := Ground.data }], guard := none }) (oL := { dst := none, op := Op.store 27 (Operand.tmp 4) (Operand.tmp 38), type := 0, pos := "aes.go:194", after := #[{ on := 8, ground := Ground.data }, { on := 8, ground := Ground.chain }, { on := 0, ground := Ground.phase }, { on := 1, ground := Ground.phase }, { on := 2, ground := Ground.phase }, { on := 3, ground := Ground.phase }, { on := 4, ground := Ground.phase }, { on := 5, ground := Ground.phase }, { on := 6, ground := Ground.phase }, { on := 7, ground := Ground.phase }, { on := 8, ground := Ground.phase }], guard := none }) rfl rfl rfl (by kernel_rfl) (by kernel_rfl) (by kernel_rfl) (by kernel_rfl) (by kernel_rfl) (fun _ _ _ h => h) (YS.val (by rfl) (fun w _ => by go_simp)) ?_
        simp only [Act.put, List.setIfInBounds_toArray, List.set_cons_zero, List.set_cons_succ]
        refine wpT_take 6 (v := .pointer (some ⟨gc, 1 + n * 16, none⟩)) (oi := { dst := some 36, op := Op.indexAddr 28 (Operand.tmp 35) (Operand.tmp 33), type := 0, pos := "aes.go:194", after := #[{ on := 5, ground := Ground.data }, { on := 3, ground := Ground.data }], guard := none }) (oL := { dst := none, op := Op.store 27 (Operand.tmp 4) (Operand.tmp 38), type := 0, pos := "aes.go:194", after := #[{ on := 8, ground := Ground.data }, { on := 8, ground := Ground.chain }, { on := 0, ground := Ground.phase }, { on := 1, ground := Ground.phase }, { on := 2, ground := Ground.phase }, { on := 3, ground := Ground.phase }, { on := 4, ground := Ground.phase }, { on := 5, ground := Ground.phase }, { on := 6, ground := Ground.phase }, { on := 7, ground := Ground.phase }, { on := 8, ground := Ground.phase }], guard := none }) rfl rfl rfl (by kernel_rfl) (by kernel_rfl) (by kernel_rfl) (by kernel_rfl) (by kernel_rfl) (fun _ _ _ h => h) (YS.val (by rfl) (fun w _ => by go_simp)) ?_
        simp only [Act.put, List.setIfInBounds_toArray, List.set_cons_zero, List.set_cons_succ]
        refine wpT_take 7 (oi := { dst := some 37, op := Op.load 27 (Operand.tmp 36), type := 27, pos := "aes.go:194", after := #[{ on := 6, ground := Ground.data }], guard := none }) (oL := { dst := none, op := Op.store 27 (Operand.tmp 4) (Operand.tmp 38), type := 0, pos := "aes.go:194", after := #[{ on := 8, ground := Ground.data }, { on := 8, ground := Ground.chain }, { on := 0, ground := Ground.phase }, { on := 1, ground := Ground.phase }, { on := 2, ground := Ground.phase }, { on := 3, ground := Ground.phase }, { on := 4, ground := Ground.phase }, { on := 5, ground := Ground.phase }, { on := 6, ground := Ground.phase }, { on := 7, ground := Ground.phase }, { on := 8, ground := Ground.phase }], guard := none }) rfl rfl rfl (by kernel_rfl) (by kernel_rfl) (by kernel_rfl) (by kernel_rfl) (by kernel_rfl) (fun _ _ _ h => h) (YS.rowM (by rfl) _ _ rfl gc (1 + n * 16) rfl kn _ (fun _ h => by rw [HKN.out]; exact h.1.2.2.2.2.key n) Try.underlying27 rfl hi2') ?_
        simp only [Act.put, List.setIfInBounds_toArray, List.set_cons_zero, List.set_cons_succ]
        refine wpT_take 8 (v := .agg (cellsB (xorL (trL s1) kn))) (oi := { dst := some 38, op := Op.call { callee := Callee.value (Operand.func 62), args := #[Operand.tmp 31, Operand.tmp 37], argTypes := #[27, 27] }, type := 27, pos := "aes.go:194", after := #[{ on := 1, ground := Ground.data }, { on := 7, ground := Ground.data }, { on := 1, ground := Ground.chain }], guard := none }) (oL := { dst := none, op := Op.store 27 (Operand.tmp 4) (Operand.tmp 38), type := 0, pos := "aes.go:194", after := #[{ on := 8, ground := Ground.data }, { on := 8, ground := Ground.chain }, { on := 0, ground := Ground.phase }, { on := 1, ground := Ground.phase }, { on := 2, ground := Ground.phase }, { on := 3, ground := Ground.phase }, { on := 4, ground := Ground.phase }, { on := 5, ground := Ground.phase }, { on := 6, ground := Ground.phase }, { on := 7, ground := Ground.phase }, { on := 8, ground := Ground.phase }], guard := none }) rfl rfl rfl (by kernel_rfl) (by kernel_rfl) (by kernel_rfl) (by kernel_rfl) (by kernel_rfl) (fun _ _ _ h => h) (YS.grow (f := 62) (args := #[.agg (cellsB (trL s1)), .agg (cellsB kn)]) (by rfl) (fun w => by go_simp) (fun _ _ h hg => ⟨h.1.grown hg, h.2.grown hg (by simp)⟩) HWI.out) ?_
        simp only [Act.put, List.setIfInBounds_toArray, List.set_cons_zero, List.set_cons_succ]
        refine wpT_last rfl (by kernel_rfl) (by kernel_rfl) (by rfl) (fun w7 hS7 K hK => ?_)
        have hxl2 := xorL_len (trL_len hs1l) hknl
        refine wp_store_row 27 _ _ rfl (w.heap.size + 1) (cellsB (xorL (trL s1) kn)) rfl rfl 27 _ hS7.1.2.1 (by rw [size_block, cellsB_size, hxl2]) (by rw [cellsB_size, cellsB_size, hxl, hxl2]) (cellsB_one _) (hK _ _ ?_)
        have hS8 := hS7.1.row (xorL (trL s1) kn) (by omega) (by omega) (by omega) (by omega)
        rw [← HEN.out] at hS8 ⊢
        obtain ⟨W8, hW8⟩ : ∃ W, W = w7.setRow (w.heap.size + 1) (cellsB (E n)) := ⟨_, rfl⟩
        rw [← hW8] at hS8 ⊢
        have HS8 := Lib.hid hS8
        clear hS8 hW8 hS7
        go_wp2_with fail
        go_roundw
        case rel => exact ⟨n + 1, by omega, by omega, by go_num, by rw [show n + 1 - 1 = n by omega]; exact HS8.out⟩
        case measure => simp [intOf]; omega
    · obtain rfl : n = R + 1 := by omega
      rw [show R + 1 - 1 = R by omega] at hS
      have hel := HEL.out R hR
      have HSF := Lib.hid hS
      obtain ⟨y, hy⟩ : ∃ y, y = E R := ⟨_, rfl⟩
      rw [← hy] at hel HSF
      have e10 : ((R + 1 : Nat) : Int) = (R : Int) + 1 := by omega
      rw [e10]
      have HY := Lib.hid hy
      clear hS hy e10
      go_wp2_with (first | (refine wpList_load_row rfl 27 _ rfl (w.heap.size + 1) rfl 27 (cellsB y) (0, 0) _ HSF.out.2.1 Try.underlying27 rfl (by rw [size_block, cellsB_size, hel]) ?_) | (refine wpList_store_row rfl 27 _ _ rfl (w.heap.size + 1 + 1) (cellsB y) rfl rfl 27 _ HSF.out.2.2.1 (by rw [size_block, cellsB_size, hel]) (by rw [cellsB_size, cellsB_size, hel]; rfl) (cellsB_one _) ?_))
      refine bodyPost_ret (v := .agg (cellsB y)) (results_cell_row rfl _ _ (w.heap.size + 1 + 1) 27 (cellsB y) (0, 0) _ rfl (setRow_heap _ _ _ _ _ _ HSF.out.2.2.1) Try.underlying27 rfl (by rw [size_block, cellsB_size, hel])) rfl ⟨by rw [HY.out, HE.out], ?_⟩
      exact grownBy_old HSF.out.1 (grownBy_setRow _ _ _) (by omega)

end Go.Proofs.Ytlnmglddialhjaa
