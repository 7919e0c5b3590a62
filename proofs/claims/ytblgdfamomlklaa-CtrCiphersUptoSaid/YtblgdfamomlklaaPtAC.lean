/- Helpers and contracts of the proofs over this seat: AesBehind, AesAwake, AesMore, AesRefMix, AesRefBeh. Each states what a function of the program answers, or is plain Lean; its conditions stand in each statement. -/
import Derived.Test.YtblgdfamomlklaaPtAA
import Derived.Test.YtblgdfamomlklaaPtAB
set_option linter.unusedVariables false
/- aes: the rounds of a cipher. -/
namespace Go.Proofs.Ytblgdfamomlklaa
open Go.RowKit

/-- the box with the pointer to a cipher, and the cipher -/
def Tb (w : World) (gb gc : Nat) (kk : List UInt8) : Prop := w.cell? ⟨gb, 0, none⟩ = some (.pointer (some ⟨gc, 0, none⟩)) ∧ CipAt w gc kk
section
variable {w w' : World} {gb gc : Nat} {kk : List UInt8}
theorem Tb.lt (h : Tb w gb gc kk) : gb < w.heap.size ∧ gc < w.heap.size := ⟨World.block_lt_of_cell? w ⟨gb, 0, none⟩ h.1, h.2.lt⟩
theorem Tb.grown (h : Tb w gb gc kk) (hg : w.grownBy w' none) : Tb w' gb gc kk := ⟨(World.cell?_of_block (hg.block _ h.lt.1 (by simp))).trans h.1, h.2.grown hg⟩
theorem Tb.far {g : Nat} (h : Tb w gb gc kk) (hg : w.grownBy w' (some g)) (h1 : gb ≠ g) (h2 : gc ≠ g) : Tb w' gb gc kk := ⟨(World.cell?_of_block (hg.block _ h.lt.1 (by simpa using h1))).trans h.1, h.2.far hg h2⟩
theorem Tb.other {g j : Nat} {v : Value} (h : Tb w gb gc kk) (h1 : gb ≠ g) (h2 : gc ≠ g) : Tb (w.setCell ⟨g, j, none⟩ v) gb gc kk := h.far (grownBy_setCell _ _ _ _) h1 h2
theorem Tb.dr (h : Tb w gb gc kk) : Tb w.drew gb gc kk := h.grown (grownBy_d1 (World.grownBy.refl _ _))
end

set_option maxRecDepth 100000 in
set_option maxHeartbeats 1000000 in
theorem tabc_i (z : Int) (x : UInt8) (gb gc : Nat) (kk : List UInt8) (w : World) (hz : (x.toNat : Int) = z) (ht : Tb w gb gc kk) : Calls Try.prog 57 #[.int .u8 z, .pointer (some ⟨gb, 0, none⟩)] w fun e w' => e = .returned (.int .u8 ((asub x).toNat : Nat)) ∧ w = w' := by
  subst hz
  have hx := x.toNat_lt
  have h1 := ht.1
  have hc := tab_cell ht.2.2.2 x
  have hx' : (x.toNat : Int) < 256 := by omega
  clear ht
  go_enter Try.func57, Try.ntmps57
  go_wp2
  go_ret
  exact ⟨rfl, rfl⟩

set_option maxRecDepth 100000 in
set_option maxHeartbeats 1000000 in
theorem eachC_n (l : List UInt8) (hl : l.length = 16) (w : World) (gb gc : Nat) (kk : List UInt8) (ht : Tb w gb gc kk) : Calls Try.prog 55 #[aggB l, .func (.func 57) #[] #[.pointer (some ⟨gb, 0, none⟩)]] w fun e w' => e = .returned (aggB (l.map asub)) ∧ w.grownBy w' none := by
  unfold aggB
  obtain ⟨hb, hr, hg⟩ := two w l z16 95 95
  obtain ⟨htl, htl2⟩ := ht.lt
  have ht := ht.grown hg
  have HR := Lib.hid hr
  have HG := Lib.hid hg
  have HB := Lib.hid hb
  have HT := Lib.hid ht
  clear hr hg hb ht
  go_enter Try.func55, Try.ntmps55
  go_wp2_with fail
  go_loopw [7] (fun vi wr => ∃ k : Nat, k ≤ 4 ∧ vi = .int .i64 k ∧ Blk wr (w.heap.size + 1) 95 z16 ∧ Blk wr w.heap.size 95 (iter2 (eaF asub) l k) ∧ w.grownBy wr none ∧ Tb wr gb gc kk) (fun vi _ => 4 - (intOf vi).toNat)
  case atStart => exact ⟨0, by omega, rfl, HR.out, HB.out, HG.out, HT.out⟩
  case round =>
    obtain ⟨r, hk, rfl, hr, hs, hg, ht⟩ := hrel
    have HRR := Lib.hid hr
    have HGG := Lib.hid hg
    have HSS := Lib.hid hs
    have HTT := Lib.hid ht
    clear hr hg hs ht
    by_cases hlt : r < 4
    · have hr4 : decide ((r : Int) < 4) = true := by simp; omega
      go_wp2_with fail
      clear hr4
      go_loopw [10] (fun vi wr => ∃ k : Nat, k ≤ 4 ∧ vi = .int .i64 k ∧ Blk wr (w.heap.size + 1) 95 z16 ∧ Blk wr w.heap.size 95 (iterU (eaF asub r) (iter2 (eaF asub) l r) k) ∧ w.grownBy wr none ∧ Tb wr gb gc kk) (fun vi _ => 4 - (intOf vi).toNat)
      case atStart => exact ⟨0, by omega, rfl, HRR.out, HSS.out, HGG.out, HTT.out⟩
      case round =>
        clear HRR HGG HSS HTT
        obtain ⟨c, hk, rfl, hr, hs, hg, ht⟩ := hrel
        have HRR := Lib.hid hr
        have HGG := Lib.hid hg
        have HTT := Lib.hid ht
        have hlen : (iterU (eaF asub r) (iter2 (eaF asub) l r) c).length = 16 := (iterU_len (eaF_len asub r) c).trans ((iter2_len (eaF_len asub) r).trans hl)
        have hcell := hs.cell 16 hlen
        have hfree := hs.free
        have HSS := Lib.hid hs
        clear hr hg hs hlen ht
        by_cases hlc : c < 4
        · have hj : r * 4 + c < 16 := by omega
          have hcj := hcell _ hj
          have hset := HSS.out.set (r * 4 + c) (asub ((iterU (eaF asub r) (iter2 (eaF asub) l r) c).getD (r * 4 + c) 0))
          have he : iterU (eaF asub r) (iter2 (eaF asub) l r) (c + 1) = (iterU (eaF asub r) (iter2 (eaF asub) l r) c).set (r * 4 + c) (asub ((iterU (eaF asub r) (iter2 (eaF asub) l r) c).getD (r * 4 + c) 0)) := rfl
          obtain ⟨x, hx⟩ : ∃ x, x = (iterU (eaF asub r) (iter2 (eaF asub) l r) c).getD (r * 4 + c) 0 := ⟨_, rfl⟩
          rw [← hx] at hset hcj he
          rw [← he] at hset
          have HSET := Lib.hid hset
          clear hset HSS hcell hj hx he
          go_wp2_with fail
          go_region_with (go_at_call 57; refine (tabc_i _ x gb gc kk _ rfl HTT.out.dr).mono ?_; rintro e w' ⟨rfl, rfl⟩)
          all_goals trace "WAY"
          all_goals
            go_wp2
            go_roundw
            case rel => exact ⟨c + 1, by omega, by go_num, (HRR.out.other (by omega)).dr, HSET.out.dr, grownBy_d1 (grownBy_old HGG.out (grownBy_setCell _ _ _ _) (by omega)), (HTT.out.other (by omega) (by omega)).dr⟩
            case measure => simp [intOf]; omega
        · obtain rfl : c = 4 := by omega
          clear hcell hfree
          go_wp2_with fail
          go_roundw
          case rel => exact ⟨r + 1, by omega, by go_num, HRR.out, HSS.out, HGG.out, HTT.out⟩
          case measure => simp [intOf]; omega
    · obtain rfl : r = 4 := by omega
      have hs := HSS.out
      rw [ea_end asub hl] at hs
      have HS2 := Lib.hid hs
      clear hs HSS
      go_wp2_with (first | (refine wpList_load_row rfl 95 _ rfl w.heap.size rfl 95 (cellsB (l.map asub)) (0, 0) _ HS2.out Try.underlying95 rfl (by rw [size_state, cellsB_size, map_len asub hl]) ?_) | (refine wpList_store_row rfl 95 _ _ rfl (w.heap.size + 1) (cellsB (l.map asub)) rfl rfl 95 _ HRR.out (by rw [size_state, cellsB_size, map_len asub hl]) (by rw [cellsB_size, cellsB_size, map_len asub hl]; rfl) (cellsB_one _) ?_))
      refine bodyPost_ret (v := .agg (cellsB (l.map asub))) (results_cell_row rfl _ _ (w.heap.size + 1) 95 (cellsB (l.map asub)) (0, 0) _ rfl (setRow_heap _ _ _ _ _ _ HRR.out) Try.underlying95 rfl (by rw [size_state, cellsB_size, map_len asub hl])) rfl ⟨rfl, ?_⟩
      exact grownBy_old HGG.out (grownBy_setRow _ _ _) (by omega)


/-- the n-th key -/
def keyAt (kk : List UInt8) (n : Nat) : List UInt8 := (kk.drop (n * 16)).take 16
theorem keyAt_len {kk : List UInt8} (h : kk.length = 176) {n : Nat} (hn : n ≤ 10) : (keyAt kk n).length = 16 := by simp [keyAt, h]; omega
theorem CipAt.key {w : World} {gc : Nat} {kk : List UInt8} (h : CipAt w gc kk) (n : Nat) : w.rangeAt gc (1 + n * 16) ((keyAt kk n).map bval) := fun j v hj => by
  have h2 := h.2.1 (n * 16 + j) v (by
    have hj' := hj
    unfold keyAt at hj'
    rw [List.map_take, List.map_drop, List.getElem?_take] at hj'
    split at hj'
    · rw [List.getElem?_drop] at hj'; exact hj'
    · cases hj')
  rw [show 1 + n * 16 + j = 1 + (n * 16 + j) by omega]
  exact h2
/-- so many rounds -/
def encS (kk b : List UInt8) : Nat → List UInt8
  | 0 => xorL b (keyAt kk 0)
  | n + 1 => xorL (trL (if n + 1 < 10 then mixL [2, 3, 1, 1] (shL ((trL (encS kk b n)).map asub)) else shL ((trL (encS kk b n)).map asub))) (keyAt kk (n + 1))
theorem encS_len {kk b : List UInt8} (hk : kk.length = 176) (hb : b.length = 16) : ∀ n, n ≤ 10 → (encS kk b n).length = 16
  | 0, _ => xorL_len hb (keyAt_len hk (by omega))
  | n + 1, h => by
    have ih := encS_len hk hb n (by omega)
    have h1 := shL_len (map_len asub (trL_len ih))
    unfold encS
    refine xorL_len (trL_len ?_) (keyAt_len hk h)
    split
    · exact mixL_len rfl h1
    · exact h1

/-- what stands while a cipher works: its box, its cells, the block in hand, the answer's room -/
def BS (w0 : World) (gb gc g1 g2 : Nat) (kk x : List UInt8) (w : World) : Prop := w0.grownBy w none ∧ Blk w g1 24 x ∧ Blk w g2 24 z16 ∧ Tb w gb gc kk
section
variable {w0 w w' : World} {gb gc g1 g2 : Nat} {kk x : List UInt8}
theorem BS.grown (h : BS w0 gb gc g1 g2 kk x w) (hg : w.grownBy w' none) : BS w0 gb gc g1 g2 kk x w' := ⟨grownBy_trans h.1 hg, h.2.1.grown hg (by simp), h.2.2.1.grown hg (by simp), h.2.2.2.grown hg⟩
theorem BS.row (h : BS w0 gb gc g1 g2 kk x w) (y : List UInt8) (hw : w0.heap.size ≤ g1) (h2 : g2 ≠ g1) (hb : gb ≠ g1) (hc : gc ≠ g1) : BS w0 gb gc g1 g2 kk y (w.setRow g1 (cellsB y)) :=
  ⟨grownBy_old h.1 (grownBy_setRow _ _ _) hw, h.2.1.row y, h.2.2.1.rowNe _ h2, h.2.2.2.far (grownBy_setRow _ _ _) hb hc⟩
theorem BS.new (h : BS w0 gb gc g1 g2 kk x w) (g : Nat) (cs : Array Value) (hg : w0.heap.size ≤ g) (h1 : g1 ≠ g) (h2 : g2 ≠ g) (hb : gb ≠ g) (hc : gc ≠ g) : BS w0 gb gc g1 g2 kk x (w.setRow g cs) :=
  ⟨grownBy_old h.1 (grownBy_setRow _ _ _) hg, h.2.1.rowNe _ h1, h.2.2.1.rowNe _ h2, h.2.2.2.far (grownBy_setRow _ _ _) hb hc⟩
end
theorem YS.rowM {ops : Array Oper} {S : World → Prop} {o : Oper} {a : Act} (hw : Region.wanted o (yielded ops a.tmps) = true) (ty : TypeId) (x : Operand) (ho : o.op = .load ty x)
    (b f : Nat) (hx : a.eval x = .pointer (some ⟨b, f, none⟩)) (l : List UInt8) (d : TypeDesc) (hS : ∀ w, S w → w.rangeAt b f (l.map bval))
    (hu : Try.prog.underlying ty = some d) (hd : d.isRow = true) (hi : (Try.prog.info? ty).map (·.size) = some l.length) : YS Try.prog ops S o (.agg (cellsB l)) a := by
  rcases yieldsIf_load_mid (P := Try.prog) (ops := ops) hw ty x ho b f hx (l.map bval) d hS hu hd (by rw [hi, List.length_map]) with ⟨h1, h2⟩ | ⟨h1, h2⟩
  · exact YS.val h1 h2
  · rw [hw] at h1; cases h1
theorem threeO (w : World) (o1 : Obj) (c2 c3 : List UInt8) (t2 t3 : TypeId) :
    (((w.alloc o1).alloc (.cells (cellsB c2) t2)).alloc (.cells (cellsB c3) t3)).heap[w.heap.size]? = some o1 ∧ Blk (((w.alloc o1).alloc (.cells (cellsB c2) t2)).alloc (.cells (cellsB c3) t3)) (w.heap.size + 1) t2 c2 ∧
    Blk (((w.alloc o1).alloc (.cells (cellsB c2) t2)).alloc (.cells (cellsB c3) t3)) (w.heap.size + 1 + 1) t3 c3 ∧ w.grownBy (((w.alloc o1).alloc (.cells (cellsB c2) t2)).alloc (.cells (cellsB c3) t3)) none := by
  have h2 := Blk.new (w.alloc o1) t2 c2
  have h3 := Blk.new ((w.alloc o1).alloc (.cells (cellsB c2) t2)) t3 c3
  have g1 := World.grownBy_alloc w o1 none
  have g2 := World.grownBy_alloc (w.alloc o1) (.cells (cellsB c2) t2) none
  have g3 := World.grownBy_alloc ((w.alloc o1).alloc (.cells (cellsB c2) t2)) (.cells (cellsB c3) t3) none
  rw [World.size_alloc] at h2 h3
  rw [World.size_alloc] at h3
  refine ⟨?_, h2.grown g3 (by simp), h3, grownBy_trans (grownBy_trans g1 g2) g3⟩
  rw [Below.heap_alloc _ _ _ (by simp; omega), Below.heap_alloc _ _ _ (by simp)]
  exact heap_alloc_new w o1

set_option maxRecDepth 100000 in
set_option maxHeartbeats 4000000 in
theorem behind_n (gc R : Nat) (kk b : List UInt8) (hk : kk.length = 176) (hb : b.length = 16) (hR : R ≤ 10) (w : World) (hc : CipAt w gc kk) :
    Calls Try.prog 47 #[.pointer (some ⟨gc, 0, none⟩), aggB b, .int .i64 R] w fun e w' => e = .returned (aggB (encS kk b R)) ∧ w.grownBy w' none := by
  have hi2 : (Try.prog.info? 24).map (·.size) = some b.length := by rw [size_block, hb]
  have hlc := hc.lt
  obtain ⟨h1, h2, h3, h4⟩ := threeO w (.cells #[.pointer (some ⟨gc, 0, none⟩)] 70) b z16 24 24
  have HS0 := Lib.hid (show BS w w.heap.size gc (w.heap.size + 1) (w.heap.size + 1 + 1) kk b _ from ⟨h4, h2, h3, by simp [World.cell?, h1], hc.grown h4⟩)
  clear h1 h2 h3 h4 hc
  unfold aggB
  go_enter Try.func47, Try.ntmps47
  go_upto_region 1 with fail
  refine wp_regionT (BS w w.heap.size gc (w.heap.size + 1) (w.heap.size + 1 + 1) kk b) 7 (by kernel_rfl) (HS0.out.grown (grownBy_d1 (World.grownBy.refl _ _))) ?_
  have hk0 := keyAt_len hk (n := 0) (by omega)
  obtain ⟨k0, hk0e⟩ : ∃ q, q = keyAt kk 0 := ⟨_, rfl⟩
  rw [← hk0e] at hk0
  have hi3 : (Try.prog.info? 24).map (·.size) = some k0.length := by rw [size_block, hk0]
  have HW0 := Lib.hid (fun w1 : World => with_n b k0 hb hk0 w1)
  refine wpT_take 0 (oi := { dst := some 9, op := Op.load 24 (Operand.tmp 4), type := 24, pos := "aes.go:188", after := #[], guard := none }) (oL := { dst := none, op := Op.store 24 (Operand.tmp 4) (Operand.tmp 15), type := 0, pos := "aes.go:188", after := #[{ on := 6, ground := Ground.data }, { on := 6, ground := Ground.chain }, { on := 0, ground := Ground.phase }, { on := 1, ground := Ground.phase }, { on := 2, ground := Ground.phase }, { on := 3, ground := Ground.phase }, { on := 4, ground := Ground.phase }, { on := 5, ground := Ground.phase }, { on := 6, ground := Ground.phase }], guard := none }) rfl rfl rfl (by kernel_rfl) (by kernel_rfl) (by kernel_rfl) (by kernel_rfl) (by kernel_rfl) (fun _ _ _ h => h) (YS.rowM (by rfl) _ _ rfl _ _ rfl b _ (fun _ h => h.2.1.range) Try.underlying24 rfl hi2) ?_
  simp only [Act.put, List.setIfInBounds_toArray, List.set_cons_zero, List.set_cons_succ]
  refine wpT_take 1 (v := .pointer (some ⟨gc, 0, none⟩)) (oi := { dst := some 10, op := Op.load 70 (Operand.tmp 3), type := 70, pos := "aes.go:188", after := #[], guard := none }) (oL := { dst := none, op := Op.store 24 (Operand.tmp 4) (Operand.tmp 15), type := 0, pos := "aes.go:188", after := #[{ on := 6, ground := Ground.data }, { on := 6, ground := Ground.chain }, { on := 0, ground := Ground.phase }, { on := 1, ground := Ground.phase }, { on := 2, ground := Ground.phase }, { on := 3, ground := Ground.phase }, { on := 4, ground := Ground.phase }, { on := 5, ground := Ground.phase }, { on := 6, ground := Ground.phase }], guard := none }) rfl rfl rfl (by kernel_rfl) (by kernel_rfl) (by kernel_rfl) (by kernel_rfl) (by kernel_rfl) (fun _ _ _ h => h) (YS.val (by rfl) (fun w hS => by have h := hS.2.2.2.1; go_simp)) ?_
  simp only [Act.put, List.setIfInBounds_toArray, List.set_cons_zero, List.set_cons_succ]
  refine wpT_take 2 (v := .pointer (some ⟨gc, 0, none⟩)) (oi := { dst := some 11, op := Op.nilCheck (Operand.tmp 10), type := 0, pos := "aes.go:188", after := #[{ on := 1, ground := Ground.data }], guard := none }) (oL := { dst := none, op := Op.store 24 (Operand.tmp 4) (Operand.tmp 15), type := 0, pos := "aes.go:188", after := #[{ on := 6, ground := Ground.data }, { on := 6, ground := Ground.chain }, { on := 0, ground := Ground.phase }, { on := 1, ground := Ground.phase }, { on := 2, ground := Ground.phase }, { on := 3, ground := Ground.phase }, { on := 4, ground := Ground.phase }, { on := 5, ground := Ground.phase }, { on := 6, ground := Ground.phase }], guard := none }) rfl rfl rfl (by kernel_rfl) (by kernel_rfl) (by kernel_rfl) (by kernel_rfl) (by kernel_rfl) (fun _ _ _ h => h) (YS.val (by rfl) (fun w _ => by go_simp)) ?_
  simp only [Act.put, List.setIfInBounds_toArray, List.set_cons_zero, List.set_cons_succ]
  refine wpT_take 3 (v := .pointer (some ⟨gc, 1, none⟩)) (oi := { dst := some 12, op := Op.fieldAddr 81 (Operand.tmp 11) 1, type := 0, pos := "aes.go:188", after := #[{ on := 2, ground := Ground.data }], guard := none }) (oL := { dst := none, op := Op.store 24 (Operand.tmp 4) (Operand.tmp 15), type := 0, pos := "aes.go:188", after := #[{ on := 6, ground := Ground.data }, { on := 6, ground := Ground.chain }, { on := 0, ground := Ground.phase }, { on := 1, ground := Ground.phase }, { on := 2, ground := Ground.phase }, { on := 3, ground := Ground.phase }, { on := 4, ground := Ground.phase }, { on := 5, ground := Ground.phase }, { on := 6, ground := Ground.phase }], guard := none }) rfl rfl rfl (by kernel_rfl) (by kernel_rfl) (by kernel_rfl) (by kernel_rfl) (by kernel_rfl) (fun _ _ _ h => h) (YS.val (by rfl) (fun w _ => by go_simp)) ?_
  simp only [Act.put, List.setIfInBounds_toArray, List.set_cons_zero, List.set_cons_succ]
  refine wpT_take 4 (v := .pointer (some ⟨gc, 1, none⟩)) (oi := { dst := some 13, op := Op.indexAddr 79 (Operand.tmp 12) (Operand.const (Value.int IntKind.i64 0)), type := 0, pos := "aes.go:188", after := #[{ on := 3, ground := Ground.data }], guard := none }) (oL := { dst := none, op := Op.store 24 (Operand.tmp 4) (Operand.tmp 15), type := 0, pos := "aes.go:188", after := #[{ on := 6, ground := Ground.data }, { on := 6, ground := Ground.chain }, { on := 0, ground := Ground.phase }, { on := 1, ground := Ground.phase }, { on := 2, ground := Ground.phase }, { on := 3, ground := Ground.phase }, { on := 4, ground := Ground.phase }, { on := 5, ground := Ground.phase }, { on := 6, ground := Ground.phase }], guard := none }) rfl rfl rfl (by kernel_rfl) (by kernel_rfl) (by kernel_rfl) (by kernel_rfl) (by kernel_rfl) (fun _ _ _ h => h) (YS.val (by rfl) (fun w _ => by go_simp)) ?_
  simp only [Act.put, List.setIfInBounds_toArray, List.set_cons_zero, List.set_cons_succ]
  refine wpT_take 5 (oi := { dst := some 14, op := Op.load 24 (Operand.tmp 13), type := 24, pos := "aes.go:188", after := #[{ on := 4, ground := Ground.data }], guard := none }) (oL := { dst := none, op := Op.store 24 (Operand.tmp 4) (Operand.tmp 15), type := 0, pos := "aes.go:188", after := #[{ on := 6, ground := Ground.data }, { on := 6, ground := Ground.chain }, { on := 0, ground := Ground.phase }, { on := 1, ground := Ground.phase }, { on := 2, ground := Ground.phase }, { on := 3, ground := Ground.phase }, { on := 4, ground := Ground.phase }, { on := 5, ground := Ground.phase }, { on := 6, ground := Ground.phase }], guard := none }) rfl rfl rfl (by kernel_rfl) (by kernel_rfl) (by kernel_rfl) (by kernel_rfl) (by kernel_rfl) (fun _ _ _ h => h) (YS.rowM (by rfl) _ _ rfl gc 1 rfl k0 _ (fun _ h => by rw [hk0e]; exact h.2.2.2.2.key 0) Try.underlying24 rfl hi3) ?_
  simp only [Act.put, List.setIfInBounds_toArray, List.set_cons_zero, List.set_cons_succ]
  refine wpT_take 6 (v := .agg (cellsB (xorL b k0))) (oi := { dst := some 15, op := Op.call { callee := Callee.value (Operand.func 53), args := #[Operand.tmp 9, Operand.tmp 14], argTypes := #[24, 24] }, type := 24, pos := "aes.go:188", after := #[{ on := 0, ground := Ground.data }, { on := 5, ground := Ground.data }], guard := none }) (oL := { dst := none, op := Op.store 24 (Operand.tmp 4) (Operand.tmp 15), type := 0, pos := "aes.go:188", after := #[{ on := 6, ground := Ground.data }, { on := 6, ground := Ground.chain }, { on := 0, ground := Ground.phase }, { on := 1, ground := Ground.phase }, { on := 2, ground := Ground.phase }, { on := 3, ground := Ground.phase }, { on := 4, ground := Ground.phase }, { on := 5, ground := Ground.phase }, { on := 6, ground := Ground.phase }], guard := none }) rfl rfl rfl (by kernel_rfl) (by kernel_rfl) (by kernel_rfl) (by kernel_rfl) (by kernel_rfl) (fun _ _ _ h => h) (YS.grow (f := 53) (args := #[.agg (cellsB b), .agg (cellsB k0)]) (by rfl) (fun w => by go_simp) (fun _ _ h hg => h.grown hg) HW0.out) ?_
  simp only [Act.put, List.setIfInBounds_toArray, List.set_cons_zero, List.set_cons_succ]
  refine wpT_last rfl (by kernel_rfl) (by kernel_rfl) (by rfl) (fun w2 hS K hK => ?_)
  have hx0 := xorL_len hb hk0
  refine wp_store_row 24 _ _ rfl (w.heap.size + 1) (cellsB (xorL b k0)) rfl rfl 24 _ hS.2.1 (by rw [size_block, cellsB_size, hx0]) (by rw [cellsB_size, cellsB_size, hb, hx0]) (cellsB_one _) (hK _ _ ?_)
  have hS1 := hS.row (xorL b k0) (by omega) (by omega) (by omega) (by omega)
  have e0 : encS kk b 0 = xorL b k0 := by rw [hk0e]; rfl
  rw [← e0] at hS1 ⊢
  obtain ⟨W, hW⟩ : ∃ W, W = w2.setRow (w.heap.size + 1) (cellsB (encS kk b 0)) := ⟨_, rfl⟩
  rw [← hW] at hS1 ⊢
  obtain ⟨E, hE⟩ : ∃ E : Nat → List UInt8, E = encS kk b := ⟨_, rfl⟩
  rw [← hE] at hS1 e0 ⊢
  have hEl : ∀ n, n ≤ 10 → (E n).length = 16 := fun n hn => by rw [hE]; exact encS_len hk hb n hn
  have hEs : ∀ n, E (n + 1) = xorL (trL (if n + 1 < 10 then mixL [2, 3, 1, 1] (shL ((trL (E n)).map asub)) else shL ((trL (E n)).map asub))) (keyAt kk (n + 1)) := fun n => by rw [hE]; rfl
  have HS1 := Lib.hid hS1
  have HES := Lib.hid hEs
  have HEL := Lib.hid hEl
  rw [e0]
  have HE := Lib.hid hE
  clear e0 hS1 hW hS hE hEs hEl hx0
  go_wp2_with fail
  go_loopw [7] (fun vi wr => ∃ n : Nat, 1 ≤ n ∧ n ≤ R + 1 ∧ vi = .int .i64 n ∧ BS w w.heap.size gc (w.heap.size + 1) (w.heap.size + 1 + 1) kk (E (n - 1)) wr) (fun vi _ => 12 - (intOf vi).toNat)
  case atStart => exact ⟨1, by omega, by omega, rfl, HS1.out⟩
  case round =>
    clear HS1 HS0
    obtain ⟨n, hn1, hn, rfl, hS⟩ := hrel
    by_cases hlt : n ≤ R
    · have hES := HES.out (n - 1)
      rw [show n - 1 + 1 = n by omega] at hES
      have hxl := HEL.out (n - 1) (by omega)
      obtain ⟨x, hx⟩ : ∃ x, x = E (n - 1) := ⟨_, rfl⟩
      rw [← hx] at hES hxl hS
      obtain ⟨s1, hs1⟩ : ∃ s, s = shL ((trL x).map asub) := ⟨_, rfl⟩
      have hs1l : s1.length = 16 := by rw [hs1]; exact shL_len (map_len asub (trL_len hxl))
      rw [← hs1] at hES
      obtain ⟨kn, hkn⟩ : ∃ q, q = keyAt kk n := ⟨_, rfl⟩
      have hknl : kn.length = 16 := by rw [hkn]; exact keyAt_len hk (by omega)
      rw [← hkn] at hES
      have HESN := Lib.hid hES
      have HSX := Lib.hid hS
      have HKN := Lib.hid hkn
      have HSH := Lib.hid (fun w1 : World => by have h := shift_n ((trL x).map asub) (map_len asub (trL_len hxl)) w1; rw [← hs1] at h; exact h)
      have hmf : ∀ (fn : Fn) (first cap : Array Value) (w : World), (Instr.makeFunc fn first cap).run Try.prog w = .ok (.func fn first cap) w := fun _ _ _ _ => rfl
      have n11 : (n : Int) < 11 := by omega
      have hltc := hS.2.2.2.lt
      clear hES hS hx hs1 hkn
      go_wp2_with (refine wpList_load_row rfl 24 _ rfl (w.heap.size + 1) rfl 24 (cellsB x) (0, 0) _ HSX.out.2.1 Try.underlying24 rfl (by rw [size_block, cellsB_size, hxl]) ?_)
      refine (spread_n x hxl _).mono ?_
      rintro e w1 ⟨rfl, hg1⟩
      have HSY := Lib.hid (HSX.out.grown hg1)
      clear HSX hg1
      unfold aggB
      go_wp2_with fail
      refine (eachC_n (trL x) (trL_len hxl) _ w.heap.size gc kk HSY.out.2.2.2).mono ?_
      rintro e w2 ⟨rfl, hg2⟩
      have HSZ := Lib.hid (HSY.out.grown hg2)
      clear HSY hg2
      unfold aggB
      go_wp2_with fail
      refine (HSH.out _).mono ?_
      rintro e w3 ⟨rfl, hg3⟩
      have hS3 := HSZ.out.grown hg3
      clear HSZ hg3 HSH
      unfold aggB
      have hn8 := Blk.new w3 95 z16
      have gn := World.grownBy_alloc w3 (.cells (cellsB z16) 95) none
      obtain ⟨lt3a, lt3b⟩ := hS3.2.2.2.lt
      have lt3c := hS3.2.1.lt
      have lt3d := hS3.2.2.1.lt
      obtain ⟨W4, hW4⟩ : ∃ W, W = (w3.alloc (.cells #[.int .u8 0, .int .u8 0, .int .u8 0, .int .u8 0, .int .u8 0, .int .u8 0, .int .u8 0, .int .u8 0, .int .u8 0, .int .u8 0, .int .u8 0, .int .u8 0, .int .u8 0, .int .u8 0, .int .u8 0, .int .u8 0] 95)).setRow w3.heap.size (cellsB s1) := ⟨_, rfl⟩
      have HN8 := Lib.hid hn8
      have HS4 := Lib.hid (show BS w w.heap.size gc (w.heap.size + 1) (w.heap.size + 1 + 1) kk x W4 from hW4 ▸ (hS3.grown gn).new w3.heap.size _ (by omega) (by omega) (by omega) (by omega) (by omega))
      have HB4 := Lib.hid (show Blk W4 w3.heap.size 95 s1 from hW4 ▸ hn8.row s1)
      have hi2' : (Try.prog.info? 24).map (·.size) = some kn.length := by rw [size_block, hknl]
      clear hS3 hn8 gn
      by_cases h10 : n < 10
      · obtain ⟨m1, hm1⟩ : ∃ s, s = mixL [2, 3, 1, 1] s1 := ⟨_, rfl⟩
        have hm1l : m1.length = 16 := by rw [hm1]; exact mixL_len rfl hs1l
        have HQ := Lib.hid (fun w1 : World => by have h := quick_n s1 hs1l w1; rw [← hm1] at h; exact h)
        have hEN : E n = xorL (trL m1) kn := by rw [HESN.out, if_pos h10, hm1]
        have HEN := Lib.hid hEN
        clear hm1 hEN
        have h10' : (n : Int) < 10 := by omega
        have h10d : decide ((n : Int) < 10) = true := by simp; omega
        go_wp2_with (first | (refine wpList_store_row rfl 95 _ _ rfl w3.heap.size (cellsB s1) rfl rfl 95 _ HN8.out (by rw [size_state, cellsB_size, hs1l]) (by rw [cellsB_size, cellsB_size, hs1l]; rfl) (cellsB_one _) ?_) | (rw [← hW4]; refine wpList_load_row rfl 95 _ rfl w3.heap.size rfl 95 (cellsB s1) (0, 0) _ HB4.out Try.underlying95 rfl (by rw [size_state, cellsB_size, hs1l]) ?_))
        refine (HQ.out _).mono ?_
        rintro e w5 ⟨rfl, hg5⟩
        rw [← hW4] at hg5
        have hS5 := HS4.out.grown hg5
        have hB5 := HB4.out.grown hg5 (by simp)
        have HB5 := Lib.hid hB5
        obtain ⟨W6, hW6⟩ : ∃ W, W = w5.setRow w3.heap.size (cellsB m1) := ⟨_, rfl⟩
        have HS6 := Lib.hid (show BS w w.heap.size gc (w.heap.size + 1) (w.heap.size + 1 + 1) kk x W6 from hW6 ▸ hS5.new w3.heap.size _ (by omega) (by omega) (by omega) (by omega) (by omega))
        have HB6 := Lib.hid (show Blk W6 w3.heap.size 95 m1 from hW6 ▸ hB5.row m1)
        clear hS5 hB5 hg5 HS4 HB4
        unfold aggB
        go_wp2_with (refine wpList_store_row rfl 95 _ _ rfl w3.heap.size (cellsB m1) rfl rfl 95 _ HB5.out (by rw [size_state, cellsB_size, hm1l]) (by rw [cellsB_size, cellsB_size, hm1l, hs1l]) (cellsB_one _) ?_)
        rw [← hW6]
        go_upto_region 8 with fail
        have HGA := Lib.hid (fun w1 : World => gather_n m1 hm1l w1)
        have HWI := Lib.hid (fun w1 : World => with_n (trL m1) kn (trL_len hm1l) hknl w1)
        have hi4 : (Try.prog.info? 95).map (·.size) = some m1.length := by rw [size_state, hm1l]
        refine wp_regionT (fun w' => BS w w.heap.size gc (w.heap.size + 1) (w.heap.size + 1 + 1) kk x w' ∧ Blk w' w3.heap.size 95 m1) 9 (by kernel_rfl) ⟨HS6.out.grown (grownBy_d1 (World.grownBy.refl _ _)), HB6.out.dr⟩ ?_
        refine wpT_take 0 (oi := { dst := some 30, op := Op.load 95 (Operand.tmp 8), type := 95, pos := "aes.go:194", after := #[], guard := none }) (oL := { dst := none, op := Op.store 24 (Operand.tmp 4) (Operand.tmp 38), type := 0, pos := "aes.go:194", after := #[{ on := 8, ground := Ground.data }, { on := 8, ground := Ground.chain }, { on := 0, ground := Ground.phase }, { on := 1, ground := Ground.phase }, { on := 2, ground := Ground.phase }, { on := 3, ground := Ground.phase }, { on := 4, ground := Ground.phase }, { on := 5, ground := Ground.phase }, { on := 6, ground := Ground.phase }, { on := 7, ground := Ground.phase }, { on := 8, ground := Ground.phase }], guard := none }) rfl rfl rfl (by kernel_rfl) (by kernel_rfl) (by kernel_rfl) (by kernel_rfl) (by kernel_rfl) (fun _ _ _ h => h) (YS.rowM (by rfl) _ _ rfl _ _ rfl m1 _ (fun _ h => h.2.range) Try.underlying95 rfl hi4) ?_
        simp only [Act.put, List.setIfInBounds_toArray, List.set_cons_zero, List.set_cons_succ]
        refine wpT_take 1 (v := .agg (cellsB (trL m1))) (oi := { dst := some 31, op := Op.call { callee := Callee.value (Operand.func 59), args := #[Operand.tmp 30], argTypes := #[95] }, type := 24, pos := "aes.go:194", after := #[{ on := 0, ground := Ground.data }], guard := none }) (oL := { dst := none, op := Op.store 24 (Operand.tmp 4) (Operand.tmp 38), type := 0, pos := "aes.go:194", after := #[{ on := 8, ground := Ground.data }, { on := 8, ground := Ground.chain }, { on := 0, ground := Ground.phase }, { on := 1, ground := Ground.phase }, { on := 2, ground := Ground.phase }, { on := 3, ground := Ground.phase }, { on := 4, ground := Ground.phase }, { on := 5, ground := Ground.phase }, { on := 6, ground := Ground.phase }, { on := 7, ground := Ground.phase }, { on := 8, ground := Ground.phase }], guard := none }) rfl rfl rfl (by kernel_rfl) (by kernel_rfl) (by kernel_rfl) (by kernel_rfl) (by kernel_rfl) (fun _ _ _ h => h) (YS.grow (f := 59) (args := #[.agg (cellsB m1)]) (by rfl) (fun w => by go_simp) (fun _ _ h hg => ⟨h.1.grown hg, h.2.grown hg (by simp)⟩) HGA.out) ?_
        simp only [Act.put, List.setIfInBounds_toArray, List.set_cons_zero, List.set_cons_succ]
        refine wpT_take 2 (v := .pointer (some ⟨gc, 0, none⟩)) (oi := { dst := some 32, op := Op.load 70 (Operand.tmp 3), type := 70, pos := "aes.go:194", after := #[], guard := none }) (oL := { dst := none, op := Op.store 24 (Operand.tmp 4) (Operand.tmp 38), type := 0, pos := "aes.go:194", after := #[{ on := 8, ground := Ground.data }, { on := 8, ground := Ground.chain }, { on := 0, ground := Ground.phase }, { on := 1, ground := Ground.phase }, { on := 2, ground := Ground.phase }, { on := 3, ground := Ground.phase }, { on := 4, ground := Ground.phase }, { on := 5, ground := Ground.phase }, { on := 6, ground := Ground.phase }, { on := 7, ground := Ground.phase }, { on := 8, ground := Ground.phase }], guard := none }) rfl rfl rfl (by kernel_rfl) (by kernel_rfl) (by kernel_rfl) (by kernel_rfl) (by kernel_rfl) (fun _ _ _ h => h) (YS.val (by rfl) (fun w hS => by have h := hS.1.2.2.2.1; go_simp)) ?_
        simp only [Act.put, List.setIfInBounds_toArray, List.set_cons_zero, List.set_cons_succ]
        refine wpT_take 3 (oi := { dst := some 33, op := Op.move (Operand.tmp 7), type := 3, pos := "aes.go:194", after := #[], guard := none }) (oL := { dst := none, op := Op.store 24 (Operand.tmp 4) (Operand.tmp 38), type := 0, pos := "aes.go:194", after := #[{ on := 8, ground := Ground.data }, { on := 8, ground := Ground.chain }, { on := 0, ground := Ground.phase }, { on := 1, ground := Ground.phase }, { on := 2, ground := Ground.phase }, { on := 3, ground := Ground.phase }, { on := 4, ground := Ground.phase }, { on := 5, ground := Ground.phase }, { on := 6, ground := Ground.phase }, { on := 7, ground := Ground.phase }, { on := 8, ground := Ground.phase }], guard := none }) rfl rfl rfl (by kernel_rfl) (by kernel_rfl) (by kernel_rfl) (by kernel_rfl) (by kernel_rfl) (fun _ _ _ h => h) (YS.val (by rfl) (fun _ _ => rfl)) ?_
        simp only [Act.put, List.setIfInBounds_toArray, List.set_cons_zero, List.set_cons_succ]
        refine wpT_take 4 (v := .pointer (some ⟨gc, 0, none⟩)) (oi := { dst := some 34, op := Op.nilCheck (Operand.tmp 32), type := 0, pos := "aes.go:194", after := #[{ on := 2, ground := Ground.data }], guard := none }) (oL := { dst := none, op := Op.store 24 (Operand.tmp 4) (Operand.tmp 38), type := 0, pos := "aes.go:194", after := #[{ on := 8, ground := Ground.data }, { on := 8, ground := Ground.chain }, { on := 0, ground := Ground.phase }, { on := 1, ground := Ground.phase }, { on := 2, ground := Ground.phase }, { on := 3, ground := Ground.phase }, { on := 4, ground := Ground.phase }, { on := 5, ground := Ground.phase }, { on := 6, ground := Ground.phase }, { on := 7, ground := Ground.phase }, { on := 8, ground := Ground.phase }], guard := none }) rfl rfl rfl (by kernel_rfl) (by kernel_rfl) (by kernel_rfl) (by kernel_rfl) (by kernel_rfl) (fun _ _ _ h => h) (YS.val (by rfl) (fun w _ => by go_simp)) ?_
        simp only [Act.put, List.setIfInBounds_toArray, List.set_cons_zero, List.set_cons_succ]
        refine wpT_take 5 (v := .pointer (some ⟨gc, 1, none⟩)) (oi := { dst := some 35, op := Op.fieldAddr 81 (Operand.tmp 34) 1, type := 0, pos := "aes.go:194", after := #[{ on := 4, ground := Ground.data }], guard := none }) (oL := { dst := none, op := Op.store 24 (Operand.tmp 4) (Operand.tmp 38), type := 0, pos := "aes.go:194", after := #[{ on := 8, ground := Ground.data }, { on := 8, ground := Ground.chain }, { on := 0, ground := Ground.phase }, { on := 1, ground := Ground.phase }, { on := 2, ground := Ground.phase }, { on := 3, ground := Ground.phase }, { on := 4, ground := Ground.phase }, { on := 5, ground := Ground.phase }, { on := 6, ground := Ground.phase }, { on := 7, ground := Ground.phase }, { on := 8, ground := Ground.phase }], guard := none }) rfl rfl rfl (by kernel_rfl) (by kernel_rfl) (by kernel_rfl) (by kernel_rfl) (by kernel_rfl) (fun _ _ _ h => h) (YS.val (by rfl) (fun w _ => by go_simp)) ?_
        simp only [Act.put, List.setIfInBounds_toArray, List.set_cons_zero, List.set_cons_succ]
        refine wpT_take 6 (v := .pointer (some ⟨gc, 1 + n * 16, none⟩)) (oi := { dst := some 36, op := Op.indexAddr 79 (Operand.tmp 35) (Operand.tmp 33), type := 0, pos := "aes.go:194", after := #[{ on := 5, ground := Ground.data }, { on := 3, ground := Ground.data }], guard := none }) (oL := { dst := none, op := Op.store 24 (Operand.tmp 4) (Operand.tmp 38), type := 0, pos := "aes.go:194", after := #[{ on := 8, ground := Ground.data }, { on := 8, ground := Ground.chain }, { on := 0, ground := Ground.phase }, { on := 1, ground := Ground.phase }, { on := 2, ground := Ground.phase }, { on := 3, ground := Ground.phase }, { on := 4, ground := Ground.phase }, { on := 5, ground := Ground.phase }, { on := 6, ground := Ground.phase }, { on := 7, ground := Ground.phase }, { on := 8, ground := Ground.phase }], guard := none }) rfl rfl rfl (by kernel_rfl) (by kernel_rfl) (by kernel_rfl) (by kernel_rfl) (by kernel_rfl) (fun _ _ _ h => h) (YS.val (by rfl) (fun w _ => by go_simp)) ?_
        simp only [Act.put, List.setIfInBounds_toArray, List.set_cons_zero, List.set_cons_succ]
        refine wpT_take 7 (oi := { dst := some 37, op := Op.load 24 (Operand.tmp 36), type := 24, pos := "aes.go:194", after := #[{ on := 6, ground := Ground.data }], guard := none }) (oL := { dst := none, op := Op.store 24 (Operand.tmp 4) (Operand.tmp 38), type := 0, pos := "aes.go:194", after := #[{ on := 8, ground := Ground.data }, { on := 8, ground := Ground.chain }, { on := 0, ground := Ground.phase }, { on := 1, ground := Ground.phase }, { on := 2, ground := Ground.phase }, { on := 3, ground := Ground.phase }, { on := 4, ground := Ground.phase }, { on := 5, ground := Ground.phase }, { on := 6, ground := Ground.phase }, { on := 7, ground := Ground.phase }, { on := 8, ground := Ground.phase }], guard := none }) rfl rfl rfl (by kernel_rfl) (by kernel_rfl) (by kernel_rfl) (by kernel_rfl) (by kernel_rfl) (fun _ _ _ h => h) (YS.rowM (by rfl) _ _ rfl gc (1 + n * 16) rfl kn _ (fun _ h => by rw [HKN.out]; exact h.1.2.2.2.2.key n) Try.underlying24 rfl hi2') ?_
        simp only [Act.put, List.setIfInBounds_toArray, List.set_cons_zero, List.set_cons_succ]
        refine wpT_take 8 (v := .agg (cellsB (xorL (trL m1) kn))) (oi := { dst := some 38, op := Op.call { callee := Callee.value (Operand.func 53), args := #[Operand.tmp 31, Operand.tmp 37], argTypes := #[24, 24] }, type := 24, pos := "aes.go:194", after := #[{ on := 1, ground := Ground.data }, { on := 7, ground := Ground.data }, { on := 1, ground := Ground.chain }], guard := none }) (oL := { dst := none, op := Op.store 24 (Operand.tmp 4) (Operand.tmp 38), type := 0, pos := "aes.go:194", after := #[{ on := 8, ground := Ground.data }, { on := 8, ground := Ground.chain }, { on := 0, ground := Ground.phase }, { on := 1, ground := Ground.phase }, { on := 2, ground := Ground.phase }, { on := 3, ground := Ground.phase }, { on := 4, ground := Ground.phase }, { on := 5, ground := Ground.phase }, { on := 6, ground := Ground.phase }, { on := 7, ground := Ground.phase }, { on := 8, ground := Ground.phase }], guard := none }) rfl rfl rfl (by kernel_rfl) (by kernel_rfl) (by kernel_rfl) (by kernel_rfl) (by kernel_rfl) (fun _ _ _ h => h) (YS.grow (f := 53) (args := #[.agg (cellsB (trL m1)), .agg (cellsB kn)]) (by rfl) (fun w => by go_simp) (fun _ _ h hg => ⟨h.1.grown hg, h.2.grown hg (by simp)⟩) HWI.out) ?_
        simp only [Act.put, List.setIfInBounds_toArray, List.set_cons_zero, List.set_cons_succ]
        refine wpT_last rfl (by kernel_rfl) (by kernel_rfl) (by rfl) (fun w7 hS7 K hK => ?_)
        have hxl2 := xorL_len (trL_len hm1l) hknl
        refine wp_store_row 24 _ _ rfl (w.heap.size + 1) (cellsB (xorL (trL m1) kn)) rfl rfl 24 _ hS7.1.2.1 (by rw [size_block, cellsB_size, hxl2]) (by rw [cellsB_size, cellsB_size, hxl, hxl2]) (cellsB_one _) (hK _ _ ?_)
        have hS8 := hS7.1.row (xorL (trL m1) kn) (by omega) (by omega) (by omega) (by omega)
        rw [← HEN.out] at hS8 ⊢
        obtain ⟨W8, hW8⟩ : ∃ W, W = w7.setRow (w.heap.size + 1) (cellsB (E n)) := ⟨_, rfl⟩
        rw [← hW8] at hS8 ⊢
        have HS8 := Lib.hid hS8
        clear hS8 hW8 hS7
        go_wp2_with fail
        go_roundw
        case rel => exact ⟨n + 1, by omega, by omega, by go_num, by rw [show n + 1 - 1 = n by omega]; exact HS8.out⟩
        case measure => simp [intOf]; omega
      · have hEN : E n = xorL (trL s1) kn := by rw [HESN.out, if_neg h10]
        have HEN := Lib.hid hEN
        clear hEN
        have h10' : ¬ (n : Int) < 10 := by omega
        have h10d : decide ((n : Int) < 10) = false := by simp; omega
        go_wp2_with (refine wpList_store_row rfl 95 _ _ rfl w3.heap.size (cellsB s1) rfl rfl 95 _ HN8.out (by rw [size_state, cellsB_size, hs1l]) (by rw [cellsB_size, cellsB_size, hs1l]; rfl) (cellsB_one _) ?_)
        rw [← hW4]
        go_upto_region 8 with fail
        have HGA := Lib.hid (fun w1 : World => gather_n s1 hs1l w1)
        have HWI := Lib.hid (fun w1 : World => with_n (trL s1) kn (trL_len hs1l) hknl w1)
        have hi4 : (Try.prog.info? 95).map (·.size) = some s1.length := by rw [size_state, hs1l]
        refine wp_regionT (fun w' => BS w w.heap.size gc (w.heap.size + 1) (w.heap.size + 1 + 1) kk x w' ∧ Blk w' w3.heap.size 95 s1) 9 (by kernel_rfl) ⟨HS4.out.grown (grownBy_d1 (World.grownBy.refl _ _)), HB4.out.dr⟩ ?_
        refine wpT_take 0 (oi := { dst := some 30, op := Op.load 95 (Operand.tmp 8), type := 95, pos := "aes.go:194", after := #[], guard := none }) (oL := { dst := none, op := Op.store 24 (Operand.tmp 4) (Operand.tmp 38), type := 0, pos := "aes.go:194", after := #[{ on := 8, ground := Ground.data }, { on := 8, ground := Ground.chain }, { on := 0, ground := Ground.phase }, { on := 1, ground := Ground.phase }, { on := 2, ground := Ground.phase }, { on := 3, ground := Ground.phase }, { on := 4, ground := Ground.phase }, { on := 5, ground := Ground.phase }, { on := 6, ground := Ground.phase }, { on := 7, ground := Ground.phase }, { on := 8, ground := Ground.phase }], guard := none }) rfl rfl rfl (by kernel_rfl) (by kernel_rfl) (by kernel_rfl) (by kernel_rfl) (by kernel_rfl) (fun _ _ _ h => h) (YS.rowM (by rfl) _ _ rfl _ _ rfl s1 _ (fun _ h => h.2.range) Try.underlying95 rfl hi4) ?_
        simp only [Act.put, List.setIfInBounds_toArray, List.set_cons_zero, List.set_cons_succ]
        refine wpT_take 1 (v := .agg (cellsB (trL s1))) (oi := { dst := some 31, op := Op.call { callee := Callee.value (Operand.func 59), args := #[Operand.tmp 30], argTypes := #[95] }, type := 24, pos := "aes.go:194", after := #[{ on := 0, ground := Ground.data }], guard := none }) (oL := { dst := none, op := Op.store 24 (Operand.tmp 4) (Operand.tmp 38), type := 0, pos := "aes.go:194", after := #[{ on := 8, ground := Ground.data }, { on := 8, ground := Ground.chain }, { on := 0, ground := Ground.phase }, { on := 1, ground := Ground.phase }, { on := 2, ground := Ground.phase }, { on := 3, ground := Ground.phase }, { on := 4, ground := Ground.phase }, { on := 5, ground := Ground.phase }, { on := 6, ground := Ground.phase }, { on := 7, ground := Ground.phase }, { on := 8, ground := Ground.phase }], guard := none }) rfl rfl rfl (by kernel_rfl) (by kernel_rfl) (by kernel_rfl) (by kernel_rfl) (by kernel_rfl) (fun _ _ _ h => h) (YS.grow (f := 59) (args := #[.agg (cellsB s1)]) (by rfl) (fun w => by go_simp) (fun _ _ h hg => ⟨h.1.grown hg, h.2.grown hg (by simp)⟩) HGA.out) ?_
        simp only [Act.put, List.setIfInBounds_toArray, List.set_cons_zero, List.set_cons_succ]
        refine wpT_take 2 (v := .pointer (some ⟨gc, 0, none⟩)) (oi := { dst := some 32, op := Op.load 70 (Operand.tmp 3), type := 70, pos := "aes.go:194", after := #[], guard := none }) (oL := { dst := none, op := Op.store 24 (Operand.tmp 4) (Operand.tmp 38), type := 0, pos := "aes.go:194", after := #[{ on := 8, ground := Ground.data }, { on := 8, ground := Ground.chain }, { on := 0, ground := Ground.phase }, { on := 1, ground := Ground.phase }, { on := 2, ground := Ground.phase }, { on := 3, ground := Ground.phase }, { on := 4, ground := Ground.phase }, { on := 5, ground := Ground.phase }, { on := 6, ground := Ground.phase }, { on := 7, ground := Ground.phase }, { on := 8, ground := Ground.phase }], guard := none }) rfl rfl rfl (by kernel_rfl) (by kernel_rfl) (by kernel_rfl) (by kernel_rfl) (by kernel_rfl) (fun _ _ _ h => h) (YS.val (by rfl) (fun w hS => by have h := hS.1.2.2.2.1; go_simp)) ?_
        simp only [Act.put, List.setIfInBounds_toArray, List.set_cons_zero, List.set_cons_succ]
        refine wpT_take 3 (oi := { dst := some 33, op := Op.move (Operand.tmp 7), type := 3, pos := "aes.go:194", after := #[], guard := none }) (oL := { dst := none, op := Op.store 24 (Operand.tmp 4) (Operand.tmp 38), type := 0, pos := "aes.go:194", after := #[{ on := 8, ground := Ground.data }, { on := 8, ground := Ground.chain }, { on := 0, ground := Ground.phase }, { on := 1, ground := Ground.phase }, { on := 2, ground := Ground.phase }, { on := 3, ground := Ground.phase }, { on := 4, ground := Ground.phase }, { on := 5, ground := Ground.phase }, { on := 6, ground := Ground.phase }, { on := 7, ground := Ground.phase }, { on := 8, ground := Ground.phase }], guard := none }) rfl rfl rfl (by kernel_rfl) (by kernel_rfl) (by kernel_rfl) (by kernel_rfl) (by kernel_rfl) (fun _ _ _ h => h) (YS.val (by rfl) (fun _ _ => rfl)) ?_
        simp only [Act.put, List.setIfInBounds_toArray, List.set_cons_zero, List.set_cons_succ]
        refine wpT_take 4 (v := .pointer (some ⟨gc, 0, none⟩)) (oi := { dst := some 34, op := Op.nilCheck (Operand.tmp 32), type := 0, pos := "aes.go:194", after := #[{ on := 2, ground := Ground.data }], guard := none }) (oL := { dst := none, op := Op.store 24 (Operand.tmp 4) (Operand.tmp 38), type := 0, pos := "aes.go:194", after := #[{ on := 8, ground := Ground.data }, { on := 8, ground := Ground.chain }, { on := 0, ground := Ground.phase }, { on := 1, ground := Ground.phase }, { on := 2, ground := Ground.phase }, { on := 3, ground := Ground.phase }, { on := 4, ground := Ground.phase }, { on := 5, ground := Ground.phase }, { on := 6, ground := Ground.phase }, { on := 7, ground := Ground.phase }, { on := 8, ground := Ground.phase }], guard := none }) rfl rfl rfl (by kernel_rfl) (by kernel_rfl) (by kernel_rfl) (by kernel_rfl) (by kernel_rfl) (fun _ _ _ h => h) (YS.val (by rfl) (fun w _ => by go_simp)) ?_
        simp only [Act.put, List.setIfInBounds_toArray, List.set_cons_zero, List.set_cons_succ]
        refine wpT_take 5 (v := .pointer (some ⟨gc, 1, none⟩)) (oi := { dst := some 35, op := Op.fieldAddr 81 (Operand.tmp 34) 1, type := 0, pos := "aes.go:194", after := #[{ on := 4, ground := Ground.data }], guard := none }) (oL := { dst := none, op := Op.store 24 (Operand.tmp 4) (Operand.tmp 38), type := 0, pos := "aes.go:194", after := #[{ on := 8, ground := Ground.data }, { on := 8, ground := Ground.chain }, { on := 0, ground := Ground.phase }, { on := 1, ground := Ground.phase }, { on := 2, ground := Ground.phase }, { on := 3, ground := Ground.phase }, { on := 4, ground := Ground.phase }, { on := 5, ground := Ground.phase }, { on := 6, ground := Ground.phase }, { on := 7, ground := Ground.phase }, { on := 8, ground := Ground.phase }], guard := none }) rfl rfl rfl (by kernel_rfl) (by kernel_rfl) (by kernel_rfl) (by kernel_rfl) (by kernel_rfl) (fun _ _ _ h => h) (YS.val (by rfl) (fun w _ => by go_simp)) ?_
        simp only [Act.put, List.setIfInBounds_toArray, List.set_cons_zero, List.set_cons_succ]
        refine wpT_take 6 (v := .pointer (some ⟨gc, 1 + n * 16, none⟩)) (oi := { dst := some 36, op := Op.indexAddr 79 (Operand.tmp 35) (Operand.tmp 33), type := 0, pos := "aes.go:194", after := #[{ on := 5, ground := Ground.data }, { on := 3, ground := Ground.data }], guard := none }) (oL := { dst := none, op := Op.store 24 (Operand.tmp 4) (Operand.tmp 38), type := 0, pos := "aes.go:194", after := #[{ on := 8, ground := Ground.data }, { on := 8, ground := Ground.chain }, { on := 0, ground := Ground.phase }, { on := 1, ground := Ground.phase }, { on := 2, ground := Ground.phase }, { on := 3, ground := Ground.phase }, { on := 4, ground := Ground.phase }, { on := 5, ground := Ground.phase }, { on := 6, ground := Ground.phase }, { on := 7, ground := Ground.phase }, { on := 8, ground := Ground.phase }], guard := none }) rfl rfl rfl (by kernel_rfl) (by kernel_rfl) (by kernel_rfl) (by kernel_rfl) (by kernel_rfl) (fun _ _ _ h => h) (YS.val (by rfl) (fun w _ => by go_simp)) ?_
        simp only [Act.put, List.setIfInBounds_toArray, List.set_cons_zero, List.set_cons_succ]
        refine wpT_take 7 (oi := { dst := some 37, op := Op.load 24 (Operand.tmp 36), type := 24, pos := "aes.go:194", after := #[{ on := 6, ground := Ground.data }], guard := none }) (oL := { dst := none, op := Op.store 24 (Operand.tmp 4) (Operand.tmp 38), type := 0, pos := "aes.go:194", after := #[{ on := 8, ground := Ground.data }, { on := 8, ground := Ground.chain }, { on := 0, ground := Ground.phase }, { on := 1, ground := Ground.phase }, { on := 2, ground := Ground.phase }, { on := 3, ground := Ground.phase }, { on := 4, ground := Ground.phase }, { on := 5, ground := Ground.phase }, { on := 6, ground := Ground.phase }, { on := 7, ground := Ground.phase }, { on := 8, ground := Ground.phase }], guard := none }) rfl rfl rfl (by kernel_rfl) (by kernel_rfl) (by kernel_rfl) (by kernel_rfl) (by kernel_rfl) (fun _ _ _ h => h) (YS.rowM (by rfl) _ _ rfl gc (1 + n * 16) rfl kn _ (fun _ h => by rw [HKN.out]; exact h.1.2.2.2.2.key n) Try.underlying24 rfl hi2') ?_
        simp only [Act.put, List.setIfInBounds_toArray, List.set_cons_zero, List.set_cons_succ]
        refine wpT_take 8 (v := .agg (cellsB (xorL (trL s1) kn))) (oi := { dst := some 38, op := Op.call { callee := Callee.value (Operand.func 53), args := #[Operand.tmp 31, Operand.tmp 37], argTypes := #[24, 24] }, type := 24, pos := "aes.go:194", after := #[{ on := 1, ground := Ground.data }, { on := 7, ground := Ground.data }, { on := 1, ground := Ground.chain }], guard := none }) (oL := { dst := none, op := Op.store 24 (Operand.tmp 4) (Operand.tmp 38), type := 0, pos := "aes.go:194", after := #[{ on := 8, ground := Ground.data }, { on := 8, ground := Ground.chain }, { on := 0, ground := Ground.phase }, { on := 1, ground := Ground.phase }, { on := 2, ground := Ground.phase }, { on := 3, ground := Ground.phase }, { on := 4, ground := Ground.phase }, { on := 5, ground := Ground.phase }, { on := 6, ground := Ground.phase }, { on := 7, ground := Ground.phase }, { on := 8, ground := Ground.phase }], guard := none }) rfl rfl rfl (by kernel_rfl) (by kernel_rfl) (by kernel_rfl) (by kernel_rfl) (by kernel_rfl) (fun _ _ _ h => h) (YS.grow (f := 53) (args := #[.agg (cellsB (trL s1)), .agg (cellsB kn)]) (by rfl) (fun w => by go_simp) (fun _ _ h hg => ⟨h.1.grown hg, h.2.grown hg (by simp)⟩) HWI.out) ?_
        simp only [Act.put, List.setIfInBounds_toArray, List.set_cons_zero, List.set_cons_succ]
        refine wpT_last rfl (by kernel_rfl) (by kernel_rfl) (by rfl) (fun w7 hS7 K hK => ?_)
        have hxl2 := xorL_len (trL_len hs1l) hknl
        refine wp_store_row 24 _ _ rfl (w.heap.size + 1) (cellsB (xorL (trL s1) kn)) rfl rfl 24 _ hS7.1.2.1 (by rw [size_block, cellsB_size, hxl2]) (by rw [cellsB_size, cellsB_size, hxl, hxl2]) (cellsB_one _) (hK _ _ ?_)
        have hS8 := hS7.1.row (xorL (trL s1) kn) (by omega) (by omega) (by omega) (by omega)
        rw [← HEN.out] at hS8 ⊢
        obtain ⟨W8, hW8⟩ : ∃ W, W = w7.setRow (w.heap.size + 1) (cellsB (E n)) := ⟨_, rfl⟩
        rw [← hW8] at hS8 ⊢
        have HS8 := Lib.hid hS8
        clear hS8 hW8 hS7
        go_wp2_with fail
        go_roundw
        case rel => exact ⟨n + 1, by omega, by omega, by go_num, by rw [show n + 1 - 1 = n by omega]; exact HS8.out⟩
        case measure => simp [intOf]; omega
    · obtain rfl : n = R + 1 := by omega
      rw [show R + 1 - 1 = R by omega] at hS
      have hel := HEL.out R hR
      have HSF := Lib.hid hS
      obtain ⟨y, hy⟩ : ∃ y, y = E R := ⟨_, rfl⟩
      rw [← hy] at hel HSF
      have e10 : ((R + 1 : Nat) : Int) = (R : Int) + 1 := by omega
      rw [e10]
      have HY := Lib.hid hy
      clear hS hy e10
      go_wp2_with (first | (refine wpList_load_row rfl 24 _ rfl (w.heap.size + 1) rfl 24 (cellsB y) (0, 0) _ HSF.out.2.1 Try.underlying24 rfl (by rw [size_block, cellsB_size, hel]) ?_) | (refine wpList_store_row rfl 24 _ _ rfl (w.heap.size + 1 + 1) (cellsB y) rfl rfl 24 _ HSF.out.2.2.1 (by rw [size_block, cellsB_size, hel]) (by rw [cellsB_size, cellsB_size, hel]; rfl) (cellsB_one _) ?_))
      refine bodyPost_ret (v := .agg (cellsB y)) (results_cell_row rfl _ _ (w.heap.size + 1 + 1) 24 (cellsB y) (0, 0) _ rfl (setRow_heap _ _ _ _ _ _ HSF.out.2.2.1) Try.underlying24 rfl (by rw [size_block, cellsB_size, hel])) rfl ⟨by rw [HY.out, HE.out], ?_⟩
      exact grownBy_old HSF.out.1 (grownBy_setRow _ _ _) (by omega)

end Go.Proofs.Ytblgdfamomlklaa
/- aes: Encrypt; the laws' awake. -/
namespace Go.Proofs.Ytblgdfamomlklaa
open Go.RowKit

theorem results_ct {P : Program} {fn : Func} {p q : Tmp} {ty : TypeId} (h : fn.results = #[.cell p ty, .tmp q]) (tmps : Array Value) (w : World) (g : Nat) (t : TypeId) (cs : Array Value) (fr : Nat × Nat) (d : TypeDesc) (v : Value)
    (hp : tmps.getD p undef = .pointer (some ⟨g, 0, none⟩)) (hq : tmps.getD q undef = v) (hg : w.heap[g]? = some (.cells cs t fr))
    (hu : P.underlying ty = some d) (hd : (match d with | .struct _ | .array _ _ => true | _ => false) = true) (hi : (P.info? ty).map (·.size) = some cs.size) :
    (results fn tmps).run P w = .ok (.tuple #[.agg cs, v]) w := by
  have hp' : tmps[p]?.getD undef = .pointer (some ⟨g, 0, none⟩) := by simpa using hp
  have hq' : tmps[q]?.getD undef = v := by simpa using hq
  simp [results, h, hp', hq', asAddr, run_loadVar_row w g t ty cs fr d hg hu hd hi]

set_option maxRecDepth 100000 in
set_option maxHeartbeats 4000000 in
theorem encrypt_n (gc : Nat) (kk b : List UInt8) (hk : kk.length = 176) (hb : b.length = 16) (w : World) (hc : CipAt w gc kk) :
    Calls Try.prog 38 #[.pointer (some ⟨gc, 0, none⟩), aggB b] w fun e w' => e = .returned (.tuple #[.agg (cellsB (encS kk b 10)), .int .i64 0]) ∧ w.grownBy w' none := by
  have hyl := encS_len hk hb 10 (by omega)
  have hcb := fun (w1 : World) (h : CipAt w1 gc kk) => behind_n gc 10 kk b hk hb (by omega) w1 h
  obtain ⟨y, hy⟩ : ∃ y, y = encS kk b 10 := ⟨_, rfl⟩
  rw [← hy] at hyl hcb ⊢
  have HCB := Lib.hid hcb
  clear hy hcb
  unfold aggB
  obtain ⟨h1, h2, hg⟩ := two w b z16 24 24
  have HB := Lib.hid h1
  have HR := Lib.hid h2
  have HG := Lib.hid hg
  have hc2 := hc.grown hg
  have HC := Lib.hid hc2
  have hmade := hc2.1 0 _ rfl
  rw [Nat.zero_add] at hmade
  have hmade2 : ((w.alloc (.cells (cellsB b) 24)).alloc (.cells #[.int .u8 0, .int .u8 0, .int .u8 0, .int .u8 0, .int .u8 0, .int .u8 0, .int .u8 0, .int .u8 0, .int .u8 0, .int .u8 0, .int .u8 0, .int .u8 0, .int .u8 0, .int .u8 0, .int .u8 0, .int .u8 0] 24)).cell? ⟨gc, 0, none⟩ = some (.bool true) := hmade
  have hm0 : w.cell? ⟨gc, 0, none⟩ = some (.bool true) := by have h := hc.1 0 _ rfl; rwa [Nat.zero_add] at h
  have hgl := hc.lt
  clear h1 h2 hg hc hc2 hmade
  go_enter Try.func38, Try.ntmps38
  go_wp2_with (refine wpList_load_row rfl 24 _ rfl w.heap.size rfl 24 (cellsB b) (0, 0) _ HB.out Try.underlying24 rfl (by rw [size_block, cellsB_size, hb]) ?_)
  refine (HCB.out _ HC.out).mono ?_
  rintro e w1 ⟨rfl, hg1⟩
  have HR1 := Lib.hid (HR.out.grown hg1 (by simp))
  have HG1 := Lib.hid (grownBy_trans HG.out hg1)
  clear hg1 hmade2 hm0
  unfold aggB
  go_wp2_with (refine wpList_store_row rfl 24 _ _ rfl (w.heap.size + 1) (cellsB y) rfl rfl 24 _ HR1.out (by rw [size_block, cellsB_size, hyl]) (by rw [cellsB_size, cellsB_size, hyl]; rfl) (cellsB_one _) ?_)
  refine bodyPost_ret (v := .tuple #[.agg (cellsB y), .int .i64 0]) (results_ct rfl _ _ (w.heap.size + 1) 24 (cellsB y) (0, 0) _ _ rfl rfl (setRow_heap _ _ _ _ _ _ HR1.out) Try.underlying24 rfl (by rw [size_block, cellsB_size, hyl])) rfl ⟨rfl, ?_⟩
  exact grownBy_old HG1.out (grownBy_setRow _ _ _) (by omega)

theorem wpList_load_rowW {P : Program} {ops : Array Oper} {rest : List Oper} {o : Oper} {a : Act} {w : World} {Q : Exit → Act → World → Prop} (hw : Region.wanted o (yielded ops a.tmps) = true) (ty : TypeId) (x : Operand) (ho : o.op = .load ty x)
    (g : Nat) (hx : a.eval x = .pointer (some ⟨g, 0, none⟩)) (t : TypeId) (cs : Array Value) (fr : Nat × Nat) (d : TypeDesc) (hg : w.heap[g]? = some (.cells cs t fr))
    (hu : P.underlying ty = some d) (hd : (match d with | .struct _ | .array _ _ => true | _ => false) = true) (hi : (P.info? ty).map (·.size) = some cs.size)
    (h : wpList P ops Q rest (a.put o.dst (.agg cs)) w) : wpList P ops Q (o :: rest) a w := by
  unfold wpList
  rw [if_pos hw]
  exact .inl (wp_load_row ty x ho g hx t cs fr d hg hu hd hi h)
theorem size_a16 : (Try.prog.info? 23).map (·.size) = some 16 := by kernel_rfl
def cnF (st i : Nat) (o : List UInt8) : List UInt8 := o.set i (UInt8.ofNat (i * st))
theorem cnF_len (st : Nat) : ∀ i o, (cnF st i o).length = o.length := fun i o => by simp [cnF]
def cnt (st : Nat) : List UInt8 := iterU (cnF st) z16 16
theorem cnt_len (st : Nat) : (cnt st).length = 16 := (iterU_len (cnF_len st) 16).trans rfl

def exB : List UInt8 := [105, 196, 224, 216, 106, 123, 4, 48, 216, 205, 183, 128, 112, 180, 197, 90]
theorem standard : encS (keysL (cnt 1)) (cnt 17) 10 = exB := by decide +kernel

end Go.Proofs.Ytblgdfamomlklaa
/- aes: the laws' both; the document's xor. -/
namespace Go.Proofs.Ytblgdfamomlklaa
open Go.RowKit

set_option maxRecDepth 100000 in
set_option maxHeartbeats 1000000 in
theorem refXor_n (a b : List UInt8) (ha : a.length = 16) (hb : b.length = 16) (w : World) : Calls Try.prog 61 #[aggB a, aggB b] w fun e w' => e = .returned (aggB (xorL a b)) ∧ w.grownBy w' none := by
  unfold aggB
  obtain ⟨hs, hbb, hr, hg⟩ := three w a b z16 24 24 24
  have HR := Lib.hid hr
  have HS := Lib.hid hs
  have HG := Lib.hid hg
  have HB := Lib.hid hbb
  clear hr hg hs hbb
  go_enter Try.func61, Try.ntmps61
  go_wp2_with fail
  go_loopw [5] (fun vi wr => ∃ k : Nat, k ≤ 16 ∧ vi = .int .i64 k ∧ Blk wr w.heap.size 24 (iterU (wiF b) a k) ∧ Blk wr (w.heap.size + 1) 24 b ∧ Blk wr (w.heap.size + 1 + 1) 24 z16 ∧ w.grownBy wr none) (fun vi _ => 16 - (intOf vi).toNat)
  case atStart => exact ⟨0, by omega, rfl, HS.out, HB.out, HR.out, HG.out⟩
  case round =>
    obtain ⟨k, hk, rfl, hs, hbb, hr, hg⟩ := hrel
    have HBB := Lib.hid hbb
    have HRR := Lib.hid hr
    have HGG := Lib.hid hg
    have hlen : (iterU (wiF b) a k).length = 16 := (iterU_len (wiF_len b) k).trans ha
    have hcell := hs.cell 16 hlen
    have hfree := hs.free
    have HSS := Lib.hid hs
    clear hr hg hs hlen hbb
    by_cases hlt : k < 16
    · have hci := HBB.out.cell 16 hb k hlt
      have hcj := hcell k hlt
      have hset := HSS.out.set k ((iterU (wiF b) a k).getD k 0 ^^^ b.getD k 0)
      have he : iterU (wiF b) a (k + 1) = (iterU (wiF b) a k).set k ((iterU (wiF b) a k).getD k 0 ^^^ b.getD k 0) := rfl
      obtain ⟨x, hx⟩ : ∃ x, x = (iterU (wiF b) a k).getD k 0 := ⟨_, rfl⟩
      obtain ⟨y, hy⟩ : ∃ y, y = b.getD k 0 := ⟨_, rfl⟩
      rw [← hx, ← hy] at hset he
      rw [← hx] at hcj
      rw [← hy] at hci
      rw [← he] at hset
      have hxy := xor_u8 x y
      have HSET := Lib.hid hset
      clear hset HSS hcell hx hy he
      go_wp2_with fail
      go_region
      go_wp2
      go_roundw
      case rel => exact ⟨k + 1, by omega, by go_num, HSET.out.dr, (HBB.out.other (by omega)).dr, (HRR.out.other (by omega)).dr, grownBy_d1 (grownBy_old HGG.out (grownBy_setCell _ _ _ _) (by omega))⟩
      case measure => simp [intOf]; omega
    · obtain rfl : k = 16 := by omega
      clear hcell hfree
      have hs := HSS.out
      rw [wi_end ha hb] at hs
      have HS2 := Lib.hid hs
      clear hs HSS
      go_wp2_with (first | (refine wpList_load_row rfl 24 _ rfl w.heap.size rfl 24 (cellsB (xorL a b)) (0, 0) _ HS2.out Try.underlying24 rfl (by rw [size_block, cellsB_size, xorL_len ha hb]) ?_) | (refine wpList_store_row rfl 24 _ _ rfl (w.heap.size + 1 + 1) (cellsB (xorL a b)) rfl rfl 24 _ HRR.out (by rw [size_block, cellsB_size, xorL_len ha hb]) (by rw [cellsB_size, cellsB_size, xorL_len ha hb]; rfl) (cellsB_one _) ?_))
      refine bodyPost_ret (v := .agg (cellsB (xorL a b))) (results_cell_row rfl _ _ (w.heap.size + 1 + 1) 24 (cellsB (xorL a b)) (0, 0) _ rfl (setRow_heap _ _ _ _ _ _ HRR.out) Try.underlying24 rfl (by rw [size_block, cellsB_size, xorL_len ha hb])) rfl ⟨rfl, ?_⟩
      exact grownBy_old HGG.out (grownBy_setRow _ _ _) (by omega)

def boF (t : List UInt8) (r c : Nat) (o : List UInt8) : List UInt8 := o.set (r * 4 + c) (o.getD (r * 4 + c) 0 ^^^ t.getD (r * 4 + c) 0)
theorem boF_len (t : List UInt8) : ∀ r c o, (boF t r c o).length = o.length := fun r c o => by simp [boF]
theorem bo_end {s t : List UInt8} (hs : s.length = 16) (ht : t.length = 16) : iter2 (boF t) s 4 = xorL s t := by
  obtain ⟨x0, x1, x2, x3, x4, x5, x6, x7, x8, x9, x10, x11, x12, x13, x14, x15, rfl⟩ := ex16 hs
  obtain ⟨y0, y1, y2, y3, y4, y5, y6, y7, y8, y9, y10, y11, y12, y13, y14, y15, rfl⟩ := ex16 ht
  simp [iter2, iterU, boF, xorL]

/-- what is mixed of a sum -/
theorem mix_xor {f s t : List UInt8} (hf : f.length = 4) (hs : s.length = 16) (ht : t.length = 16) : mixL f (xorL s t) = xorL (mixL f s) (mixL f t) := by
  obtain ⟨f0, f1, f2, f3, rfl⟩ := ex4 hf
  obtain ⟨x0, x1, x2, x3, x4, x5, x6, x7, x8, x9, x10, x11, x12, x13, x14, x15, rfl⟩ := ex16 hs
  obtain ⟨y0, y1, y2, y3, y4, y5, y6, y7, y8, y9, y10, y11, y12, y13, y14, y15, rfl⟩ := ex16 ht
  have h4 : ∀ a b c d e f g h : UInt8, (a ^^^ b) ^^^ (c ^^^ d) ^^^ (e ^^^ f) ^^^ (g ^^^ h) = (a ^^^ c ^^^ e ^^^ g) ^^^ (b ^^^ d ^^^ f ^^^ h) := by
    intro a b c d e f g h
    simp only [UInt8.xor_comm, xlc]
  simp only [xorL, List.zipWith_cons_cons, List.zipWith_nil_left, mixL, am_add_right, h4]
theorem sh_xor {s t : List UInt8} (hs : s.length = 16) (ht : t.length = 16) : shL (xorL s t) = xorL (shL s) (shL t) := by
  obtain ⟨x0, x1, x2, x3, x4, x5, x6, x7, x8, x9, x10, x11, x12, x13, x14, x15, rfl⟩ := ex16 hs
  obtain ⟨y0, y1, y2, y3, y4, y5, y6, y7, y8, y9, y10, y11, y12, y13, y14, y15, rfl⟩ := ex16 ht
  rfl

end Go.Proofs.Ytblgdfamomlklaa
/- aes: the document's mixed, Mix, Unmix. -/
namespace Go.Proofs.Ytblgdfamomlklaa
open Go.RowKit

set_option maxRecDepth 100000 in
set_option maxHeartbeats 4000000 in
theorem refMixed_n (f l : List UInt8) (hf : f.length = 4) (hl : l.length = 16) (w : World) : Calls Try.prog 74 #[aggB l, aggB f] w fun e w' => e = .returned (aggB (mixL f l)) ∧ w.grownBy w' none := by
  unfold aggB
  obtain ⟨hb, hf1, hr, hs, hg⟩ := four w l f z16 z16 95 91 95 95
  have HR := Lib.hid hr
  have HS := Lib.hid hs
  have HG := Lib.hid hg
  have HB := Lib.hid hb
  have HF := Lib.hid hf1
  clear hr hg hs hb hf1
  go_enter Try.func74, Try.ntmps74
  go_wp2_with fail
  go_loopw [6] (fun vi wr => ∃ k : Nat, k ≤ 4 ∧ vi = .int .i64 k ∧ Blk wr w.heap.size 95 l ∧ Blk wr (w.heap.size + 1) 91 f ∧ Blk wr (w.heap.size + 1 + 1) 95 z16 ∧ Blk wr (w.heap.size + 1 + 1 + 1) 95 (iter2 (rmF f l) z16 k) ∧ w.grownBy wr none) (fun vi _ => 4 - (intOf vi).toNat)
  case atStart => exact ⟨0, by omega, rfl, HB.out, HF.out, HR.out, HS.out, HG.out⟩
  case round =>
    obtain ⟨c, hk, rfl, hb, hf1, hr, hs, hg⟩ := hrel
    have HBB := Lib.hid hb
    have HFF := Lib.hid hf1
    have HRR := Lib.hid hr
    have HGG := Lib.hid hg
    have HSS := Lib.hid hs
    clear hr hg hs hb hf1
    by_cases hlc : c < 4
    · have hc4 : decide ((c : Int) < 4) = true := by simp; omega
      go_wp2_with fail
      go_loopw [7] (fun vi wr => ∃ k : Nat, k ≤ 4 ∧ vi = .int .i64 k ∧ Blk wr w.heap.size 95 l ∧ Blk wr (w.heap.size + 1) 91 f ∧ Blk wr (w.heap.size + 1 + 1) 95 z16 ∧ Blk wr (w.heap.size + 1 + 1 + 1) 95 (iterU (rmF f l c) (iter2 (rmF f l) z16 c) k) ∧ w.grownBy wr none) (fun vi _ => 4 - (intOf vi).toNat)
      case atStart => exact ⟨0, by omega, rfl, HBB.out, HFF.out, HRR.out, HSS.out, HGG.out⟩
      case round =>
        clear HBB HFF HRR HGG HSS
        obtain ⟨r, hkr, rfl, hb, hf1, hr, hs, hg⟩ := hrel
        have HBB := Lib.hid hb
        have HFF := Lib.hid hf1
        have HRR := Lib.hid hr
        have HGG := Lib.hid hg
        have HSS := Lib.hid hs
        clear hr hg hs hb hf1
        by_cases hlr : r < 4
        · have hr4 : decide ((r : Int) < 4) = true := by simp; omega
          go_wp2_with fail
          go_loopw [8, 9] (fun vx vi wr => ∃ k : Nat, k ≤ 4 ∧ vi = .int .i64 k ∧ vx = .int .u8 ((xF f l c r k).toNat : Int) ∧ Blk wr w.heap.size 95 l ∧ Blk wr (w.heap.size + 1) 91 f ∧ Blk wr (w.heap.size + 1 + 1) 95 z16 ∧ Blk wr (w.heap.size + 1 + 1 + 1) 95 (iterU (rmF f l c) (iter2 (rmF f l) z16 c) r) ∧ w.grownBy wr none) (fun _ vi _ => 4 - (intOf vi).toNat)
          case atStart => exact ⟨0, by omega, rfl, rfl, HBB.out, HFF.out, HRR.out, HSS.out, HGG.out⟩
          case round =>
            clear HBB HFF HRR HGG HSS
            obtain ⟨k, hkk, rfl, rfl, hb, hf1, hr, hs, hg⟩ := hrel
            have HBB := Lib.hid hb
            have HFF := Lib.hid hf1
            have HRR := Lib.hid hr
            have HGG := Lib.hid hg
            have hlen : (iterU (rmF f l c) (iter2 (rmF f l) z16 c) r).length = 16 := (iterU_len (rmF_len f l c) r).trans (iter2_len (rmF_len f l) c)
            have hcell := hs.cell 16 hlen
            have hfree := hs.free
            have HSS := Lib.hid hs
            clear hr hg hs hlen hb hf1
            by_cases hlk : k < 4
            · have hci := HBB.out.cell 16 hl (k * 4 + c) (by omega)
              obtain ⟨q, hq⟩ : ∃ q, q = (k + 4 - r) % 4 := ⟨_, rfl⟩
              have hq4 : q < 4 := by omega
              have hcf := HFF.out.cell 4 hf q hq4
              have f1 : IntKind.i64.wrap ((k : Int) - (r : Int)) = (k : Int) - (r : Int) := IntWalk.i64_in _ (by omega)
              have f2 : IntKind.i64.wrap ((k : Int) - (r : Int) + 4) = (k : Int) - (r : Int) + 4 := IntWalk.i64_in _ (by omega)
              have f3 : ((k : Int) - (r : Int) + 4).tmod 4 = (q : Int) := by rw [Int.tmod_eq_emod_of_nonneg (by omega)]; omega
              have f4 : (q : Int) < 4 := by omega
              have r4 : (r : Int) < 4 := by omega
              have c4 : (c : Int) < 4 := by omega
              have k4 : (k : Int) < 4 := by omega
              have he : xF f l c r (k + 1) = xF f l c r k ^^^ am (f.getD q 0) (l.getD (k * 4 + c) 0) := by rw [hq]; rfl
              obtain ⟨x, hx⟩ : ∃ x, x = l.getD (k * 4 + c) 0 := ⟨_, rfl⟩
              obtain ⟨y, hy⟩ : ∃ y, y = f.getD q 0 := ⟨_, rfl⟩
              obtain ⟨z, hz⟩ : ∃ z, z = xF f l c r k := ⟨_, rfl⟩
              rw [← hx, ← hy, ← hz] at he
              rw [← hx] at hci
              rw [← hy] at hcf
              rw [← hz]
              have hxz := xor_u8 z (am y x)
              rw [← he] at hxz
              have HQ := Lib.hid hq
              have HZ := Lib.hid hz
              clear hcell hx he hy hz hq hq4 hfree
              go_wp2_with fail
              go_region_law (first | (go_simp; go_at_call 73; refine (refProd_i _ _ y x _ rfl rfl).mono ?_; rintro e w' ⟨rfl, rfl⟩))
              all_goals trace "WAY"
              all_goals
                go_wp2
                go_roundw
                case rel => exact ⟨k + 1, by omega, by go_num, rfl, HBB.out.dr, HFF.out.dr, HRR.out.dr, HSS.out.dr, grownBy_d1 HGG.out⟩
                case measure => simp [intOf]; omega
            · obtain rfl : k = 4 := by omega
              have hj : r * 4 + c < 16 := by omega
              have hcj := hcell _ hj
              have hset := HSS.out.set (r * 4 + c) (xF f l c r 4)
              have he : iterU (rmF f l c) (iter2 (rmF f l) z16 c) (r + 1) = (iterU (rmF f l c) (iter2 (rmF f l) z16 c) r).set (r * 4 + c) (xF f l c r 4) := rfl
              obtain ⟨x, hx⟩ : ∃ x, x = xF f l c r 4 := ⟨_, rfl⟩
              obtain ⟨u0, hu0⟩ : ∃ u0, wr.cell? ⟨w.heap.size + 1 + 1 + 1, r * 4 + c, none⟩ = some u0 := ⟨_, hcj⟩
              rw [← hx] at hset he
              rw [← hx]
              rw [← he] at hset
              have HSET := Lib.hid hset
              clear hset he hx hcj hcell hj HSS
              go_wp2_with fail
              go_roundw
              case rel => exact ⟨r + 1, by omega, by go_num, HBB.out.other (by omega), HFF.out.other (by omega), HRR.out.other (by omega), HSET.out, grownBy_old HGG.out (grownBy_setCell _ _ _ _) (by omega)⟩
              case measure => simp [intOf]; omega
        · obtain rfl : r = 4 := by omega
          go_wp2_with fail
          go_roundw
          case rel => exact ⟨c + 1, by omega, by go_num, HBB.out, HFF.out, HRR.out, HSS.out, HGG.out⟩
          case measure => simp [intOf]; omega
    · obtain rfl : c = 4 := by omega
      have hs := HSS.out
      rw [rm_end hf hl] at hs
      have HS2 := Lib.hid hs
      clear hs HSS
      go_wp2_with (first | (refine wpList_load_row rfl 95 _ rfl (w.heap.size + 1 + 1 + 1) rfl 95 (cellsB (mixL f l)) (0, 0) _ HS2.out Try.underlying95 rfl (by rw [size_state, cellsB_size, mixL_len hf hl]) ?_) | (refine wpList_store_row rfl 95 _ _ rfl (w.heap.size + 1 + 1) (cellsB (mixL f l)) rfl rfl 95 _ HRR.out (by rw [size_state, cellsB_size, mixL_len hf hl]) (by rw [cellsB_size, cellsB_size, mixL_len hf hl]; rfl) (cellsB_one _) ?_))
      refine bodyPost_ret (v := .agg (cellsB (mixL f l))) (results_cell_row rfl _ _ (w.heap.size + 1 + 1) 95 (cellsB (mixL f l)) (0, 0) _ rfl (setRow_heap _ _ _ _ _ _ HRR.out) Try.underlying95 rfl (by rw [size_state, cellsB_size, mixL_len hf hl])) rfl ⟨rfl, ?_⟩
      exact grownBy_old HGG.out (grownBy_setRow _ _ _) (by omega)

set_option maxRecDepth 100000 in
set_option maxHeartbeats 1000000 in
theorem refMix_n (l : List UInt8) (hl : l.length = 16) (w : World) : Calls Try.prog 65 #[aggB l] w fun e w' => e = .returned (aggB (mixL [2, 3, 1, 1] l)) ∧ w.grownBy w' none := by
  have hm := mixL_len (f := [2, 3, 1, 1]) rfl hl
  unfold aggB
  obtain ⟨hb, hr, hg⟩ := two w l z16 95 95
  have HR := Lib.hid hr
  have HG := Lib.hid hg
  have HB := Lib.hid hb
  clear hr hg hb
  go_enter Try.func65, Try.ntmps65
  go_wp2_with (refine wpList_load_row rfl 95 _ rfl w.heap.size rfl 95 (cellsB l) (0, 0) _ HB.out Try.underlying95 rfl (by rw [size_state, cellsB_size, hl]) ?_)
  refine (refMixed_n [2, 3, 1, 1] l rfl hl _).mono ?_
  rintro e w' ⟨rfl, hg⟩
  have hr := HR.out.grown hg (by simp)
  have HRR := Lib.hid hr
  have HGG := Lib.hid (grownBy_trans HG.out hg)
  clear hr hg
  unfold aggB
  go_wp2_with (refine wpList_store_row rfl 95 _ _ rfl (w.heap.size + 1) (cellsB (mixL [2, 3, 1, 1] l)) rfl rfl 95 _ HRR.out (by rw [size_state, cellsB_size, hm]) (by rw [cellsB_size, cellsB_size, hm]; rfl) (cellsB_one _) ?_)
  refine bodyPost_ret (v := .agg (cellsB (mixL [2, 3, 1, 1] l))) (results_cell_row rfl _ _ (w.heap.size + 1) 95 (cellsB (mixL [2, 3, 1, 1] l)) (0, 0) _ rfl (setRow_heap _ _ _ _ _ _ HRR.out) Try.underlying95 rfl (by rw [size_state, cellsB_size, hm])) rfl ⟨rfl, ?_⟩
  exact grownBy_old HGG.out (grownBy_setRow _ _ _) (by omega)

end Go.Proofs.Ytblgdfamomlklaa
/- aes: the document's rounds. -/
namespace Go.Proofs.Ytblgdfamomlklaa
open Go.RowKit

theorem block_info : ∃ i, Try.prog.info? 24 = some i ∧ i.zero = some (.agg (cellsB z16)) ∧ i.size = 16 := ⟨(Try.prog.info? 24).getD default, by kernel_rfl, by kernel_rfl, by kernel_rfl⟩
theorem state_info : ∃ i, Try.prog.info? 95 = some i ∧ i.zero = some (.agg (cellsB z16)) ∧ i.size = 16 := ⟨(Try.prog.info? 95).getD default, by kernel_rfl, by kernel_rfl, by kernel_rfl⟩
theorem keysT_info : ∃ i, Try.prog.info? 79 = some i ∧ i.zero = some (.agg (cellsB z176)) ∧ i.size = 176 := ⟨(Try.prog.info? 79).getD default, by kernel_rfl, by kernel_rfl, by kernel_rfl⟩
theorem size_keysT : (Try.prog.info? 79).map (·.size) = some 176 := by kernel_rfl
theorem cells_agg (l : List UInt8) : (Value.agg (cellsB l)).cells = cellsB l := rfl
theorem Blk.key {w : World} {g : Nat} {kk : List UInt8} (h : Blk w g 79 kk) (n : Nat) : w.rangeAt g (n * 16) ((keyAt kk n).map bval) := fun j v hj => by
  have h2 := h.range (n * 16 + j) v (by
    have hj' := hj
    unfold keyAt at hj'
    rw [List.map_take, List.map_drop, List.getElem?_take] at hj'
    split at hj'
    · rw [List.getElem?_drop] at hj'; exact hj'
    · cases hj')
  rw [Nat.zero_add] at h2
  exact h2
/-- what stands while the document works: the block in hand, the answer's room, the keys -/
def RS (w0 : World) (gb g6 g7 : Nat) (kk x : List UInt8) (w : World) : Prop := w0.grownBy w none ∧ Blk w gb 24 x ∧ Blk w g6 24 z16 ∧ Blk w g7 79 kk
section
variable {w0 w w' : World} {gb g6 g7 : Nat} {kk x : List UInt8}
theorem RS.grown (h : RS w0 gb g6 g7 kk x w) (hg : w.grownBy w' none) : RS w0 gb g6 g7 kk x w' := ⟨grownBy_trans h.1 hg, h.2.1.grown hg (by simp), h.2.2.1.grown hg (by simp), h.2.2.2.grown hg (by simp)⟩
theorem RS.far {g : Nat} (h : RS w0 gb g6 g7 kk x w) (hg : w.grownBy w' (some g)) (hw : w0.heap.size ≤ g) (h1 : gb ≠ g) (h2 : g6 ≠ g) (h3 : g7 ≠ g) : RS w0 gb g6 g7 kk x w' :=
  ⟨grownBy_old h.1 hg hw, h.2.1.grown hg (by simpa using h1.symm), h.2.2.1.grown hg (by simpa using h2.symm), h.2.2.2.grown hg (by simpa using h3.symm)⟩
theorem RS.lt (h : RS w0 gb g6 g7 kk x w) : gb < w.heap.size ∧ g6 < w.heap.size ∧ g7 < w.heap.size := ⟨h.2.1.lt, h.2.2.1.lt, h.2.2.2.lt⟩
theorem RS.row (h : RS w0 gb g6 g7 kk x w) (y : List UInt8) (hd : w0.heap.size ≤ gb ∧ gb < g6 ∧ g6 < g7) : RS w0 gb g6 g7 kk y (w.setRow gb (cellsB y)) :=
  ⟨grownBy_old h.1 (grownBy_setRow _ _ _) hd.1, h.2.1.row y, h.2.2.1.rowNe _ (by omega), h.2.2.2.rowNe _ (by omega)⟩
end

set_option maxRecDepth 100000 in
set_option maxHeartbeats 4000000 in
theorem refBehind_n (k b : List UInt8) (R : Nat) (hkl : k.length = 16) (hb : b.length = 16) (hR : R ≤ 10) (w : World) :
    Calls Try.prog 48 #[aggB k, aggB b, .int .i64 (R : Int)] w fun e w' => e = .returned (aggB (encS (keysL k) b R)) ∧ w.grownBy w' none := by
  have hsched := fun w => refSchedule_n k hkl w
  have hk := keysL_len k
  obtain ⟨kk, hkk⟩ : ∃ kk, kk = keysL k := ⟨_, rfl⟩
  rw [← hkk] at hsched hk ⊢
  obtain ⟨ib, hib, hibz, hibs⟩ := block_info
  obtain ⟨is, his, hisz, hiss⟩ := state_info
  obtain ⟨ik, hik, hikz, hiks⟩ := keysT_info
  have IB := Lib.hid hib
  have IBZ := Lib.hid hibz
  have IS := Lib.hid his
  have ISZ := Lib.hid hisz
  have ISS := Lib.hid hiss
  have IK := Lib.hid hik
  have IKZ := Lib.hid hikz
  have IKS := Lib.hid hiks
  clear hib hibz hibs his hisz hiss hik hikz hiks hkk
  have HSCH := Lib.hid hsched
  clear hsched
  unfold aggB at HSCH ⊢
  have hk0 := keyAt_len hk (n := 0) (by omega)
  obtain ⟨k0, hk0e⟩ : ∃ q, q = keyAt kk 0 := ⟨_, rfl⟩
  rw [← hk0e] at hk0
  have HK0 := Lib.hid hk0e
  have hi3 : (Try.prog.info? 24).map (·.size) = some (k0.map bval).length := by rw [size_block, List.length_map, hk0]
  have HX0 := Lib.hid (fun w1 : World => refXor_n b k0 hb hk0 w1)
  unfold aggB at HX0
  have HEL0 := Lib.hid (fun n hn => encS_len hk hb n hn)
  obtain ⟨E, hE⟩ : ∃ E : Nat → List UInt8, E = encS kk b := ⟨_, rfl⟩
  have e0 : E 0 = xorL b k0 := by rw [hE, hk0e]; rfl
  have hEl : ∀ n, n ≤ 10 → (E n).length = 16 := fun n hn => by rw [hE]; exact encS_len hk hb n hn
  have hEs : ∀ n, E (n + 1) = xorL (trL (if n + 1 < 10 then mixL [2, 3, 1, 1] (shL ((trL (E n)).map asub)) else shL ((trL (E n)).map asub))) (keyAt kk (n + 1)) := fun n => by rw [hE]; rfl
  rw [← hE]
  rw [← e0] at HX0
  have HES := Lib.hid hEs
  have HEL := Lib.hid hEl
  have hE0l := hEl 0 (by omega)
  clear hE hEs hEl e0 HEL0 hk0e
  go_enter Try.func48, Try.ntmps48
  go_wp2_with (first | (refine wpList_boxed (T := 27) rfl rfl (cellsB k) rfl ?_; intro wa hsa hga hra; have HSa := Lib.hid hsa; have HGa := Lib.hid hga; have HRa := Lib.hid (show Blk wa w.heap.size 27 k from hra); clear hsa hga hra) | (refine wpList_boxed (T := 24) rfl rfl (cellsB b) rfl ?_; intro wb hsb hgb hrb; have HSb := Lib.hid hsb; have HGb := Lib.hid (grownBy_trans HGa.out hgb); have HKb := Lib.hid (HRa.out.grown hgb (by simp)); have HRb := Lib.hid (show Blk wb wa.heap.size 24 b from hrb); clear hsb hgb hrb) | (refine wpList_made rfl rfl IB.out IBZ.out ?_; intro wc hsc hgc hrc; have HGc := Lib.hid (grownBy_trans HGb.out hgc); have HKc := Lib.hid (HKb.out.grown hgc (by simp)); have HBc := Lib.hid (HRb.out.grown hgc (by simp)); have HRc := Lib.hid (show Blk wc wb.heap.size 24 z16 from hrc); clear hsc hgc hrc) | (refine wpList_load_row rfl 27 _ rfl (w.heap.size) rfl 27 (cellsB k) (0, 0) _ HKc.out Try.underlying27 rfl (by rw [size_key, cellsB_size, hkl]) ?_))
  refine (HSCH.out _).mono ?_
  rintro e w1 ⟨rfl, hg1⟩
  have HG1 := Lib.hid (grownBy_trans HGc.out hg1)
  have HB1 := Lib.hid (HBc.out.grown hg1 (by simp))
  have HR1 := Lib.hid (HRc.out.grown hg1 (by simp))
  have hd1 : w.heap.size ≤ wa.heap.size ∧ wa.heap.size < wb.heap.size ∧ wb.heap.size < w1.heap.size := by
    have h1 := HSa.out
    have h2 := HSb.out
    have h3 := HR1.out.lt
    omega
  have HD := Lib.hid hd1
  clear hg1 hd1
  go_wp2_with (first | (refine wpList_fresh rfl rfl rfl rfl rfl IK.out IKZ.out (by rw [IKS.out, cells_agg, cellsB_size, z176_len]) (cellsB kk) rfl rfl (by rw [cells_agg, cellsB_size, cellsB_size, z176_len, hk]) (cellsB_one _) ?_; intro w2 hs2 hg2 hr2; clear hs2; have HS2 := Lib.hid (show RS w wa.heap.size wb.heap.size w1.heap.size kk b w2 from ⟨grownBy_trans HG1.out hg2, HB1.out.grown hg2 (by simp), HR1.out.grown hg2 (by simp), hr2⟩); clear hg2 hr2) | (refine wpList_load_row rfl 24 _ rfl (wa.heap.size) rfl 24 (cellsB b) (0, 0) _ HS2.out.2.1 Try.underlying24 rfl (by rw [size_block, cellsB_size, hb]) ?_) | (refine wpList_load_mid rfl 24 _ rfl w1.heap.size 0 rfl (k0.map bval) _ (by have h := Blk.key HS2.out.2.2.2 0; rw [← HK0.out, Nat.zero_mul] at h; exact h) Try.underlying24 rfl hi3 ?_))
  refine (HX0.out _).mono ?_
  rintro e w3 ⟨rfl, hg3⟩
  have HS3 := Lib.hid (HS2.out.grown hg3)
  clear hg3
  obtain ⟨gb, hgb⟩ : ∃ g, g = wa.heap.size := ⟨_, rfl⟩
  obtain ⟨g6, hg6⟩ : ∃ g, g = wb.heap.size := ⟨_, rfl⟩
  obtain ⟨g7, hg7⟩ : ∃ g, g = w1.heap.size := ⟨_, rfl⟩
  rw [← hgb, ← hg6, ← hg7] at HS3 HD
  rw [← hgb, ← hg6, ← hg7]
  clear hgb hg6 hg7 HS2 HB1 HR1 HG1 HX0 HSCH
  go_wp2_with (first | (refine wpList_putrow rfl rfl (gb) rfl (cellsB (E 0)) rfl HS3.out.2.1 (by rw [size_block, cellsB_size, hE0l]) (by rw [cellsB_size, cellsB_size, hE0l, hb]) (cellsB_one _) ?_; intro w4 hgP hrP; have HS4 := Lib.hid (show RS w gb g6 g7 kk (E 0) w4 from ⟨grownBy_old HS3.out.1 hgP HD.out.1, hrP, HS3.out.2.2.1.grown hgP (by have := HD.out; simp; omega), HS3.out.2.2.2.grown hgP (by have := HD.out; simp; omega)⟩); clear hgP hrP))
  go_loopw [8] (fun vi wr => ∃ n : Nat, 1 ≤ n ∧ n ≤ R + 1 ∧ vi = .int .i64 n ∧ RS w gb g6 g7 kk (E (n - 1)) wr) (fun vi _ => 12 - (intOf vi).toNat)
  case atStart => exact ⟨1, by omega, by omega, rfl, HS4.out⟩
  case round =>
    clear HS3 HS4
    obtain ⟨n, hn1, hn, rfl, hS⟩ := hrel
    by_cases hlt : n ≤ R
    · have hES := HES.out (n - 1)
      rw [show n - 1 + 1 = n by omega] at hES
      have hxl := HEL.out (n - 1) (by omega)
      obtain ⟨x, hx⟩ : ∃ x, x = E (n - 1) := ⟨_, rfl⟩
      rw [← hx] at hES hxl hS
      obtain ⟨s1, hs1⟩ : ∃ s, s = shL ((trL x).map asub) := ⟨_, rfl⟩
      have hs1l : s1.length = 16 := by rw [hs1]; exact shL_len (map_len asub (trL_len hxl))
      rw [← hs1] at hES
      obtain ⟨kn, hkn⟩ : ∃ q, q = keyAt kk n := ⟨_, rfl⟩
      have hknl : kn.length = 16 := by rw [hkn]; exact keyAt_len hk (by omega)
      rw [← hkn] at hES
      obtain ⟨s0, hs0⟩ : ∃ s, s = (trL x).map asub := ⟨_, rfl⟩
      have hs0l : s0.length = 16 := by rw [hs0]; exact map_len asub (trL_len hxl)
      have HSB := Lib.hid (fun w1 : World => by have h := refSubAll_n (trL x) (trL_len hxl) w1; rw [← hs0] at h; exact h)
      rw [← hs0] at hs1
      have HSH := Lib.hid (fun w1 : World => by have h := refShift_n s0 hs0l w1; rw [← hs1] at h; exact h)
      have HESN := Lib.hid hES
      have HSX := Lib.hid hS
      have HKN := Lib.hid hkn
      have n11 : (n : Int) < 11 := by omega
      have hi2' : (Try.prog.info? 24).map (·.size) = some kn.length := by rw [size_block, hknl]
      clear hES hS hx hs1 hkn hs0
      go_wp2_with (first | (refine wpList_load_row rfl 24 _ rfl (gb) rfl 24 (cellsB x) (0, 0) _ HSX.out.2.1 Try.underlying24 rfl (by rw [size_block, cellsB_size, hxl]) ?_))
      refine (refSpread_n x hxl _).mono ?_
      rintro e w1 ⟨rfl, hg1⟩
      have HSY := Lib.hid (HSX.out.grown hg1)
      clear HSX hg1
      unfold aggB
      go_wp2_with fail
      unfold aggB at HSB HSH
      refine (HSB.out _).mono ?_
      rintro e w2 ⟨rfl, hg2⟩
      have HSZ := Lib.hid (HSY.out.grown hg2)
      clear HSY hg2 HSB
      go_wp2_with (first | (refine wpList_fresh rfl rfl rfl rfl rfl IS.out ISZ.out (by rw [ISS.out, cells_agg, cellsB_size]; rfl) (cellsB s0) rfl rfl (by rw [cells_agg, cellsB_size, cellsB_size, hs0l]; rfl) (cellsB_one _) ?_; intro w3 hs3 hg3 hr3; clear hs3; have HS3 := Lib.hid (HSZ.out.grown hg3); have HB3 := Lib.hid (show Blk w3 w2.heap.size 95 s0 from hr3); clear hg3 hr3) | (refine wpList_load_row rfl 95 _ rfl (w2.heap.size) rfl 95 (cellsB s0) (0, 0) _ HB3.out Try.underlying95 rfl (by rw [size_state, cellsB_size, hs0l]) ?_))
      refine (HSH.out _).mono ?_
      rintro e w4 ⟨rfl, hg4⟩
      have HS4 := Lib.hid (HS3.out.grown hg4)
      have HB4 := Lib.hid (HB3.out.grown hg4 (by simp))
      have hgs : gb < w2.heap.size ∧ g6 < w2.heap.size ∧ g7 < w2.heap.size := HSZ.out.lt
      have HGS := Lib.hid hgs
      have hws : w.heap.size ≤ w2.heap.size := HSZ.out.1.size
      have HWS := Lib.hid hws
      clear hg4 hgs HS3 HB3 HSZ HSH hws
      obtain ⟨gs, hgs⟩ : ∃ g, g = w2.heap.size := ⟨_, rfl⟩
      rw [← hgs] at HB4 HGS HWS
      rw [← hgs]
      clear hgs
      by_cases h10 : n < 10
      · obtain ⟨m1, hm1⟩ : ∃ s, s = mixL [2, 3, 1, 1] s1 := ⟨_, rfl⟩
        have hm1l : m1.length = 16 := by rw [hm1]; exact mixL_len rfl hs1l
        have HQ := Lib.hid (fun w1 : World => by have h := refMix_n s1 hs1l w1; rw [← hm1] at h; exact h)
        unfold aggB at HQ
        have hEN : E n = xorL (trL m1) kn := by rw [HESN.out, if_pos h10, hm1]
        have HEN := Lib.hid hEN
        clear hm1 hEN
        have h10' : (n : Int) < 10 := by omega
        have h10d : decide ((n : Int) < 10) = true := by simp; omega
        go_wp2_with (first | (refine wpList_putrow rfl rfl (gs) rfl (cellsB s1) rfl HB4.out (by rw [size_state, cellsB_size, hs1l]) (by rw [cellsB_size, cellsB_size, hs1l, hs0l]) (cellsB_one _) ?_; intro w5 hgP hrP; have HS5 := Lib.hid (HS4.out.far hgP HWS.out (by have := HGS.out; omega) (by have := HGS.out; omega) (by have := HGS.out; omega)); have HB5 := Lib.hid (show Blk w5 gs 95 s1 from hrP); clear hgP hrP) | (refine wpList_load_row rfl 95 _ rfl (gs) rfl 95 (cellsB s1) (0, 0) _ HB5.out Try.underlying95 rfl (by rw [size_state, cellsB_size, hs1l]) ?_))
        refine (HQ.out _).mono ?_
        rintro e w6 ⟨rfl, hg6'⟩
        have HS6 := Lib.hid (HS5.out.grown hg6')
        have HB6 := Lib.hid (HB5.out.grown hg6' (by simp))
        clear hg6' HS4 HB4 HS5 HB5
        go_upto_region 10 with (first | (refine wpList_putrow rfl rfl (gs) rfl (cellsB m1) rfl HB6.out (by rw [size_state, cellsB_size, hm1l]) (by rw [cellsB_size, cellsB_size, hm1l, hs1l]) (cellsB_one _) ?_; intro w5 hgP hrP; have HSx := Lib.hid (HS6.out.far hgP HWS.out (by have := HGS.out; omega) (by have := HGS.out; omega) (by have := HGS.out; omega)); have HBx := Lib.hid (show Blk w5 gs 95 m1 from hrP); clear hgP hrP))
        have HGA := Lib.hid (fun w1 : World => refGather_n m1 hm1l w1)
        have HWI := Lib.hid (fun w1 : World => refXor_n (trL m1) kn (trL_len hm1l) hknl w1)
        have hi4 : (Try.prog.info? 95).map (·.size) = some m1.length := by rw [size_state, hm1l]
        refine wp_regionT (fun w' => RS w gb g6 g7 kk x w' ∧ Blk w' gs 95 m1) 6 (by kernel_rfl) ⟨HSx.out.grown (grownBy_d1 (World.grownBy.refl _ _)), HBx.out.dr⟩ ?_
        refine wpT_take 0 (oi := { dst := some 30, op := Op.load 95 (Operand.tmp 9), type := 95, pos := "ref.go:168", after := #[], guard := none }) (oL := { dst := none, op := Op.store 24 (Operand.tmp 4) (Operand.tmp 35), type := 0, pos := "ref.go:168", after := #[{ on := 5, ground := Ground.data }, { on := 5, ground := Ground.chain }, { on := 0, ground := Ground.phase }, { on := 1, ground := Ground.phase }, { on := 2, ground := Ground.phase }, { on := 3, ground := Ground.phase }, { on := 4, ground := Ground.phase }, { on := 5, ground := Ground.phase }], guard := none }) rfl rfl rfl (by kernel_rfl) (by kernel_rfl) (by kernel_rfl) (by kernel_rfl) (by kernel_rfl) (fun _ _ _ h => h) (YS.rowM (by rfl) _ _ rfl gs 0 rfl m1 _ (fun _ h => h.2.range) Try.underlying95 rfl hi4) ?_
        simp only [Act.put, List.setIfInBounds_toArray, List.set_cons_zero, List.set_cons_succ]
        refine wpT_take 1 (v := .agg (cellsB (trL m1))) (oi := { dst := some 31, op := Op.call { callee := Callee.value (Operand.func 66), args := #[Operand.tmp 30], argTypes := #[95] }, type := 24, pos := "ref.go:168", after := #[{ on := 0, ground := Ground.data }], guard := none }) (oL := { dst := none, op := Op.store 24 (Operand.tmp 4) (Operand.tmp 35), type := 0, pos := "ref.go:168", after := #[{ on := 5, ground := Ground.data }, { on := 5, ground := Ground.chain }, { on := 0, ground := Ground.phase }, { on := 1, ground := Ground.phase }, { on := 2, ground := Ground.phase }, { on := 3, ground := Ground.phase }, { on := 4, ground := Ground.phase }, { on := 5, ground := Ground.phase }], guard := none }) rfl rfl rfl (by kernel_rfl) (by kernel_rfl) (by kernel_rfl) (by kernel_rfl) (by kernel_rfl) (fun _ _ _ h => h) (YS.grow (f := 66) (args := #[.agg (cellsB m1)]) (by rfl) (fun w => by go_simp) (fun _ _ h hg => ⟨h.1.grown hg, h.2.grown hg (by simp)⟩) HGA.out) ?_
        simp only [Act.put, List.setIfInBounds_toArray, List.set_cons_zero, List.set_cons_succ]
        refine wpT_take 2 (oi := { dst := some 32, op := Op.move (Operand.tmp 8), type := 3, pos := "ref.go:168", after := #[], guard := none }) (oL := { dst := none, op := Op.store 24 (Operand.tmp 4) (Operand.tmp 35), type := 0, pos := "ref.go:168", after := #[{ on := 5, ground := Ground.data }, { on := 5, ground := Ground.chain }, { on := 0, ground := Ground.phase }, { on := 1, ground := Ground.phase }, { on := 2, ground := Ground.phase }, { on := 3, ground := Ground.phase }, { on := 4, ground := Ground.phase }, { on := 5, ground := Ground.phase }], guard := none }) rfl rfl rfl (by kernel_rfl) (by kernel_rfl) (by kernel_rfl) (by kernel_rfl) (by kernel_rfl) (fun _ _ _ h => h) (YS.val (by rfl) (fun _ _ => rfl)) ?_
        simp only [Act.put, List.setIfInBounds_toArray, List.set_cons_zero, List.set_cons_succ]
        refine wpT_take 3 (v := .pointer (some ⟨g7, n * 16, none⟩)) (oi := { dst := some 33, op := Op.indexAddr 79 (Operand.tmp 7) (Operand.tmp 32), type := 0, pos := "ref.go:168", after := #[{ on := 2, ground := Ground.data }], guard := none }) (oL := { dst := none, op := Op.store 24 (Operand.tmp 4) (Operand.tmp 35), type := 0, pos := "ref.go:168", after := #[{ on := 5, ground := Ground.data }, { on := 5, ground := Ground.chain }, { on := 0, ground := Ground.phase }, { on := 1, ground := Ground.phase }, { on := 2, ground := Ground.phase }, { on := 3, ground := Ground.phase }, { on := 4, ground := Ground.phase }, { on := 5, ground := Ground.phase }], guard := none }) rfl rfl rfl (by kernel_rfl) (by kernel_rfl) (by kernel_rfl) (by kernel_rfl) (by kernel_rfl) (fun _ _ _ h => h) (YS.val (by rfl) (fun w _ => by go_simp)) ?_
        simp only [Act.put, List.setIfInBounds_toArray, List.set_cons_zero, List.set_cons_succ]
        refine wpT_take 4 (oi := { dst := some 34, op := Op.load 24 (Operand.tmp 33), type := 24, pos := "ref.go:168", after := #[{ on := 3, ground := Ground.data }], guard := none }) (oL := { dst := none, op := Op.store 24 (Operand.tmp 4) (Operand.tmp 35), type := 0, pos := "ref.go:168", after := #[{ on := 5, ground := Ground.data }, { on := 5, ground := Ground.chain }, { on := 0, ground := Ground.phase }, { on := 1, ground := Ground.phase }, { on := 2, ground := Ground.phase }, { on := 3, ground := Ground.phase }, { on := 4, ground := Ground.phase }, { on := 5, ground := Ground.phase }], guard := none }) rfl rfl rfl (by kernel_rfl) (by kernel_rfl) (by kernel_rfl) (by kernel_rfl) (by kernel_rfl) (fun _ _ _ h => h) (YS.rowM (by rfl) _ _ rfl g7 (n * 16) rfl kn _ (fun _ h => by rw [HKN.out]; exact Blk.key h.1.2.2.2 n) Try.underlying24 rfl hi2') ?_
        simp only [Act.put, List.setIfInBounds_toArray, List.set_cons_zero, List.set_cons_succ]
        refine wpT_take 5 (v := .agg (cellsB (xorL (trL m1) kn))) (oi := { dst := some 35, op := Op.call { callee := Callee.value (Operand.func 61), args := #[Operand.tmp 31, Operand.tmp 34], argTypes := #[24, 24] }, type := 24, pos := "ref.go:168", after := #[{ on := 1, ground := Ground.data }, { on := 4, ground := Ground.data }, { on := 1, ground := Ground.chain }], guard := none }) (oL := { dst := none, op := Op.store 24 (Operand.tmp 4) (Operand.tmp 35), type := 0, pos := "ref.go:168", after := #[{ on := 5, ground := Ground.data }, { on := 5, ground := Ground.chain }, { on := 0, ground := Ground.phase }, { on := 1, ground := Ground.phase }, { on := 2, ground := Ground.phase }, { on := 3, ground := Ground.phase }, { on := 4, ground := Ground.phase }, { on := 5, ground := Ground.phase }], guard := none }) rfl rfl rfl (by kernel_rfl) (by kernel_rfl) (by kernel_rfl) (by kernel_rfl) (by kernel_rfl) (fun _ _ _ h => h) (YS.grow (f := 61) (args := #[.agg (cellsB (trL m1)), .agg (cellsB kn)]) (by rfl) (fun w => by go_simp) (fun _ _ h hg => ⟨h.1.grown hg, h.2.grown hg (by simp)⟩) HWI.out) ?_
        simp only [Act.put, List.setIfInBounds_toArray, List.set_cons_zero, List.set_cons_succ]
        refine wpT_last rfl (by kernel_rfl) (by kernel_rfl) (by rfl) (fun w7 hS7 K hK => ?_)
        have hxl2 := xorL_len (trL_len hm1l) hknl
        refine wp_store_row 24 _ _ rfl gb (cellsB (xorL (trL m1) kn)) rfl rfl 24 _ hS7.1.2.1 (by rw [size_block, cellsB_size, hxl2]) (by rw [cellsB_size, cellsB_size, hxl, hxl2]) (cellsB_one _) (hK _ _ ?_)
        have hS8 := hS7.1.row (xorL (trL m1) kn) HD.out
        rw [← HEN.out] at hS8 ⊢
        obtain ⟨W8, hW8⟩ : ∃ W, W = w7.setRow gb (cellsB (E n)) := ⟨_, rfl⟩
        rw [← hW8] at hS8 ⊢
        have HS8 := Lib.hid hS8
        clear hS8 hW8 hS7
        go_wp2_with fail
        go_roundw
        case rel => exact ⟨n + 1, by omega, by omega, by go_num, by rw [show n + 1 - 1 = n by omega]; exact HS8.out⟩
        case measure => simp [intOf]; omega

      · have hEN : E n = xorL (trL s1) kn := by rw [HESN.out, if_neg h10]
        have HEN := Lib.hid hEN
        clear hEN
        have h10' : ¬ (n : Int) < 10 := by omega
        have h10d : decide ((n : Int) < 10) = false := by simp; omega
        go_upto_region 10 with (first | (refine wpList_putrow rfl rfl (gs) rfl (cellsB s1) rfl HB4.out (by rw [size_state, cellsB_size, hs1l]) (by rw [cellsB_size, cellsB_size, hs1l, hs0l]) (cellsB_one _) ?_; intro w5 hgP hrP; have HSx := Lib.hid (HS4.out.far hgP HWS.out (by have := HGS.out; omega) (by have := HGS.out; omega) (by have := HGS.out; omega)); have HBx := Lib.hid (show Blk w5 gs 95 s1 from hrP); clear hgP hrP))
        have HGA := Lib.hid (fun w1 : World => refGather_n s1 hs1l w1)
        have HWI := Lib.hid (fun w1 : World => refXor_n (trL s1) kn (trL_len hs1l) hknl w1)
        have hi4 : (Try.prog.info? 95).map (·.size) = some s1.length := by rw [size_state, hs1l]
        refine wp_regionT (fun w' => RS w gb g6 g7 kk x w' ∧ Blk w' gs 95 s1) 6 (by kernel_rfl) ⟨HSx.out.grown (grownBy_d1 (World.grownBy.refl _ _)), HBx.out.dr⟩ ?_
        refine wpT_take 0 (oi := { dst := some 30, op := Op.load 95 (Operand.tmp 9), type := 95, pos := "ref.go:168", after := #[], guard := none }) (oL := { dst := none, op := Op.store 24 (Operand.tmp 4) (Operand.tmp 35), type := 0, pos := "ref.go:168", after := #[{ on := 5, ground := Ground.data }, { on := 5, ground := Ground.chain }, { on := 0, ground := Ground.phase }, { on := 1, ground := Ground.phase }, { on := 2, ground := Ground.phase }, { on := 3, ground := Ground.phase }, { on := 4, ground := Ground.phase }, { on := 5, ground := Ground.phase }], guard := none }) rfl rfl rfl (by kernel_rfl) (by kernel_rfl) (by kernel_rfl) (by kernel_rfl) (by kernel_rfl) (fun _ _ _ h => h) (YS.rowM (by rfl) _ _ rfl gs 0 rfl s1 _ (fun _ h => h.2.range) Try.underlying95 rfl hi4) ?_
        simp only [Act.put, List.setIfInBounds_toArray, List.set_cons_zero, List.set_cons_succ]
        refine wpT_take 1 (v := .agg (cellsB (trL s1))) (oi := { dst := some 31, op := Op.call { callee := Callee.value (Operand.func 66), args := #[Operand.tmp 30], argTypes := #[95] }, type := 24, pos := "ref.go:168", after := #[{ on := 0, ground := Ground.data }], guard := none }) (oL := { dst := none, op := Op.store 24 (Operand.tmp 4) (Operand.tmp 35), type := 0, pos := "ref.go:168", after := #[{ on := 5, ground := Ground.data }, { on := 5, ground := Ground.chain }, { on := 0, ground := Ground.phase }, { on := 1, ground := Ground.phase }, { on := 2, ground := Ground.phase }, { on := 3, ground := Ground.phase }, { on := 4, ground := Ground.phase }, { on := 5, ground := Ground.phase }], guard := none }) rfl rfl rfl (by kernel_rfl) (by kernel_rfl) (by kernel_rfl) (by kernel_rfl) (by kernel_rfl) (fun _ _ _ h => h) (YS.grow (f := 66) (args := #[.agg (cellsB s1)]) (by rfl) (fun w => by go_simp) (fun _ _ h hg => ⟨h.1.grown hg, h.2.grown hg (by simp)⟩) HGA.out) ?_
        simp only [Act.put, List.setIfInBounds_toArray, List.set_cons_zero, List.set_cons_succ]
        refine wpT_take 2 (oi := { dst := some 32, op := Op.move (Operand.tmp 8), type := 3, pos := "ref.go:168", after := #[], guard := none }) (oL := { dst := none, op := Op.store 24 (Operand.tmp 4) (Operand.tmp 35), type := 0, pos := "ref.go:168", after := #[{ on := 5, ground := Ground.data }, { on := 5, ground := Ground.chain }, { on := 0, ground := Ground.phase }, { on := 1, ground := Ground.phase }, { on := 2, ground := Ground.phase }, { on := 3, ground := Ground.phase }, { on := 4, ground := Ground.phase }, { on := 5, ground := Ground.phase }], guard := none }) rfl rfl rfl (by kernel_rfl) (by kernel_rfl) (by kernel_rfl) (by kernel_rfl) (by kernel_rfl) (fun _ _ _ h => h) (YS.val (by rfl) (fun _ _ => rfl)) ?_
        simp only [Act.put, List.setIfInBounds_toArray, List.set_cons_zero, List.set_cons_succ]
        refine wpT_take 3 (v := .pointer (some ⟨g7, n * 16, none⟩)) (oi := { dst := some 33, op := Op.indexAddr 79 (Operand.tmp 7) (Operand.tmp 32), type := 0, pos := "ref.go:168", after := #[{ on := 2, ground := Ground.data }], guard := none }) (oL := { dst := none, op := Op.store 24 (Operand.tmp 4) (Operand.tmp 35), type := 0, pos := "ref.go:168", after := #[{ on := 5, ground := Ground.data }, { on := 5, ground := Ground.chain }, { on := 0, ground := Ground.phase }, { on := 1, ground := Ground.phase }, { on := 2, ground := Ground.phase }, { on := 3, ground := Ground.phase }, { on := 4, ground := Ground.phase }, { on := 5, ground := Ground.phase }], guard := none }) rfl rfl rfl (by kernel_rfl) (by kernel_rfl) (by kernel_rfl) (by kernel_rfl) (by kernel_rfl) (fun _ _ _ h => h) (YS.val (by rfl) (fun w _ => by go_simp)) ?_
        simp only [Act.put, List.setIfInBounds_toArray, List.set_cons_zero, List.set_cons_succ]
        refine wpT_take 4 (oi := { dst := some 34, op := Op.load 24 (Operand.tmp 33), type := 24, pos := "ref.go:168", after := #[{ on := 3, ground := Ground.data }], guard := none }) (oL := { dst := none, op := Op.store 24 (Operand.tmp 4) (Operand.tmp 35), type := 0, pos := "ref.go:168", after := #[{ on := 5, ground := Ground.data }, { on := 5, ground := Ground.chain }, { on := 0, ground := Ground.phase }, { on := 1, ground := Ground.phase }, { on := 2, ground := Ground.phase }, { on := 3, ground := Ground.phase }, { on := 4, ground := Ground.phase }, { on := 5, ground := Ground.phase }], guard := none }) rfl rfl rfl (by kernel_rfl) (by kernel_rfl) (by kernel_rfl) (by kernel_rfl) (by kernel_rfl) (fun _ _ _ h => h) (YS.rowM (by rfl) _ _ rfl g7 (n * 16) rfl kn _ (fun _ h => by rw [HKN.out]; exact Blk.key h.1.2.2.2 n) Try.underlying24 rfl hi2') ?_
        simp only [Act.put, List.setIfInBounds_toArray, List.set_cons_zero, List.set_cons_succ]
        refine wpT_take 5 (v := .agg (cellsB (xorL (trL s1) kn))) (oi := { dst := some 35, op := Op.call { callee := Callee.value (Operand.func 61), args := #[Operand.tmp 31, Operand.tmp 34], argTypes := #[24, 24] }, type := 24, pos := "ref.go:168", after := #[{ on := 1, ground := Ground.data }, { on := 4, ground := Ground.data }, { on := 1, ground := Ground.chain }], guard := none }) (oL := { dst := none, op := Op.store 24 (Operand.tmp 4) (Operand.tmp 35), type := 0, pos := "ref.go:168", after := #[{ on := 5, ground := Ground.data }, { on := 5, ground := Ground.chain }, { on := 0, ground := Ground.phase }, { on := 1, ground := Ground.phase }, { on := 2, ground := Ground.phase }, { on := 3, ground := Ground.phase }, { on := 4, ground := Ground.phase }, { on := 5, ground := Ground.phase }], guard := none }) rfl rfl rfl (by kernel_rfl) (by kernel_rfl) (by kernel_rfl) (by kernel_rfl) (by kernel_rfl) (fun _ _ _ h => h) (YS.grow (f := 61) (args := #[.agg (cellsB (trL s1)), .agg (cellsB kn)]) (by rfl) (fun w => by go_simp) (fun _ _ h hg => ⟨h.1.grown hg, h.2.grown hg (by simp)⟩) HWI.out) ?_
        simp only [Act.put, List.setIfInBounds_toArray, List.set_cons_zero, List.set_cons_succ]
        refine wpT_last rfl (by kernel_rfl) (by kernel_rfl) (by rfl) (fun w7 hS7 K hK => ?_)
        have hxl2 := xorL_len (trL_len hs1l) hknl
        refine wp_store_row 24 _ _ rfl gb (cellsB (xorL (trL s1) kn)) rfl rfl 24 _ hS7.1.2.1 (by rw [size_block, cellsB_size, hxl2]) (by rw [cellsB_size, cellsB_size, hxl, hxl2]) (cellsB_one _) (hK _ _ ?_)
        have hS8 := hS7.1.row (xorL (trL s1) kn) HD.out
        rw [← HEN.out] at hS8 ⊢
        obtain ⟨W8, hW8⟩ : ∃ W, W = w7.setRow gb (cellsB (E n)) := ⟨_, rfl⟩
        rw [← hW8] at hS8 ⊢
        have HS8 := Lib.hid hS8
        clear hS8 hW8 hS7
        go_wp2_with fail
        go_roundw
        case rel => exact ⟨n + 1, by omega, by omega, by go_num, by rw [show n + 1 - 1 = n by omega]; exact HS8.out⟩
        case measure => simp [intOf]; omega

    · obtain rfl : n = R + 1 := by omega
      rw [show R + 1 - 1 = R by omega] at hS
      have hel := HEL.out R hR
      have HSF := Lib.hid hS
      obtain ⟨y, hy⟩ : ∃ y, y = E R := ⟨_, rfl⟩
      rw [← hy] at hel HSF
      have e10 : ((R + 1 : Nat) : Int) = (R : Int) + 1 := by omega
      rw [e10]
      have HY := Lib.hid hy
      clear hS hy e10
      go_wp2_with (first | (refine wpList_load_row rfl 24 _ rfl (gb) rfl 24 (cellsB y) (0, 0) _ HSF.out.2.1 Try.underlying24 rfl (by rw [size_block, cellsB_size, hel]) ?_) | (refine wpList_store_row rfl 24 _ _ rfl g6 (cellsB y) rfl rfl 24 _ HSF.out.2.2.1 (by rw [size_block, cellsB_size, hel]) (by rw [cellsB_size, cellsB_size, hel]; rfl) (cellsB_one _) ?_))
      refine bodyPost_ret (v := .agg (cellsB y)) (results_cell_row rfl _ _ g6 24 (cellsB y) (0, 0) _ rfl (setRow_heap _ _ _ _ _ _ HSF.out.2.2.1) Try.underlying24 rfl (by rw [size_block, cellsB_size, hel])) rfl ⟨by rw [HY.out], ?_⟩
      exact grownBy_old HSF.out.1 (grownBy_setRow _ _ _) (by have := HD.out; omega)

end Go.Proofs.Ytblgdfamomlklaa
