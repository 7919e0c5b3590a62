/- The law OctetXor. -/
import Derived.Test.YthemlaibjchjpaaRefXor
import Derived.Test.YthemlaibjchjpaaLess
import Derived.Test.YthemlaibjchjpaaKept
import Derived.Test.YthemlaibjchjpaaApart2
namespace Go.Proofs.Ythemlaibjchjpaa
open Go.RowKit

def Sl.off (s t : Sl) : Prop := ∀ g, s.blk = some g → t.blk ≠ some g
theorem Sl.off_win {s t : Sl} {a b c d : Nat} (h : s.within a b) (k : t.within c d) (hbc : b ≤ c) : s.off t := fun g h1 h2 => by
  have := h g h1
  have := k g h2
  omega
theorem distinct_pairs (L : List Sl) (h : L.Pairwise Sl.off) : Distinct L := by
  intro i j hi hj hne g h1 h2
  rw [List.pairwise_iff_getElem] at h
  rcases Nat.lt_or_gt_of_ne hne with hlt | hlt
  · exact h i j hi hj hlt g h1 h2
  · exact h j i hj hi hlt g h2 h1

/-- the error, the bytes -/
def xorE (a b : List UInt8) : Nat := if a.length = b.length then 0 else 12
def xorV (a b : List UInt8) : List UInt8 := if a.length = b.length then xorL a b else []
theorem xorV_le (a b : List UInt8) : (xorV a b).length ≤ a.length := by
  unfold xorV
  split
  · rename_i h; rw [xorL_len h]; exact Nat.le_refl _
  · simp
theorem xor_nn (aa ab : Option Addr) (n m ca cb : Nat) (l1 l2 : List UInt8) (w : World) (ha : BLies w aa l1) (hb : BLies w ab l2) (hl1 : l1.length = n) (hl2 : l2.length = m) (hn : n ≤ 4000000000) :
    Calls Try.prog 28 #[.slice aa n ca, .slice ab m cb] w fun e w' => ∃ ao no co, e = .returned (.tuple #[.slice ao no co, .int .i64 (xorE l1 l2 : Nat)]) ∧ BOwn w' w.heap.size ao no co (xorV l1 l2) ∧ w.grownBy w' none := by
  by_cases he : n = m
  · subst he
    have h : l1.length = l2.length := by rw [hl1, hl2]
    rw [xorE, xorV, if_pos h, if_pos h]
    exact xor_eq aa ab n ca cb l1 l2 w ha hb hl1 hl2 hn _ rfl
  · have h : l1.length ≠ l2.length := by rw [hl1, hl2]; exact he
    rw [xorE, xorV, if_neg h, if_neg h]
    exact (xor_ne aa ab n m ca cb l1 l2 w hl1 hl2 he).mono fun e w' ⟨h1, h2⟩ => ⟨none, 0, 0, h1, Own.nil _ _ _ _ _, h2⟩
theorem refXor_nn (aa ab : Option Addr) (n m ca cb : Nat) (l1 l2 : List UInt8) (w : World) (ha : BLies w aa l1) (hb : BLies w ab l2) (hl1 : l1.length = n) (hl2 : l2.length = m) (hn : n ≤ 4000000000) :
    Calls Try.prog 30 #[.slice aa n ca, .slice ab m cb] w fun e w' => ∃ ao no co, e = .returned (.tuple #[.slice ao no co, .int .i64 (xorE l1 l2 : Nat)]) ∧ BOwn w' w.heap.size ao no co (xorV l1 l2) ∧ w.grownBy w' none := by
  by_cases he : n = m
  · subst he
    have h : l1.length = l2.length := by rw [hl1, hl2]
    rw [xorE, xorV, if_pos h, if_pos h]
    exact (refXor_eq aa ab n ca cb l1 l2 w ha hb hl1 hl2 hn _ rfl).mono fun e w' ⟨ao, co, h1, h2, h3⟩ => ⟨ao, n, co, h1, h2, h3⟩
  · have h : l1.length ≠ l2.length := by rw [hl1, hl2]; exact he
    rw [xorE, xorV, if_neg h, if_neg h]
    exact (refXor_ne aa ab n m ca cb w he).mono fun e w' ⟨h1, h2⟩ => ⟨none, 0, 0, h1, Own.nil _ _ _ _ _, h2 ▸ World.grownBy.refl _ _⟩

set_option maxRecDepth 100000 in
set_option maxHeartbeats 4000000 in
theorem octxor_walk (a b : Option Addr) (ca cb n m : Nat) (la lb : List UInt8) (w : World) (ha : BLies w a la) (hb : BLies w b lb) (hla : la.length = n) (hlb : lb.length = m) (hn : n ≤ 1048576) (hm : m ≤ 1048576) :
    Calls Try.prog 5 #[.slice a n ca, .slice b m cb] w fun e w' => e = .returned (.bool true) ∧ w.grownBy w' none := by
  have ht1 := fun (aa ab : Option Addr) (ca cb : Nat) (w : World) (ha : BLies w aa la) (hb : BLies w ab lb) => xor_nn aa ab n m ca cb la lb w ha hb hla hlb (by omega)
  have hr1 := fun (aa ab : Option Addr) (ca cb : Nat) (w : World) (ha : BLies w aa la) (hb : BLies w ab lb) => refXor_nn aa ab n m ca cb la lb w ha hb hla hlb (by omega)
  have hb1 : (xorV la lb).length ≤ 3000000 := by have := xorV_le la lb; omega
  have hl1 := fun (aa ab : Option Addr) (ca cb : Nat) (w : World) (ha : BLies w aa la) (hb : BLies w ab lb) => less_n aa ab n m ca cb la lb w ha hla hb hlb
  have hl2 := fun (aa ab : Option Addr) (ca cb : Nat) (w : World) (ha : BLies w aa la) (hb : BLies w ab lb) => refLess_n aa ab n m ca cb la lb w ha hla hb hlb (by omega) (by omega)
  generalize xorE la lb = E at ht1 hr1
  generalize xorV la lb = X at ht1 hr1 hb1
  generalize lessL la lb = L at hl1 hl2
  have HT1 := Lib.hid ht1
  have HR1 := Lib.hid hr1
  have HL1 := Lib.hid hl1
  have HL2 := Lib.hid hl2
  have HB1 := Lib.hid hb1
  have HA := Lib.hid ha
  have HB := Lib.hid hb
  have HLA := Lib.hid hla
  have HLB := Lib.hid hlb
  have HG := Lib.hid (World.grownBy.refl w none)
  clear ht1 hr1 hl1 hl2 hb1 ha hb hla hlb
  go_enter Try.func5, Try.ntmps5
  go_wp2_with fail
  refine (lent_n _ _ _ la _ (HA.out.grown HG.out) HLA.out (by omega)).mono ?_
  rintro e w1 ⟨gA, cA, rfl, oF, g⟩
  have hccA := oF.cap.1
  have YgA : Hid (w.heap.size ≤ gA ∧ gA < w1.heap.size) := Lib.hid (by obtain ⟨g', e, h1, h2⟩ := Own.block oF (by omega); injection e with e; injection e with e; subst e; exact ⟨h1, h2⟩)
  have HFA := Lib.hid oF
  clear oF
  have Z1 := Lib.hid g.size
  replace HG := Lib.hid (grownBy_trans HG.out g)
  clear g
  go_wp2_with fail
  refine (lent_n _ _ _ lb _ (HB.out.grown HG.out) HLB.out (by omega)).mono ?_
  rintro e w2 ⟨gB, cB, rfl, oF, g⟩
  have hccB := oF.cap.1
  have YgB : Hid (w1.heap.size ≤ gB ∧ gB < w2.heap.size) := Lib.hid (by obtain ⟨g', e, h1, h2⟩ := Own.block oF (by omega); injection e with e; injection e with e; subst e; exact ⟨h1, h2⟩)
  have HFB := Lib.hid oF
  clear oF
  have Z2 := Lib.hid g.size
  replace HG := Lib.hid (grownBy_trans HG.out g)
  replace HFA := Lib.hid (HFA.out.grown g)
  clear g
  go_upto_region 3 with fail
  refine wp_regionX (fun u => w2.grownBy u none) 13 (by kernel_rfl) (grownBy_drewN w2 1 none) ?_
  refine wpX_take 0 (v := .slice (some ⟨gA, 0, none⟩) (n + 70) cA) (oi := { dst := some 19, op := Op.move (Operand.tmp 5), type := 22, pos := "law.go:104", after := #[], guard := none }) (oL := { dst := some 8, op := Op.assign (Operand.tmp 29), type := 43, pos := "law.go:104", after := #[{ on := 11, ground := Ground.data }, { on := 12, ground := Ground.chain }, { on := 0, ground := Ground.phase }, { on := 1, ground := Ground.phase }, { on := 2, ground := Ground.phase }, { on := 3, ground := Ground.phase }, { on := 4, ground := Ground.phase }, { on := 5, ground := Ground.phase }, { on := 6, ground := Ground.phase }, { on := 7, ground := Ground.phase }, { on := 8, ground := Ground.phase }, { on := 9, ground := Ground.phase }, { on := 10, ground := Ground.phase }, { on := 11, ground := Ground.phase }, { on := 12, ground := Ground.phase }], guard := none }) (clo_grown _) rfl rfl rfl (by kernel_rfl) (by kernel_rfl) (by kernel_rfl) (by kernel_rfl) (by kernel_rfl) (fun _ _ _ h => h) (YG.val (by rfl) (fun _ _ => rfl)) ?_
  simp only [Act.put, List.setIfInBounds_toArray, List.set_cons_zero, List.set_cons_succ]
  refine wpX_take 1 (v := .slice a n ca) (oi := { dst := some 20, op := Op.move (Operand.tmp 0), type := 22, pos := "law.go:104", after := #[], guard := none }) (oL := { dst := some 8, op := Op.assign (Operand.tmp 29), type := 43, pos := "law.go:104", after := #[{ on := 11, ground := Ground.data }, { on := 12, ground := Ground.chain }, { on := 0, ground := Ground.phase }, { on := 1, ground := Ground.phase }, { on := 2, ground := Ground.phase }, { on := 3, ground := Ground.phase }, { on := 4, ground := Ground.phase }, { on := 5, ground := Ground.phase }, { on := 6, ground := Ground.phase }, { on := 7, ground := Ground.phase }, { on := 8, ground := Ground.phase }, { on := 9, ground := Ground.phase }, { on := 10, ground := Ground.phase }, { on := 11, ground := Ground.phase }, { on := 12, ground := Ground.phase }], guard := none }) (clo_grown _) rfl rfl rfl (by kernel_rfl) (by kernel_rfl) (by kernel_rfl) (by kernel_rfl) (by kernel_rfl) (fun _ _ _ h => h) (YG.val (by rfl) (fun _ _ => rfl)) ?_
  simp only [Act.put, List.setIfInBounds_toArray, List.set_cons_zero, List.set_cons_succ]
  refine wpX_take 2 (v := .int .i64 (n : Int)) (oi := { dst := some 21, op := Op.call { callee := Callee.builtin Builtin.len, args := #[Operand.tmp 20], argTypes := #[22] }, type := 3, pos := "law.go:104", after := #[{ on := 1, ground := Ground.data }], guard := none }) (oL := { dst := some 8, op := Op.assign (Operand.tmp 29), type := 43, pos := "law.go:104", after := #[{ on := 11, ground := Ground.data }, { on := 12, ground := Ground.chain }, { on := 0, ground := Ground.phase }, { on := 1, ground := Ground.phase }, { on := 2, ground := Ground.phase }, { on := 3, ground := Ground.phase }, { on := 4, ground := Ground.phase }, { on := 5, ground := Ground.phase }, { on := 6, ground := Ground.phase }, { on := 7, ground := Ground.phase }, { on := 8, ground := Ground.phase }, { on := 9, ground := Ground.phase }, { on := 10, ground := Ground.phase }, { on := 11, ground := Ground.phase }, { on := 12, ground := Ground.phase }], guard := none }) (clo_grown _) rfl rfl rfl (by kernel_rfl) (by kernel_rfl) (by kernel_rfl) (by kernel_rfl) (by kernel_rfl) (fun _ _ _ h => h) (YG.val (by rfl) (fun _ _ => by go_simp)) ?_
  simp only [Act.put, List.setIfInBounds_toArray, List.set_cons_zero, List.set_cons_succ]
  refine wpX_take 3 (v := .slice (some ⟨gA, 0, none⟩) n cA) (oi := { dst := some 22, op := Op.slice 22 (Operand.tmp 19) none (some (Operand.tmp 21)) none, type := 22, pos := "law.go:104", after := #[{ on := 0, ground := Ground.data }, { on := 2, ground := Ground.data }], guard := none }) (oL := { dst := some 8, op := Op.assign (Operand.tmp 29), type := 43, pos := "law.go:104", after := #[{ on := 11, ground := Ground.data }, { on := 12, ground := Ground.chain }, { on := 0, ground := Ground.phase }, { on := 1, ground := Ground.phase }, { on := 2, ground := Ground.phase }, { on := 3, ground := Ground.phase }, { on := 4, ground := Ground.phase }, { on := 5, ground := Ground.phase }, { on := 6, ground := Ground.phase }, { on := 7, ground := Ground.phase }, { on := 8, ground := Ground.phase }, { on := 9, ground := Ground.phase }, { on := 10, ground := Ground.phase }, { on := 11, ground := Ground.phase }, { on := 12, ground := Ground.phase }], guard := none }) (clo_grown _) rfl rfl rfl (by kernel_rfl) (by kernel_rfl) (by kernel_rfl) (by kernel_rfl) (by kernel_rfl) (fun _ _ _ h => h) (YG.val (by rfl) (fun u _ => run_pre_op u _ (.tmp 19) (.tmp 21) rfl gA (n + 70) cA n rfl rfl (by omega))) ?_
  simp only [Act.put, List.setIfInBounds_toArray, List.set_cons_zero, List.set_cons_succ]
  refine wpX_take 4 (v := .slice (some ⟨gB, 0, none⟩) (m + 70) cB) (oi := { dst := some 23, op := Op.move (Operand.tmp 6), type := 22, pos := "law.go:104", after := #[], guard := none }) (oL := { dst := some 8, op := Op.assign (Operand.tmp 29), type := 43, pos := "law.go:104", after := #[{ on := 11, ground := Ground.data }, { on := 12, ground := Ground.chain }, { on := 0, ground := Ground.phase }, { on := 1, ground := Ground.phase }, { on := 2, ground := Ground.phase }, { on := 3, ground := Ground.phase }, { on := 4, ground := Ground.phase }, { on := 5, ground := Ground.phase }, { on := 6, ground := Ground.phase }, { on := 7, ground := Ground.phase }, { on := 8, ground := Ground.phase }, { on := 9, ground := Ground.phase }, { on := 10, ground := Ground.phase }, { on := 11, ground := Ground.phase }, { on := 12, ground := Ground.phase }], guard := none }) (clo_grown _) rfl rfl rfl (by kernel_rfl) (by kernel_rfl) (by kernel_rfl) (by kernel_rfl) (by kernel_rfl) (fun _ _ _ h => h) (YG.val (by rfl) (fun _ _ => rfl)) ?_
  simp only [Act.put, List.setIfInBounds_toArray, List.set_cons_zero, List.set_cons_succ]
  refine wpX_take 5 (v := .slice b m cb) (oi := { dst := some 24, op := Op.move (Operand.tmp 1), type := 22, pos := "law.go:104", after := #[], guard := none }) (oL := { dst := some 8, op := Op.assign (Operand.tmp 29), type := 43, pos := "law.go:104", after := #[{ on := 11, ground := Ground.data }, { on := 12, ground := Ground.chain }, { on := 0, ground := Ground.phase }, { on := 1, ground := Ground.phase }, { on := 2, ground := Ground.phase }, { on := 3, ground := Ground.phase }, { on := 4, ground := Ground.phase }, { on := 5, ground := Ground.phase }, { on := 6, ground := Ground.phase }, { on := 7, ground := Ground.phase }, { on := 8, ground := Ground.phase }, { on := 9, ground := Ground.phase }, { on := 10, ground := Ground.phase }, { on := 11, ground := Ground.phase }, { on := 12, ground := Ground.phase }], guard := none }) (clo_grown _) rfl rfl rfl (by kernel_rfl) (by kernel_rfl) (by kernel_rfl) (by kernel_rfl) (by kernel_rfl) (fun _ _ _ h => h) (YG.val (by rfl) (fun _ _ => rfl)) ?_
  simp only [Act.put, List.setIfInBounds_toArray, List.set_cons_zero, List.set_cons_succ]
  refine wpX_take 6 (v := .int .i64 (m : Int)) (oi := { dst := some 25, op := Op.call { callee := Callee.builtin Builtin.len, args := #[Operand.tmp 24], argTypes := #[22] }, type := 3, pos := "law.go:104", after := #[{ on := 5, ground := Ground.data }], guard := none }) (oL := { dst := some 8, op := Op.assign (Operand.tmp 29), type := 43, pos := "law.go:104", after := #[{ on := 11, ground := Ground.data }, { on := 12, ground := Ground.chain }, { on := 0, ground := Ground.phase }, { on := 1, ground := Ground.phase }, { on := 2, ground := Ground.phase }, { on := 3, ground := Ground.phase }, { on := 4, ground := Ground.phase }, { on := 5, ground := Ground.phase }, { on := 6, ground := Ground.phase }, { on := 7, ground := Ground.phase }, { on := 8, ground := Ground.phase }, { on := 9, ground := Ground.phase }, { on := 10, ground := Ground.phase }, { on := 11, ground := Ground.phase }, { on := 12, ground := Ground.phase }], guard := none }) (clo_grown _) rfl rfl rfl (by kernel_rfl) (by kernel_rfl) (by kernel_rfl) (by kernel_rfl) (by kernel_rfl) (fun _ _ _ h => h) (YG.val (by rfl) (fun _ _ => by go_simp)) ?_
  simp only [Act.put, List.setIfInBounds_toArray, List.set_cons_zero, List.set_cons_succ]
  refine wpX_take 7 (v := .slice (some ⟨gB, 0, none⟩) m cB) (oi := { dst := some 26, op := Op.slice 22 (Operand.tmp 23) none (some (Operand.tmp 25)) none, type := 22, pos := "law.go:104", after := #[{ on := 4, ground := Ground.data }, { on := 6, ground := Ground.data }], guard := none }) (oL := { dst := some 8, op := Op.assign (Operand.tmp 29), type := 43, pos := "law.go:104", after := #[{ on := 11, ground := Ground.data }, { on := 12, ground := Ground.chain }, { on := 0, ground := Ground.phase }, { on := 1, ground := Ground.phase }, { on := 2, ground := Ground.phase }, { on := 3, ground := Ground.phase }, { on := 4, ground := Ground.phase }, { on := 5, ground := Ground.phase }, { on := 6, ground := Ground.phase }, { on := 7, ground := Ground.phase }, { on := 8, ground := Ground.phase }, { on := 9, ground := Ground.phase }, { on := 10, ground := Ground.phase }, { on := 11, ground := Ground.phase }, { on := 12, ground := Ground.phase }], guard := none }) (clo_grown _) rfl rfl rfl (by kernel_rfl) (by kernel_rfl) (by kernel_rfl) (by kernel_rfl) (by kernel_rfl) (fun _ _ _ h => h) (YG.val (by rfl) (fun u _ => run_pre_op u _ (.tmp 23) (.tmp 25) rfl gB (m + 70) cB m rfl rfl (by omega))) ?_
  simp only [Act.put, List.setIfInBounds_toArray, List.set_cons_zero, List.set_cons_succ]
  refine wpX_step 8 (o := { dst := some 27, op := Op.call { callee := Callee.value (Operand.func 28), args := #[Operand.tmp 22, Operand.tmp 26], argTypes := #[22, 22] }, type := 47, pos := "law.go:104", after := #[{ on := 3, ground := Ground.data }, { on := 7, ground := Ground.data }], guard := none }) rfl rfl (by kernel_rfl) (by rfl) (fun u2 hS2 K hK => ?_)
  have HK := Lib.hid hK
  have HS2 := Lib.hid hS2
  clear hK hS2
  refine wp_call_op (f := 28) (args := #[.slice (some ⟨gA, 0, none⟩) n cA, .slice (some ⟨gB, 0, none⟩) m cB]) (w1 := u2) (by go_simp) ((HT1.out _ _ _ _ u2 (by have h := (HFA.out.grown HS2.out).lies.take n; rw [lent_take la n HLA.out] at h; exact h) (by have h := (HFB.out.grown HS2.out).lies.take m; rw [lent_take lb m HLB.out] at h; exact h)).mono ?_)
  rintro e u3 ⟨al, ml, cl, rfl, ho, hg⟩
  obtain rfl := ho.len
  refine ⟨_, rfl, HK.out (fun u => u3.grownBy u none) _ _ (World.grownBy.refl _ _) (fun u h => grownBy_trans (grownBy_trans HS2.out hg) h) (clo_grown u3) ?_⟩
  simp only [Act.put, List.setIfInBounds_toArray, List.set_cons_zero, List.set_cons_succ]
  refine wpX_take 9 (v := .tuple #[.slice al X.length cl, .int .i64 (E : Nat)]) (oi := { dst := some 18, op := Op.move (Operand.tmp 27), type := 47, pos := "law.go:104", after := #[{ on := 8, ground := Ground.data }], guard := none }) (oL := { dst := some 8, op := Op.assign (Operand.tmp 29), type := 43, pos := "law.go:104", after := #[{ on := 11, ground := Ground.data }, { on := 12, ground := Ground.chain }, { on := 0, ground := Ground.phase }, { on := 1, ground := Ground.phase }, { on := 2, ground := Ground.phase }, { on := 3, ground := Ground.phase }, { on := 4, ground := Ground.phase }, { on := 5, ground := Ground.phase }, { on := 6, ground := Ground.phase }, { on := 7, ground := Ground.phase }, { on := 8, ground := Ground.phase }, { on := 9, ground := Ground.phase }, { on := 10, ground := Ground.phase }, { on := 11, ground := Ground.phase }, { on := 12, ground := Ground.phase }], guard := none }) (clo_grown _) rfl rfl rfl (by kernel_rfl) (by kernel_rfl) (by kernel_rfl) (by kernel_rfl) (by kernel_rfl) (fun _ _ _ h => h) (YG.val (by rfl) (fun _ _ => rfl)) ?_
  simp only [Act.put, List.setIfInBounds_toArray, List.set_cons_zero, List.set_cons_succ]
  refine wpX_take 10 (v := .slice al X.length cl) (oi := { dst := some 28, op := Op.extract (Operand.tmp 18) 0, type := 22, pos := "law.go:104", after := #[{ on := 9, ground := Ground.data }], guard := none }) (oL := { dst := some 8, op := Op.assign (Operand.tmp 29), type := 43, pos := "law.go:104", after := #[{ on := 11, ground := Ground.data }, { on := 12, ground := Ground.chain }, { on := 0, ground := Ground.phase }, { on := 1, ground := Ground.phase }, { on := 2, ground := Ground.phase }, { on := 3, ground := Ground.phase }, { on := 4, ground := Ground.phase }, { on := 5, ground := Ground.phase }, { on := 6, ground := Ground.phase }, { on := 7, ground := Ground.phase }, { on := 8, ground := Ground.phase }, { on := 9, ground := Ground.phase }, { on := 10, ground := Ground.phase }, { on := 11, ground := Ground.phase }, { on := 12, ground := Ground.phase }], guard := none }) (clo_grown _) rfl rfl rfl (by kernel_rfl) (by kernel_rfl) (by kernel_rfl) (by kernel_rfl) (by kernel_rfl) (fun _ _ _ h => h) (YG.val (by rfl) (fun _ _ => by go_simp)) ?_
  simp only [Act.put, List.setIfInBounds_toArray, List.set_cons_zero, List.set_cons_succ]
  refine wpX_take 11 (v := .int .i64 (E : Nat)) (oi := { dst := some 29, op := Op.extract (Operand.tmp 18) 1, type := 43, pos := "law.go:104", after := #[{ on := 9, ground := Ground.data }, { on := 12, ground := Ground.gcOnly Departure.lateStores }], guard := none }) (oL := { dst := some 8, op := Op.assign (Operand.tmp 29), type := 43, pos := "law.go:104", after := #[{ on := 11, ground := Ground.data }, { on := 12, ground := Ground.chain }, { on := 0, ground := Ground.phase }, { on := 1, ground := Ground.phase }, { on := 2, ground := Ground.phase }, { on := 3, ground := Ground.phase }, { on := 4, ground := Ground.phase }, { on := 5, ground := Ground.phase }, { on := 6, ground := Ground.phase }, { on := 7, ground := Ground.phase }, { on := 8, ground := Ground.phase }, { on := 9, ground := Ground.phase }, { on := 10, ground := Ground.phase }, { on := 11, ground := Ground.phase }, { on := 12, ground := Ground.phase }], guard := none }) (clo_grown _) rfl rfl rfl (by kernel_rfl) (by kernel_rfl) (by kernel_rfl) (by kernel_rfl) (by kernel_rfl) (fun _ _ _ h => h) (YG.val (by rfl) (fun _ _ => by go_simp)) ?_
  simp only [Act.put, List.setIfInBounds_toArray, List.set_cons_zero, List.set_cons_succ]
  refine wpX_take 12 (v := .slice al X.length cl) (oi := { dst := some 7, op := Op.assign (Operand.tmp 28), type := 22, pos := "law.go:104", after := #[{ on := 10, ground := Ground.data }, { on := 8, ground := Ground.chain }, { on := 0, ground := Ground.phase }, { on := 1, ground := Ground.phase }, { on := 2, ground := Ground.phase }, { on := 3, ground := Ground.phase }, { on := 4, ground := Ground.phase }, { on := 5, ground := Ground.phase }, { on := 6, ground := Ground.phase }, { on := 7, ground := Ground.phase }, { on := 8, ground := Ground.phase }, { on := 9, ground := Ground.phase }, { on := 10, ground := Ground.phase }, { on := 11, ground := Ground.textOnly Departure.lateStores }], guard := none }) (oL := { dst := some 8, op := Op.assign (Operand.tmp 29), type := 43, pos := "law.go:104", after := #[{ on := 11, ground := Ground.data }, { on := 12, ground := Ground.chain }, { on := 0, ground := Ground.phase }, { on := 1, ground := Ground.phase }, { on := 2, ground := Ground.phase }, { on := 3, ground := Ground.phase }, { on := 4, ground := Ground.phase }, { on := 5, ground := Ground.phase }, { on := 6, ground := Ground.phase }, { on := 7, ground := Ground.phase }, { on := 8, ground := Ground.phase }, { on := 9, ground := Ground.phase }, { on := 10, ground := Ground.phase }, { on := 11, ground := Ground.phase }, { on := 12, ground := Ground.phase }], guard := none }) (clo_grown _) rfl rfl rfl (by kernel_rfl) (by kernel_rfl) (by kernel_rfl) (by kernel_rfl) (by kernel_rfl) (fun _ _ _ h => h) (YG.val (by rfl) (fun _ _ => rfl)) ?_
  simp only [Act.put, List.setIfInBounds_toArray, List.set_cons_zero, List.set_cons_succ]
  refine wpX_last (oL := { dst := some 8, op := Op.assign (Operand.tmp 29), type := 43, pos := "law.go:104", after := #[{ on := 11, ground := Ground.data }, { on := 12, ground := Ground.chain }, { on := 0, ground := Ground.phase }, { on := 1, ground := Ground.phase }, { on := 2, ground := Ground.phase }, { on := 3, ground := Ground.phase }, { on := 4, ground := Ground.phase }, { on := 5, ground := Ground.phase }, { on := 6, ground := Ground.phase }, { on := 7, ground := Ground.phase }, { on := 8, ground := Ground.phase }, { on := 9, ground := Ground.phase }, { on := 10, ground := Ground.phase }, { on := 11, ground := Ground.phase }, { on := 12, ground := Ground.phase }], guard := none }) rfl (by kernel_rfl) (by kernel_rfl) (by rfl) (fun u4 hS4 K4 hK4 => ?_)
  refine wp_val_op (v := .int .i64 (E : Nat)) (w1 := u4) (rfl) (hK4 _ _ ?_)
  simp only [Act.put, List.setIfInBounds_toArray, List.set_cons_zero, List.set_cons_succ]
  obtain ⟨w3, hwn⟩ : ∃ w3, w3 = u4 := ⟨_, rfl⟩
  rw [← hwn] at hS4 ⊢
  have HXl := Lib.hid ((BOwn.grown ho hS4).mono HS2.out.size)
  have g := grownBy_trans (grownBy_trans HS2.out hg) hS4
  clear hwn ho hg hS4 HS2 HK hK4
  have Z3 := Lib.hid g.size
  replace HG := Lib.hid (grownBy_trans HG.out g)
  replace HFA := Lib.hid (HFA.out.grown g)
  replace HFB := Lib.hid (HFB.out.grown g)
  clear g
  have WIl := Lib.hid HXl.out.within
  go_upto_region 4 with fail
  refine wp_regionX (fun u => w3.grownBy u none) 13 (by kernel_rfl) (grownBy_drewN w3 1 none) ?_
  refine wpX_take 0 (v := .slice (some ⟨gA, 0, none⟩) (n + 70) cA) (oi := { dst := some 31, op := Op.move (Operand.tmp 5), type := 22, pos := "law.go:105", after := #[], guard := none }) (oL := { dst := some 10, op := Op.assign (Operand.tmp 41), type := 43, pos := "law.go:105", after := #[{ on := 11, ground := Ground.data }, { on := 12, ground := Ground.chain }, { on := 0, ground := Ground.phase }, { on := 1, ground := Ground.phase }, { on := 2, ground := Ground.phase }, { on := 3, ground := Ground.phase }, { on := 4, ground := Ground.phase }, { on := 5, ground := Ground.phase }, { on := 6, ground := Ground.phase }, { on := 7, ground := Ground.phase }, { on := 8, ground := Ground.phase }, { on := 9, ground := Ground.phase }, { on := 10, ground := Ground.phase }, { on := 11, ground := Ground.phase }, { on := 12, ground := Ground.phase }], guard := none }) (clo_grown _) rfl rfl rfl (by kernel_rfl) (by kernel_rfl) (by kernel_rfl) (by kernel_rfl) (by kernel_rfl) (fun _ _ _ h => h) (YG.val (by rfl) (fun _ _ => rfl)) ?_
  simp only [Act.put, List.setIfInBounds_toArray, List.set_cons_zero, List.set_cons_succ]
  refine wpX_take 1 (v := .slice a n ca) (oi := { dst := some 32, op := Op.move (Operand.tmp 0), type := 22, pos := "law.go:105", after := #[], guard := none }) (oL := { dst := some 10, op := Op.assign (Operand.tmp 41), type := 43, pos := "law.go:105", after := #[{ on := 11, ground := Ground.data }, { on := 12, ground := Ground.chain }, { on := 0, ground := Ground.phase }, { on := 1, ground := Ground.phase }, { on := 2, ground := Ground.phase }, { on := 3, ground := Ground.phase }, { on := 4, ground := Ground.phase }, { on := 5, ground := Ground.phase }, { on := 6, ground := Ground.phase }, { on := 7, ground := Ground.phase }, { on := 8, ground := Ground.phase }, { on := 9, ground := Ground.phase }, { on := 10, ground := Ground.phase }, { on := 11, ground := Ground.phase }, { on := 12, ground := Ground.phase }], guard := none }) (clo_grown _) rfl rfl rfl (by kernel_rfl) (by kernel_rfl) (by kernel_rfl) (by kernel_rfl) (by kernel_rfl) (fun _ _ _ h => h) (YG.val (by rfl) (fun _ _ => rfl)) ?_
  simp only [Act.put, List.setIfInBounds_toArray, List.set_cons_zero, List.set_cons_succ]
  refine wpX_take 2 (v := .int .i64 (n : Int)) (oi := { dst := some 33, op := Op.call { callee := Callee.builtin Builtin.len, args := #[Operand.tmp 32], argTypes := #[22] }, type := 3, pos := "law.go:105", after := #[{ on := 1, ground := Ground.data }], guard := none }) (oL := { dst := some 10, op := Op.assign (Operand.tmp 41), type := 43, pos := "law.go:105", after := #[{ on := 11, ground := Ground.data }, { on := 12, ground := Ground.chain }, { on := 0, ground := Ground.phase }, { on := 1, ground := Ground.phase }, { on := 2, ground := Ground.phase }, { on := 3, ground := Ground.phase }, { on := 4, ground := Ground.phase }, { on := 5, ground := Ground.phase }, { on := 6, ground := Ground.phase }, { on := 7, ground := Ground.phase }, { on := 8, ground := Ground.phase }, { on := 9, ground := Ground.phase }, { on := 10, ground := Ground.phase }, { on := 11, ground := Ground.phase }, { on := 12, ground := Ground.phase }], guard := none }) (clo_grown _) rfl rfl rfl (by kernel_rfl) (by kernel_rfl) (by kernel_rfl) (by kernel_rfl) (by kernel_rfl) (fun _ _ _ h => h) (YG.val (by rfl) (fun _ _ => by go_simp)) ?_
  simp only [Act.put, List.setIfInBounds_toArray, List.set_cons_zero, List.set_cons_succ]
  refine wpX_take 3 (v := .slice (some ⟨gA, 0, none⟩) n cA) (oi := { dst := some 34, op := Op.slice 22 (Operand.tmp 31) none (some (Operand.tmp 33)) none, type := 22, pos := "law.go:105", after := #[{ on := 0, ground := Ground.data }, { on := 2, ground := Ground.data }], guard := none }) (oL := { dst := some 10, op := Op.assign (Operand.tmp 41), type := 43, pos := "law.go:105", after := #[{ on := 11, ground := Ground.data }, { on := 12, ground := Ground.chain }, { on := 0, ground := Ground.phase }, { on := 1, ground := Ground.phase }, { on := 2, ground := Ground.phase }, { on := 3, ground := Ground.phase }, { on := 4, ground := Ground.phase }, { on := 5, ground := Ground.phase }, { on := 6, ground := Ground.phase }, { on := 7, ground := Ground.phase }, { on := 8, ground := Ground.phase }, { on := 9, ground := Ground.phase }, { on := 10, ground := Ground.phase }, { on := 11, ground := Ground.phase }, { on := 12, ground := Ground.phase }], guard := none }) (clo_grown _) rfl rfl rfl (by kernel_rfl) (by kernel_rfl) (by kernel_rfl) (by kernel_rfl) (by kernel_rfl) (fun _ _ _ h => h) (YG.val (by rfl) (fun u _ => run_pre_op u _ (.tmp 31) (.tmp 33) rfl gA (n + 70) cA n rfl rfl (by omega))) ?_
  simp only [Act.put, List.setIfInBounds_toArray, List.set_cons_zero, List.set_cons_succ]
  refine wpX_take 4 (v := .slice (some ⟨gB, 0, none⟩) (m + 70) cB) (oi := { dst := some 35, op := Op.move (Operand.tmp 6), type := 22, pos := "law.go:105", after := #[], guard := none }) (oL := { dst := some 10, op := Op.assign (Operand.tmp 41), type := 43, pos := "law.go:105", after := #[{ on := 11, ground := Ground.data }, { on := 12, ground := Ground.chain }, { on := 0, ground := Ground.phase }, { on := 1, ground := Ground.phase }, { on := 2, ground := Ground.phase }, { on := 3, ground := Ground.phase }, { on := 4, ground := Ground.phase }, { on := 5, ground := Ground.phase }, { on := 6, ground := Ground.phase }, { on := 7, ground := Ground.phase }, { on := 8, ground := Ground.phase }, { on := 9, ground := Ground.phase }, { on := 10, ground := Ground.phase }, { on := 11, ground := Ground.phase }, { on := 12, ground := Ground.phase }], guard := none }) (clo_grown _) rfl rfl rfl (by kernel_rfl) (by kernel_rfl) (by kernel_rfl) (by kernel_rfl) (by kernel_rfl) (fun _ _ _ h => h) (YG.val (by rfl) (fun _ _ => rfl)) ?_
  simp only [Act.put, List.setIfInBounds_toArray, List.set_cons_zero, List.set_cons_succ]
  refine wpX_take 5 (v := .slice b m cb) (oi := { dst := some 36, op := Op.move (Operand.tmp 1), type := 22, pos := "law.go:105", after := #[], guard := none }) (oL := { dst := some 10, op := Op.assign (Operand.tmp 41), type := 43, pos := "law.go:105", after := #[{ on := 11, ground := Ground.data }, { on := 12, ground := Ground.chain }, { on := 0, ground := Ground.phase }, { on := 1, ground := Ground.phase }, { on := 2, ground := Ground.phase }, { on := 3, ground := Ground.phase }, { on := 4, ground := Ground.phase }, { on := 5, ground := Ground.phase }, { on := 6, ground := Ground.phase }, { on := 7, ground := Ground.phase }, { on := 8, ground := Ground.phase }, { on := 9, ground := Ground.phase }, { on := 10, ground := Ground.phase }, { on := 11, ground := Ground.phase }, { on := 12, ground := Ground.phase }], guard := none }) (clo_grown _) rfl rfl rfl (by kernel_rfl) (by kernel_rfl) (by kernel_rfl) (by kernel_rfl) (by kernel_rfl) (fun _ _ _ h => h) (YG.val (by rfl) (fun _ _ => rfl)) ?_
  simp only [Act.put, List.setIfInBounds_toArray, List.set_cons_zero, List.set_cons_succ]
  refine wpX_take 6 (v := .int .i64 (m : Int)) (oi := { dst := some 37, op := Op.call { callee := Callee.builtin Builtin.len, args := #[Operand.tmp 36], argTypes := #[22] }, type := 3, pos := "law.go:105", after := #[{ on := 5, ground := Ground.data }], guard := none }) (oL := { dst := some 10, op := Op.assign (Operand.tmp 41), type := 43, pos := "law.go:105", after := #[{ on := 11, ground := Ground.data }, { on := 12, ground := Ground.chain }, { on := 0, ground := Ground.phase }, { on := 1, ground := Ground.phase }, { on := 2, ground := Ground.phase }, { on := 3, ground := Ground.phase }, { on := 4, ground := Ground.phase }, { on := 5, ground := Ground.phase }, { on := 6, ground := Ground.phase }, { on := 7, ground := Ground.phase }, { on := 8, ground := Ground.phase }, { on := 9, ground := Ground.phase }, { on := 10, ground := Ground.phase }, { on := 11, ground := Ground.phase }, { on := 12, ground := Ground.phase }], guard := none }) (clo_grown _) rfl rfl rfl (by kernel_rfl) (by kernel_rfl) (by kernel_rfl) (by kernel_rfl) (by kernel_rfl) (fun _ _ _ h => h) (YG.val (by rfl) (fun _ _ => by go_simp)) ?_
  simp only [Act.put, List.setIfInBounds_toArray, List.set_cons_zero, List.set_cons_succ]
  refine wpX_take 7 (v := .slice (some ⟨gB, 0, none⟩) m cB) (oi := { dst := some 38, op := Op.slice 22 (Operand.tmp 35) none (some (Operand.tmp 37)) none, type := 22, pos := "law.go:105", after := #[{ on := 4, ground := Ground.data }, { on := 6, ground := Ground.data }], guard := none }) (oL := { dst := some 10, op := Op.assign (Operand.tmp 41), type := 43, pos := "law.go:105", after := #[{ on := 11, ground := Ground.data }, { on := 12, ground := Ground.chain }, { on := 0, ground := Ground.phase }, { on := 1, ground := Ground.phase }, { on := 2, ground := Ground.phase }, { on := 3, ground := Ground.phase }, { on := 4, ground := Ground.phase }, { on := 5, ground := Ground.phase }, { on := 6, ground := Ground.phase }, { on := 7, ground := Ground.phase }, { on := 8, ground := Ground.phase }, { on := 9, ground := Ground.phase }, { on := 10, ground := Ground.phase }, { on := 11, ground := Ground.phase }, { on := 12, ground := Ground.phase }], guard := none }) (clo_grown _) rfl rfl rfl (by kernel_rfl) (by kernel_rfl) (by kernel_rfl) (by kernel_rfl) (by kernel_rfl) (fun _ _ _ h => h) (YG.val (by rfl) (fun u _ => run_pre_op u _ (.tmp 35) (.tmp 37) rfl gB (m + 70) cB m rfl rfl (by omega))) ?_
  simp only [Act.put, List.setIfInBounds_toArray, List.set_cons_zero, List.set_cons_succ]
  refine wpX_step 8 (o := { dst := some 39, op := Op.call { callee := Callee.value (Operand.func 28), args := #[Operand.tmp 34, Operand.tmp 38], argTypes := #[22, 22] }, type := 47, pos := "law.go:105", after := #[{ on := 3, ground := Ground.data }, { on := 7, ground := Ground.data }], guard := none }) rfl rfl (by kernel_rfl) (by rfl) (fun u2 hS2 K hK => ?_)
  have HK := Lib.hid hK
  have HS2 := Lib.hid hS2
  clear hK hS2
  refine wp_call_op (f := 28) (args := #[.slice (some ⟨gA, 0, none⟩) n cA, .slice (some ⟨gB, 0, none⟩) m cB]) (w1 := u2) (by go_simp) ((HT1.out _ _ _ _ u2 (by have h := (HFA.out.grown HS2.out).lies.take n; rw [lent_take la n HLA.out] at h; exact h) (by have h := (HFB.out.grown HS2.out).lies.take m; rw [lent_take lb m HLB.out] at h; exact h)).mono ?_)
  rintro e u3 ⟨am, mm, cm, rfl, ho, hg⟩
  obtain rfl := ho.len
  refine ⟨_, rfl, HK.out (fun u => u3.grownBy u none) _ _ (World.grownBy.refl _ _) (fun u h => grownBy_trans (grownBy_trans HS2.out hg) h) (clo_grown u3) ?_⟩
  simp only [Act.put, List.setIfInBounds_toArray, List.set_cons_zero, List.set_cons_succ]
  refine wpX_take 9 (v := .tuple #[.slice am X.length cm, .int .i64 (E : Nat)]) (oi := { dst := some 30, op := Op.move (Operand.tmp 39), type := 47, pos := "law.go:105", after := #[{ on := 8, ground := Ground.data }], guard := none }) (oL := { dst := some 10, op := Op.assign (Operand.tmp 41), type := 43, pos := "law.go:105", after := #[{ on := 11, ground := Ground.data }, { on := 12, ground := Ground.chain }, { on := 0, ground := Ground.phase }, { on := 1, ground := Ground.phase }, { on := 2, ground := Ground.phase }, { on := 3, ground := Ground.phase }, { on := 4, ground := Ground.phase }, { on := 5, ground := Ground.phase }, { on := 6, ground := Ground.phase }, { on := 7, ground := Ground.phase }, { on := 8, ground := Ground.phase }, { on := 9, ground := Ground.phase }, { on := 10, ground := Ground.phase }, { on := 11, ground := Ground.phase }, { on := 12, ground := Ground.phase }], guard := none }) (clo_grown _) rfl rfl rfl (by kernel_rfl) (by kernel_rfl) (by kernel_rfl) (by kernel_rfl) (by kernel_rfl) (fun _ _ _ h => h) (YG.val (by rfl) (fun _ _ => rfl)) ?_
  simp only [Act.put, List.setIfInBounds_toArray, List.set_cons_zero, List.set_cons_succ]
  refine wpX_take 10 (v := .slice am X.length cm) (oi := { dst := some 40, op := Op.extract (Operand.tmp 30) 0, type := 22, pos := "law.go:105", after := #[{ on := 9, ground := Ground.data }], guard := none }) (oL := { dst := some 10, op := Op.assign (Operand.tmp 41), type := 43, pos := "law.go:105", after := #[{ on := 11, ground := Ground.data }, { on := 12, ground := Ground.chain }, { on := 0, ground := Ground.phase }, { on := 1, ground := Ground.phase }, { on := 2, ground := Ground.phase }, { on := 3, ground := Ground.phase }, { on := 4, ground := Ground.phase }, { on := 5, ground := Ground.phase }, { on := 6, ground := Ground.phase }, { on := 7, ground := Ground.phase }, { on := 8, ground := Ground.phase }, { on := 9, ground := Ground.phase }, { on := 10, ground := Ground.phase }, { on := 11, ground := Ground.phase }, { on := 12, ground := Ground.phase }], guard := none }) (clo_grown _) rfl rfl rfl (by kernel_rfl) (by kernel_rfl) (by kernel_rfl) (by kernel_rfl) (by kernel_rfl) (fun _ _ _ h => h) (YG.val (by rfl) (fun _ _ => by go_simp)) ?_
  simp only [Act.put, List.setIfInBounds_toArray, List.set_cons_zero, List.set_cons_succ]
  refine wpX_take 11 (v := .int .i64 (E : Nat)) (oi := { dst := some 41, op := Op.extract (Operand.tmp 30) 1, type := 43, pos := "law.go:105", after := #[{ on := 9, ground := Ground.data }, { on := 12, ground := Ground.gcOnly Departure.lateStores }], guard := none }) (oL := { dst := some 10, op := Op.assign (Operand.tmp 41), type := 43, pos := "law.go:105", after := #[{ on := 11, ground := Ground.data }, { on := 12, ground := Ground.chain }, { on := 0, ground := Ground.phase }, { on := 1, ground := Ground.phase }, { on := 2, ground := Ground.phase }, { on := 3, ground := Ground.phase }, { on := 4, ground := Ground.phase }, { on := 5, ground := Ground.phase }, { on := 6, ground := Ground.phase }, { on := 7, ground := Ground.phase }, { on := 8, ground := Ground.phase }, { on := 9, ground := Ground.phase }, { on := 10, ground := Ground.phase }, { on := 11, ground := Ground.phase }, { on := 12, ground := Ground.phase }], guard := none }) (clo_grown _) rfl rfl rfl (by kernel_rfl) (by kernel_rfl) (by kernel_rfl) (by kernel_rfl) (by kernel_rfl) (fun _ _ _ h => h) (YG.val (by rfl) (fun _ _ => by go_simp)) ?_
  simp only [Act.put, List.setIfInBounds_toArray, List.set_cons_zero, List.set_cons_succ]
  refine wpX_take 12 (v := .slice am X.length cm) (oi := { dst := some 9, op := Op.assign (Operand.tmp 40), type := 22, pos := "law.go:105", after := #[{ on := 10, ground := Ground.data }, { on := 8, ground := Ground.chain }, { on := 0, ground := Ground.phase }, { on := 1, ground := Ground.phase }, { on := 2, ground := Ground.phase }, { on := 3, ground := Ground.phase }, { on := 4, ground := Ground.phase }, { on := 5, ground := Ground.phase }, { on := 6, ground := Ground.phase }, { on := 7, ground := Ground.phase }, { on := 8, ground := Ground.phase }, { on := 9, ground := Ground.phase }, { on := 10, ground := Ground.phase }, { on := 11, ground := Ground.textOnly Departure.lateStores }], guard := none }) (oL := { dst := some 10, op := Op.assign (Operand.tmp 41), type := 43, pos := "law.go:105", after := #[{ on := 11, ground := Ground.data }, { on := 12, ground := Ground.chain }, { on := 0, ground := Ground.phase }, { on := 1, ground := Ground.phase }, { on := 2, ground := Ground.phase }, { on := 3, ground := Ground.phase }, { on := 4, ground := Ground.phase }, { on := 5, ground := Ground.phase }, { on := 6, ground := Ground.phase }, { on := 7, ground := Ground.phase }, { on := 8, ground := Ground.phase }, { on := 9, ground := Ground.phase }, { on := 10, ground := Ground.phase }, { on := 11, ground := Ground.phase }, { on := 12, ground := Ground.phase }], guard := none }) (clo_grown _) rfl rfl rfl (by kernel_rfl) (by kernel_rfl) (by kernel_rfl) (by kernel_rfl) (by kernel_rfl) (fun _ _ _ h => h) (YG.val (by rfl) (fun _ _ => rfl)) ?_
  simp only [Act.put, List.setIfInBounds_toArray, List.set_cons_zero, List.set_cons_succ]
  refine wpX_last (oL := { dst := some 10, op := Op.assign (Operand.tmp 41), type := 43, pos := "law.go:105", after := #[{ on := 11, ground := Ground.data }, { on := 12, ground := Ground.chain }, { on := 0, ground := Ground.phase }, { on := 1, ground := Ground.phase }, { on := 2, ground := Ground.phase }, { on := 3, ground := Ground.phase }, { on := 4, ground := Ground.phase }, { on := 5, ground := Ground.phase }, { on := 6, ground := Ground.phase }, { on := 7, ground := Ground.phase }, { on := 8, ground := Ground.phase }, { on := 9, ground := Ground.phase }, { on := 10, ground := Ground.phase }, { on := 11, ground := Ground.phase }, { on := 12, ground := Ground.phase }], guard := none }) rfl (by kernel_rfl) (by kernel_rfl) (by rfl) (fun u4 hS4 K4 hK4 => ?_)
  refine wp_val_op (v := .int .i64 (E : Nat)) (w1 := u4) (rfl) (hK4 _ _ ?_)
  simp only [Act.put, List.setIfInBounds_toArray, List.set_cons_zero, List.set_cons_succ]
  obtain ⟨w4, hwn⟩ : ∃ w4, w4 = u4 := ⟨_, rfl⟩
  rw [← hwn] at hS4 ⊢
  have HXm := Lib.hid ((BOwn.grown ho hS4).mono HS2.out.size)
  have g := grownBy_trans (grownBy_trans HS2.out hg) hS4
  clear hwn ho hg hS4 HS2 HK hK4
  have Z4 := Lib.hid g.size
  replace HG := Lib.hid (grownBy_trans HG.out g)
  replace HFA := Lib.hid (HFA.out.grown g)
  replace HFB := Lib.hid (HFB.out.grown g)
  replace HXl := Lib.hid (HXl.out.grown g)
  clear g
  have WIm := Lib.hid HXm.out.within
  go_upto_region 5 with fail
  have hta := HFA.out.lies.take n
  rw [lent_take la n HLA.out] at hta
  have htb := HFB.out.lies.take m
  rw [lent_take lb m HLB.out] at htb
  have HTA := Lib.hid hta
  have HTB := Lib.hid htb
  clear hta htb
  go_quiet ((go_at_call 29; exact quietS (HL1.out _ _ _ _ _ (HTA.out.drewN _) (HTB.out.drewN _))))
  obtain ⟨w5, hww⟩ : ∃ w5, w5 = w4.drewN nq := ⟨_, rfl⟩
  have g : w4.grownBy w5 none := hww ▸ grownBy_drewN _ _ _
  rw [← hww]
  clear hww HTA HTB
  have Z5 := Lib.hid g.size
  replace HG := Lib.hid (grownBy_trans HG.out g)
  replace HFA := Lib.hid (HFA.out.grown g)
  replace HFB := Lib.hid (HFB.out.grown g)
  replace HXl := Lib.hid (HXl.out.grown g)
  replace HXm := Lib.hid (HXm.out.grown g)
  clear g
  go_wp2_with fail
  refine (kept_yes _ _ _ _ n _ la _ (BOwn.lies HFA.out) (HA.out.grown HG.out) HLA.out rfl (by omega)).mono ?_
  rintro e w6 ⟨rfl, g⟩
  have Z6 := Lib.hid g.size
  replace HG := Lib.hid (grownBy_trans HG.out g)
  replace HFA := Lib.hid (HFA.out.grown g)
  replace HFB := Lib.hid (HFB.out.grown g)
  replace HXl := Lib.hid (HXl.out.grown g)
  replace HXm := Lib.hid (HXm.out.grown g)
  clear g
  go_wp2_with fail
  refine (kept_yes _ _ _ _ m _ lb _ (BOwn.lies HFB.out) (HB.out.grown HG.out) HLB.out rfl (by omega)).mono ?_
  rintro e w7 ⟨rfl, g⟩
  have Z7 := Lib.hid g.size
  replace HG := Lib.hid (grownBy_trans HG.out g)
  replace HFA := Lib.hid (HFA.out.grown g)
  replace HFB := Lib.hid (HFB.out.grown g)
  replace HXl := Lib.hid (HXl.out.grown g)
  replace HXm := Lib.hid (HXm.out.grown g)
  clear g
  go_wp2_with fail
  refine (over_n _ gA cA (n + 70) (lent la) _ HFA.out (by omega)).mono ?_
  rintro e w8 ⟨rfl, oO, g⟩
  have Z8 := Lib.hid g.size
  replace HG := Lib.hid (grownBy_old HG.out g YgA.out.1)
  replace HXl : Hid (BOwn w8 w2.heap.size al X.length cl X) := Lib.hid (Own.grownNe HXl.out g (fun q hc hq hr => by
    obtain ⟨g', e1, h1, _⟩ := Own.block HXl.out hc
    rw [hq] at e1; injection e1 with e1; injection e1 with e1; injection hr with hr
    have h2 := YgA.out
    have h3 := YgB.out
    have z1 := Z1.out; have z2 := Z2.out; have z3 := Z3.out; have z4 := Z4.out
    omega))
  replace HXm : Hid (BOwn w8 w3.heap.size am X.length cm X) := Lib.hid (Own.grownNe HXm.out g (fun q hc hq hr => by
    obtain ⟨g', e1, h1, _⟩ := Own.block HXm.out hc
    rw [hq] at e1; injection e1 with e1; injection e1 with e1; injection hr with hr
    have h2 := YgA.out
    have h3 := YgB.out
    have z1 := Z1.out; have z2 := Z2.out; have z3 := Z3.out; have z4 := Z4.out
    omega))
  replace HFB : Hid (BOwn w8 w1.heap.size (some ⟨gB, 0, none⟩) (m + 70) cB (lent lb)) := Lib.hid (Own.grownNe HFB.out g (fun q hc hq hr => by
    injection hq with hq; injection hq with hq; injection hr with hr
    have h2 := YgA.out
    have h3 := YgB.out
    omega))
  clear oO g HFA
  go_wp2_with fail
  refine (over_n _ gB cB (m + 70) (lent lb) _ HFB.out (by omega)).mono ?_
  rintro e w9 ⟨rfl, oO, g⟩
  have Z9 := Lib.hid g.size
  replace HG := Lib.hid (grownBy_old HG.out g (Nat.le_trans Z1.out YgB.out.1))
  replace HXl : Hid (BOwn w9 w2.heap.size al X.length cl X) := Lib.hid (Own.grownNe HXl.out g (fun q hc hq hr => by
    obtain ⟨g', e1, h1, _⟩ := Own.block HXl.out hc
    rw [hq] at e1; injection e1 with e1; injection e1 with e1; injection hr with hr
    have h2 := YgA.out
    have h3 := YgB.out
    have z1 := Z1.out; have z2 := Z2.out; have z3 := Z3.out; have z4 := Z4.out
    omega))
  replace HXm : Hid (BOwn w9 w3.heap.size am X.length cm X) := Lib.hid (Own.grownNe HXm.out g (fun q hc hq hr => by
    obtain ⟨g', e1, h1, _⟩ := Own.block HXm.out hc
    rw [hq] at e1; injection e1 with e1; injection e1 with e1; injection hr with hr
    have h2 := YgA.out
    have h3 := YgB.out
    have z1 := Z1.out; have z2 := Z2.out; have z3 := Z3.out; have z4 := Z4.out
    omega))
  clear oO g HFB
  go_wp2_with fail
  refine (HR1.out _ _ _ _ _ (HA.out.grown HG.out) (HB.out.grown HG.out)).mono ?_
  rintro e w10 ⟨aw, mw, cw, rfl, ho, g⟩
  obtain rfl := ho.len
  have HXw := Lib.hid ho
  clear ho
  have Z10 := Lib.hid g.size
  replace HG := Lib.hid (grownBy_trans HG.out g)
  replace HXl := Lib.hid (HXl.out.grown g)
  replace HXm := Lib.hid (HXm.out.grown g)
  clear g
  go_wp2_with fail
  refine (HL2.out _ _ _ _ _ (HA.out.grown HG.out) (HB.out.grown HG.out)).mono ?_
  rintro e w11 ⟨rfl, q, hq⟩
  have g : w10.grownBy w11 none := by rw [hq]; exact grownBy_drewN _ _ _
  clear hq q
  have Z11 := Lib.hid g.size
  replace HG := Lib.hid (grownBy_trans HG.out g)
  replace HXl := Lib.hid (HXl.out.grown g)
  replace HXm := Lib.hid (HXm.out.grown g)
  replace HXw := Lib.hid (HXw.out.grown g)
  clear g
  go_wp2_with fail
  refine (same_yes _ _ _ _ _ _ X _ (BOwn.lies HXl.out) (BOwn.lies HXw.out) rfl rfl (Nat.le_trans HB1.out (by decide))).mono ?_
  rintro e w12 ⟨rfl, q, hq⟩
  have g : w11.grownBy w12 none := by rw [hq]; exact grownBy_drewN _ _ _
  clear hq q
  have Z12 := Lib.hid g.size
  replace HG := Lib.hid (grownBy_trans HG.out g)
  replace HXl := Lib.hid (HXl.out.grown g)
  replace HXm := Lib.hid (HXm.out.grown g)
  replace HXw := Lib.hid (HXw.out.grown g)
  clear g
  go_wp2_with fail
  refine (same_yes _ _ _ _ _ _ X _ (BOwn.lies HXm.out) (BOwn.lies HXw.out) rfl rfl (Nat.le_trans HB1.out (by decide))).mono ?_
  rintro e w13 ⟨rfl, q, hq⟩
  have g : w12.grownBy w13 none := by rw [hq]; exact grownBy_drewN _ _ _
  clear hq q
  have Z13 := Lib.hid g.size
  replace HG := Lib.hid (grownBy_trans HG.out g)
  replace HXl := Lib.hid (HXl.out.grown g)
  replace HXm := Lib.hid (HXm.out.grown g)
  replace HXw := Lib.hid (HXw.out.grown g)
  clear g
  go_wp2_with fail
  have zr : w.heap.size ≤ w13.heap.size := HG.out.size
  have z1 := Z1.out
  have z2 := Z2.out
  have z3 := Z3.out
  have z4 := Z4.out
  have z5 := Z5.out
  have z6 := Z6.out
  have z7 := Z7.out
  have z8 := Z8.out
  have z9 := Z9.out
  have z10 := Z10.out
  have z11 := Z11.out
  have z12 := Z12.out
  have z13 := Z13.out
  have hst := st1_lit (w := w13) (base := w.heap.size) (L := [⟨al, X.length, cl⟩, ⟨am, X.length, cm⟩])
    (fun j hj => match j, hj with
      | 0, _ => ⟨_, HXl.out.mono (by omega)⟩
      | 1, _ => ⟨_, HXm.out.mono (by omega)⟩) zr 2 rfl (by decide)
  have hd : Distinct [⟨al, X.length, cl⟩, ⟨am, X.length, cm⟩] := by
    apply distinct_pairs
    simp only [List.pairwise_cons, List.mem_cons, List.not_mem_nil, or_false, forall_eq_or_imp, forall_eq, List.Pairwise.nil, and_true, false_implies, implies_true]
    exact Sl.off_win WIl.out WIm.out (by omega)
  refine (apart_n _ _ _ 2 _ _ hst (by simp; omega) hd rfl (by omega) (fun j hj => match j, hj with
      | 0, _ => (by show X.length ≤ 100000000; have := HB1.out; omega)
      | 1, _ => (by show X.length ≤ 100000000; have := HB1.out; omega))).mono ?_
  rintro e wz ⟨rfl, hbel⟩
  have GZ := Lib.hid (grown_below (grownBy_trans HG.out (World.grownBy_alloc w13 (.cells (([⟨al, X.length, cl⟩, ⟨am, X.length, cm⟩] : List Sl).map Sl.val).toArray 22) none)) hbel (Nat.le_refl _))
  clear hbel hd hst
  go_wp2_with fail
  go_ret
  exact ⟨rfl, GZ.out⟩

end Go.Proofs.Ythemlaibjchjpaa
