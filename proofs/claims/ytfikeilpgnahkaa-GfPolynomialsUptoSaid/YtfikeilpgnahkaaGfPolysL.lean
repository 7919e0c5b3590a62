/- The law GfPolynomials. -/
import Derived.Test.YtfikeilpgnahkaaGfRefOver
import Derived.Test.YtfikeilpgnahkaaGfRefTimes
import Derived.Test.YtfikeilpgnahkaaRegE
import Derived.Test.YtfikeilpgnahkaaKept
import Derived.Test.YtfikeilpgnahkaaApart2
namespace Go.Proofs.Ytfikeilpgnahkaa
open Go.RowKit Go.Shelf

theorem trimL_le (l : List UInt8) : (trimL l).length ≤ l.length := by rw [trimL_len]; exact trimN_le _ _
theorem timesV_len (a b : List UInt8) : (timesV a b).length ≤ a.length + b.length := by
  unfold timesV
  split
  · have h := prodL_le (trimL a) (trimL b)
    have h1 := trimL_le a
    have h2 := trimL_le b
    omega
  · simp
theorem ovQ_len (a b : List UInt8) : (ovQ a b).length ≤ a.length + 1 := by
  unfold ovQ
  split
  · have h := trimL_le (ovS (ovK (trimL a) (trimL b)) (trimL a) (trimL b) (ovK (trimL a) (trimL b))).1
    rw [ovS_len1] at h
    have h1 := trimL_le a
    unfold ovK at h ⊢
    omega
  · simp
theorem ovR_len (a b : List UInt8) : (ovR a b).length ≤ a.length := by
  have h1 := trimL_le a
  unfold ovR
  split
  · split
    · have h := trimL_le (ovS (ovK (trimL a) (trimL b)) (trimL a) (trimL b) (ovK (trimL a) (trimL b))).2
      rw [ovS_len2] at h
      omega
    · exact h1
  · simp
def Sl.off (s t : Sl) : Prop := ∀ g, s.blk = some g → t.blk ≠ some g
theorem Sl.off_win {s t : Sl} {a b c d : Nat} (h : s.within a b) (k : t.within c d) (hbc : b ≤ c) : s.off t := fun g h1 h2 => by
  have := h g h1
  have := k g h2
  omega
theorem distinct_pairs (L : List Sl) (h : L.Pairwise Sl.off) : Distinct L := by
  intro i j hi hj hne g h1 h2
  rw [List.pairwise_iff_getElem] at h
  rcases Nat.lt_or_gt_of_ne hne with hlt | hlt
  · exact h i j hi hj hlt g h1 h2
  · exact h j i hj hi hlt g h2 h1
theorem off_in {w w' : World} {base base' n n' c c' : Nat} {a a' : Option Addr} {l l' : List UInt8} (h : BOwn w base a n c l) (h' : BOwn w' base' a' n' c' l') (hd : ∀ g, In a c g → ¬ In a' c' g) : Sl.off ⟨a, n, c⟩ ⟨a', n', c'⟩ := by
  intro g h1 h2
  have k : BOwn w base (⟨a, n, c⟩ : Sl).a (⟨a, n, c⟩ : Sl).n (⟨a, n, c⟩ : Sl).c l := h
  have k' : BOwn w' base' (⟨a', n', c'⟩ : Sl).a (⟨a', n', c'⟩ : Sl).n (⟨a', n', c'⟩ : Sl).c l' := h'
  exact hd g (k.blk h1) (k'.blk h2)

set_option maxRecDepth 100000 in
set_option maxHeartbeats 4000000 in
theorem polys_walk (a b : Option Addr) (ca cb n m : Nat) (la lb : List UInt8) (w : World) (ha : BLies w a la) (hb : BLies w b lb) (hla : la.length = n) (hlb : lb.length = m) (hn : n ≤ 1048576) (hm : m ≤ 1048576) (hca : n ≤ ca) (hcb : m ≤ cb) :
    Calls Try.prog 6 #[.slice a n ca, .slice b m cb] w fun e w' => e = .returned (.bool true) ∧ w.grownBy w' none := by
  obtain ⟨lo, hlo⟩ : ∃ lo, lo = (over (n + 70)).take n := ⟨_, rfl⟩
  have hll : lo.length = n := by rw [hlo, List.length_take, over_length]; omega
  have ht1 := fun (aa ab : Option Addr) (ca cb : Nat) (hca : n ≤ ca) (hcb : m ≤ cb) (w : World) (ha : BLies w aa la) (hb : BLies w ab lb) => timesT_n aa ab ca cb n m la lb w ha hb hla hlb (by omega) (by omega) hca hcb
  have hr1 := fun (aa ab : Option Addr) (ca cb : Nat) (hca : n ≤ ca) (hcb : m ≤ cb) (w : World) (ha : BLies w aa la) (hb : BLies w ab lb) => refTimesT_n aa ab ca cb n m la lb w ha hb hla hlb (by omega) (by omega) hca hcb
  have ht2 := fun (aa ab : Option Addr) (ca cb : Nat) (hca : n ≤ ca) (hcb : m ≤ cb) (w : World) (ha : BLies w aa lo) (hb : BLies w ab lb) => timesT_n aa ab ca cb n m lo lb w ha hb hll hlb (by omega) (by omega) hca hcb
  have hr2 := fun (aa ab : Option Addr) (ca cb : Nat) (hca : n ≤ ca) (hcb : m ≤ cb) (w : World) (ha : BLies w aa lo) (hb : BLies w ab lb) => refTimesT_n aa ab ca cb n m lo lb w ha hb hll hlb (by omega) (by omega) hca hcb
  have ho1 := fun (aa ab : Option Addr) (ca cb : Nat) (hca : n ≤ ca) (hcb : m ≤ cb) (w : World) (ha : BLies w aa la) (hb : BLies w ab lb) => over_nn aa ab ca cb n m la lb w ha hb hla hlb (by omega) (by omega) hca hcb
  have hs1 := fun (aa ab : Option Addr) (ca cb : Nat) (hca : n ≤ ca) (hcb : m ≤ cb) (w : World) (ha : BLies w aa la) (hb : BLies w ab lb) => refOver_n aa ab ca cb n m la lb w ha hb hla hlb (by omega) (by omega) hca hcb
  have hb1 : (timesV la lb).length ≤ 3000000 := by have := timesV_len la lb; omega
  have hb2 : (timesV lo lb).length ≤ 3000000 := by have := timesV_len lo lb; omega
  have hb3 : (ovQ la lb).length ≤ 3000000 := by have := ovQ_len la lb; omega
  have hb4 : (ovR la lb).length ≤ 3000000 := by have := ovR_len la lb; omega
  generalize timesE la lb = E1 at ht1 hr1
  generalize timesV la lb = P at ht1 hr1 hb1
  generalize timesE lo lb = E2 at ht2 hr2
  generalize timesV lo lb = X at ht2 hr2 hb2
  generalize ovE la lb = E3 at ho1 hs1
  generalize ovQ la lb = Q at ho1 hs1 hb3
  generalize ovR la lb = R at ho1 hs1 hb4
  have HT1 := Lib.hid ht1
  have HR1 := Lib.hid hr1
  have HT2 := Lib.hid ht2
  have HR2 := Lib.hid hr2
  have HO1 := Lib.hid ho1
  have HS1 := Lib.hid hs1
  have HB1 := Lib.hid hb1
  have HB2 := Lib.hid hb2
  have HB3 := Lib.hid hb3
  have HB4 := Lib.hid hb4
  have HA := Lib.hid ha
  have HB := Lib.hid hb
  have HLA := Lib.hid hla
  have HLB := Lib.hid hlb
  have HLO := Lib.hid hlo
  have HG := Lib.hid (World.grownBy.refl w none)
  clear ht1 hr1 ht2 hr2 ho1 hs1 hb1 hb2 hb3 hb4 ha hb hla hlb hlo hll
  go_enter Try.func6, Try.ntmps6
  go_wp2_with fail
  refine (lent_n _ _ _ la _ (HA.out.grown HG.out) HLA.out (by omega)).mono ?_
  rintro e w1 ⟨gA, cA, rfl, oF, g⟩
  have hccA := oF.cap.1
  have YgA : Hid (w.heap.size ≤ gA ∧ gA < w1.heap.size) := Lib.hid (by obtain ⟨g', e, h1, h2⟩ := Own.block oF (by omega); injection e with e; injection e with e; subst e; exact ⟨h1, h2⟩)
  have HFA := Lib.hid oF
  clear oF
  have Z1 := Lib.hid g.size
  replace HG := Lib.hid (grownBy_trans HG.out g)
  clear g
  go_wp2_with fail
  refine (lent_n _ _ _ lb _ (HB.out.grown HG.out) HLB.out (by omega)).mono ?_
  rintro e w2 ⟨gB, cB, rfl, oF, g⟩
  have hccB := oF.cap.1
  have YgB : Hid (w1.heap.size ≤ gB ∧ gB < w2.heap.size) := Lib.hid (by obtain ⟨g', e, h1, h2⟩ := Own.block oF (by omega); injection e with e; injection e with e; subst e; exact ⟨h1, h2⟩)
  have HFB := Lib.hid oF
  clear oF
  have Z2 := Lib.hid g.size
  replace HG := Lib.hid (grownBy_trans HG.out g)
  replace HFA := Lib.hid (HFA.out.grown g)
  clear g
  go_upto_region 3 with fail
  refine wp_regionX (fun u => w2.grownBy u none) 13 (by kernel_rfl) (grownBy_drewN w2 1 none) ?_
  refine wpX_take 0 (v := .slice (some ⟨gA, 0, none⟩) (n + 70) cA) (oi := { dst := some 28, op := Op.move (Operand.tmp 5), type := 33, pos := "law.go:66", after := #[], guard := none }) (oL := { dst := some 8, op := Op.assign (Operand.tmp 38), type := 26, pos := "law.go:66", after := #[{ on := 11, ground := Ground.data }, { on := 12, ground := Ground.chain }, { on := 0, ground := Ground.phase }, { on := 1, ground := Ground.phase }, { on := 2, ground := Ground.phase }, { on := 3, ground := Ground.phase }, { on := 4, ground := Ground.phase }, { on := 5, ground := Ground.phase }, { on := 6, ground := Ground.phase }, { on := 7, ground := Ground.phase }, { on := 8, ground := Ground.phase }, { on := 9, ground := Ground.phase }, { on := 10, ground := Ground.phase }, { on := 11, ground := Ground.phase }, { on := 12, ground := Ground.phase }], guard := none }) (clo_grown _) rfl rfl rfl (by kernel_rfl) (by kernel_rfl) (by kernel_rfl) (by kernel_rfl) (by kernel_rfl) (fun _ _ _ h => h) (YG.val (by rfl) (fun _ _ => rfl)) ?_
  simp only [Act.put, List.setIfInBounds_toArray, List.set_cons_zero, List.set_cons_succ]
  refine wpX_take 1 (v := .slice a n ca) (oi := { dst := some 29, op := Op.move (Operand.tmp 0), type := 33, pos := "law.go:66", after := #[], guard := none }) (oL := { dst := some 8, op := Op.assign (Operand.tmp 38), type := 26, pos := "law.go:66", after := #[{ on := 11, ground := Ground.data }, { on := 12, ground := Ground.chain }, { on := 0, ground := Ground.phase }, { on := 1, ground := Ground.phase }, { on := 2, ground := Ground.phase }, { on := 3, ground := Ground.phase }, { on := 4, ground := Ground.phase }, { on := 5, ground := Ground.phase }, { on := 6, ground := Ground.phase }, { on := 7, ground := Ground.phase }, { on := 8, ground := Ground.phase }, { on := 9, ground := Ground.phase }, { on := 10, ground := Ground.phase }, { on := 11, ground := Ground.phase }, { on := 12, ground := Ground.phase }], guard := none }) (clo_grown _) rfl rfl rfl (by kernel_rfl) (by kernel_rfl) (by kernel_rfl) (by kernel_rfl) (by kernel_rfl) (fun _ _ _ h => h) (YG.val (by rfl) (fun _ _ => rfl)) ?_
  simp only [Act.put, List.setIfInBounds_toArray, List.set_cons_zero, List.set_cons_succ]
  refine wpX_take 2 (v := .int .i64 (n : Int)) (oi := { dst := some 30, op := Op.call { callee := Callee.builtin Builtin.len, args := #[Operand.tmp 29], argTypes := #[33] }, type := 3, pos := "law.go:66", after := #[{ on := 1, ground := Ground.data }], guard := none }) (oL := { dst := some 8, op := Op.assign (Operand.tmp 38), type := 26, pos := "law.go:66", after := #[{ on := 11, ground := Ground.data }, { on := 12, ground := Ground.chain }, { on := 0, ground := Ground.phase }, { on := 1, ground := Ground.phase }, { on := 2, ground := Ground.phase }, { on := 3, ground := Ground.phase }, { on := 4, ground := Ground.phase }, { on := 5, ground := Ground.phase }, { on := 6, ground := Ground.phase }, { on := 7, ground := Ground.phase }, { on := 8, ground := Ground.phase }, { on := 9, ground := Ground.phase }, { on := 10, ground := Ground.phase }, { on := 11, ground := Ground.phase }, { on := 12, ground := Ground.phase }], guard := none }) (clo_grown _) rfl rfl rfl (by kernel_rfl) (by kernel_rfl) (by kernel_rfl) (by kernel_rfl) (by kernel_rfl) (fun _ _ _ h => h) (YG.val (by rfl) (fun _ _ => by go_simp)) ?_
  simp only [Act.put, List.setIfInBounds_toArray, List.set_cons_zero, List.set_cons_succ]
  refine wpX_take 3 (v := .slice (some ⟨gA, 0, none⟩) n cA) (oi := { dst := some 31, op := Op.slice 33 (Operand.tmp 28) none (some (Operand.tmp 30)) none, type := 33, pos := "law.go:66", after := #[{ on := 0, ground := Ground.data }, { on := 2, ground := Ground.data }], guard := none }) (oL := { dst := some 8, op := Op.assign (Operand.tmp 38), type := 26, pos := "law.go:66", after := #[{ on := 11, ground := Ground.data }, { on := 12, ground := Ground.chain }, { on := 0, ground := Ground.phase }, { on := 1, ground := Ground.phase }, { on := 2, ground := Ground.phase }, { on := 3, ground := Ground.phase }, { on := 4, ground := Ground.phase }, { on := 5, ground := Ground.phase }, { on := 6, ground := Ground.phase }, { on := 7, ground := Ground.phase }, { on := 8, ground := Ground.phase }, { on := 9, ground := Ground.phase }, { on := 10, ground := Ground.phase }, { on := 11, ground := Ground.phase }, { on := 12, ground := Ground.phase }], guard := none }) (clo_grown _) rfl rfl rfl (by kernel_rfl) (by kernel_rfl) (by kernel_rfl) (by kernel_rfl) (by kernel_rfl) (fun _ _ _ h => h) (YG.val (by rfl) (fun u _ => run_pre_op u _ (.tmp 28) (.tmp 30) rfl gA (n + 70) cA n rfl rfl (by omega))) ?_
  simp only [Act.put, List.setIfInBounds_toArray, List.set_cons_zero, List.set_cons_succ]
  refine wpX_take 4 (v := .slice (some ⟨gB, 0, none⟩) (m + 70) cB) (oi := { dst := some 32, op := Op.move (Operand.tmp 6), type := 33, pos := "law.go:66", after := #[], guard := none }) (oL := { dst := some 8, op := Op.assign (Operand.tmp 38), type := 26, pos := "law.go:66", after := #[{ on := 11, ground := Ground.data }, { on := 12, ground := Ground.chain }, { on := 0, ground := Ground.phase }, { on := 1, ground := Ground.phase }, { on := 2, ground := Ground.phase }, { on := 3, ground := Ground.phase }, { on := 4, ground := Ground.phase }, { on := 5, ground := Ground.phase }, { on := 6, ground := Ground.phase }, { on := 7, ground := Ground.phase }, { on := 8, ground := Ground.phase }, { on := 9, ground := Ground.phase }, { on := 10, ground := Ground.phase }, { on := 11, ground := Ground.phase }, { on := 12, ground := Ground.phase }], guard := none }) (clo_grown _) rfl rfl rfl (by kernel_rfl) (by kernel_rfl) (by kernel_rfl) (by kernel_rfl) (by kernel_rfl) (fun _ _ _ h => h) (YG.val (by rfl) (fun _ _ => rfl)) ?_
  simp only [Act.put, List.setIfInBounds_toArray, List.set_cons_zero, List.set_cons_succ]
  refine wpX_take 5 (v := .slice b m cb) (oi := { dst := some 33, op := Op.move (Operand.tmp 1), type := 33, pos := "law.go:66", after := #[], guard := none }) (oL := { dst := some 8, op := Op.assign (Operand.tmp 38), type := 26, pos := "law.go:66", after := #[{ on := 11, ground := Ground.data }, { on := 12, ground := Ground.chain }, { on := 0, ground := Ground.phase }, { on := 1, ground := Ground.phase }, { on := 2, ground := Ground.phase }, { on := 3, ground := Ground.phase }, { on := 4, ground := Ground.phase }, { on := 5, ground := Ground.phase }, { on := 6, ground := Ground.phase }, { on := 7, ground := Ground.phase }, { on := 8, ground := Ground.phase }, { on := 9, ground := Ground.phase }, { on := 10, ground := Ground.phase }, { on := 11, ground := Ground.phase }, { on := 12, ground := Ground.phase }], guard := none }) (clo_grown _) rfl rfl rfl (by kernel_rfl) (by kernel_rfl) (by kernel_rfl) (by kernel_rfl) (by kernel_rfl) (fun _ _ _ h => h) (YG.val (by rfl) (fun _ _ => rfl)) ?_
  simp only [Act.put, List.setIfInBounds_toArray, List.set_cons_zero, List.set_cons_succ]
  refine wpX_take 6 (v := .int .i64 (m : Int)) (oi := { dst := some 34, op := Op.call { callee := Callee.builtin Builtin.len, args := #[Operand.tmp 33], argTypes := #[33] }, type := 3, pos := "law.go:66", after := #[{ on := 5, ground := Ground.data }], guard := none }) (oL := { dst := some 8, op := Op.assign (Operand.tmp 38), type := 26, pos := "law.go:66", after := #[{ on := 11, ground := Ground.data }, { on := 12, ground := Ground.chain }, { on := 0, ground := Ground.phase }, { on := 1, ground := Ground.phase }, { on := 2, ground := Ground.phase }, { on := 3, ground := Ground.phase }, { on := 4, ground := Ground.phase }, { on := 5, ground := Ground.phase }, { on := 6, ground := Ground.phase }, { on := 7, ground := Ground.phase }, { on := 8, ground := Ground.phase }, { on := 9, ground := Ground.phase }, { on := 10, ground := Ground.phase }, { on := 11, ground := Ground.phase }, { on := 12, ground := Ground.phase }], guard := none }) (clo_grown _) rfl rfl rfl (by kernel_rfl) (by kernel_rfl) (by kernel_rfl) (by kernel_rfl) (by kernel_rfl) (fun _ _ _ h => h) (YG.val (by rfl) (fun _ _ => by go_simp)) ?_
  simp only [Act.put, List.setIfInBounds_toArray, List.set_cons_zero, List.set_cons_succ]
  refine wpX_take 7 (v := .slice (some ⟨gB, 0, none⟩) m cB) (oi := { dst := some 35, op := Op.slice 33 (Operand.tmp 32) none (some (Operand.tmp 34)) none, type := 33, pos := "law.go:66", after := #[{ on := 4, ground := Ground.data }, { on := 6, ground := Ground.data }], guard := none }) (oL := { dst := some 8, op := Op.assign (Operand.tmp 38), type := 26, pos := "law.go:66", after := #[{ on := 11, ground := Ground.data }, { on := 12, ground := Ground.chain }, { on := 0, ground := Ground.phase }, { on := 1, ground := Ground.phase }, { on := 2, ground := Ground.phase }, { on := 3, ground := Ground.phase }, { on := 4, ground := Ground.phase }, { on := 5, ground := Ground.phase }, { on := 6, ground := Ground.phase }, { on := 7, ground := Ground.phase }, { on := 8, ground := Ground.phase }, { on := 9, ground := Ground.phase }, { on := 10, ground := Ground.phase }, { on := 11, ground := Ground.phase }, { on := 12, ground := Ground.phase }], guard := none }) (clo_grown _) rfl rfl rfl (by kernel_rfl) (by kernel_rfl) (by kernel_rfl) (by kernel_rfl) (by kernel_rfl) (fun _ _ _ h => h) (YG.val (by rfl) (fun u _ => run_pre_op u _ (.tmp 32) (.tmp 34) rfl gB (m + 70) cB m rfl rfl (by omega))) ?_
  simp only [Act.put, List.setIfInBounds_toArray, List.set_cons_zero, List.set_cons_succ]
  refine wpX_step 8 (o := { dst := some 36, op := Op.call { callee := Callee.value (Operand.func 43), args := #[Operand.tmp 31, Operand.tmp 35], argTypes := #[33, 33] }, type := 48, pos := "law.go:66", after := #[{ on := 3, ground := Ground.data }, { on := 7, ground := Ground.data }], guard := none }) rfl rfl (by kernel_rfl) (by rfl) (fun u2 hS2 K hK => ?_)
  have HK := Lib.hid hK
  have HS2 := Lib.hid hS2
  clear hK hS2
  refine wp_call_op (f := 43) (args := #[.slice (some ⟨gA, 0, none⟩) n cA, .slice (some ⟨gB, 0, none⟩) m cB]) (w1 := u2) (by go_simp) ((HT1.out _ _ _ _ (by omega) (by omega) u2 (by have h := (HFA.out.grown HS2.out).lies.take n; rw [lent_take la n HLA.out] at h; exact h) (by have h := (HFB.out.grown HS2.out).lies.take m; rw [lent_take lb m HLB.out] at h; exact h)).mono ?_)
  rintro e u3 ⟨ap, mp, cp, rfl, ho, hg⟩
  obtain rfl := ho.len
  refine ⟨_, rfl, HK.out (fun u => u3.grownBy u none) _ _ (World.grownBy.refl _ _) (fun u h => grownBy_trans (grownBy_trans HS2.out hg) h) (clo_grown u3) ?_⟩
  simp only [Act.put, List.setIfInBounds_toArray, List.set_cons_zero, List.set_cons_succ]
  refine wpX_take 9 (v := .tuple #[.slice ap P.length cp, .int .i64 (E1 : Nat)]) (oi := { dst := some 27, op := Op.move (Operand.tmp 36), type := 48, pos := "law.go:66", after := #[{ on := 8, ground := Ground.data }], guard := none }) (oL := { dst := some 8, op := Op.assign (Operand.tmp 38), type := 26, pos := "law.go:66", after := #[{ on := 11, ground := Ground.data }, { on := 12, ground := Ground.chain }, { on := 0, ground := Ground.phase }, { on := 1, ground := Ground.phase }, { on := 2, ground := Ground.phase }, { on := 3, ground := Ground.phase }, { on := 4, ground := Ground.phase }, { on := 5, ground := Ground.phase }, { on := 6, ground := Ground.phase }, { on := 7, ground := Ground.phase }, { on := 8, ground := Ground.phase }, { on := 9, ground := Ground.phase }, { on := 10, ground := Ground.phase }, { on := 11, ground := Ground.phase }, { on := 12, ground := Ground.phase }], guard := none }) (clo_grown _) rfl rfl rfl (by kernel_rfl) (by kernel_rfl) (by kernel_rfl) (by kernel_rfl) (by kernel_rfl) (fun _ _ _ h => h) (YG.val (by rfl) (fun _ _ => rfl)) ?_
  simp only [Act.put, List.setIfInBounds_toArray, List.set_cons_zero, List.set_cons_succ]
  refine wpX_take 10 (v := .slice ap P.length cp) (oi := { dst := some 37, op := Op.extract (Operand.tmp 27) 0, type := 33, pos := "law.go:66", after := #[{ on := 9, ground := Ground.data }], guard := none }) (oL := { dst := some 8, op := Op.assign (Operand.tmp 38), type := 26, pos := "law.go:66", after := #[{ on := 11, ground := Ground.data }, { on := 12, ground := Ground.chain }, { on := 0, ground := Ground.phase }, { on := 1, ground := Ground.phase }, { on := 2, ground := Ground.phase }, { on := 3, ground := Ground.phase }, { on := 4, ground := Ground.phase }, { on := 5, ground := Ground.phase }, { on := 6, ground := Ground.phase }, { on := 7, ground := Ground.phase }, { on := 8, ground := Ground.phase }, { on := 9, ground := Ground.phase }, { on := 10, ground := Ground.phase }, { on := 11, ground := Ground.phase }, { on := 12, ground := Ground.phase }], guard := none }) (clo_grown _) rfl rfl rfl (by kernel_rfl) (by kernel_rfl) (by kernel_rfl) (by kernel_rfl) (by kernel_rfl) (fun _ _ _ h => h) (YG.val (by rfl) (fun _ _ => by go_simp)) ?_
  simp only [Act.put, List.setIfInBounds_toArray, List.set_cons_zero, List.set_cons_succ]
  refine wpX_take 11 (v := .int .i64 (E1 : Nat)) (oi := { dst := some 38, op := Op.extract (Operand.tmp 27) 1, type := 26, pos := "law.go:66", after := #[{ on := 9, ground := Ground.data }, { on := 12, ground := Ground.gcOnly Departure.lateStores }], guard := none }) (oL := { dst := some 8, op := Op.assign (Operand.tmp 38), type := 26, pos := "law.go:66", after := #[{ on := 11, ground := Ground.data }, { on := 12, ground := Ground.chain }, { on := 0, ground := Ground.phase }, { on := 1, ground := Ground.phase }, { on := 2, ground := Ground.phase }, { on := 3, ground := Ground.phase }, { on := 4, ground := Ground.phase }, { on := 5, ground := Ground.phase }, { on := 6, ground := Ground.phase }, { on := 7, ground := Ground.phase }, { on := 8, ground := Ground.phase }, { on := 9, ground := Ground.phase }, { on := 10, ground := Ground.phase }, { on := 11, ground := Ground.phase }, { on := 12, ground := Ground.phase }], guard := none }) (clo_grown _) rfl rfl rfl (by kernel_rfl) (by kernel_rfl) (by kernel_rfl) (by kernel_rfl) (by kernel_rfl) (fun _ _ _ h => h) (YG.val (by rfl) (fun _ _ => by go_simp)) ?_
  simp only [Act.put, List.setIfInBounds_toArray, List.set_cons_zero, List.set_cons_succ]
  refine wpX_take 12 (v := .slice ap P.length cp) (oi := { dst := some 7, op := Op.assign (Operand.tmp 37), type := 33, pos := "law.go:66", after := #[{ on := 10, ground := Ground.data }, { on := 8, ground := Ground.chain }, { on := 0, ground := Ground.phase }, { on := 1, ground := Ground.phase }, { on := 2, ground := Ground.phase }, { on := 3, ground := Ground.phase }, { on := 4, ground := Ground.phase }, { on := 5, ground := Ground.phase }, { on := 6, ground := Ground.phase }, { on := 7, ground := Ground.phase }, { on := 8, ground := Ground.phase }, { on := 9, ground := Ground.phase }, { on := 10, ground := Ground.phase }, { on := 11, ground := Ground.textOnly Departure.lateStores }], guard := none }) (oL := { dst := some 8, op := Op.assign (Operand.tmp 38), type := 26, pos := "law.go:66", after := #[{ on := 11, ground := Ground.data }, { on := 12, ground := Ground.chain }, { on := 0, ground := Ground.phase }, { on := 1, ground := Ground.phase }, { on := 2, ground := Ground.phase }, { on := 3, ground := Ground.phase }, { on := 4, ground := Ground.phase }, { on := 5, ground := Ground.phase }, { on := 6, ground := Ground.phase }, { on := 7, ground := Ground.phase }, { on := 8, ground := Ground.phase }, { on := 9, ground := Ground.phase }, { on := 10, ground := Ground.phase }, { on := 11, ground := Ground.phase }, { on := 12, ground := Ground.phase }], guard := none }) (clo_grown _) rfl rfl rfl (by kernel_rfl) (by kernel_rfl) (by kernel_rfl) (by kernel_rfl) (by kernel_rfl) (fun _ _ _ h => h) (YG.val (by rfl) (fun _ _ => rfl)) ?_
  simp only [Act.put, List.setIfInBounds_toArray, List.set_cons_zero, List.set_cons_succ]
  refine wpX_last (oL := { dst := some 8, op := Op.assign (Operand.tmp 38), type := 26, pos := "law.go:66", after := #[{ on := 11, ground := Ground.data }, { on := 12, ground := Ground.chain }, { on := 0, ground := Ground.phase }, { on := 1, ground := Ground.phase }, { on := 2, ground := Ground.phase }, { on := 3, ground := Ground.phase }, { on := 4, ground := Ground.phase }, { on := 5, ground := Ground.phase }, { on := 6, ground := Ground.phase }, { on := 7, ground := Ground.phase }, { on := 8, ground := Ground.phase }, { on := 9, ground := Ground.phase }, { on := 10, ground := Ground.phase }, { on := 11, ground := Ground.phase }, { on := 12, ground := Ground.phase }], guard := none }) rfl (by kernel_rfl) (by kernel_rfl) (by rfl) (fun u4 hS4 K4 hK4 => ?_)
  refine wp_val_op (v := .int .i64 (E1 : Nat)) (w1 := u4) (rfl) (hK4 _ _ ?_)
  simp only [Act.put, List.setIfInBounds_toArray, List.set_cons_zero, List.set_cons_succ]
  obtain ⟨w3, hwn⟩ : ∃ w3, w3 = u4 := ⟨_, rfl⟩
  rw [← hwn] at hS4 ⊢
  have HXp := Lib.hid ((BOwn.grown ho hS4).mono HS2.out.size)
  have g := grownBy_trans (grownBy_trans HS2.out hg) hS4
  clear hwn ho hg hS4 HS2 HK hK4
  have Z3 := Lib.hid g.size
  replace HG := Lib.hid (grownBy_trans HG.out g)
  replace HFA := Lib.hid (HFA.out.grown g)
  replace HFB := Lib.hid (HFB.out.grown g)
  clear g
  have WIp := Lib.hid HXp.out.within
  go_upto_region 4 with fail
  refine wp_regionX (fun u => w3.grownBy u none) 15 (by kernel_rfl) (grownBy_drewN w3 1 none) ?_
  refine wpX_take 0 (v := .slice (some ⟨gA, 0, none⟩) (n + 70) cA) (oi := { dst := some 40, op := Op.move (Operand.tmp 5), type := 33, pos := "law.go:67", after := #[], guard := none }) (oL := { dst := some 11, op := Op.assign (Operand.tmp 51), type := 26, pos := "law.go:67", after := #[{ on := 12, ground := Ground.data }, { on := 14, ground := Ground.chain }, { on := 0, ground := Ground.phase }, { on := 1, ground := Ground.phase }, { on := 2, ground := Ground.phase }, { on := 3, ground := Ground.phase }, { on := 4, ground := Ground.phase }, { on := 5, ground := Ground.phase }, { on := 6, ground := Ground.phase }, { on := 7, ground := Ground.phase }, { on := 8, ground := Ground.phase }, { on := 9, ground := Ground.phase }, { on := 10, ground := Ground.phase }, { on := 11, ground := Ground.phase }, { on := 12, ground := Ground.phase }, { on := 13, ground := Ground.phase }, { on := 14, ground := Ground.phase }], guard := none }) (clo_grown _) rfl rfl rfl (by kernel_rfl) (by kernel_rfl) (by kernel_rfl) (by kernel_rfl) (by kernel_rfl) (fun _ _ _ h => h) (YG.val (by rfl) (fun _ _ => rfl)) ?_
  simp only [Act.put, List.setIfInBounds_toArray, List.set_cons_zero, List.set_cons_succ]
  refine wpX_take 1 (v := .slice a n ca) (oi := { dst := some 41, op := Op.move (Operand.tmp 0), type := 33, pos := "law.go:67", after := #[], guard := none }) (oL := { dst := some 11, op := Op.assign (Operand.tmp 51), type := 26, pos := "law.go:67", after := #[{ on := 12, ground := Ground.data }, { on := 14, ground := Ground.chain }, { on := 0, ground := Ground.phase }, { on := 1, ground := Ground.phase }, { on := 2, ground := Ground.phase }, { on := 3, ground := Ground.phase }, { on := 4, ground := Ground.phase }, { on := 5, ground := Ground.phase }, { on := 6, ground := Ground.phase }, { on := 7, ground := Ground.phase }, { on := 8, ground := Ground.phase }, { on := 9, ground := Ground.phase }, { on := 10, ground := Ground.phase }, { on := 11, ground := Ground.phase }, { on := 12, ground := Ground.phase }, { on := 13, ground := Ground.phase }, { on := 14, ground := Ground.phase }], guard := none }) (clo_grown _) rfl rfl rfl (by kernel_rfl) (by kernel_rfl) (by kernel_rfl) (by kernel_rfl) (by kernel_rfl) (fun _ _ _ h => h) (YG.val (by rfl) (fun _ _ => rfl)) ?_
  simp only [Act.put, List.setIfInBounds_toArray, List.set_cons_zero, List.set_cons_succ]
  refine wpX_take 2 (v := .int .i64 (n : Int)) (oi := { dst := some 42, op := Op.call { callee := Callee.builtin Builtin.len, args := #[Operand.tmp 41], argTypes := #[33] }, type := 3, pos := "law.go:67", after := #[{ on := 1, ground := Ground.data }], guard := none }) (oL := { dst := some 11, op := Op.assign (Operand.tmp 51), type := 26, pos := "law.go:67", after := #[{ on := 12, ground := Ground.data }, { on := 14, ground := Ground.chain }, { on := 0, ground := Ground.phase }, { on := 1, ground := Ground.phase }, { on := 2, ground := Ground.phase }, { on := 3, ground := Ground.phase }, { on := 4, ground := Ground.phase }, { on := 5, ground := Ground.phase }, { on := 6, ground := Ground.phase }, { on := 7, ground := Ground.phase }, { on := 8, ground := Ground.phase }, { on := 9, ground := Ground.phase }, { on := 10, ground := Ground.phase }, { on := 11, ground := Ground.phase }, { on := 12, ground := Ground.phase }, { on := 13, ground := Ground.phase }, { on := 14, ground := Ground.phase }], guard := none }) (clo_grown _) rfl rfl rfl (by kernel_rfl) (by kernel_rfl) (by kernel_rfl) (by kernel_rfl) (by kernel_rfl) (fun _ _ _ h => h) (YG.val (by rfl) (fun _ _ => by go_simp)) ?_
  simp only [Act.put, List.setIfInBounds_toArray, List.set_cons_zero, List.set_cons_succ]
  refine wpX_take 3 (v := .slice (some ⟨gA, 0, none⟩) n cA) (oi := { dst := some 43, op := Op.slice 33 (Operand.tmp 40) none (some (Operand.tmp 42)) none, type := 33, pos := "law.go:67", after := #[{ on := 0, ground := Ground.data }, { on := 2, ground := Ground.data }], guard := none }) (oL := { dst := some 11, op := Op.assign (Operand.tmp 51), type := 26, pos := "law.go:67", after := #[{ on := 12, ground := Ground.data }, { on := 14, ground := Ground.chain }, { on := 0, ground := Ground.phase }, { on := 1, ground := Ground.phase }, { on := 2, ground := Ground.phase }, { on := 3, ground := Ground.phase }, { on := 4, ground := Ground.phase }, { on := 5, ground := Ground.phase }, { on := 6, ground := Ground.phase }, { on := 7, ground := Ground.phase }, { on := 8, ground := Ground.phase }, { on := 9, ground := Ground.phase }, { on := 10, ground := Ground.phase }, { on := 11, ground := Ground.phase }, { on := 12, ground := Ground.phase }, { on := 13, ground := Ground.phase }, { on := 14, ground := Ground.phase }], guard := none }) (clo_grown _) rfl rfl rfl (by kernel_rfl) (by kernel_rfl) (by kernel_rfl) (by kernel_rfl) (by kernel_rfl) (fun _ _ _ h => h) (YG.val (by rfl) (fun u _ => run_pre_op u _ (.tmp 40) (.tmp 42) rfl gA (n + 70) cA n rfl rfl (by omega))) ?_
  simp only [Act.put, List.setIfInBounds_toArray, List.set_cons_zero, List.set_cons_succ]
  refine wpX_take 4 (v := .slice (some ⟨gB, 0, none⟩) (m + 70) cB) (oi := { dst := some 44, op := Op.move (Operand.tmp 6), type := 33, pos := "law.go:67", after := #[], guard := none }) (oL := { dst := some 11, op := Op.assign (Operand.tmp 51), type := 26, pos := "law.go:67", after := #[{ on := 12, ground := Ground.data }, { on := 14, ground := Ground.chain }, { on := 0, ground := Ground.phase }, { on := 1, ground := Ground.phase }, { on := 2, ground := Ground.phase }, { on := 3, ground := Ground.phase }, { on := 4, ground := Ground.phase }, { on := 5, ground := Ground.phase }, { on := 6, ground := Ground.phase }, { on := 7, ground := Ground.phase }, { on := 8, ground := Ground.phase }, { on := 9, ground := Ground.phase }, { on := 10, ground := Ground.phase }, { on := 11, ground := Ground.phase }, { on := 12, ground := Ground.phase }, { on := 13, ground := Ground.phase }, { on := 14, ground := Ground.phase }], guard := none }) (clo_grown _) rfl rfl rfl (by kernel_rfl) (by kernel_rfl) (by kernel_rfl) (by kernel_rfl) (by kernel_rfl) (fun _ _ _ h => h) (YG.val (by rfl) (fun _ _ => rfl)) ?_
  simp only [Act.put, List.setIfInBounds_toArray, List.set_cons_zero, List.set_cons_succ]
  refine wpX_take 5 (v := .slice b m cb) (oi := { dst := some 45, op := Op.move (Operand.tmp 1), type := 33, pos := "law.go:67", after := #[], guard := none }) (oL := { dst := some 11, op := Op.assign (Operand.tmp 51), type := 26, pos := "law.go:67", after := #[{ on := 12, ground := Ground.data }, { on := 14, ground := Ground.chain }, { on := 0, ground := Ground.phase }, { on := 1, ground := Ground.phase }, { on := 2, ground := Ground.phase }, { on := 3, ground := Ground.phase }, { on := 4, ground := Ground.phase }, { on := 5, ground := Ground.phase }, { on := 6, ground := Ground.phase }, { on := 7, ground := Ground.phase }, { on := 8, ground := Ground.phase }, { on := 9, ground := Ground.phase }, { on := 10, ground := Ground.phase }, { on := 11, ground := Ground.phase }, { on := 12, ground := Ground.phase }, { on := 13, ground := Ground.phase }, { on := 14, ground := Ground.phase }], guard := none }) (clo_grown _) rfl rfl rfl (by kernel_rfl) (by kernel_rfl) (by kernel_rfl) (by kernel_rfl) (by kernel_rfl) (fun _ _ _ h => h) (YG.val (by rfl) (fun _ _ => rfl)) ?_
  simp only [Act.put, List.setIfInBounds_toArray, List.set_cons_zero, List.set_cons_succ]
  refine wpX_take 6 (v := .int .i64 (m : Int)) (oi := { dst := some 46, op := Op.call { callee := Callee.builtin Builtin.len, args := #[Operand.tmp 45], argTypes := #[33] }, type := 3, pos := "law.go:67", after := #[{ on := 5, ground := Ground.data }], guard := none }) (oL := { dst := some 11, op := Op.assign (Operand.tmp 51), type := 26, pos := "law.go:67", after := #[{ on := 12, ground := Ground.data }, { on := 14, ground := Ground.chain }, { on := 0, ground := Ground.phase }, { on := 1, ground := Ground.phase }, { on := 2, ground := Ground.phase }, { on := 3, ground := Ground.phase }, { on := 4, ground := Ground.phase }, { on := 5, ground := Ground.phase }, { on := 6, ground := Ground.phase }, { on := 7, ground := Ground.phase }, { on := 8, ground := Ground.phase }, { on := 9, ground := Ground.phase }, { on := 10, ground := Ground.phase }, { on := 11, ground := Ground.phase }, { on := 12, ground := Ground.phase }, { on := 13, ground := Ground.phase }, { on := 14, ground := Ground.phase }], guard := none }) (clo_grown _) rfl rfl rfl (by kernel_rfl) (by kernel_rfl) (by kernel_rfl) (by kernel_rfl) (by kernel_rfl) (fun _ _ _ h => h) (YG.val (by rfl) (fun _ _ => by go_simp)) ?_
  simp only [Act.put, List.setIfInBounds_toArray, List.set_cons_zero, List.set_cons_succ]
  refine wpX_take 7 (v := .slice (some ⟨gB, 0, none⟩) m cB) (oi := { dst := some 47, op := Op.slice 33 (Operand.tmp 44) none (some (Operand.tmp 46)) none, type := 33, pos := "law.go:67", after := #[{ on := 4, ground := Ground.data }, { on := 6, ground := Ground.data }], guard := none }) (oL := { dst := some 11, op := Op.assign (Operand.tmp 51), type := 26, pos := "law.go:67", after := #[{ on := 12, ground := Ground.data }, { on := 14, ground := Ground.chain }, { on := 0, ground := Ground.phase }, { on := 1, ground := Ground.phase }, { on := 2, ground := Ground.phase }, { on := 3, ground := Ground.phase }, { on := 4, ground := Ground.phase }, { on := 5, ground := Ground.phase }, { on := 6, ground := Ground.phase }, { on := 7, ground := Ground.phase }, { on := 8, ground := Ground.phase }, { on := 9, ground := Ground.phase }, { on := 10, ground := Ground.phase }, { on := 11, ground := Ground.phase }, { on := 12, ground := Ground.phase }, { on := 13, ground := Ground.phase }, { on := 14, ground := Ground.phase }], guard := none }) (clo_grown _) rfl rfl rfl (by kernel_rfl) (by kernel_rfl) (by kernel_rfl) (by kernel_rfl) (by kernel_rfl) (fun _ _ _ h => h) (YG.val (by rfl) (fun u _ => run_pre_op u _ (.tmp 44) (.tmp 46) rfl gB (m + 70) cB m rfl rfl (by omega))) ?_
  simp only [Act.put, List.setIfInBounds_toArray, List.set_cons_zero, List.set_cons_succ]
  refine wpX_step 8 (o := { dst := some 48, op := Op.call { callee := Callee.value (Operand.func 44), args := #[Operand.tmp 43, Operand.tmp 47], argTypes := #[33, 33] }, type := 50, pos := "law.go:67", after := #[{ on := 3, ground := Ground.data }, { on := 7, ground := Ground.data }], guard := none }) rfl rfl (by kernel_rfl) (by rfl) (fun u2 hS2 K hK => ?_)
  have HK := Lib.hid hK
  have HS2 := Lib.hid hS2
  clear hK hS2
  refine wp_call_op (f := 44) (args := #[.slice (some ⟨gA, 0, none⟩) n cA, .slice (some ⟨gB, 0, none⟩) m cB]) (w1 := u2) (by go_simp) ((HO1.out _ _ _ _ (by omega) (by omega) u2 (by have h := (HFA.out.grown HS2.out).lies.take n; rw [lent_take la n HLA.out] at h; exact h) (by have h := (HFB.out.grown HS2.out).lies.take m; rw [lent_take lb m HLB.out] at h; exact h)).mono ?_)
  rintro e u3 ⟨aq, mq, cq, ar, mr, cr, rfl, ho, ho2, hdis, hg⟩
  obtain rfl := ho.len
  obtain rfl := ho2.len
  refine ⟨_, rfl, HK.out (fun u => u3.grownBy u none) _ _ (World.grownBy.refl _ _) (fun u h => grownBy_trans (grownBy_trans HS2.out hg) h) (clo_grown u3) ?_⟩
  simp only [Act.put, List.setIfInBounds_toArray, List.set_cons_zero, List.set_cons_succ]
  refine wpX_take 9 (v := .tuple #[.slice aq Q.length cq, .slice ar R.length cr, .int .i64 (E3 : Nat)]) (oi := { dst := some 39, op := Op.move (Operand.tmp 48), type := 50, pos := "law.go:67", after := #[{ on := 8, ground := Ground.data }], guard := none }) (oL := { dst := some 11, op := Op.assign (Operand.tmp 51), type := 26, pos := "law.go:67", after := #[{ on := 12, ground := Ground.data }, { on := 14, ground := Ground.chain }, { on := 0, ground := Ground.phase }, { on := 1, ground := Ground.phase }, { on := 2, ground := Ground.phase }, { on := 3, ground := Ground.phase }, { on := 4, ground := Ground.phase }, { on := 5, ground := Ground.phase }, { on := 6, ground := Ground.phase }, { on := 7, ground := Ground.phase }, { on := 8, ground := Ground.phase }, { on := 9, ground := Ground.phase }, { on := 10, ground := Ground.phase }, { on := 11, ground := Ground.phase }, { on := 12, ground := Ground.phase }, { on := 13, ground := Ground.phase }, { on := 14, ground := Ground.phase }], guard := none }) (clo_grown _) rfl rfl rfl (by kernel_rfl) (by kernel_rfl) (by kernel_rfl) (by kernel_rfl) (by kernel_rfl) (fun _ _ _ h => h) (YG.val (by rfl) (fun _ _ => rfl)) ?_
  simp only [Act.put, List.setIfInBounds_toArray, List.set_cons_zero, List.set_cons_succ]
  refine wpX_take 10 (v := .slice aq Q.length cq) (oi := { dst := some 49, op := Op.extract (Operand.tmp 39) 0, type := 33, pos := "law.go:67", after := #[{ on := 9, ground := Ground.data }], guard := none }) (oL := { dst := some 11, op := Op.assign (Operand.tmp 51), type := 26, pos := "law.go:67", after := #[{ on := 12, ground := Ground.data }, { on := 14, ground := Ground.chain }, { on := 0, ground := Ground.phase }, { on := 1, ground := Ground.phase }, { on := 2, ground := Ground.phase }, { on := 3, ground := Ground.phase }, { on := 4, ground := Ground.phase }, { on := 5, ground := Ground.phase }, { on := 6, ground := Ground.phase }, { on := 7, ground := Ground.phase }, { on := 8, ground := Ground.phase }, { on := 9, ground := Ground.phase }, { on := 10, ground := Ground.phase }, { on := 11, ground := Ground.phase }, { on := 12, ground := Ground.phase }, { on := 13, ground := Ground.phase }, { on := 14, ground := Ground.phase }], guard := none }) (clo_grown _) rfl rfl rfl (by kernel_rfl) (by kernel_rfl) (by kernel_rfl) (by kernel_rfl) (by kernel_rfl) (fun _ _ _ h => h) (YG.val (by rfl) (fun _ _ => by go_simp)) ?_
  simp only [Act.put, List.setIfInBounds_toArray, List.set_cons_zero, List.set_cons_succ]
  refine wpX_take 11 (v := .slice ar R.length cr) (oi := { dst := some 50, op := Op.extract (Operand.tmp 39) 1, type := 33, pos := "law.go:67", after := #[{ on := 9, ground := Ground.data }, { on := 13, ground := Ground.gcOnly Departure.lateStores }], guard := none }) (oL := { dst := some 11, op := Op.assign (Operand.tmp 51), type := 26, pos := "law.go:67", after := #[{ on := 12, ground := Ground.data }, { on := 14, ground := Ground.chain }, { on := 0, ground := Ground.phase }, { on := 1, ground := Ground.phase }, { on := 2, ground := Ground.phase }, { on := 3, ground := Ground.phase }, { on := 4, ground := Ground.phase }, { on := 5, ground := Ground.phase }, { on := 6, ground := Ground.phase }, { on := 7, ground := Ground.phase }, { on := 8, ground := Ground.phase }, { on := 9, ground := Ground.phase }, { on := 10, ground := Ground.phase }, { on := 11, ground := Ground.phase }, { on := 12, ground := Ground.phase }, { on := 13, ground := Ground.phase }, { on := 14, ground := Ground.phase }], guard := none }) (clo_grown _) rfl rfl rfl (by kernel_rfl) (by kernel_rfl) (by kernel_rfl) (by kernel_rfl) (by kernel_rfl) (fun _ _ _ h => h) (YG.val (by rfl) (fun _ _ => by go_simp)) ?_
  simp only [Act.put, List.setIfInBounds_toArray, List.set_cons_zero, List.set_cons_succ]
  refine wpX_take 12 (v := .int .i64 (E3 : Nat)) (oi := { dst := some 51, op := Op.extract (Operand.tmp 39) 2, type := 26, pos := "law.go:67", after := #[{ on := 9, ground := Ground.data }, { on := 14, ground := Ground.gcOnly Departure.lateStores }], guard := none }) (oL := { dst := some 11, op := Op.assign (Operand.tmp 51), type := 26, pos := "law.go:67", after := #[{ on := 12, ground := Ground.data }, { on := 14, ground := Ground.chain }, { on := 0, ground := Ground.phase }, { on := 1, ground := Ground.phase }, { on := 2, ground := Ground.phase }, { on := 3, ground := Ground.phase }, { on := 4, ground := Ground.phase }, { on := 5, ground := Ground.phase }, { on := 6, ground := Ground.phase }, { on := 7, ground := Ground.phase }, { on := 8, ground := Ground.phase }, { on := 9, ground := Ground.phase }, { on := 10, ground := Ground.phase }, { on := 11, ground := Ground.phase }, { on := 12, ground := Ground.phase }, { on := 13, ground := Ground.phase }, { on := 14, ground := Ground.phase }], guard := none }) (clo_grown _) rfl rfl rfl (by kernel_rfl) (by kernel_rfl) (by kernel_rfl) (by kernel_rfl) (by kernel_rfl) (fun _ _ _ h => h) (YG.val (by rfl) (fun _ _ => by go_simp)) ?_
  simp only [Act.put, List.setIfInBounds_toArray, List.set_cons_zero, List.set_cons_succ]
  refine wpX_take 13 (v := .slice aq Q.length cq) (oi := { dst := some 9, op := Op.assign (Operand.tmp 49), type := 33, pos := "law.go:67", after := #[{ on := 10, ground := Ground.data }, { on := 8, ground := Ground.chain }, { on := 0, ground := Ground.phase }, { on := 1, ground := Ground.phase }, { on := 2, ground := Ground.phase }, { on := 3, ground := Ground.phase }, { on := 4, ground := Ground.phase }, { on := 5, ground := Ground.phase }, { on := 6, ground := Ground.phase }, { on := 7, ground := Ground.phase }, { on := 8, ground := Ground.phase }, { on := 9, ground := Ground.phase }, { on := 10, ground := Ground.phase }, { on := 11, ground := Ground.textOnly Departure.lateStores }, { on := 12, ground := Ground.textOnly Departure.lateStores }], guard := none }) (oL := { dst := some 11, op := Op.assign (Operand.tmp 51), type := 26, pos := "law.go:67", after := #[{ on := 12, ground := Ground.data }, { on := 14, ground := Ground.chain }, { on := 0, ground := Ground.phase }, { on := 1, ground := Ground.phase }, { on := 2, ground := Ground.phase }, { on := 3, ground := Ground.phase }, { on := 4, ground := Ground.phase }, { on := 5, ground := Ground.phase }, { on := 6, ground := Ground.phase }, { on := 7, ground := Ground.phase }, { on := 8, ground := Ground.phase }, { on := 9, ground := Ground.phase }, { on := 10, ground := Ground.phase }, { on := 11, ground := Ground.phase }, { on := 12, ground := Ground.phase }, { on := 13, ground := Ground.phase }, { on := 14, ground := Ground.phase }], guard := none }) (clo_grown _) rfl rfl rfl (by kernel_rfl) (by kernel_rfl) (by kernel_rfl) (by kernel_rfl) (by kernel_rfl) (fun _ _ _ h => h) (YG.val (by rfl) (fun _ _ => rfl)) ?_
  simp only [Act.put, List.setIfInBounds_toArray, List.set_cons_zero, List.set_cons_succ]
  refine wpX_take 14 (v := .slice ar R.length cr) (oi := { dst := some 10, op := Op.assign (Operand.tmp 50), type := 33, pos := "law.go:67", after := #[{ on := 11, ground := Ground.data }, { on := 13, ground := Ground.chain }, { on := 0, ground := Ground.phase }, { on := 1, ground := Ground.phase }, { on := 2, ground := Ground.phase }, { on := 3, ground := Ground.phase }, { on := 4, ground := Ground.phase }, { on := 5, ground := Ground.phase }, { on := 6, ground := Ground.phase }, { on := 7, ground := Ground.phase }, { on := 8, ground := Ground.phase }, { on := 9, ground := Ground.phase }, { on := 10, ground := Ground.phase }, { on := 11, ground := Ground.phase }, { on := 12, ground := Ground.textOnly Departure.lateStores }, { on := 13, ground := Ground.phase }], guard := none }) (oL := { dst := some 11, op := Op.assign (Operand.tmp 51), type := 26, pos := "law.go:67", after := #[{ on := 12, ground := Ground.data }, { on := 14, ground := Ground.chain }, { on := 0, ground := Ground.phase }, { on := 1, ground := Ground.phase }, { on := 2, ground := Ground.phase }, { on := 3, ground := Ground.phase }, { on := 4, ground := Ground.phase }, { on := 5, ground := Ground.phase }, { on := 6, ground := Ground.phase }, { on := 7, ground := Ground.phase }, { on := 8, ground := Ground.phase }, { on := 9, ground := Ground.phase }, { on := 10, ground := Ground.phase }, { on := 11, ground := Ground.phase }, { on := 12, ground := Ground.phase }, { on := 13, ground := Ground.phase }, { on := 14, ground := Ground.phase }], guard := none }) (clo_grown _) rfl rfl rfl (by kernel_rfl) (by kernel_rfl) (by kernel_rfl) (by kernel_rfl) (by kernel_rfl) (fun _ _ _ h => h) (YG.val (by rfl) (fun _ _ => rfl)) ?_
  simp only [Act.put, List.setIfInBounds_toArray, List.set_cons_zero, List.set_cons_succ]
  refine wpX_last (oL := { dst := some 11, op := Op.assign (Operand.tmp 51), type := 26, pos := "law.go:67", after := #[{ on := 12, ground := Ground.data }, { on := 14, ground := Ground.chain }, { on := 0, ground := Ground.phase }, { on := 1, ground := Ground.phase }, { on := 2, ground := Ground.phase }, { on := 3, ground := Ground.phase }, { on := 4, ground := Ground.phase }, { on := 5, ground := Ground.phase }, { on := 6, ground := Ground.phase }, { on := 7, ground := Ground.phase }, { on := 8, ground := Ground.phase }, { on := 9, ground := Ground.phase }, { on := 10, ground := Ground.phase }, { on := 11, ground := Ground.phase }, { on := 12, ground := Ground.phase }, { on := 13, ground := Ground.phase }, { on := 14, ground := Ground.phase }], guard := none }) rfl (by kernel_rfl) (by kernel_rfl) (by rfl) (fun u4 hS4 K4 hK4 => ?_)
  refine wp_val_op (v := .int .i64 (E3 : Nat)) (w1 := u4) (rfl) (hK4 _ _ ?_)
  simp only [Act.put, List.setIfInBounds_toArray, List.set_cons_zero, List.set_cons_succ]
  obtain ⟨w4, hwn⟩ : ∃ w4, w4 = u4 := ⟨_, rfl⟩
  rw [← hwn] at hS4 ⊢
  have HXq := Lib.hid ((BOwn.grown ho hS4).mono HS2.out.size)
  have HXr := Lib.hid ((BOwn.grown ho2 hS4).mono HS2.out.size)
  have HDIS := Lib.hid hdis
  have g := grownBy_trans (grownBy_trans HS2.out hg) hS4
  clear hwn ho hg hS4 HS2 HK hK4 ho2 hdis
  have Z4 := Lib.hid g.size
  replace HG := Lib.hid (grownBy_trans HG.out g)
  replace HFA := Lib.hid (HFA.out.grown g)
  replace HFB := Lib.hid (HFB.out.grown g)
  replace HXp := Lib.hid (HXp.out.grown g)
  clear g
  have WIq := Lib.hid HXq.out.within
  have WIr := Lib.hid HXr.out.within
  go_upto_region 5 with fail
  refine wp_regionX (fun u => w4.grownBy u none) 13 (by kernel_rfl) (grownBy_drewN w4 1 none) ?_
  refine wpX_take 0 (v := .slice (some ⟨gA, 0, none⟩) (n + 70) cA) (oi := { dst := some 53, op := Op.move (Operand.tmp 5), type := 33, pos := "law.go:68", after := #[], guard := none }) (oL := { dst := some 13, op := Op.assign (Operand.tmp 63), type := 26, pos := "law.go:68", after := #[{ on := 11, ground := Ground.data }, { on := 12, ground := Ground.chain }, { on := 0, ground := Ground.phase }, { on := 1, ground := Ground.phase }, { on := 2, ground := Ground.phase }, { on := 3, ground := Ground.phase }, { on := 4, ground := Ground.phase }, { on := 5, ground := Ground.phase }, { on := 6, ground := Ground.phase }, { on := 7, ground := Ground.phase }, { on := 8, ground := Ground.phase }, { on := 9, ground := Ground.phase }, { on := 10, ground := Ground.phase }, { on := 11, ground := Ground.phase }, { on := 12, ground := Ground.phase }], guard := none }) (clo_grown _) rfl rfl rfl (by kernel_rfl) (by kernel_rfl) (by kernel_rfl) (by kernel_rfl) (by kernel_rfl) (fun _ _ _ h => h) (YG.val (by rfl) (fun _ _ => rfl)) ?_
  simp only [Act.put, List.setIfInBounds_toArray, List.set_cons_zero, List.set_cons_succ]
  refine wpX_take 1 (v := .slice a n ca) (oi := { dst := some 54, op := Op.move (Operand.tmp 0), type := 33, pos := "law.go:68", after := #[], guard := none }) (oL := { dst := some 13, op := Op.assign (Operand.tmp 63), type := 26, pos := "law.go:68", after := #[{ on := 11, ground := Ground.data }, { on := 12, ground := Ground.chain }, { on := 0, ground := Ground.phase }, { on := 1, ground := Ground.phase }, { on := 2, ground := Ground.phase }, { on := 3, ground := Ground.phase }, { on := 4, ground := Ground.phase }, { on := 5, ground := Ground.phase }, { on := 6, ground := Ground.phase }, { on := 7, ground := Ground.phase }, { on := 8, ground := Ground.phase }, { on := 9, ground := Ground.phase }, { on := 10, ground := Ground.phase }, { on := 11, ground := Ground.phase }, { on := 12, ground := Ground.phase }], guard := none }) (clo_grown _) rfl rfl rfl (by kernel_rfl) (by kernel_rfl) (by kernel_rfl) (by kernel_rfl) (by kernel_rfl) (fun _ _ _ h => h) (YG.val (by rfl) (fun _ _ => rfl)) ?_
  simp only [Act.put, List.setIfInBounds_toArray, List.set_cons_zero, List.set_cons_succ]
  refine wpX_take 2 (v := .int .i64 (n : Int)) (oi := { dst := some 55, op := Op.call { callee := Callee.builtin Builtin.len, args := #[Operand.tmp 54], argTypes := #[33] }, type := 3, pos := "law.go:68", after := #[{ on := 1, ground := Ground.data }], guard := none }) (oL := { dst := some 13, op := Op.assign (Operand.tmp 63), type := 26, pos := "law.go:68", after := #[{ on := 11, ground := Ground.data }, { on := 12, ground := Ground.chain }, { on := 0, ground := Ground.phase }, { on := 1, ground := Ground.phase }, { on := 2, ground := Ground.phase }, { on := 3, ground := Ground.phase }, { on := 4, ground := Ground.phase }, { on := 5, ground := Ground.phase }, { on := 6, ground := Ground.phase }, { on := 7, ground := Ground.phase }, { on := 8, ground := Ground.phase }, { on := 9, ground := Ground.phase }, { on := 10, ground := Ground.phase }, { on := 11, ground := Ground.phase }, { on := 12, ground := Ground.phase }], guard := none }) (clo_grown _) rfl rfl rfl (by kernel_rfl) (by kernel_rfl) (by kernel_rfl) (by kernel_rfl) (by kernel_rfl) (fun _ _ _ h => h) (YG.val (by rfl) (fun _ _ => by go_simp)) ?_
  simp only [Act.put, List.setIfInBounds_toArray, List.set_cons_zero, List.set_cons_succ]
  refine wpX_take 3 (v := .slice (some ⟨gA, 0, none⟩) n cA) (oi := { dst := some 56, op := Op.slice 33 (Operand.tmp 53) none (some (Operand.tmp 55)) none, type := 33, pos := "law.go:68", after := #[{ on := 0, ground := Ground.data }, { on := 2, ground := Ground.data }], guard := none }) (oL := { dst := some 13, op := Op.assign (Operand.tmp 63), type := 26, pos := "law.go:68", after := #[{ on := 11, ground := Ground.data }, { on := 12, ground := Ground.chain }, { on := 0, ground := Ground.phase }, { on := 1, ground := Ground.phase }, { on := 2, ground := Ground.phase }, { on := 3, ground := Ground.phase }, { on := 4, ground := Ground.phase }, { on := 5, ground := Ground.phase }, { on := 6, ground := Ground.phase }, { on := 7, ground := Ground.phase }, { on := 8, ground := Ground.phase }, { on := 9, ground := Ground.phase }, { on := 10, ground := Ground.phase }, { on := 11, ground := Ground.phase }, { on := 12, ground := Ground.phase }], guard := none }) (clo_grown _) rfl rfl rfl (by kernel_rfl) (by kernel_rfl) (by kernel_rfl) (by kernel_rfl) (by kernel_rfl) (fun _ _ _ h => h) (YG.val (by rfl) (fun u _ => run_pre_op u _ (.tmp 53) (.tmp 55) rfl gA (n + 70) cA n rfl rfl (by omega))) ?_
  simp only [Act.put, List.setIfInBounds_toArray, List.set_cons_zero, List.set_cons_succ]
  refine wpX_take 4 (v := .slice (some ⟨gB, 0, none⟩) (m + 70) cB) (oi := { dst := some 57, op := Op.move (Operand.tmp 6), type := 33, pos := "law.go:68", after := #[], guard := none }) (oL := { dst := some 13, op := Op.assign (Operand.tmp 63), type := 26, pos := "law.go:68", after := #[{ on := 11, ground := Ground.data }, { on := 12, ground := Ground.chain }, { on := 0, ground := Ground.phase }, { on := 1, ground := Ground.phase }, { on := 2, ground := Ground.phase }, { on := 3, ground := Ground.phase }, { on := 4, ground := Ground.phase }, { on := 5, ground := Ground.phase }, { on := 6, ground := Ground.phase }, { on := 7, ground := Ground.phase }, { on := 8, ground := Ground.phase }, { on := 9, ground := Ground.phase }, { on := 10, ground := Ground.phase }, { on := 11, ground := Ground.phase }, { on := 12, ground := Ground.phase }], guard := none }) (clo_grown _) rfl rfl rfl (by kernel_rfl) (by kernel_rfl) (by kernel_rfl) (by kernel_rfl) (by kernel_rfl) (fun _ _ _ h => h) (YG.val (by rfl) (fun _ _ => rfl)) ?_
  simp only [Act.put, List.setIfInBounds_toArray, List.set_cons_zero, List.set_cons_succ]
  refine wpX_take 5 (v := .slice b m cb) (oi := { dst := some 58, op := Op.move (Operand.tmp 1), type := 33, pos := "law.go:68", after := #[], guard := none }) (oL := { dst := some 13, op := Op.assign (Operand.tmp 63), type := 26, pos := "law.go:68", after := #[{ on := 11, ground := Ground.data }, { on := 12, ground := Ground.chain }, { on := 0, ground := Ground.phase }, { on := 1, ground := Ground.phase }, { on := 2, ground := Ground.phase }, { on := 3, ground := Ground.phase }, { on := 4, ground := Ground.phase }, { on := 5, ground := Ground.phase }, { on := 6, ground := Ground.phase }, { on := 7, ground := Ground.phase }, { on := 8, ground := Ground.phase }, { on := 9, ground := Ground.phase }, { on := 10, ground := Ground.phase }, { on := 11, ground := Ground.phase }, { on := 12, ground := Ground.phase }], guard := none }) (clo_grown _) rfl rfl rfl (by kernel_rfl) (by kernel_rfl) (by kernel_rfl) (by kernel_rfl) (by kernel_rfl) (fun _ _ _ h => h) (YG.val (by rfl) (fun _ _ => rfl)) ?_
  simp only [Act.put, List.setIfInBounds_toArray, List.set_cons_zero, List.set_cons_succ]
  refine wpX_take 6 (v := .int .i64 (m : Int)) (oi := { dst := some 59, op := Op.call { callee := Callee.builtin Builtin.len, args := #[Operand.tmp 58], argTypes := #[33] }, type := 3, pos := "law.go:68", after := #[{ on := 5, ground := Ground.data }], guard := none }) (oL := { dst := some 13, op := Op.assign (Operand.tmp 63), type := 26, pos := "law.go:68", after := #[{ on := 11, ground := Ground.data }, { on := 12, ground := Ground.chain }, { on := 0, ground := Ground.phase }, { on := 1, ground := Ground.phase }, { on := 2, ground := Ground.phase }, { on := 3, ground := Ground.phase }, { on := 4, ground := Ground.phase }, { on := 5, ground := Ground.phase }, { on := 6, ground := Ground.phase }, { on := 7, ground := Ground.phase }, { on := 8, ground := Ground.phase }, { on := 9, ground := Ground.phase }, { on := 10, ground := Ground.phase }, { on := 11, ground := Ground.phase }, { on := 12, ground := Ground.phase }], guard := none }) (clo_grown _) rfl rfl rfl (by kernel_rfl) (by kernel_rfl) (by kernel_rfl) (by kernel_rfl) (by kernel_rfl) (fun _ _ _ h => h) (YG.val (by rfl) (fun _ _ => by go_simp)) ?_
  simp only [Act.put, List.setIfInBounds_toArray, List.set_cons_zero, List.set_cons_succ]
  refine wpX_take 7 (v := .slice (some ⟨gB, 0, none⟩) m cB) (oi := { dst := some 60, op := Op.slice 33 (Operand.tmp 57) none (some (Operand.tmp 59)) none, type := 33, pos := "law.go:68", after := #[{ on := 4, ground := Ground.data }, { on := 6, ground := Ground.data }], guard := none }) (oL := { dst := some 13, op := Op.assign (Operand.tmp 63), type := 26, pos := "law.go:68", after := #[{ on := 11, ground := Ground.data }, { on := 12, ground := Ground.chain }, { on := 0, ground := Ground.phase }, { on := 1, ground := Ground.phase }, { on := 2, ground := Ground.phase }, { on := 3, ground := Ground.phase }, { on := 4, ground := Ground.phase }, { on := 5, ground := Ground.phase }, { on := 6, ground := Ground.phase }, { on := 7, ground := Ground.phase }, { on := 8, ground := Ground.phase }, { on := 9, ground := Ground.phase }, { on := 10, ground := Ground.phase }, { on := 11, ground := Ground.phase }, { on := 12, ground := Ground.phase }], guard := none }) (clo_grown _) rfl rfl rfl (by kernel_rfl) (by kernel_rfl) (by kernel_rfl) (by kernel_rfl) (by kernel_rfl) (fun _ _ _ h => h) (YG.val (by rfl) (fun u _ => run_pre_op u _ (.tmp 57) (.tmp 59) rfl gB (m + 70) cB m rfl rfl (by omega))) ?_
  simp only [Act.put, List.setIfInBounds_toArray, List.set_cons_zero, List.set_cons_succ]
  refine wpX_step 8 (o := { dst := some 61, op := Op.call { callee := Callee.value (Operand.func 43), args := #[Operand.tmp 56, Operand.tmp 60], argTypes := #[33, 33] }, type := 48, pos := "law.go:68", after := #[{ on := 3, ground := Ground.data }, { on := 7, ground := Ground.data }], guard := none }) rfl rfl (by kernel_rfl) (by rfl) (fun u2 hS2 K hK => ?_)
  have HK := Lib.hid hK
  have HS2 := Lib.hid hS2
  clear hK hS2
  refine wp_call_op (f := 43) (args := #[.slice (some ⟨gA, 0, none⟩) n cA, .slice (some ⟨gB, 0, none⟩) m cB]) (w1 := u2) (by go_simp) ((HT1.out _ _ _ _ (by omega) (by omega) u2 (by have h := (HFA.out.grown HS2.out).lies.take n; rw [lent_take la n HLA.out] at h; exact h) (by have h := (HFB.out.grown HS2.out).lies.take m; rw [lent_take lb m HLB.out] at h; exact h)).mono ?_)
  rintro e u3 ⟨av, mv, cv, rfl, ho, hg⟩
  obtain rfl := ho.len
  refine ⟨_, rfl, HK.out (fun u => u3.grownBy u none) _ _ (World.grownBy.refl _ _) (fun u h => grownBy_trans (grownBy_trans HS2.out hg) h) (clo_grown u3) ?_⟩
  simp only [Act.put, List.setIfInBounds_toArray, List.set_cons_zero, List.set_cons_succ]
  refine wpX_take 9 (v := .tuple #[.slice av P.length cv, .int .i64 (E1 : Nat)]) (oi := { dst := some 52, op := Op.move (Operand.tmp 61), type := 48, pos := "law.go:68", after := #[{ on := 8, ground := Ground.data }], guard := none }) (oL := { dst := some 13, op := Op.assign (Operand.tmp 63), type := 26, pos := "law.go:68", after := #[{ on := 11, ground := Ground.data }, { on := 12, ground := Ground.chain }, { on := 0, ground := Ground.phase }, { on := 1, ground := Ground.phase }, { on := 2, ground := Ground.phase }, { on := 3, ground := Ground.phase }, { on := 4, ground := Ground.phase }, { on := 5, ground := Ground.phase }, { on := 6, ground := Ground.phase }, { on := 7, ground := Ground.phase }, { on := 8, ground := Ground.phase }, { on := 9, ground := Ground.phase }, { on := 10, ground := Ground.phase }, { on := 11, ground := Ground.phase }, { on := 12, ground := Ground.phase }], guard := none }) (clo_grown _) rfl rfl rfl (by kernel_rfl) (by kernel_rfl) (by kernel_rfl) (by kernel_rfl) (by kernel_rfl) (fun _ _ _ h => h) (YG.val (by rfl) (fun _ _ => rfl)) ?_
  simp only [Act.put, List.setIfInBounds_toArray, List.set_cons_zero, List.set_cons_succ]
  refine wpX_take 10 (v := .slice av P.length cv) (oi := { dst := some 62, op := Op.extract (Operand.tmp 52) 0, type := 33, pos := "law.go:68", after := #[{ on := 9, ground := Ground.data }], guard := none }) (oL := { dst := some 13, op := Op.assign (Operand.tmp 63), type := 26, pos := "law.go:68", after := #[{ on := 11, ground := Ground.data }, { on := 12, ground := Ground.chain }, { on := 0, ground := Ground.phase }, { on := 1, ground := Ground.phase }, { on := 2, ground := Ground.phase }, { on := 3, ground := Ground.phase }, { on := 4, ground := Ground.phase }, { on := 5, ground := Ground.phase }, { on := 6, ground := Ground.phase }, { on := 7, ground := Ground.phase }, { on := 8, ground := Ground.phase }, { on := 9, ground := Ground.phase }, { on := 10, ground := Ground.phase }, { on := 11, ground := Ground.phase }, { on := 12, ground := Ground.phase }], guard := none }) (clo_grown _) rfl rfl rfl (by kernel_rfl) (by kernel_rfl) (by kernel_rfl) (by kernel_rfl) (by kernel_rfl) (fun _ _ _ h => h) (YG.val (by rfl) (fun _ _ => by go_simp)) ?_
  simp only [Act.put, List.setIfInBounds_toArray, List.set_cons_zero, List.set_cons_succ]
  refine wpX_take 11 (v := .int .i64 (E1 : Nat)) (oi := { dst := some 63, op := Op.extract (Operand.tmp 52) 1, type := 26, pos := "law.go:68", after := #[{ on := 9, ground := Ground.data }, { on := 12, ground := Ground.gcOnly Departure.lateStores }], guard := none }) (oL := { dst := some 13, op := Op.assign (Operand.tmp 63), type := 26, pos := "law.go:68", after := #[{ on := 11, ground := Ground.data }, { on := 12, ground := Ground.chain }, { on := 0, ground := Ground.phase }, { on := 1, ground := Ground.phase }, { on := 2, ground := Ground.phase }, { on := 3, ground := Ground.phase }, { on := 4, ground := Ground.phase }, { on := 5, ground := Ground.phase }, { on := 6, ground := Ground.phase }, { on := 7, ground := Ground.phase }, { on := 8, ground := Ground.phase }, { on := 9, ground := Ground.phase }, { on := 10, ground := Ground.phase }, { on := 11, ground := Ground.phase }, { on := 12, ground := Ground.phase }], guard := none }) (clo_grown _) rfl rfl rfl (by kernel_rfl) (by kernel_rfl) (by kernel_rfl) (by kernel_rfl) (by kernel_rfl) (fun _ _ _ h => h) (YG.val (by rfl) (fun _ _ => by go_simp)) ?_
  simp only [Act.put, List.setIfInBounds_toArray, List.set_cons_zero, List.set_cons_succ]
  refine wpX_take 12 (v := .slice av P.length cv) (oi := { dst := some 12, op := Op.assign (Operand.tmp 62), type := 33, pos := "law.go:68", after := #[{ on := 10, ground := Ground.data }, { on := 8, ground := Ground.chain }, { on := 0, ground := Ground.phase }, { on := 1, ground := Ground.phase }, { on := 2, ground := Ground.phase }, { on := 3, ground := Ground.phase }, { on := 4, ground := Ground.phase }, { on := 5, ground := Ground.phase }, { on := 6, ground := Ground.phase }, { on := 7, ground := Ground.phase }, { on := 8, ground := Ground.phase }, { on := 9, ground := Ground.phase }, { on := 10, ground := Ground.phase }, { on := 11, ground := Ground.textOnly Departure.lateStores }], guard := none }) (oL := { dst := some 13, op := Op.assign (Operand.tmp 63), type := 26, pos := "law.go:68", after := #[{ on := 11, ground := Ground.data }, { on := 12, ground := Ground.chain }, { on := 0, ground := Ground.phase }, { on := 1, ground := Ground.phase }, { on := 2, ground := Ground.phase }, { on := 3, ground := Ground.phase }, { on := 4, ground := Ground.phase }, { on := 5, ground := Ground.phase }, { on := 6, ground := Ground.phase }, { on := 7, ground := Ground.phase }, { on := 8, ground := Ground.phase }, { on := 9, ground := Ground.phase }, { on := 10, ground := Ground.phase }, { on := 11, ground := Ground.phase }, { on := 12, ground := Ground.phase }], guard := none }) (clo_grown _) rfl rfl rfl (by kernel_rfl) (by kernel_rfl) (by kernel_rfl) (by kernel_rfl) (by kernel_rfl) (fun _ _ _ h => h) (YG.val (by rfl) (fun _ _ => rfl)) ?_
  simp only [Act.put, List.setIfInBounds_toArray, List.set_cons_zero, List.set_cons_succ]
  refine wpX_last (oL := { dst := some 13, op := Op.assign (Operand.tmp 63), type := 26, pos := "law.go:68", after := #[{ on := 11, ground := Ground.data }, { on := 12, ground := Ground.chain }, { on := 0, ground := Ground.phase }, { on := 1, ground := Ground.phase }, { on := 2, ground := Ground.phase }, { on := 3, ground := Ground.phase }, { on := 4, ground := Ground.phase }, { on := 5, ground := Ground.phase }, { on := 6, ground := Ground.phase }, { on := 7, ground := Ground.phase }, { on := 8, ground := Ground.phase }, { on := 9, ground := Ground.phase }, { on := 10, ground := Ground.phase }, { on := 11, ground := Ground.phase }, { on := 12, ground := Ground.phase }], guard := none }) rfl (by kernel_rfl) (by kernel_rfl) (by rfl) (fun u4 hS4 K4 hK4 => ?_)
  refine wp_val_op (v := .int .i64 (E1 : Nat)) (w1 := u4) (rfl) (hK4 _ _ ?_)
  simp only [Act.put, List.setIfInBounds_toArray, List.set_cons_zero, List.set_cons_succ]
  obtain ⟨w5, hwn⟩ : ∃ w5, w5 = u4 := ⟨_, rfl⟩
  rw [← hwn] at hS4 ⊢
  have HXv := Lib.hid ((BOwn.grown ho hS4).mono HS2.out.size)
  have g := grownBy_trans (grownBy_trans HS2.out hg) hS4
  clear hwn ho hg hS4 HS2 HK hK4
  have Z5 := Lib.hid g.size
  replace HG := Lib.hid (grownBy_trans HG.out g)
  replace HFA := Lib.hid (HFA.out.grown g)
  replace HFB := Lib.hid (HFB.out.grown g)
  replace HXp := Lib.hid (HXp.out.grown g)
  replace HXq := Lib.hid (HXq.out.grown g)
  replace HXr := Lib.hid (HXr.out.grown g)
  clear g
  have WIv := Lib.hid HXv.out.within
  go_wp2_with fail
  refine (kept_yes _ _ _ _ n _ la _ (BOwn.lies HFA.out) (HA.out.grown HG.out) HLA.out rfl (by omega)).mono ?_
  rintro e w6 ⟨rfl, g⟩
  have Z6 := Lib.hid g.size
  replace HG := Lib.hid (grownBy_trans HG.out g)
  replace HFA := Lib.hid (HFA.out.grown g)
  replace HFB := Lib.hid (HFB.out.grown g)
  replace HXp := Lib.hid (HXp.out.grown g)
  replace HXq := Lib.hid (HXq.out.grown g)
  replace HXr := Lib.hid (HXr.out.grown g)
  replace HXv := Lib.hid (HXv.out.grown g)
  clear g
  go_wp2_with fail
  refine (kept_yes _ _ _ _ m _ lb _ (BOwn.lies HFB.out) (HB.out.grown HG.out) HLB.out rfl (by omega)).mono ?_
  rintro e w7 ⟨rfl, g⟩
  have Z7 := Lib.hid g.size
  replace HG := Lib.hid (grownBy_trans HG.out g)
  replace HFA := Lib.hid (HFA.out.grown g)
  replace HFB := Lib.hid (HFB.out.grown g)
  replace HXp := Lib.hid (HXp.out.grown g)
  replace HXq := Lib.hid (HXq.out.grown g)
  replace HXr := Lib.hid (HXr.out.grown g)
  replace HXv := Lib.hid (HXv.out.grown g)
  clear g
  go_wp2_with fail
  refine (HR1.out _ _ _ _ hca hcb _ (HA.out.grown HG.out) (HB.out.grown HG.out)).mono ?_
  rintro e w8 ⟨awp, mwp, cwp, rfl, ho, g⟩
  obtain rfl := ho.len
  have HXwp := Lib.hid ho
  clear ho
  have Z8 := Lib.hid g.size
  replace HG := Lib.hid (grownBy_trans HG.out g)
  replace HFA := Lib.hid (HFA.out.grown g)
  replace HFB := Lib.hid (HFB.out.grown g)
  replace HXp := Lib.hid (HXp.out.grown g)
  replace HXq := Lib.hid (HXq.out.grown g)
  replace HXr := Lib.hid (HXr.out.grown g)
  replace HXv := Lib.hid (HXv.out.grown g)
  clear g
  go_wp2_with fail
  refine (HS1.out _ _ _ _ hca hcb _ (HA.out.grown HG.out) (HB.out.grown HG.out)).mono ?_
  rintro e w9 ⟨awq, mwq, cwq, awr, mwr, cwr, rfl, ho, ho2, _, g⟩
  obtain rfl := ho.len
  obtain rfl := ho2.len
  have HXwq := Lib.hid ho
  have HXwr := Lib.hid ho2
  clear ho ho2
  have Z9 := Lib.hid g.size
  replace HG := Lib.hid (grownBy_trans HG.out g)
  replace HFA := Lib.hid (HFA.out.grown g)
  replace HFB := Lib.hid (HFB.out.grown g)
  replace HXp := Lib.hid (HXp.out.grown g)
  replace HXq := Lib.hid (HXq.out.grown g)
  replace HXr := Lib.hid (HXr.out.grown g)
  replace HXv := Lib.hid (HXv.out.grown g)
  replace HXwp := Lib.hid (HXwp.out.grown g)
  clear g
  go_wp2_with fail
  refine (same_yes _ _ _ _ _ _ P _ (BOwn.lies HXp.out) (BOwn.lies HXwp.out) rfl rfl (Nat.le_trans HB1.out (by decide))).mono ?_
  rintro e w10 ⟨rfl, q, hq⟩
  have g : w9.grownBy w10 none := by rw [hq]; exact grownBy_drewN _ _ _
  clear hq q
  have Z10 := Lib.hid g.size
  replace HG := Lib.hid (grownBy_trans HG.out g)
  replace HFA := Lib.hid (HFA.out.grown g)
  replace HFB := Lib.hid (HFB.out.grown g)
  replace HXp := Lib.hid (HXp.out.grown g)
  replace HXq := Lib.hid (HXq.out.grown g)
  replace HXr := Lib.hid (HXr.out.grown g)
  replace HXv := Lib.hid (HXv.out.grown g)
  replace HXwp := Lib.hid (HXwp.out.grown g)
  replace HXwq := Lib.hid (HXwq.out.grown g)
  replace HXwr := Lib.hid (HXwr.out.grown g)
  clear g
  go_wp2_with fail
  refine (same_yes _ _ _ _ _ _ P _ (BOwn.lies HXv.out) (BOwn.lies HXwp.out) rfl rfl (Nat.le_trans HB1.out (by decide))).mono ?_
  rintro e w11 ⟨rfl, q, hq⟩
  have g : w10.grownBy w11 none := by rw [hq]; exact grownBy_drewN _ _ _
  clear hq q
  have Z11 := Lib.hid g.size
  replace HG := Lib.hid (grownBy_trans HG.out g)
  replace HFA := Lib.hid (HFA.out.grown g)
  replace HFB := Lib.hid (HFB.out.grown g)
  replace HXp := Lib.hid (HXp.out.grown g)
  replace HXq := Lib.hid (HXq.out.grown g)
  replace HXr := Lib.hid (HXr.out.grown g)
  replace HXv := Lib.hid (HXv.out.grown g)
  replace HXwp := Lib.hid (HXwp.out.grown g)
  replace HXwq := Lib.hid (HXwq.out.grown g)
  replace HXwr := Lib.hid (HXwr.out.grown g)
  clear g
  go_wp2_with fail
  refine (same_yes _ _ _ _ _ _ Q _ (BOwn.lies HXq.out) (BOwn.lies HXwq.out) rfl rfl (Nat.le_trans HB3.out (by decide))).mono ?_
  rintro e w12 ⟨rfl, q, hq⟩
  have g : w11.grownBy w12 none := by rw [hq]; exact grownBy_drewN _ _ _
  clear hq q
  have Z12 := Lib.hid g.size
  replace HG := Lib.hid (grownBy_trans HG.out g)
  replace HFA := Lib.hid (HFA.out.grown g)
  replace HFB := Lib.hid (HFB.out.grown g)
  replace HXp := Lib.hid (HXp.out.grown g)
  replace HXq := Lib.hid (HXq.out.grown g)
  replace HXr := Lib.hid (HXr.out.grown g)
  replace HXv := Lib.hid (HXv.out.grown g)
  replace HXwp := Lib.hid (HXwp.out.grown g)
  replace HXwq := Lib.hid (HXwq.out.grown g)
  replace HXwr := Lib.hid (HXwr.out.grown g)
  clear g
  go_wp2_with fail
  refine (same_yes _ _ _ _ _ _ R _ (BOwn.lies HXr.out) (BOwn.lies HXwr.out) rfl rfl (Nat.le_trans HB4.out (by decide))).mono ?_
  rintro e w13 ⟨rfl, q, hq⟩
  have g : w12.grownBy w13 none := by rw [hq]; exact grownBy_drewN _ _ _
  clear hq q
  have Z13 := Lib.hid g.size
  replace HG := Lib.hid (grownBy_trans HG.out g)
  replace HFA := Lib.hid (HFA.out.grown g)
  replace HFB := Lib.hid (HFB.out.grown g)
  replace HXp := Lib.hid (HXp.out.grown g)
  replace HXq := Lib.hid (HXq.out.grown g)
  replace HXr := Lib.hid (HXr.out.grown g)
  replace HXv := Lib.hid (HXv.out.grown g)
  replace HXwp := Lib.hid (HXwp.out.grown g)
  replace HXwq := Lib.hid (HXwq.out.grown g)
  replace HXwr := Lib.hid (HXwr.out.grown g)
  clear g
  go_wp2_with fail
  refine (over_n _ gA cA (n + 70) (lent la) _ HFA.out (by omega)).mono ?_
  rintro e w14 ⟨rfl, oO, g⟩
  have Z14 := Lib.hid g.size
  replace HG := Lib.hid (grownBy_old HG.out g YgA.out.1)
  replace HXp : Hid (BOwn w14 w2.heap.size ap P.length cp P) := Lib.hid (Own.grownNe HXp.out g (fun q hc hq hr => by
    obtain ⟨g', e1, h1, _⟩ := Own.block HXp.out hc
    rw [hq] at e1; injection e1 with e1; injection e1 with e1; injection hr with hr
    have h2 := YgA.out
    have z1 := Z2.out; have z2 := Z3.out; have z3 := Z4.out; have z4 := Z5.out; have z5 := Z6.out; have z6 := Z7.out; have z7 := Z8.out
    omega))
  replace HXq : Hid (BOwn w14 w3.heap.size aq Q.length cq Q) := Lib.hid (Own.grownNe HXq.out g (fun q hc hq hr => by
    obtain ⟨g', e1, h1, _⟩ := Own.block HXq.out hc
    rw [hq] at e1; injection e1 with e1; injection e1 with e1; injection hr with hr
    have h2 := YgA.out
    have z1 := Z2.out; have z2 := Z3.out; have z3 := Z4.out; have z4 := Z5.out; have z5 := Z6.out; have z6 := Z7.out; have z7 := Z8.out
    omega))
  replace HXr : Hid (BOwn w14 w3.heap.size ar R.length cr R) := Lib.hid (Own.grownNe HXr.out g (fun q hc hq hr => by
    obtain ⟨g', e1, h1, _⟩ := Own.block HXr.out hc
    rw [hq] at e1; injection e1 with e1; injection e1 with e1; injection hr with hr
    have h2 := YgA.out
    have z1 := Z2.out; have z2 := Z3.out; have z3 := Z4.out; have z4 := Z5.out; have z5 := Z6.out; have z6 := Z7.out; have z7 := Z8.out
    omega))
  replace HXv : Hid (BOwn w14 w4.heap.size av P.length cv P) := Lib.hid (Own.grownNe HXv.out g (fun q hc hq hr => by
    obtain ⟨g', e1, h1, _⟩ := Own.block HXv.out hc
    rw [hq] at e1; injection e1 with e1; injection e1 with e1; injection hr with hr
    have h2 := YgA.out
    have z1 := Z2.out; have z2 := Z3.out; have z3 := Z4.out; have z4 := Z5.out; have z5 := Z6.out; have z6 := Z7.out; have z7 := Z8.out
    omega))
  replace HXwp : Hid (BOwn w14 w7.heap.size awp P.length cwp P) := Lib.hid (Own.grownNe HXwp.out g (fun q hc hq hr => by
    obtain ⟨g', e1, h1, _⟩ := Own.block HXwp.out hc
    rw [hq] at e1; injection e1 with e1; injection e1 with e1; injection hr with hr
    have h2 := YgA.out
    have z1 := Z2.out; have z2 := Z3.out; have z3 := Z4.out; have z4 := Z5.out; have z5 := Z6.out; have z6 := Z7.out; have z7 := Z8.out
    omega))
  replace HFB : Hid (BOwn w14 w1.heap.size (some ⟨gB, 0, none⟩) (m + 70) cB (lent lb)) := Lib.hid (Own.grownNe HFB.out g (fun q hc hq hr => by
    injection hq with hq; injection hq with hq; injection hr with hr
    have h2 := YgA.out
    have h3 := YgB.out
    omega))
  have hoo := (BOwn.lies oO).take n
  rw [← HLO.out] at hoo
  have HLL : Hid (lo.length = n) := Lib.hid (by rw [HLO.out, List.length_take, over_length]; omega)
  replace HFA := Lib.hid hoo
  clear hoo oO g HXwq HXwr
  go_upto_region 13 with fail
  refine wp_regionX (fun u => w14.grownBy u none) 13 (by kernel_rfl) (grownBy_drewN w14 1 none) ?_
  refine wpX_take 0 (v := .slice (some ⟨gA, 0, none⟩) (n + 70) cA) (oi := { dst := some 127, op := Op.move (Operand.tmp 5), type := 33, pos := "law.go:78", after := #[], guard := none }) (oL := { dst := some 20, op := Op.assign (Operand.tmp 137), type := 26, pos := "law.go:78", after := #[{ on := 11, ground := Ground.data }, { on := 12, ground := Ground.chain }, { on := 0, ground := Ground.phase }, { on := 1, ground := Ground.phase }, { on := 2, ground := Ground.phase }, { on := 3, ground := Ground.phase }, { on := 4, ground := Ground.phase }, { on := 5, ground := Ground.phase }, { on := 6, ground := Ground.phase }, { on := 7, ground := Ground.phase }, { on := 8, ground := Ground.phase }, { on := 9, ground := Ground.phase }, { on := 10, ground := Ground.phase }, { on := 11, ground := Ground.phase }, { on := 12, ground := Ground.phase }], guard := none }) (clo_grown _) rfl rfl rfl (by kernel_rfl) (by kernel_rfl) (by kernel_rfl) (by kernel_rfl) (by kernel_rfl) (fun _ _ _ h => h) (YG.val (by rfl) (fun _ _ => rfl)) ?_
  simp only [Act.put, List.setIfInBounds_toArray, List.set_cons_zero, List.set_cons_succ]
  refine wpX_take 1 (v := .slice a n ca) (oi := { dst := some 128, op := Op.move (Operand.tmp 0), type := 33, pos := "law.go:78", after := #[], guard := none }) (oL := { dst := some 20, op := Op.assign (Operand.tmp 137), type := 26, pos := "law.go:78", after := #[{ on := 11, ground := Ground.data }, { on := 12, ground := Ground.chain }, { on := 0, ground := Ground.phase }, { on := 1, ground := Ground.phase }, { on := 2, ground := Ground.phase }, { on := 3, ground := Ground.phase }, { on := 4, ground := Ground.phase }, { on := 5, ground := Ground.phase }, { on := 6, ground := Ground.phase }, { on := 7, ground := Ground.phase }, { on := 8, ground := Ground.phase }, { on := 9, ground := Ground.phase }, { on := 10, ground := Ground.phase }, { on := 11, ground := Ground.phase }, { on := 12, ground := Ground.phase }], guard := none }) (clo_grown _) rfl rfl rfl (by kernel_rfl) (by kernel_rfl) (by kernel_rfl) (by kernel_rfl) (by kernel_rfl) (fun _ _ _ h => h) (YG.val (by rfl) (fun _ _ => rfl)) ?_
  simp only [Act.put, List.setIfInBounds_toArray, List.set_cons_zero, List.set_cons_succ]
  refine wpX_take 2 (v := .int .i64 (n : Int)) (oi := { dst := some 129, op := Op.call { callee := Callee.builtin Builtin.len, args := #[Operand.tmp 128], argTypes := #[33] }, type := 3, pos := "law.go:78", after := #[{ on := 1, ground := Ground.data }], guard := none }) (oL := { dst := some 20, op := Op.assign (Operand.tmp 137), type := 26, pos := "law.go:78", after := #[{ on := 11, ground := Ground.data }, { on := 12, ground := Ground.chain }, { on := 0, ground := Ground.phase }, { on := 1, ground := Ground.phase }, { on := 2, ground := Ground.phase }, { on := 3, ground := Ground.phase }, { on := 4, ground := Ground.phase }, { on := 5, ground := Ground.phase }, { on := 6, ground := Ground.phase }, { on := 7, ground := Ground.phase }, { on := 8, ground := Ground.phase }, { on := 9, ground := Ground.phase }, { on := 10, ground := Ground.phase }, { on := 11, ground := Ground.phase }, { on := 12, ground := Ground.phase }], guard := none }) (clo_grown _) rfl rfl rfl (by kernel_rfl) (by kernel_rfl) (by kernel_rfl) (by kernel_rfl) (by kernel_rfl) (fun _ _ _ h => h) (YG.val (by rfl) (fun _ _ => by go_simp)) ?_
  simp only [Act.put, List.setIfInBounds_toArray, List.set_cons_zero, List.set_cons_succ]
  refine wpX_take 3 (v := .slice (some ⟨gA, 0, none⟩) n cA) (oi := { dst := some 130, op := Op.slice 33 (Operand.tmp 127) none (some (Operand.tmp 129)) none, type := 33, pos := "law.go:78", after := #[{ on := 0, ground := Ground.data }, { on := 2, ground := Ground.data }], guard := none }) (oL := { dst := some 20, op := Op.assign (Operand.tmp 137), type := 26, pos := "law.go:78", after := #[{ on := 11, ground := Ground.data }, { on := 12, ground := Ground.chain }, { on := 0, ground := Ground.phase }, { on := 1, ground := Ground.phase }, { on := 2, ground := Ground.phase }, { on := 3, ground := Ground.phase }, { on := 4, ground := Ground.phase }, { on := 5, ground := Ground.phase }, { on := 6, ground := Ground.phase }, { on := 7, ground := Ground.phase }, { on := 8, ground := Ground.phase }, { on := 9, ground := Ground.phase }, { on := 10, ground := Ground.phase }, { on := 11, ground := Ground.phase }, { on := 12, ground := Ground.phase }], guard := none }) (clo_grown _) rfl rfl rfl (by kernel_rfl) (by kernel_rfl) (by kernel_rfl) (by kernel_rfl) (by kernel_rfl) (fun _ _ _ h => h) (YG.val (by rfl) (fun u _ => run_pre_op u _ (.tmp 127) (.tmp 129) rfl gA (n + 70) cA n rfl rfl (by omega))) ?_
  simp only [Act.put, List.setIfInBounds_toArray, List.set_cons_zero, List.set_cons_succ]
  refine wpX_take 4 (v := .slice (some ⟨gB, 0, none⟩) (m + 70) cB) (oi := { dst := some 131, op := Op.move (Operand.tmp 6), type := 33, pos := "law.go:78", after := #[], guard := none }) (oL := { dst := some 20, op := Op.assign (Operand.tmp 137), type := 26, pos := "law.go:78", after := #[{ on := 11, ground := Ground.data }, { on := 12, ground := Ground.chain }, { on := 0, ground := Ground.phase }, { on := 1, ground := Ground.phase }, { on := 2, ground := Ground.phase }, { on := 3, ground := Ground.phase }, { on := 4, ground := Ground.phase }, { on := 5, ground := Ground.phase }, { on := 6, ground := Ground.phase }, { on := 7, ground := Ground.phase }, { on := 8, ground := Ground.phase }, { on := 9, ground := Ground.phase }, { on := 10, ground := Ground.phase }, { on := 11, ground := Ground.phase }, { on := 12, ground := Ground.phase }], guard := none }) (clo_grown _) rfl rfl rfl (by kernel_rfl) (by kernel_rfl) (by kernel_rfl) (by kernel_rfl) (by kernel_rfl) (fun _ _ _ h => h) (YG.val (by rfl) (fun _ _ => rfl)) ?_
  simp only [Act.put, List.setIfInBounds_toArray, List.set_cons_zero, List.set_cons_succ]
  refine wpX_take 5 (v := .slice b m cb) (oi := { dst := some 132, op := Op.move (Operand.tmp 1), type := 33, pos := "law.go:78", after := #[], guard := none }) (oL := { dst := some 20, op := Op.assign (Operand.tmp 137), type := 26, pos := "law.go:78", after := #[{ on := 11, ground := Ground.data }, { on := 12, ground := Ground.chain }, { on := 0, ground := Ground.phase }, { on := 1, ground := Ground.phase }, { on := 2, ground := Ground.phase }, { on := 3, ground := Ground.phase }, { on := 4, ground := Ground.phase }, { on := 5, ground := Ground.phase }, { on := 6, ground := Ground.phase }, { on := 7, ground := Ground.phase }, { on := 8, ground := Ground.phase }, { on := 9, ground := Ground.phase }, { on := 10, ground := Ground.phase }, { on := 11, ground := Ground.phase }, { on := 12, ground := Ground.phase }], guard := none }) (clo_grown _) rfl rfl rfl (by kernel_rfl) (by kernel_rfl) (by kernel_rfl) (by kernel_rfl) (by kernel_rfl) (fun _ _ _ h => h) (YG.val (by rfl) (fun _ _ => rfl)) ?_
  simp only [Act.put, List.setIfInBounds_toArray, List.set_cons_zero, List.set_cons_succ]
  refine wpX_take 6 (v := .int .i64 (m : Int)) (oi := { dst := some 133, op := Op.call { callee := Callee.builtin Builtin.len, args := #[Operand.tmp 132], argTypes := #[33] }, type := 3, pos := "law.go:78", after := #[{ on := 5, ground := Ground.data }], guard := none }) (oL := { dst := some 20, op := Op.assign (Operand.tmp 137), type := 26, pos := "law.go:78", after := #[{ on := 11, ground := Ground.data }, { on := 12, ground := Ground.chain }, { on := 0, ground := Ground.phase }, { on := 1, ground := Ground.phase }, { on := 2, ground := Ground.phase }, { on := 3, ground := Ground.phase }, { on := 4, ground := Ground.phase }, { on := 5, ground := Ground.phase }, { on := 6, ground := Ground.phase }, { on := 7, ground := Ground.phase }, { on := 8, ground := Ground.phase }, { on := 9, ground := Ground.phase }, { on := 10, ground := Ground.phase }, { on := 11, ground := Ground.phase }, { on := 12, ground := Ground.phase }], guard := none }) (clo_grown _) rfl rfl rfl (by kernel_rfl) (by kernel_rfl) (by kernel_rfl) (by kernel_rfl) (by kernel_rfl) (fun _ _ _ h => h) (YG.val (by rfl) (fun _ _ => by go_simp)) ?_
  simp only [Act.put, List.setIfInBounds_toArray, List.set_cons_zero, List.set_cons_succ]
  refine wpX_take 7 (v := .slice (some ⟨gB, 0, none⟩) m cB) (oi := { dst := some 134, op := Op.slice 33 (Operand.tmp 131) none (some (Operand.tmp 133)) none, type := 33, pos := "law.go:78", after := #[{ on := 4, ground := Ground.data }, { on := 6, ground := Ground.data }], guard := none }) (oL := { dst := some 20, op := Op.assign (Operand.tmp 137), type := 26, pos := "law.go:78", after := #[{ on := 11, ground := Ground.data }, { on := 12, ground := Ground.chain }, { on := 0, ground := Ground.phase }, { on := 1, ground := Ground.phase }, { on := 2, ground := Ground.phase }, { on := 3, ground := Ground.phase }, { on := 4, ground := Ground.phase }, { on := 5, ground := Ground.phase }, { on := 6, ground := Ground.phase }, { on := 7, ground := Ground.phase }, { on := 8, ground := Ground.phase }, { on := 9, ground := Ground.phase }, { on := 10, ground := Ground.phase }, { on := 11, ground := Ground.phase }, { on := 12, ground := Ground.phase }], guard := none }) (clo_grown _) rfl rfl rfl (by kernel_rfl) (by kernel_rfl) (by kernel_rfl) (by kernel_rfl) (by kernel_rfl) (fun _ _ _ h => h) (YG.val (by rfl) (fun u _ => run_pre_op u _ (.tmp 131) (.tmp 133) rfl gB (m + 70) cB m rfl rfl (by omega))) ?_
  simp only [Act.put, List.setIfInBounds_toArray, List.set_cons_zero, List.set_cons_succ]
  refine wpX_step 8 (o := { dst := some 135, op := Op.call { callee := Callee.value (Operand.func 43), args := #[Operand.tmp 130, Operand.tmp 134], argTypes := #[33, 33] }, type := 48, pos := "law.go:78", after := #[{ on := 3, ground := Ground.data }, { on := 7, ground := Ground.data }], guard := none }) rfl rfl (by kernel_rfl) (by rfl) (fun u2 hS2 K hK => ?_)
  have HK := Lib.hid hK
  have HS2 := Lib.hid hS2
  clear hK hS2
  refine wp_call_op (f := 43) (args := #[.slice (some ⟨gA, 0, none⟩) n cA, .slice (some ⟨gB, 0, none⟩) m cB]) (w1 := u2) (by go_simp) ((HT2.out _ _ _ _ (by omega) (by omega) u2 (HFA.out.grown HS2.out) (by have h := (HFB.out.grown HS2.out).lies.take m; rw [lent_take lb m HLB.out] at h; exact h)).mono ?_)
  rintro e u3 ⟨ax, mx, cx, rfl, ho, hg⟩
  obtain rfl := ho.len
  refine ⟨_, rfl, HK.out (fun u => u3.grownBy u none) _ _ (World.grownBy.refl _ _) (fun u h => grownBy_trans (grownBy_trans HS2.out hg) h) (clo_grown u3) ?_⟩
  simp only [Act.put, List.setIfInBounds_toArray, List.set_cons_zero, List.set_cons_succ]
  refine wpX_take 9 (v := .tuple #[.slice ax X.length cx, .int .i64 (E2 : Nat)]) (oi := { dst := some 126, op := Op.move (Operand.tmp 135), type := 48, pos := "law.go:78", after := #[{ on := 8, ground := Ground.data }], guard := none }) (oL := { dst := some 20, op := Op.assign (Operand.tmp 137), type := 26, pos := "law.go:78", after := #[{ on := 11, ground := Ground.data }, { on := 12, ground := Ground.chain }, { on := 0, ground := Ground.phase }, { on := 1, ground := Ground.phase }, { on := 2, ground := Ground.phase }, { on := 3, ground := Ground.phase }, { on := 4, ground := Ground.phase }, { on := 5, ground := Ground.phase }, { on := 6, ground := Ground.phase }, { on := 7, ground := Ground.phase }, { on := 8, ground := Ground.phase }, { on := 9, ground := Ground.phase }, { on := 10, ground := Ground.phase }, { on := 11, ground := Ground.phase }, { on := 12, ground := Ground.phase }], guard := none }) (clo_grown _) rfl rfl rfl (by kernel_rfl) (by kernel_rfl) (by kernel_rfl) (by kernel_rfl) (by kernel_rfl) (fun _ _ _ h => h) (YG.val (by rfl) (fun _ _ => rfl)) ?_
  simp only [Act.put, List.setIfInBounds_toArray, List.set_cons_zero, List.set_cons_succ]
  refine wpX_take 10 (v := .slice ax X.length cx) (oi := { dst := some 136, op := Op.extract (Operand.tmp 126) 0, type := 33, pos := "law.go:78", after := #[{ on := 9, ground := Ground.data }], guard := none }) (oL := { dst := some 20, op := Op.assign (Operand.tmp 137), type := 26, pos := "law.go:78", after := #[{ on := 11, ground := Ground.data }, { on := 12, ground := Ground.chain }, { on := 0, ground := Ground.phase }, { on := 1, ground := Ground.phase }, { on := 2, ground := Ground.phase }, { on := 3, ground := Ground.phase }, { on := 4, ground := Ground.phase }, { on := 5, ground := Ground.phase }, { on := 6, ground := Ground.phase }, { on := 7, ground := Ground.phase }, { on := 8, ground := Ground.phase }, { on := 9, ground := Ground.phase }, { on := 10, ground := Ground.phase }, { on := 11, ground := Ground.phase }, { on := 12, ground := Ground.phase }], guard := none }) (clo_grown _) rfl rfl rfl (by kernel_rfl) (by kernel_rfl) (by kernel_rfl) (by kernel_rfl) (by kernel_rfl) (fun _ _ _ h => h) (YG.val (by rfl) (fun _ _ => by go_simp)) ?_
  simp only [Act.put, List.setIfInBounds_toArray, List.set_cons_zero, List.set_cons_succ]
  refine wpX_take 11 (v := .int .i64 (E2 : Nat)) (oi := { dst := some 137, op := Op.extract (Operand.tmp 126) 1, type := 26, pos := "law.go:78", after := #[{ on := 9, ground := Ground.data }, { on := 12, ground := Ground.gcOnly Departure.lateStores }], guard := none }) (oL := { dst := some 20, op := Op.assign (Operand.tmp 137), type := 26, pos := "law.go:78", after := #[{ on := 11, ground := Ground.data }, { on := 12, ground := Ground.chain }, { on := 0, ground := Ground.phase }, { on := 1, ground := Ground.phase }, { on := 2, ground := Ground.phase }, { on := 3, ground := Ground.phase }, { on := 4, ground := Ground.phase }, { on := 5, ground := Ground.phase }, { on := 6, ground := Ground.phase }, { on := 7, ground := Ground.phase }, { on := 8, ground := Ground.phase }, { on := 9, ground := Ground.phase }, { on := 10, ground := Ground.phase }, { on := 11, ground := Ground.phase }, { on := 12, ground := Ground.phase }], guard := none }) (clo_grown _) rfl rfl rfl (by kernel_rfl) (by kernel_rfl) (by kernel_rfl) (by kernel_rfl) (by kernel_rfl) (fun _ _ _ h => h) (YG.val (by rfl) (fun _ _ => by go_simp)) ?_
  simp only [Act.put, List.setIfInBounds_toArray, List.set_cons_zero, List.set_cons_succ]
  refine wpX_take 12 (v := .slice ax X.length cx) (oi := { dst := some 19, op := Op.assign (Operand.tmp 136), type := 33, pos := "law.go:78", after := #[{ on := 10, ground := Ground.data }, { on := 8, ground := Ground.chain }, { on := 0, ground := Ground.phase }, { on := 1, ground := Ground.phase }, { on := 2, ground := Ground.phase }, { on := 3, ground := Ground.phase }, { on := 4, ground := Ground.phase }, { on := 5, ground := Ground.phase }, { on := 6, ground := Ground.phase }, { on := 7, ground := Ground.phase }, { on := 8, ground := Ground.phase }, { on := 9, ground := Ground.phase }, { on := 10, ground := Ground.phase }, { on := 11, ground := Ground.textOnly Departure.lateStores }], guard := none }) (oL := { dst := some 20, op := Op.assign (Operand.tmp 137), type := 26, pos := "law.go:78", after := #[{ on := 11, ground := Ground.data }, { on := 12, ground := Ground.chain }, { on := 0, ground := Ground.phase }, { on := 1, ground := Ground.phase }, { on := 2, ground := Ground.phase }, { on := 3, ground := Ground.phase }, { on := 4, ground := Ground.phase }, { on := 5, ground := Ground.phase }, { on := 6, ground := Ground.phase }, { on := 7, ground := Ground.phase }, { on := 8, ground := Ground.phase }, { on := 9, ground := Ground.phase }, { on := 10, ground := Ground.phase }, { on := 11, ground := Ground.phase }, { on := 12, ground := Ground.phase }], guard := none }) (clo_grown _) rfl rfl rfl (by kernel_rfl) (by kernel_rfl) (by kernel_rfl) (by kernel_rfl) (by kernel_rfl) (fun _ _ _ h => h) (YG.val (by rfl) (fun _ _ => rfl)) ?_
  simp only [Act.put, List.setIfInBounds_toArray, List.set_cons_zero, List.set_cons_succ]
  refine wpX_last (oL := { dst := some 20, op := Op.assign (Operand.tmp 137), type := 26, pos := "law.go:78", after := #[{ on := 11, ground := Ground.data }, { on := 12, ground := Ground.chain }, { on := 0, ground := Ground.phase }, { on := 1, ground := Ground.phase }, { on := 2, ground := Ground.phase }, { on := 3, ground := Ground.phase }, { on := 4, ground := Ground.phase }, { on := 5, ground := Ground.phase }, { on := 6, ground := Ground.phase }, { on := 7, ground := Ground.phase }, { on := 8, ground := Ground.phase }, { on := 9, ground := Ground.phase }, { on := 10, ground := Ground.phase }, { on := 11, ground := Ground.phase }, { on := 12, ground := Ground.phase }], guard := none }) rfl (by kernel_rfl) (by kernel_rfl) (by rfl) (fun u4 hS4 K4 hK4 => ?_)
  refine wp_val_op (v := .int .i64 (E2 : Nat)) (w1 := u4) (rfl) (hK4 _ _ ?_)
  simp only [Act.put, List.setIfInBounds_toArray, List.set_cons_zero, List.set_cons_succ]
  obtain ⟨w15, hwn⟩ : ∃ w15, w15 = u4 := ⟨_, rfl⟩
  rw [← hwn] at hS4 ⊢
  have HXx := Lib.hid ((BOwn.grown ho hS4).mono HS2.out.size)
  have g := grownBy_trans (grownBy_trans HS2.out hg) hS4
  clear hwn ho hg hS4 HS2 HK hK4
  have Z15 := Lib.hid g.size
  replace HG := Lib.hid (grownBy_trans HG.out g)
  replace HFA := Lib.hid (HFA.out.grown g)
  replace HFB := Lib.hid (HFB.out.grown g)
  replace HXp := Lib.hid (HXp.out.grown g)
  replace HXq := Lib.hid (HXq.out.grown g)
  replace HXr := Lib.hid (HXr.out.grown g)
  replace HXv := Lib.hid (HXv.out.grown g)
  replace HXwp := Lib.hid (HXwp.out.grown g)
  clear g
  have WIx := Lib.hid HXx.out.within
  go_wp2_with fail
  refine (HR2.out _ _ _ _ (by omega) hcb _ HFA.out (HB.out.grown HG.out)).mono ?_
  rintro e w16 ⟨awx, mwx, cwx, rfl, ho, g⟩
  obtain rfl := ho.len
  have HXwx := Lib.hid ho
  clear ho
  have Z16 := Lib.hid g.size
  replace HG := Lib.hid (grownBy_trans HG.out g)
  replace HFA := Lib.hid (HFA.out.grown g)
  replace HFB := Lib.hid (HFB.out.grown g)
  replace HXp := Lib.hid (HXp.out.grown g)
  replace HXq := Lib.hid (HXq.out.grown g)
  replace HXr := Lib.hid (HXr.out.grown g)
  replace HXv := Lib.hid (HXv.out.grown g)
  replace HXwp := Lib.hid (HXwp.out.grown g)
  replace HXx := Lib.hid (HXx.out.grown g)
  clear g
  go_wp2_with fail
  refine (same_yes _ _ _ _ _ _ X _ (BOwn.lies HXx.out) (BOwn.lies HXwx.out) rfl rfl (Nat.le_trans HB2.out (by decide))).mono ?_
  rintro e w17 ⟨rfl, q, hq⟩
  have g : w16.grownBy w17 none := by rw [hq]; exact grownBy_drewN _ _ _
  clear hq q
  have Z17 := Lib.hid g.size
  replace HG := Lib.hid (grownBy_trans HG.out g)
  replace HFA := Lib.hid (HFA.out.grown g)
  replace HFB := Lib.hid (HFB.out.grown g)
  replace HXp := Lib.hid (HXp.out.grown g)
  replace HXq := Lib.hid (HXq.out.grown g)
  replace HXr := Lib.hid (HXr.out.grown g)
  replace HXv := Lib.hid (HXv.out.grown g)
  replace HXwp := Lib.hid (HXwp.out.grown g)
  replace HXx := Lib.hid (HXx.out.grown g)
  replace HXwx := Lib.hid (HXwx.out.grown g)
  clear g
  go_wp2_with fail
  refine (same_yes _ _ _ _ _ _ P _ (BOwn.lies HXp.out) (BOwn.lies HXwp.out) rfl rfl (Nat.le_trans HB1.out (by decide))).mono ?_
  rintro e w18 ⟨rfl, q, hq⟩
  have g : w17.grownBy w18 none := by rw [hq]; exact grownBy_drewN _ _ _
  clear hq q
  have Z18 := Lib.hid g.size
  replace HG := Lib.hid (grownBy_trans HG.out g)
  replace HFA := Lib.hid (HFA.out.grown g)
  replace HFB := Lib.hid (HFB.out.grown g)
  replace HXp := Lib.hid (HXp.out.grown g)
  replace HXq := Lib.hid (HXq.out.grown g)
  replace HXr := Lib.hid (HXr.out.grown g)
  replace HXv := Lib.hid (HXv.out.grown g)
  replace HXwp := Lib.hid (HXwp.out.grown g)
  replace HXx := Lib.hid (HXx.out.grown g)
  replace HXwx := Lib.hid (HXwx.out.grown g)
  clear g
  go_wp2_with fail
  have zr : w.heap.size ≤ w18.heap.size := HG.out.size
  have z1 := Z1.out
  have z2 := Z2.out
  have z3 := Z3.out
  have z4 := Z4.out
  have z5 := Z5.out
  have z6 := Z6.out
  have z7 := Z7.out
  have z8 := Z8.out
  have z9 := Z9.out
  have z10 := Z10.out
  have z11 := Z11.out
  have z12 := Z12.out
  have z13 := Z13.out
  have z14 := Z14.out
  have z15 := Z15.out
  have z16 := Z16.out
  have z17 := Z17.out
  have z18 := Z18.out
  have hst := st1_lit (w := w18) (base := w.heap.size) (L := [⟨ap, P.length, cp⟩, ⟨aq, Q.length, cq⟩, ⟨ar, R.length, cr⟩, ⟨av, P.length, cv⟩, ⟨ax, X.length, cx⟩])
    (fun j hj => match j, hj with
      | 0, _ => ⟨_, HXp.out.mono (by omega)⟩
      | 1, _ => ⟨_, HXq.out.mono (by omega)⟩
      | 2, _ => ⟨_, HXr.out.mono (by omega)⟩
      | 3, _ => ⟨_, HXv.out.mono (by omega)⟩
      | 4, _ => ⟨_, HXx.out.mono (by omega)⟩) zr 5 rfl (by decide)
  have hd : Distinct [⟨ap, P.length, cp⟩, ⟨aq, Q.length, cq⟩, ⟨ar, R.length, cr⟩, ⟨av, P.length, cv⟩, ⟨ax, X.length, cx⟩] := by
    apply distinct_pairs
    simp only [List.pairwise_cons, List.mem_cons, List.not_mem_nil, or_false, forall_eq_or_imp, forall_eq, List.Pairwise.nil, and_true, false_implies, implies_true]
    refine ⟨⟨Sl.off_win WIp.out WIq.out (by omega), Sl.off_win WIp.out WIr.out (by omega), Sl.off_win WIp.out WIv.out (by omega), Sl.off_win WIp.out WIx.out (by omega)⟩, ⟨off_in HXq.out HXr.out HDIS.out, Sl.off_win WIq.out WIv.out (by omega), Sl.off_win WIq.out WIx.out (by omega)⟩, ⟨Sl.off_win WIr.out WIv.out (by omega), Sl.off_win WIr.out WIx.out (by omega)⟩, Sl.off_win WIv.out WIx.out (by omega)⟩
  refine (apart_n _ _ _ 5 _ _ hst (by simp; omega) hd rfl (by omega) (fun j hj => match j, hj with
      | 0, _ => (by show P.length ≤ 100000000; have := HB1.out; omega)
      | 1, _ => (by show Q.length ≤ 100000000; have := HB3.out; omega)
      | 2, _ => (by show R.length ≤ 100000000; have := HB4.out; omega)
      | 3, _ => (by show P.length ≤ 100000000; have := HB1.out; omega)
      | 4, _ => (by show X.length ≤ 100000000; have := HB2.out; omega))).mono ?_
  rintro e wz ⟨rfl, hbel⟩
  have GZ := Lib.hid (grown_below (grownBy_trans HG.out (World.grownBy_alloc w18 (.cells (([⟨ap, P.length, cp⟩, ⟨aq, Q.length, cq⟩, ⟨ar, R.length, cr⟩, ⟨av, P.length, cv⟩, ⟨ax, X.length, cx⟩] : List Sl).map Sl.val).toArray 33) none)) hbel (Nat.le_refl _))
  clear hbel hd hst
  go_wp2_with fail
  go_ret
  exact ⟨rfl, GZ.out⟩

end Go.Proofs.Ytfikeilpgnahkaa
