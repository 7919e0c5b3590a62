/- Helpers and contracts of the proofs over this seat: CtrCip, NeqBlk, CtrKnownL. Each states what a function of the program answers, or is plain Lean; its conditions stand in each statement. -/
import Derived.Test.YtblgdfamomlklaaPtAA
import Derived.Test.YtblgdfamomlklaaPtAB
import Derived.Test.YtblgdfamomlklaaPtAC
import Derived.Test.YtblgdfamomlklaaPtAD
import Derived.Test.YtblgdfamomlklaaPtAE
import Derived.Test.YtblgdfamomlklaaPtAF
import Derived.Test.YtblgdfamomlklaaPtAJ
set_option linter.unusedVariables false
/- The cipher's methods. -/
namespace Go.Proofs.Ytblgdfamomlklaa
open Go.RowKit

/-- the cells of a cipher that New made -/
def cipC (key : List UInt8) (x : Int) : Array Value := (#[.bool true] ++ cellsB key) ++ #[.int .i64 x]
def CipC (w : World) (g : Nat) (key : List UInt8) (x : Int) : Prop := Row w g 62 (cipC key x)
theorem cip_list (key : List UInt8) (x : Int) : (cipC key x).toList = [.bool true] ++ (key.map bval ++ [.int .i64 x]) := by simp [cipC, cellsB]
theorem cip_get (key : List UInt8) (x : Int) (k : Nat) : (cipC key x)[k]? = ([.bool true] ++ (key.map bval ++ [.int .i64 x]))[k]? := by
  rw [← cip_list]; simp
section
variable {w w' : World} {g : Nat} {key : List UInt8} {x : Int}
theorem CipC.made (h : CipC w g key x) : w.cell? ⟨g, 0, none⟩ = some (.bool true) := by
  rw [Row.cell h 0, cip_get]; rfl
theorem CipC.at_ (hk : key.length = 16) (h : CipC w g key x) : w.cell? ⟨g, 17, none⟩ = some (.int .i64 x) := by
  rw [Row.cell h 17, cip_get]
  simp [hk]
theorem CipC.range (hk : key.length = 16) (h : CipC w g key x) : w.rangeAt g 1 (key.map bval) := by
  intro j v hj
  have hjl : j < (key.map bval).length := by
    rcases Nat.lt_or_ge j (key.map bval).length with h | h
    · exact h
    · rw [List.getElem?_eq_none h] at hj; cases hj
  rw [Row.cell h (1 + j), cip_get, Nat.add_comm 1 j]
  show ((key.map bval) ++ [.int .i64 x])[j]? = some v
  rw [List.getElem?_append_left hjl]
  exact hj
theorem CipC.grown (h : CipC w g key x) (hg : w.grownBy w' none) : CipC w' g key x := Row.grown h hg
theorem CipC.lt (h : CipC w g key x) : g < w.heap.size := Row.lt h
theorem CipC.set (hk : key.length = 16) (h : CipC w g key x) (y : Int) : CipC (w.setCell ⟨g, 17, none⟩ (.int .i64 y)) g key y := by
  have h' := Row.setc h 17 (.int .i64 y)
  unfold CipC
  rw [show cipC key y = (cipC key x).setIfInBounds 17 (.int .i64 y) by
    apply Array.toList_inj.1
    rw [Array.toList_setIfInBounds, cip_list, cip_list]
    have e : 17 = [Value.bool true].length + (key.map bval).length := by simp [hk]
    rw [← List.append_assoc, ← List.append_assoc, e, ← List.length_append, List.set_append_right _ _ (Nat.le_refl _), Nat.sub_self]
    rfl]
  exact h'
end
theorem own_cip {w w' : World} {g : Nat} {key : List UInt8} {x : Int} {base : Nat} {a : Option Addr} {n c : Nat} {l : List UInt8} (hc : CipC w g key x) (ho : BOwn w base a n c l) (hg : w.grownBy w' (some g)) : BOwn w' base a n c l :=
  Own.grownNe ho hg (fun q h0 e hr => by
    injection hr with hr
    subst hr
    exact row_in (show Row w _ 62 _ from hc) ho (by decide) ⟨h0, e⟩)
theorem key16 {l : List UInt8} (h : l.length = 16) : ∃ k0 k1 k2 k3 k4 k5 k6 k7 k8 k9 k10 k11 k12 k13 k14 k15, l = [k0, k1, k2, k3, k4, k5, k6, k7, k8, k9, k10, k11, k12, k13, k14, k15] := by
  match l, h with
  | [k0, k1, k2, k3, k4, k5, k6, k7, k8, k9, k10, k11, k12, k13, k14, k15], _ => exact ⟨k0, k1, k2, k3, k4, k5, k6, k7, k8, k9, k10, k11, k12, k13, k14, k15, rfl⟩

set_option maxRecDepth 100000 in
set_option maxHeartbeats 1000000 in
theorem newc_n (key : List UInt8) (hkl : key.length = 16) (w : World) : Calls Try.prog 28 #[aggB key] w fun e w' => ∃ g, e = .returned (.pointer (some ⟨g, 0, none⟩)) ∧ CipC w' g key 0 ∧ w.heap.size ≤ g ∧ w.grownBy w' none := by
  obtain ⟨k0, k1, k2, k3, k4, k5, k6, k7, k8, k9, k10, k11, k12, k13, k14, k15, rfl⟩ := key16 hkl
  unfold aggB
  simp only [cellsB, List.map_cons, List.map_nil, bval]
  go_enter Try.func28, Try.ntmps28
  go_wp2_with (first
    | (refine wpList_boxed (T := 27) rfl rfl #[.int .u8 (k0.toNat : Int), .int .u8 (k1.toNat : Int), .int .u8 (k2.toNat : Int), .int .u8 (k3.toNat : Int), .int .u8 (k4.toNat : Int), .int .u8 (k5.toNat : Int), .int .u8 (k6.toNat : Int), .int .u8 (k7.toNat : Int), .int .u8 (k8.toNat : Int), .int .u8 (k9.toNat : Int), .int .u8 (k10.toNat : Int), .int .u8 (k11.toNat : Int), .int .u8 (k12.toNat : Int), .int .u8 (k13.toNat : Int), .int .u8 (k14.toNat : Int), .int .u8 (k15.toNat : Int)] rfl ?_; intro wa hsa hga hra; have HGa := Lib.hid hga; have HRa := Lib.hid hra; clear hsa hga hra)
    | (refine wpList_load_row rfl 27 _ rfl w.heap.size rfl 27 #[.int .u8 (k0.toNat : Int), .int .u8 (k1.toNat : Int), .int .u8 (k2.toNat : Int), .int .u8 (k3.toNat : Int), .int .u8 (k4.toNat : Int), .int .u8 (k5.toNat : Int), .int .u8 (k6.toNat : Int), .int .u8 (k7.toNat : Int), .int .u8 (k8.toNat : Int), .int .u8 (k9.toNat : Int), .int .u8 (k10.toNat : Int), .int .u8 (k11.toNat : Int), .int .u8 (k12.toNat : Int), .int .u8 (k13.toNat : Int), .int .u8 (k14.toNat : Int), .int .u8 (k15.toNat : Int)] (0, 0) _ HRa.out Try.underlying27 rfl (by kernel_rfl) ?_)
    | (refine wpList_boxed (T := 62) rfl rfl (cipC [k0, k1, k2, k3, k4, k5, k6, k7, k8, k9, k10, k11, k12, k13, k14, k15] 0) rfl ?_; intro wb hsb hgb hrb; have HGb := Lib.hid (grownBy_trans HGa.out hgb); have HRb := Lib.hid hrb; clear hsb hgb hrb))
  go_ret
  exact ⟨wa.heap.size, rfl, HRb.out, HGa.out.size, HGb.out⟩

/-- Seek's error -/
def skE (z : Int) : Int := if z < 0 ∨ 4611686018427387904 < z then 40 else 0
/-- Seek's place -/
def skP (x z : Int) : Int := if z < 0 ∨ 4611686018427387904 < z then x else z
set_option maxRecDepth 100000 in
set_option maxHeartbeats 1000000 in
theorem seek_n (key : List UInt8) (hkl : key.length = 16) (g : Nat) (x z : Int) (w : World) (hc : CipC w g key x) : Calls Try.prog 29 #[.pointer (some ⟨g, 0, none⟩), .int .i64 z] w fun e w' => e = .returned (.int .i64 (skE z)) ∧ CipC w' g key (skP x z) ∧ w.grownBy w' (some g) := by
  have c17 := hc.at_ hkl
  have f17 := Row.frozen hc 17
  have HS := Lib.hid (hc.set hkl z)
  have HC := Lib.hid hc
  have H := Lib.hid (ready_b g true w hc.made)
  clear hc
  by_cases h1 : z < 0
  · have hd : decide (z < 0) = true := decide_eq_true h1
    have e1 : skE z = 40 := if_pos (.inl h1)
    have e2 : skP x z = x := if_pos (.inl h1)
    rw [e1, e2]
    clear e1 e2
    go_enter Try.func29, Try.ntmps29
    go_wp2_with fail
    refine H.out.mono ?_
    rintro e w' ⟨rfl, rfl⟩
    go_wp2_with fail
    go_ret
    exact ⟨rfl, HC.out, World.grownBy.refl _ _⟩
  by_cases h2 : 4611686018427387904 < z
  · have hd : decide (z < 0) = false := decide_eq_false h1
    have hd2 : decide (4611686018427387904 < z) = true := decide_eq_true h2
    have e1 : skE z = 40 := if_pos (.inr h2)
    have e2 : skP x z = x := if_pos (.inr h2)
    rw [e1, e2]
    clear e1 e2
    go_enter Try.func29, Try.ntmps29
    go_wp2_with fail
    refine H.out.mono ?_
    rintro e w' ⟨rfl, rfl⟩
    go_wp2_with fail
    go_ret
    exact ⟨rfl, HC.out, World.grownBy.refl _ _⟩
  have hd : decide (z < 0) = false := decide_eq_false h1
  have hd2 : decide (4611686018427387904 < z) = false := decide_eq_false h2
  have e1 : skE z = 0 := if_neg (by omega)
  have e2 : skP x z = z := if_neg (by omega)
  rw [e1, e2]
  clear e1 e2
  go_enter Try.func29, Try.ntmps29
  go_wp2_with fail
  refine H.out.mono ?_
  rintro e w' ⟨rfl, rfl⟩
  go_wp2_with fail
  go_ret
  exact ⟨rfl, HS.out, grownBy_setCell _ _ _ _⟩
set_option maxRecDepth 100000 in
set_option maxHeartbeats 1000000 in
theorem atc_n (key : List UInt8) (hkl : key.length = 16) (g : Nat) (x : Int) (w : World) (hc : CipC w g key x) : Calls Try.prog 30 #[.pointer (some ⟨g, 0, none⟩)] w fun e w' => e = .returned (.int .i64 x) ∧ w = w' := by
  have c17 := hc.at_ hkl
  have H := Lib.hid (ready_b g true w hc.made)
  clear hc
  go_enter Try.func30, Try.ntmps30
  go_wp2_with fail
  refine H.out.mono ?_
  rintro e w' ⟨rfl, rfl⟩
  go_wp2_with fail
  go_ret
  exact ⟨rfl, rfl⟩

/-- the place behind Next -/
def nxP (x : Int) (n : Nat) : Int := if stE x n = 0 then x + n else x
theorem stE_le {x : Int} {n : Nat} (h : stE x n = 0) : 0 ≤ x ∧ x + n ≤ 4611686018427387904 := by
  unfold stE at h
  split at h
  · omega
  · split at h <;> omega
set_option maxRecDepth 100000 in
set_option maxHeartbeats 4000000 in
theorem next_n (key : List UInt8) (hkl : key.length = 16) (g : Nat) (x : Int) (a : Option Addr) (n c : Nat) (l : List UInt8) (hl : l.length = n) (hn : n ≤ 4000000000) (w : World) (hc : CipC w g key x) (ha : BLies w a l) :
    Calls Try.prog 31 #[.pointer (some ⟨g, 0, none⟩), .slice a n c] w fun e w' => ∃ a' n' c', e = .returned (.tuple #[.slice a' n' c', .int .i64 (stE x n)]) ∧ BOwn w' w.heap.size a' n' c' (apL key x l) ∧ CipC w' g key (nxP x n) ∧ w.grownBy w' (some g) := by
  have HC := Lib.hid hc
  have HA := Lib.hid ha
  have H := Lib.hid (ready_b g true w hc.made)
  have hap := fun u (h : BLies u a l) => apply_n key hkl x a n c l hl hn u h
  have hnx : nxP x n = if stE x n = 0 then x + n else x := rfl
  have hap0 : stE x n ≠ 0 → apL key x l = [] := fun h => apL_bad (by rw [hl]; exact h)
  have hle := fun h : stE x n = 0 => stE_le h
  generalize stE x (n : Int) = E at hap hnx hap0 hle ⊢
  generalize apL key x l = P at hap hap0 ⊢
  unfold aggB at hap
  have HAP := Lib.hid hap
  have HNX := Lib.hid hnx
  have HP0 := Lib.hid hap0
  have HLE := Lib.hid hle
  clear hc ha hap hnx hap0 hle
  go_enter Try.func31, Try.ntmps31
  go_wp2_with fail
  refine H.out.mono ?_
  rintro e w' ⟨rfl, rfl⟩
  go_upto_region 3 with fail
  refine wp_regionX (fun u => w.grownBy u none) 14 (by kernel_rfl) (grownBy_drewN w 1 none) ?_
  refine wpX_take 0 (v := .pointer (some ⟨g, 0, none⟩)) (oi := { dst := some 12, op := Op.move (Operand.tmp 0), type := 49, pos := "ctr.go:104", after := #[], guard := none }) (oL := { dst := some 7, op := Op.assign (Operand.tmp 23), type := 36, pos := "ctr.go:104", after := #[{ on := 12, ground := Ground.data }, { on := 13, ground := Ground.chain }, { on := 0, ground := Ground.phase }, { on := 1, ground := Ground.phase }, { on := 2, ground := Ground.phase }, { on := 3, ground := Ground.phase }, { on := 4, ground := Ground.phase }, { on := 5, ground := Ground.phase }, { on := 6, ground := Ground.phase }, { on := 7, ground := Ground.phase }, { on := 8, ground := Ground.phase }, { on := 9, ground := Ground.phase }, { on := 10, ground := Ground.phase }, { on := 11, ground := Ground.phase }, { on := 12, ground := Ground.phase }, { on := 13, ground := Ground.phase }], guard := none }) (clo_grown _) rfl rfl rfl (by kernel_rfl) (by kernel_rfl) (by kernel_rfl) (by kernel_rfl) (by kernel_rfl) (fun _ _ _ h => h) (YG.val (by rfl) (fun _ _ => rfl)) ?_
  simp only [Act.put, List.setIfInBounds_toArray, List.set_cons_zero, List.set_cons_succ]
  refine wpX_take 1 (v := .pointer (some ⟨g, 0, none⟩)) (oi := { dst := some 13, op := Op.nilCheck (Operand.tmp 12), type := 0, pos := "ctr.go:104", after := #[{ on := 0, ground := Ground.data }], guard := none }) (oL := { dst := some 7, op := Op.assign (Operand.tmp 23), type := 36, pos := "ctr.go:104", after := #[{ on := 12, ground := Ground.data }, { on := 13, ground := Ground.chain }, { on := 0, ground := Ground.phase }, { on := 1, ground := Ground.phase }, { on := 2, ground := Ground.phase }, { on := 3, ground := Ground.phase }, { on := 4, ground := Ground.phase }, { on := 5, ground := Ground.phase }, { on := 6, ground := Ground.phase }, { on := 7, ground := Ground.phase }, { on := 8, ground := Ground.phase }, { on := 9, ground := Ground.phase }, { on := 10, ground := Ground.phase }, { on := 11, ground := Ground.phase }, { on := 12, ground := Ground.phase }, { on := 13, ground := Ground.phase }], guard := none }) (clo_grown _) rfl rfl rfl (by kernel_rfl) (by kernel_rfl) (by kernel_rfl) (by kernel_rfl) (by kernel_rfl) (fun _ _ _ h => h) (YG.val (by rfl) (fun _ _ => by go_simp)) ?_
  simp only [Act.put, List.setIfInBounds_toArray, List.set_cons_zero, List.set_cons_succ]
  refine wpX_take 2 (v := .pointer (some ⟨g, 1, none⟩)) (oi := { dst := some 14, op := Op.fieldAddr 62 (Operand.tmp 13) 1, type := 0, pos := "ctr.go:104", after := #[{ on := 1, ground := Ground.data }], guard := none }) (oL := { dst := some 7, op := Op.assign (Operand.tmp 23), type := 36, pos := "ctr.go:104", after := #[{ on := 12, ground := Ground.data }, { on := 13, ground := Ground.chain }, { on := 0, ground := Ground.phase }, { on := 1, ground := Ground.phase }, { on := 2, ground := Ground.phase }, { on := 3, ground := Ground.phase }, { on := 4, ground := Ground.phase }, { on := 5, ground := Ground.phase }, { on := 6, ground := Ground.phase }, { on := 7, ground := Ground.phase }, { on := 8, ground := Ground.phase }, { on := 9, ground := Ground.phase }, { on := 10, ground := Ground.phase }, { on := 11, ground := Ground.phase }, { on := 12, ground := Ground.phase }, { on := 13, ground := Ground.phase }], guard := none }) (clo_grown _) rfl rfl rfl (by kernel_rfl) (by kernel_rfl) (by kernel_rfl) (by kernel_rfl) (by kernel_rfl) (fun _ _ _ h => h) (YG.val (by rfl) (fun _ _ => by go_simp)) ?_
  simp only [Act.put, List.setIfInBounds_toArray, List.set_cons_zero, List.set_cons_succ]
  refine wpX_take 3 (v := .agg (cellsB key)) (oi := { dst := some 15, op := Op.load 27 (Operand.tmp 14), type := 27, pos := "ctr.go:104", after := #[{ on := 2, ground := Ground.data }], guard := none }) (oL := { dst := some 7, op := Op.assign (Operand.tmp 23), type := 36, pos := "ctr.go:104", after := #[{ on := 12, ground := Ground.data }, { on := 13, ground := Ground.chain }, { on := 0, ground := Ground.phase }, { on := 1, ground := Ground.phase }, { on := 2, ground := Ground.phase }, { on := 3, ground := Ground.phase }, { on := 4, ground := Ground.phase }, { on := 5, ground := Ground.phase }, { on := 6, ground := Ground.phase }, { on := 7, ground := Ground.phase }, { on := 8, ground := Ground.phase }, { on := 9, ground := Ground.phase }, { on := 10, ground := Ground.phase }, { on := 11, ground := Ground.phase }, { on := 12, ground := Ground.phase }, { on := 13, ground := Ground.phase }], guard := none }) (clo_grown _) rfl rfl rfl (by kernel_rfl) (by kernel_rfl) (by kernel_rfl) (by kernel_rfl) (by kernel_rfl) (fun _ _ _ h => h) (YG.row (by rfl) 27 (.tmp 14) rfl g 1 rfl (key.map bval) _ (fun u hu => (CipC.range hkl (HC.out.grown hu))) Try.underlying27 rfl (by rw [List.length_map, hkl]; kernel_rfl)) ?_
  simp only [Act.put, List.setIfInBounds_toArray, List.set_cons_zero, List.set_cons_succ]
  refine wpX_take 4 (v := .pointer (some ⟨g, 0, none⟩)) (oi := { dst := some 16, op := Op.move (Operand.tmp 0), type := 49, pos := "ctr.go:104", after := #[], guard := none }) (oL := { dst := some 7, op := Op.assign (Operand.tmp 23), type := 36, pos := "ctr.go:104", after := #[{ on := 12, ground := Ground.data }, { on := 13, ground := Ground.chain }, { on := 0, ground := Ground.phase }, { on := 1, ground := Ground.phase }, { on := 2, ground := Ground.phase }, { on := 3, ground := Ground.phase }, { on := 4, ground := Ground.phase }, { on := 5, ground := Ground.phase }, { on := 6, ground := Ground.phase }, { on := 7, ground := Ground.phase }, { on := 8, ground := Ground.phase }, { on := 9, ground := Ground.phase }, { on := 10, ground := Ground.phase }, { on := 11, ground := Ground.phase }, { on := 12, ground := Ground.phase }, { on := 13, ground := Ground.phase }], guard := none }) (clo_grown _) rfl rfl rfl (by kernel_rfl) (by kernel_rfl) (by kernel_rfl) (by kernel_rfl) (by kernel_rfl) (fun _ _ _ h => h) (YG.val (by rfl) (fun _ _ => rfl)) ?_
  simp only [Act.put, List.setIfInBounds_toArray, List.set_cons_zero, List.set_cons_succ]
  refine wpX_take 5 (v := .pointer (some ⟨g, 0, none⟩)) (oi := { dst := some 17, op := Op.nilCheck (Operand.tmp 16), type := 0, pos := "ctr.go:104", after := #[{ on := 4, ground := Ground.data }], guard := none }) (oL := { dst := some 7, op := Op.assign (Operand.tmp 23), type := 36, pos := "ctr.go:104", after := #[{ on := 12, ground := Ground.data }, { on := 13, ground := Ground.chain }, { on := 0, ground := Ground.phase }, { on := 1, ground := Ground.phase }, { on := 2, ground := Ground.phase }, { on := 3, ground := Ground.phase }, { on := 4, ground := Ground.phase }, { on := 5, ground := Ground.phase }, { on := 6, ground := Ground.phase }, { on := 7, ground := Ground.phase }, { on := 8, ground := Ground.phase }, { on := 9, ground := Ground.phase }, { on := 10, ground := Ground.phase }, { on := 11, ground := Ground.phase }, { on := 12, ground := Ground.phase }, { on := 13, ground := Ground.phase }], guard := none }) (clo_grown _) rfl rfl rfl (by kernel_rfl) (by kernel_rfl) (by kernel_rfl) (by kernel_rfl) (by kernel_rfl) (fun _ _ _ h => h) (YG.val (by rfl) (fun _ _ => by go_simp)) ?_
  simp only [Act.put, List.setIfInBounds_toArray, List.set_cons_zero, List.set_cons_succ]
  refine wpX_take 6 (v := .pointer (some ⟨g, 17, none⟩)) (oi := { dst := some 18, op := Op.fieldAddr 62 (Operand.tmp 17) 2, type := 0, pos := "ctr.go:104", after := #[{ on := 5, ground := Ground.data }], guard := none }) (oL := { dst := some 7, op := Op.assign (Operand.tmp 23), type := 36, pos := "ctr.go:104", after := #[{ on := 12, ground := Ground.data }, { on := 13, ground := Ground.chain }, { on := 0, ground := Ground.phase }, { on := 1, ground := Ground.phase }, { on := 2, ground := Ground.phase }, { on := 3, ground := Ground.phase }, { on := 4, ground := Ground.phase }, { on := 5, ground := Ground.phase }, { on := 6, ground := Ground.phase }, { on := 7, ground := Ground.phase }, { on := 8, ground := Ground.phase }, { on := 9, ground := Ground.phase }, { on := 10, ground := Ground.phase }, { on := 11, ground := Ground.phase }, { on := 12, ground := Ground.phase }, { on := 13, ground := Ground.phase }], guard := none }) (clo_grown _) rfl rfl rfl (by kernel_rfl) (by kernel_rfl) (by kernel_rfl) (by kernel_rfl) (by kernel_rfl) (fun _ _ _ h => h) (YG.val (by rfl) (fun _ _ => by go_simp)) ?_
  simp only [Act.put, List.setIfInBounds_toArray, List.set_cons_zero, List.set_cons_succ]
  refine wpX_take 7 (v := .int .i64 x) (oi := { dst := some 19, op := Op.load 3 (Operand.tmp 18), type := 3, pos := "ctr.go:104", after := #[{ on := 6, ground := Ground.data }], guard := none }) (oL := { dst := some 7, op := Op.assign (Operand.tmp 23), type := 36, pos := "ctr.go:104", after := #[{ on := 12, ground := Ground.data }, { on := 13, ground := Ground.chain }, { on := 0, ground := Ground.phase }, { on := 1, ground := Ground.phase }, { on := 2, ground := Ground.phase }, { on := 3, ground := Ground.phase }, { on := 4, ground := Ground.phase }, { on := 5, ground := Ground.phase }, { on := 6, ground := Ground.phase }, { on := 7, ground := Ground.phase }, { on := 8, ground := Ground.phase }, { on := 9, ground := Ground.phase }, { on := 10, ground := Ground.phase }, { on := 11, ground := Ground.phase }, { on := 12, ground := Ground.phase }, { on := 13, ground := Ground.phase }], guard := none }) (clo_grown _) rfl rfl rfl (by kernel_rfl) (by kernel_rfl) (by kernel_rfl) (by kernel_rfl) (by kernel_rfl) (fun _ _ _ h => h) (YG.val (by rfl) (fun u hu => by have hc := CipC.at_ hkl (HC.out.grown hu); go_simp)) ?_
  simp only [Act.put, List.setIfInBounds_toArray, List.set_cons_zero, List.set_cons_succ]
  refine wpX_take 8 (v := .slice a n c) (oi := { dst := some 20, op := Op.move (Operand.tmp 1), type := 34, pos := "ctr.go:104", after := #[], guard := none }) (oL := { dst := some 7, op := Op.assign (Operand.tmp 23), type := 36, pos := "ctr.go:104", after := #[{ on := 12, ground := Ground.data }, { on := 13, ground := Ground.chain }, { on := 0, ground := Ground.phase }, { on := 1, ground := Ground.phase }, { on := 2, ground := Ground.phase }, { on := 3, ground := Ground.phase }, { on := 4, ground := Ground.phase }, { on := 5, ground := Ground.phase }, { on := 6, ground := Ground.phase }, { on := 7, ground := Ground.phase }, { on := 8, ground := Ground.phase }, { on := 9, ground := Ground.phase }, { on := 10, ground := Ground.phase }, { on := 11, ground := Ground.phase }, { on := 12, ground := Ground.phase }, { on := 13, ground := Ground.phase }], guard := none }) (clo_grown _) rfl rfl rfl (by kernel_rfl) (by kernel_rfl) (by kernel_rfl) (by kernel_rfl) (by kernel_rfl) (fun _ _ _ h => h) (YG.val (by rfl) (fun _ _ => rfl)) ?_
  simp only [Act.put, List.setIfInBounds_toArray, List.set_cons_zero, List.set_cons_succ]
  refine wpX_step 9 (o := { dst := some 21, op := Op.call { callee := Callee.value (Operand.func 19), args := #[Operand.tmp 15, Operand.tmp 19, Operand.tmp 20], argTypes := #[27, 3, 34] }, type := 37, pos := "ctr.go:104", after := #[{ on := 3, ground := Ground.data }, { on := 7, ground := Ground.data }, { on := 8, ground := Ground.data }], guard := none }) rfl rfl (by kernel_rfl) (by rfl) (fun u2 hS2 K hK => ?_)
  have HK := Lib.hid hK
  have HS2 := Lib.hid hS2
  clear hK hS2
  refine wp_call_op (f := 19) (args := #[.agg (cellsB key), .int .i64 x, .slice a n c]) (w1 := u2) (by go_simp) ((HAP.out _ (HA.out.grown HS2.out)).mono ?_)
  rintro e u3 ⟨aP, nP, cP, rfl, ho, hg⟩
  refine ⟨_, rfl, HK.out (fun u => u3.grownBy u none) _ _ (World.grownBy.refl _ _) (fun u h => grownBy_trans (grownBy_trans HS2.out hg) h) (clo_grown u3) ?_⟩
  simp only [Act.put, List.setIfInBounds_toArray, List.set_cons_zero, List.set_cons_succ]
  refine wpX_take 10 (v := .tuple #[.slice aP nP cP, .int .i64 E]) (oi := { dst := some 11, op := Op.move (Operand.tmp 21), type := 37, pos := "ctr.go:104", after := #[{ on := 9, ground := Ground.data }], guard := none }) (oL := { dst := some 7, op := Op.assign (Operand.tmp 23), type := 36, pos := "ctr.go:104", after := #[{ on := 12, ground := Ground.data }, { on := 13, ground := Ground.chain }, { on := 0, ground := Ground.phase }, { on := 1, ground := Ground.phase }, { on := 2, ground := Ground.phase }, { on := 3, ground := Ground.phase }, { on := 4, ground := Ground.phase }, { on := 5, ground := Ground.phase }, { on := 6, ground := Ground.phase }, { on := 7, ground := Ground.phase }, { on := 8, ground := Ground.phase }, { on := 9, ground := Ground.phase }, { on := 10, ground := Ground.phase }, { on := 11, ground := Ground.phase }, { on := 12, ground := Ground.phase }, { on := 13, ground := Ground.phase }], guard := none }) (clo_grown _) rfl rfl rfl (by kernel_rfl) (by kernel_rfl) (by kernel_rfl) (by kernel_rfl) (by kernel_rfl) (fun _ _ _ h => h) (YG.val (by rfl) (fun _ _ => rfl)) ?_
  simp only [Act.put, List.setIfInBounds_toArray, List.set_cons_zero, List.set_cons_succ]
  refine wpX_take 11 (v := .slice aP nP cP) (oi := { dst := some 22, op := Op.extract (Operand.tmp 11) 0, type := 34, pos := "ctr.go:104", after := #[{ on := 10, ground := Ground.data }], guard := none }) (oL := { dst := some 7, op := Op.assign (Operand.tmp 23), type := 36, pos := "ctr.go:104", after := #[{ on := 12, ground := Ground.data }, { on := 13, ground := Ground.chain }, { on := 0, ground := Ground.phase }, { on := 1, ground := Ground.phase }, { on := 2, ground := Ground.phase }, { on := 3, ground := Ground.phase }, { on := 4, ground := Ground.phase }, { on := 5, ground := Ground.phase }, { on := 6, ground := Ground.phase }, { on := 7, ground := Ground.phase }, { on := 8, ground := Ground.phase }, { on := 9, ground := Ground.phase }, { on := 10, ground := Ground.phase }, { on := 11, ground := Ground.phase }, { on := 12, ground := Ground.phase }, { on := 13, ground := Ground.phase }], guard := none }) (clo_grown _) rfl rfl rfl (by kernel_rfl) (by kernel_rfl) (by kernel_rfl) (by kernel_rfl) (by kernel_rfl) (fun _ _ _ h => h) (YG.val (by rfl) (fun _ _ => by go_simp)) ?_
  simp only [Act.put, List.setIfInBounds_toArray, List.set_cons_zero, List.set_cons_succ]
  refine wpX_take 12 (v := .int .i64 E) (oi := { dst := some 23, op := Op.extract (Operand.tmp 11) 1, type := 36, pos := "ctr.go:104", after := #[{ on := 10, ground := Ground.data }, { on := 13, ground := Ground.gcOnly Departure.lateStores }], guard := none }) (oL := { dst := some 7, op := Op.assign (Operand.tmp 23), type := 36, pos := "ctr.go:104", after := #[{ on := 12, ground := Ground.data }, { on := 13, ground := Ground.chain }, { on := 0, ground := Ground.phase }, { on := 1, ground := Ground.phase }, { on := 2, ground := Ground.phase }, { on := 3, ground := Ground.phase }, { on := 4, ground := Ground.phase }, { on := 5, ground := Ground.phase }, { on := 6, ground := Ground.phase }, { on := 7, ground := Ground.phase }, { on := 8, ground := Ground.phase }, { on := 9, ground := Ground.phase }, { on := 10, ground := Ground.phase }, { on := 11, ground := Ground.phase }, { on := 12, ground := Ground.phase }, { on := 13, ground := Ground.phase }], guard := none }) (clo_grown _) rfl rfl rfl (by kernel_rfl) (by kernel_rfl) (by kernel_rfl) (by kernel_rfl) (by kernel_rfl) (fun _ _ _ h => h) (YG.val (by rfl) (fun _ _ => by go_simp)) ?_
  simp only [Act.put, List.setIfInBounds_toArray, List.set_cons_zero, List.set_cons_succ]
  refine wpX_take 13 (v := .slice aP nP cP) (oi := { dst := some 6, op := Op.assign (Operand.tmp 22), type := 34, pos := "ctr.go:104", after := #[{ on := 11, ground := Ground.data }, { on := 9, ground := Ground.chain }, { on := 0, ground := Ground.phase }, { on := 1, ground := Ground.phase }, { on := 2, ground := Ground.phase }, { on := 3, ground := Ground.phase }, { on := 4, ground := Ground.phase }, { on := 5, ground := Ground.phase }, { on := 6, ground := Ground.phase }, { on := 7, ground := Ground.phase }, { on := 8, ground := Ground.phase }, { on := 9, ground := Ground.phase }, { on := 10, ground := Ground.phase }, { on := 11, ground := Ground.phase }, { on := 12, ground := Ground.textOnly Departure.lateStores }], guard := none }) (oL := { dst := some 7, op := Op.assign (Operand.tmp 23), type := 36, pos := "ctr.go:104", after := #[{ on := 12, ground := Ground.data }, { on := 13, ground := Ground.chain }, { on := 0, ground := Ground.phase }, { on := 1, ground := Ground.phase }, { on := 2, ground := Ground.phase }, { on := 3, ground := Ground.phase }, { on := 4, ground := Ground.phase }, { on := 5, ground := Ground.phase }, { on := 6, ground := Ground.phase }, { on := 7, ground := Ground.phase }, { on := 8, ground := Ground.phase }, { on := 9, ground := Ground.phase }, { on := 10, ground := Ground.phase }, { on := 11, ground := Ground.phase }, { on := 12, ground := Ground.phase }, { on := 13, ground := Ground.phase }], guard := none }) (clo_grown _) rfl rfl rfl (by kernel_rfl) (by kernel_rfl) (by kernel_rfl) (by kernel_rfl) (by kernel_rfl) (fun _ _ _ h => h) (YG.val (by rfl) (fun _ _ => rfl)) ?_
  simp only [Act.put, List.setIfInBounds_toArray, List.set_cons_zero, List.set_cons_succ]
  refine wpX_last (oL := { dst := some 7, op := Op.assign (Operand.tmp 23), type := 36, pos := "ctr.go:104", after := #[{ on := 12, ground := Ground.data }, { on := 13, ground := Ground.chain }, { on := 0, ground := Ground.phase }, { on := 1, ground := Ground.phase }, { on := 2, ground := Ground.phase }, { on := 3, ground := Ground.phase }, { on := 4, ground := Ground.phase }, { on := 5, ground := Ground.phase }, { on := 6, ground := Ground.phase }, { on := 7, ground := Ground.phase }, { on := 8, ground := Ground.phase }, { on := 9, ground := Ground.phase }, { on := 10, ground := Ground.phase }, { on := 11, ground := Ground.phase }, { on := 12, ground := Ground.phase }, { on := 13, ground := Ground.phase }], guard := none }) rfl (by kernel_rfl) (by kernel_rfl) (by rfl) (fun u4 hS4 K4 hK4 => ?_)
  refine wp_val_op (v := .int .i64 E) (w1 := u4) (by go_simp) (hK4 _ _ ?_)
  simp only [Act.put, List.setIfInBounds_toArray, List.set_cons_zero, List.set_cons_succ]
  have hgu : w.grownBy u4 none := grownBy_trans (grownBy_trans HS2.out hg) hS4
  have HO := Lib.hid ((BOwn.grown ho hS4).mono HS2.out.size)
  have HGU := Lib.hid hgu
  have HCU := Lib.hid (HC.out.grown hgu)
  clear ho hg hS4 HS2 HK hK4 hgu
  obtain ⟨w4, hw4⟩ : ∃ w4, w4 = u4 := ⟨_, rfl⟩
  rw [← hw4] at HO HGU HCU ⊢
  clear hw4
  by_cases he : E = 0
  · subst he
    have c17 := HCU.out.at_ hkl
    have f17 := Row.frozen HCU.out 17
    obtain ⟨y, hy⟩ : ∃ y, y = x + (n : Int) := ⟨_, rfl⟩
    have hyw := HLE.out rfl
    have hwy : wrap64 (x + (n : Int)) = y := by rw [IntWalk.wrap64_in _ (by omega), hy]
    have hwz : IntKind.i64.wrap (x + (n : Int)) = y := by rw [IntWalk.i64_in _ (by omega), hy]
    have hnp : nxP x n = y := by rw [HNX.out, if_pos rfl, hy]
    have HNP := Lib.hid hnp
    have HSET := Lib.hid (HCU.out.set hkl y)
    have hse : w4.grownBy (w4.setCell ⟨g, 17, none⟩ (.int .i64 y)) (some g) := grownBy_setCell _ _ _ _
    have HSE := Lib.hid hse
    have HLT := Lib.hid HC.out.lt
    clear hy hyw hnp hse
    go_wp2_with fail
    refine bodyPost_ret (results_tmp2 rfl _ _ _) rfl ?_
    refine ⟨_, _, _, rfl, Own.grownNe HO.out HSE.out (fun q hc hq hr => ?_), by rw [HNP.out]; exact HSET.out, grownBy_trans (grownBy_some HGU.out (some g)) HSE.out⟩
    injection hr with hr
    obtain ⟨g', e1, h1, _⟩ := Own.block HO.out hc
    rw [hq] at e1; injection e1 with e1; injection e1 with e1
    have := HLT.out
    omega
  · have hd : decide (E = 0) = false := decide_eq_false he
    have hd2 : (E != 0) = true := by simpa using he
    have hnp : nxP x n = x := by rw [HNX.out, if_neg he]
    have HNP := Lib.hid hnp
    have hp0 := HP0.out he
    have HPE := Lib.hid hp0
    clear hnp hp0
    go_wp2_with fail
    refine bodyPost_ret (results_tmp2 rfl _ _ _) rfl ?_
    exact ⟨_, _, _, rfl, by rw [HPE.out]; exact Own.nil _ _ _ _ _, by rw [HNP.out]; exact HCU.out, grownBy_some HGU.out (some g)⟩
end Go.Proofs.Ytblgdfamomlklaa
/- Blocks compared by !=. -/
namespace Go.Proofs.Ytblgdfamomlklaa
open Go.RowKit
theorem neq_block (l : List UInt8) (h : l.length = 16) (w : World) : (binOp .neq 24 (.agg (l.map bval).toArray) (.agg (l.map bval).toArray)).run Try.prog w = .ok (.bool false) w := by
  have hk : Try.prog.keyLits 2 24 (l.map bval) = some (l.map litB) :=
    lits_arr (n := 16) (k := 1) Try.underlying24 (by kernel_rfl) (by kernel_rfl) _ (by simp [h]) (fun m hm => lits_byte Try.underlying5 m hm)
  have hf : (Value.agg (l.map bval).toArray).formed Try.prog 24 = true := by
    obtain ⟨k0, k1, k2, k3, k4, k5, k6, k7, k8, k9, k10, k11, k12, k13, k14, k15, rfl⟩ := key16 h
    simp [Value.formed, Try.underlying24]
    kernel_rfl
  have := (eql_lits (P := Try.prog) (t := 24) (m := 5) (D := 2) (by decide) (by kernel_rfl) (l := l) (r := l) hf hf hk hk w).2
  simpa using this

section
variable {P : Program}
theorem run_neq_op (w : World) (ev : Operand → Value) {o : Oper} {t ty : TypeId} (hgu : P.eqGuardType P.depth t = false) {x y : Operand} (ho : o.op = .binOp .neq t x y ty) (xs ys : Array Value) (hx : ev x = .agg xs) (hy : ev y = .agg ys) {v : Value} (h : (binOp .neq t (.agg xs) (.agg ys)).run P w = .ok v w) : (execOp ev o).run P w = .ok (.value v) w := by
  unfold execOp
  simp [ho, hx, hy, run_eqGuard_agg w .neq t x y xs ys hgu, h]
end
end Go.Proofs.Ytblgdfamomlklaa
/- The law CtrKnown: the examples of the chapter. -/
namespace Go.Proofs.Ytblgdfamomlklaa
open Go.RowKit

def kn16 : List UInt8 := [0x7d, 0xf7, 0x6b, 0x0c, 0x1a, 0xb8, 0x99, 0xb3, 0x3e, 0x42, 0xf0, 0x47, 0xb9, 0x1b, 0x54, 0x6f]
theorem kn_block : ksB knownL 0 = kn16 := by decide +kernel
theorem kst_first (B : Nat → List UInt8) (hB : (B 0).length = 16) (p n : Nat) (h : p + n ≤ 16) : kst B p n = ((B 0).drop p).take n := by
  apply List.ext_getElem?
  intro i
  by_cases hi : i < n
  · rw [kst_get _ _ _ _ hi, List.getElem?_take, if_pos hi, List.getElem?_drop, show (p + i) / 16 = 0 by omega, show (p + i) % 16 = p + i by omega, List.getD_eq_getElem?_getD, List.getElem?_eq_getElem (by omega)]
    rfl
  · rw [List.getElem?_eq_none (by rw [kst_len]; omega), List.getElem?_eq_none (by rw [List.length_take]; omega)]
theorem kn_kst (p n : Nat) (h : p + n ≤ 16) : kst (ksB knownL) p n = (kn16.drop p).take n := by
  rw [kst_first _ (ksB_len _ _) p n h, kn_block]
theorem kn_ap (p n : Nat) (h : p + n ≤ 16) : apL knownL (p : Int) (List.replicate n 0) = (kn16.drop p).take n := by
  have he : stE (p : Int) (n : Int) = 0 := by unfold stE; rw [if_neg (by omega), if_neg (by omega)]
  rw [apL_zero he, stL, if_pos he]
  exact kn_kst p n h
theorem ctr258 : ctrL 258 = [0, 0, 0, 0, 0, 0, 0, 0, 0, 0, 0, 0, 0, 0, 1, 2] := by decide
set_option maxRecDepth 100000 in
set_option maxHeartbeats 8000000 in
theorem known_walk (w : World) : Calls Try.prog 10 #[] w fun e w' => e = .returned (.bool true) ∧ w.grownBy w' none := by
  obtain ⟨iu, hiu, hiuz, hius, hiub⟩ := info_parts (show (Try.prog.info? 5).map (fun i => (i.zero, i.size, i.bytes)) = some (some (.int .u8 0), 1, 1) by kernel_rfl)
  have hm : Try.prog.eqGuardType Try.prog.depth 24 = false := by kernel_rfl
  have hq : ∀ w1, (binOp .neq 24 (.agg #[.int .u8 0, .int .u8 0, .int .u8 0, .int .u8 0, .int .u8 0, .int .u8 0, .int .u8 0, .int .u8 0, .int .u8 0, .int .u8 0, .int .u8 0, .int .u8 0, .int .u8 0, .int .u8 0, .int .u8 1, .int .u8 2]) (.agg #[.int .u8 0, .int .u8 0, .int .u8 0, .int .u8 0, .int .u8 0, .int .u8 0, .int .u8 0, .int .u8 0, .int .u8 0, .int .u8 0, .int .u8 0, .int .u8 0, .int .u8 0, .int .u8 0, .int .u8 1, .int .u8 2])).run Try.prog w1 = .ok (.bool false) w1 := fun w1 => neq_block [0, 0, 0, 0, 0, 0, 0, 0, 0, 0, 0, 0, 0, 0, 1, 2] rfl w1
  go_enter Try.func10, Try.ntmps10
  go_wp2_with fail
  refine (awake_n _).mono ?_
  rintro e w1 ⟨rfl, g⟩
  have HG := Lib.hid g
  clear g
  go_wp2_with fail
  refine (counter_n 258 (by decide) _).mono ?_
  rintro e w2 ⟨rfl, g⟩
  replace HG := Lib.hid (grownBy_trans HG.out g)
  clear g
  rw [show ctrC 258 = #[.int .u8 0, .int .u8 0, .int .u8 0, .int .u8 0, .int .u8 0, .int .u8 0, .int .u8 0, .int .u8 0, .int .u8 0, .int .u8 0, .int .u8 0, .int .u8 0, .int .u8 0, .int .u8 0, .int .u8 1, .int .u8 2] from by rw [ctrC, ctr258]; rfl]
  go_upto_region 3 with fail
  clear hm hq
  have hc1 : ∀ u, Calls Try.prog 18 #[aggB knownL, .int .i64 0, .int .i64 16] u fun e w' => ∃ g, e = .returned (.tuple #[.slice (some ⟨g, 0, none⟩) 16 16, .int .i64 0]) ∧ BOwn w' u.heap.size (some ⟨g, 0, none⟩) 16 16 kn16 ∧ u.grownBy w' none := fun u => stream_ok knownL rfl 0 16 (by decide) (by decide) (by decide) (by decide) _ (kn_kst 0 16 (by decide)).symm u
  have hc2 : ∀ u, Calls Try.prog 18 #[aggB knownL, .int .i64 (-1), .int .i64 0] u fun e w' => e = .returned (.tuple #[.slice none 0 0, .int .i64 40]) ∧ u.grownBy w' none := fun u => stream_low knownL rfl (-1) 0 (by decide) (by decide) u
  have hc3 : ∀ u, Calls Try.prog 18 #[aggB knownL, .int .i64 0, .int .i64 (-1)] u fun e w' => e = .returned (.tuple #[.slice none 0 0, .int .i64 2]) ∧ u.grownBy w' none := fun u => stream_neg knownL rfl 0 (-1) (by decide) u
  have hc4 : ∀ u, Calls Try.prog 18 #[aggB knownL, .int .i64 4611686018427387904, .int .i64 1] u fun e w' => e = .returned (.tuple #[.slice none 0 0, .int .i64 40]) ∧ u.grownBy w' none := fun u => stream_far knownL rfl 4611686018427387904 1 (by decide) (by decide) (by decide) (by decide) u
  have hc5 : ∀ u, Calls Try.prog 19 #[aggB knownL, .int .i64 16, .slice none 0 0] u fun e w' => ∃ a' n' c', e = .returned (.tuple #[.slice a' n' c', .int .i64 0]) ∧ n' = 0 ∧ u.grownBy w' none := fun u => (apply_n knownL rfl 16 none 0 0 [] rfl (by decide) u (BLies.nil _ _)).mono (fun e w' h => by
    obtain ⟨a', n', c', he, ho, hg⟩ := h
    exact ⟨a', n', c', he, by have := ho.len; rw [apL_len (by decide)] at this; exact this.symm, hg⟩)
  have hn : ∀ (g : Nat) (p m : Nat) (a : Option Addr) (c : Nat) (u : World), p + m ≤ 16 → CipC u g knownL p → BLies u a (List.replicate m 0) → Calls Try.prog 31 #[.pointer (some ⟨g, 0, none⟩), .slice a m c] u fun e w' => ∃ a' c', e = .returned (.tuple #[.slice a' m c', .int .i64 0]) ∧ BOwn w' u.heap.size a' m c' ((kn16.drop p).take m) ∧ CipC w' g knownL ((p + m : Nat) : Int) ∧ u.grownBy w' (some g) := fun g p m a c u h hc hl => (next_n knownL rfl g p a m c _ (by simp) (by omega) u hc hl).mono (fun e w' h2 => by
    obtain ⟨a', n', c', he, ho, hcc, hg⟩ := h2
    have hs : stE (p : Int) (m : Int) = 0 := by unfold stE; rw [if_neg (by omega), if_neg (by omega)]
    rw [kn_ap p m h] at ho
    have hn' : n' = m := by have := ho.len; rw [List.length_take, List.length_drop] at this; have : kn16.length = 16 := rfl; omega
    subst hn'
    rw [hs] at he
    rw [nxP, if_pos hs] at hcc
    exact ⟨a', c', he, ho, by rw [Int.natCast_add]; exact hcc, hg⟩)
  have hsk : ∀ (g : Nat) (x z : Int) (u : World), CipC u g knownL x → _ := fun g x z u h => seek_n knownL rfl g x z u h
  have hat : ∀ (g : Nat) (x : Int) (u : World), CipC u g knownL x → _ := fun g x u h => atc_n knownL rfl g x u h
  have hnew := fun u => newc_n knownL rfl u
  have hkn := fun u => known_n u
  obtain ⟨key, hkey⟩ : ∃ key, key = knownL := ⟨_, rfl⟩
  rw [← hkey] at hc1 hc2 hc3 hc4 hc5 hn hsk hat hnew hkn
  clear hkey
  have HC1 := Lib.hid hc1
  have HC2 := Lib.hid hc2
  have HC3 := Lib.hid hc3
  have HC4 := Lib.hid hc4
  have HC5 := Lib.hid hc5
  have HN := Lib.hid hn
  have HSK := Lib.hid hsk
  have HAT := Lib.hid hat
  have HNEW := Lib.hid hnew
  have HKN := Lib.hid hkn
  clear hc1 hc2 hc3 hc4 hc5 hn hsk hat hnew hkn
  go_wp2_with fail
  refine (HKN.out _).mono ?_
  rintro e w3 ⟨rfl, g⟩
  replace HG := Lib.hid (grownBy_trans HG.out g)
  clear g
  go_wp2_with fail
  refine (HC1.out _).mono ?_
  rintro e w4 ⟨gs, rfl, ho, g⟩
  have HS := Lib.hid ho
  clear ho
  replace HG := Lib.hid (grownBy_trans HG.out g)
  clear g
  go_wp2_with fail
  have hl : BLies (w4.alloc (.cells (rowB [125, 247, 107, 12, 26, 184, 153, 179, 62, 66, 240, 71, 185, 27, 84, 111]) 5)) (some ⟨w4.heap.size, 0, none⟩) [125, 247, 107, 12, 26, 184, 153, 179, 62, 66, 240, 71, 185, 27, 84, 111] := BRow.lies (t := 5) (heap_alloc_new w4 _)
  have g0 := World.grownBy_alloc w4 (.cells (rowB [125, 247, 107, 12, 26, 184, 153, 179, 62, 66, 240, 71, 185, 27, 84, 111]) 5) none
  refine (same_yes _ _ _ _ _ _ [125, 247, 107, 12, 26, 184, 153, 179, 62, 66, 240, 71, 185, 27, 84, 111] _ ((BOwn.lies HS.out).grown g0) hl rfl rfl (by decide)).mono ?_
  rintro e w5 ⟨rfl, q, hq⟩
  have g := grownBy_trans g0 (drewg hq)
  clear hq q hl g0
  replace HG := Lib.hid (grownBy_trans HG.out g)
  replace HS := Lib.hid (HS.out.grown g)
  clear g
  go_wp2_with fail
  refine (HKN.out _).mono ?_
  rintro e w6 ⟨rfl, g⟩
  replace HG := Lib.hid (grownBy_trans HG.out g)
  replace HS := Lib.hid (HS.out.grown g)
  clear g
  go_wp2_with fail
  refine (HC2.out _).mono ?_
  rintro e w7 ⟨rfl, g⟩
  replace HG := Lib.hid (grownBy_trans HG.out g)
  replace HS := Lib.hid (HS.out.grown g)
  clear g
  go_wp2_with fail
  refine (HKN.out _).mono ?_
  rintro e w8 ⟨rfl, g⟩
  replace HG := Lib.hid (grownBy_trans HG.out g)
  replace HS := Lib.hid (HS.out.grown g)
  clear g
  go_wp2_with fail
  refine (HC3.out _).mono ?_
  rintro e w9 ⟨rfl, g⟩
  replace HG := Lib.hid (grownBy_trans HG.out g)
  replace HS := Lib.hid (HS.out.grown g)
  clear g
  go_wp2_with fail
  refine (HKN.out _).mono ?_
  rintro e w10 ⟨rfl, g⟩
  replace HG := Lib.hid (grownBy_trans HG.out g)
  replace HS := Lib.hid (HS.out.grown g)
  clear g
  go_wp2_with fail
  refine (HC4.out _).mono ?_
  rintro e w11 ⟨rfl, g⟩
  replace HG := Lib.hid (grownBy_trans HG.out g)
  replace HS := Lib.hid (HS.out.grown g)
  clear g
  go_wp2_with fail
  refine (HKN.out _).mono ?_
  rintro e w12 ⟨rfl, g⟩
  replace HG := Lib.hid (grownBy_trans HG.out g)
  replace HS := Lib.hid (HS.out.grown g)
  clear g
  go_wp2_with fail
  refine (HC5.out _).mono ?_
  rintro e w13 ⟨a5, n5, c5, rfl, rfl, g⟩
  replace HG := Lib.hid (grownBy_trans HG.out g)
  replace HS := Lib.hid (HS.out.grown g)
  clear g
  go_wp2_with fail
  refine (HKN.out _).mono ?_
  rintro e w14 ⟨rfl, g⟩
  replace HG := Lib.hid (grownBy_trans HG.out g)
  replace HS := Lib.hid (HS.out.grown g)
  clear g
  go_wp2_with fail
  refine (HNEW.out _).mono ?_
  rintro e w15 ⟨gC, rfl, hcc, hcb, g⟩
  have HCB : Hid (w.heap.size ≤ gC) := Lib.hid (Nat.le_trans HG.out.size hcb)
  replace HG := Lib.hid (grownBy_trans HG.out g)
  replace HS := Lib.hid (HS.out.grown g)
  clear g
  have HC := Lib.hid hcc
  clear hcc hcb
  go_wp2_with (refine wpList_mkB rfl _ _ _ rfl _ Try.underlying34 hiu hiuz hius hiub 5 rfl rfl (by omega) ?_; intro wm1 hs3 g hr3; have HM := Lib.hid (BRow.lies hr3); replace HG := Lib.hid (grownBy_trans HG.out g); replace HS := Lib.hid (HS.out.grown g); replace HC := Lib.hid (HC.out.grown g); clear hs3 g hr3)
  refine (HN.out gC 0 5 _ _ _ (by decide) HC.out HM.out).mono ?_
  rintro e w16 ⟨aA, cA, rfl, ho, hc, hg⟩
  have HA := Lib.hid ho
  clear ho HM
  have HW := Lib.hid HC.out
  replace HG := Lib.hid (grownBy_old HG.out hg HCB.out)
  replace HS := Lib.hid (own_cip HW.out HS.out hg)
  replace HC := Lib.hid hc
  clear hc hg HW
  go_wp2_with fail
  refine (HAT.out gC 5 _ HC.out).mono ?_
  rintro e w17 ⟨rfl, rfl⟩
  go_wp2_with (refine wpList_mkB rfl _ _ _ rfl _ Try.underlying34 hiu hiuz hius hiub 3 rfl rfl (by omega) ?_; intro wm2 hs3 g hr3; have HM := Lib.hid (BRow.lies hr3); replace HG := Lib.hid (grownBy_trans HG.out g); replace HS := Lib.hid (HS.out.grown g); replace HC := Lib.hid (HC.out.grown g); replace HA := Lib.hid (HA.out.grown g); clear hs3 g hr3)
  refine (HN.out gC 5 3 _ _ _ (by decide) HC.out HM.out).mono ?_
  rintro e w18 ⟨aB, cB, rfl, ho, hc, hg⟩
  have HB := Lib.hid ho
  clear ho HM
  have HW := Lib.hid HC.out
  replace HG := Lib.hid (grownBy_old HG.out hg HCB.out)
  replace HS := Lib.hid (own_cip HW.out HS.out hg)
  replace HA := Lib.hid (own_cip HW.out HA.out hg)
  replace HC := Lib.hid hc
  clear hc hg HW
  go_wp2_with fail
  refine (same_yes _ _ _ _ _ _ (kn16.take 5) _ (BOwn.lies HA.out) ((BOwn.lies HS.out).take 5) rfl rfl (by decide)).mono ?_
  rintro e w19 ⟨rfl, q, hq⟩
  have g := drewg hq
  clear hq q
  replace HG := Lib.hid (grownBy_trans HG.out g)
  replace HS := Lib.hid (HS.out.grown g)
  replace HC := Lib.hid (HC.out.grown g)
  replace HA := Lib.hid (HA.out.grown g)
  replace HB := Lib.hid (HB.out.grown g)
  clear g
  go_wp2_with fail
  have hl : BLies (w19.alloc (.cells (rowB [184, 153, 179]) 5)) (some ⟨w19.heap.size, 0, none⟩) [184, 153, 179] := BRow.lies (t := 5) (heap_alloc_new w19 _)
  have g0 := World.grownBy_alloc w19 (.cells (rowB [184, 153, 179]) 5) none
  refine (same_yes _ _ _ _ _ _ [184, 153, 179] _ ((BOwn.lies HB.out).grown g0) hl rfl rfl (by decide)).mono ?_
  rintro e w20 ⟨rfl, q, hq⟩
  have g := grownBy_trans g0 (drewg hq)
  clear hq q hl g0
  replace HG := Lib.hid (grownBy_trans HG.out g)
  replace HS := Lib.hid (HS.out.grown g)
  replace HC := Lib.hid (HC.out.grown g)
  replace HA := Lib.hid (HA.out.grown g)
  replace HB := Lib.hid (HB.out.grown g)
  clear g
  go_wp2_with fail
  refine (HSK.out gC 8 (-1) _ HC.out).mono ?_
  rintro e w21 ⟨rfl, hc, hg⟩
  have HW := Lib.hid HC.out
  replace HG := Lib.hid (grownBy_old HG.out hg HCB.out)
  replace HS := Lib.hid (own_cip HW.out HS.out hg)
  replace HA := Lib.hid (own_cip HW.out HA.out hg)
  replace HB := Lib.hid (own_cip HW.out HB.out hg)
  replace HC := Lib.hid hc
  clear hc hg HW
  rw [show skE (-1) = 40 from by decide]
  go_wp2_with fail
  refine (HAT.out gC 8 _ HC.out).mono ?_
  rintro e w22 ⟨rfl, rfl⟩
  go_wp2_with fail
  refine (HSK.out gC 8 (0) _ HC.out).mono ?_
  rintro e w23 ⟨rfl, hc, hg⟩
  have HW := Lib.hid HC.out
  replace HG := Lib.hid (grownBy_old HG.out hg HCB.out)
  replace HS := Lib.hid (own_cip HW.out HS.out hg)
  replace HA := Lib.hid (own_cip HW.out HA.out hg)
  replace HB := Lib.hid (own_cip HW.out HB.out hg)
  replace HC := Lib.hid hc
  clear hc hg HW
  rw [show skE (0) = 0 from by decide]
  go_wp2_with (refine wpList_mkB rfl _ _ _ rfl _ Try.underlying34 hiu hiuz hius hiub 1 rfl rfl (by omega) ?_; intro wm3 hs3 g hr3; have HM := Lib.hid (BRow.lies hr3); replace HG := Lib.hid (grownBy_trans HG.out g); replace HS := Lib.hid (HS.out.grown g); replace HC := Lib.hid (HC.out.grown g); replace HA := Lib.hid (HA.out.grown g); replace HB := Lib.hid (HB.out.grown g); clear hs3 g hr3)
  refine (HN.out gC 0 1 _ _ _ (by decide) HC.out HM.out).mono ?_
  rintro e w24 ⟨aD, cD, rfl, ho, hc, hg⟩
  have HD := Lib.hid ho
  clear ho HM
  have HW := Lib.hid HC.out
  replace HG := Lib.hid (grownBy_old HG.out hg HCB.out)
  replace HS := Lib.hid (own_cip HW.out HS.out hg)
  replace HA := Lib.hid (own_cip HW.out HA.out hg)
  replace HB := Lib.hid (own_cip HW.out HB.out hg)
  replace HC := Lib.hid hc
  clear hc hg HW
  have hcd := Own.cell HD.out 0 (by decide)
  obtain ⟨gD, rfl, _, _, hcd, _⟩ := hcd
  rw [show (((kn16.drop 0).take 1).map bval)[0]'(by decide) = .int .u8 125 from rfl] at hcd
  have hcap := HD.out.cap
  go_wp2_with fail
  go_ret
  exact ⟨rfl, HG.out⟩
end Go.Proofs.Ytblgdfamomlklaa
