/- ctr.Counter and the document's. -/
import Derived.Test.YtblgdfamomlklaaBig64
import Derived.Test.YtblgdfamomlklaaOwn
import Derived.Deep.RegionWith
import Derived.Deep.Upon
import Derived.Test.YtblgdfamomlklaaArr
namespace Go.Proofs.Ytblgdfamomlklaa
open Go.RowKit

/-- the block of a number -/
def ctrL (x : Nat) : List UInt8 := [0, 0, 0, 0, 0, 0, 0, 0] ++ bigL 8 x
def ctrC (x : Nat) : Array Value := ((ctrL x).map bval).toArray
def ctrV (x : Nat) : Value := .agg (ctrC x)
theorem ctrC_size (x : Nat) : (ctrC x).size = 16 := rfl
theorem ctrC_one (x : Nat) : (ctrC x).all (·.oneCell') = true := by simp [ctrC, ctrL, bigL, bval, Value.oneCell']
theorem size24 : (Try.prog.info? 24).map (·.size) = some 16 := by kernel_rfl

/-- a row of cells written into cells from o on -/
def laidOn (cur : Array Value) (o : Nat) : List Value → Array Value
  | [] => cur
  | v :: r => laidOn (cur.setIfInBounds o v) (o + 1) r
theorem setCells_heap (g : Nat) (t : TypeId) (fr : Nat × Nat) : ∀ (xs : List Value) (o : Nat) (w : World) (cur : Array Value), w.heap[g]? = some (.cells cur t fr) → (w.setCells g o xs).heap[g]? = some (.cells (laidOn cur o xs) t fr)
  | [], _, _, _, h => h
  | v :: r, o, w, cur, h => by
    refine setCells_heap g t fr r (o + 1) (w.setCell ⟨g, o, none⟩ v) (cur.setIfInBounds o v) ?_
    simp only [World.setCell, Array.getElem?_modify, ↓reduceIte, h, Option.map_some]
    simp
theorem grownBy_setCells (g : Nat) : ∀ (xs : List Value) (o : Nat) (w : World), w.grownBy (w.setCells g o xs) (some g)
  | [], _, _ => World.grownBy.refl _ _
  | v :: r, o, w => grownBy_trans (grownBy_setCell w g o v) (grownBy_setCells g r (o + 1) _)
theorem laid_ctr (x : Nat) : laidOn (#[.int .u8 0, .int .u8 0, .int .u8 0, .int .u8 0, .int .u8 0, .int .u8 0, .int .u8 0, .int .u8 0, .int .u8 0, .int .u8 0, .int .u8 0, .int .u8 0, .int .u8 0, .int .u8 0, .int .u8 0, .int .u8 0] : Array Value) 8 ((bigL 8 x).map bval) = ctrC x := by simp [ctrC, ctrL, bigL, laidOn, bval]

/-- the copying -/
theorem copy_ctr (x : Nat) (w : World) : ∃ w4, (Builtin.copy_ #[34, 34] 3 #[.slice (some ⟨w.heap.size + 1, 8, none⟩) 8 8, .slice (some ⟨w.heap.size + 1 + 1, 0, none⟩) 8 8]).run Try.prog ((((w.alloc (.cells (#[.int .u8 0, .int .u8 0, .int .u8 0, .int .u8 0, .int .u8 0, .int .u8 0, .int .u8 0, .int .u8 0, .int .u8 0, .int .u8 0, .int .u8 0, .int .u8 0, .int .u8 0, .int .u8 0, .int .u8 0, .int .u8 0] : Array Value) 24)).alloc (.cells (#[.int .u8 0, .int .u8 0, .int .u8 0, .int .u8 0, .int .u8 0, .int .u8 0, .int .u8 0, .int .u8 0, .int .u8 0, .int .u8 0, .int .u8 0, .int .u8 0, .int .u8 0, .int .u8 0, .int .u8 0, .int .u8 0] : Array Value) 24)).alloc (.cells ((bigL 8 x).map bval).toArray 5)).drew) = .ok (.int .i64 8) w4 ∧
    w4.heap[w.heap.size + 1]? = some (.cells (ctrC x) 24 (0, 0)) ∧ w4.heap[w.heap.size]? = some (.cells (#[.int .u8 0, .int .u8 0, .int .u8 0, .int .u8 0, .int .u8 0, .int .u8 0, .int .u8 0, .int .u8 0, .int .u8 0, .int .u8 0, .int .u8 0, .int .u8 0, .int .u8 0, .int .u8 0, .int .u8 0, .int .u8 0] : Array Value) 24 (0, 0)) ∧ w.grownBy w4 none := by
  have e0 : ((((w.alloc (.cells (#[.int .u8 0, .int .u8 0, .int .u8 0, .int .u8 0, .int .u8 0, .int .u8 0, .int .u8 0, .int .u8 0, .int .u8 0, .int .u8 0, .int .u8 0, .int .u8 0, .int .u8 0, .int .u8 0, .int .u8 0, .int .u8 0] : Array Value) 24)).alloc (.cells (#[.int .u8 0, .int .u8 0, .int .u8 0, .int .u8 0, .int .u8 0, .int .u8 0, .int .u8 0, .int .u8 0, .int .u8 0, .int .u8 0, .int .u8 0, .int .u8 0, .int .u8 0, .int .u8 0, .int .u8 0, .int .u8 0] : Array Value) 24)).alloc (.cells ((bigL 8 x).map bval).toArray 5)).drew).heap[w.heap.size]? = some (.cells (#[.int .u8 0, .int .u8 0, .int .u8 0, .int .u8 0, .int .u8 0, .int .u8 0, .int .u8 0, .int .u8 0, .int .u8 0, .int .u8 0, .int .u8 0, .int .u8 0, .int .u8 0, .int .u8 0, .int .u8 0, .int .u8 0] : Array Value) 24 (0, 0)) := by
    show ((((w.alloc _).alloc _).alloc _)).heap[w.heap.size]? = _
    rw [Below.heap_alloc _ _ _ (by simp; omega), Below.heap_alloc _ _ _ (by simp)]; exact heap_alloc_new w _
  have e1 : ((((w.alloc (.cells (#[.int .u8 0, .int .u8 0, .int .u8 0, .int .u8 0, .int .u8 0, .int .u8 0, .int .u8 0, .int .u8 0, .int .u8 0, .int .u8 0, .int .u8 0, .int .u8 0, .int .u8 0, .int .u8 0, .int .u8 0, .int .u8 0] : Array Value) 24)).alloc (.cells (#[.int .u8 0, .int .u8 0, .int .u8 0, .int .u8 0, .int .u8 0, .int .u8 0, .int .u8 0, .int .u8 0, .int .u8 0, .int .u8 0, .int .u8 0, .int .u8 0, .int .u8 0, .int .u8 0, .int .u8 0, .int .u8 0] : Array Value) 24)).alloc (.cells ((bigL 8 x).map bval).toArray 5)).drew).heap[w.heap.size + 1]? = some (.cells (#[.int .u8 0, .int .u8 0, .int .u8 0, .int .u8 0, .int .u8 0, .int .u8 0, .int .u8 0, .int .u8 0, .int .u8 0, .int .u8 0, .int .u8 0, .int .u8 0, .int .u8 0, .int .u8 0, .int .u8 0, .int .u8 0] : Array Value) 24 (0, 0)) := by
    show ((((w.alloc _).alloc _).alloc _)).heap[w.heap.size + 1]? = _
    rw [Below.heap_alloc _ _ _ (by simp)]
    have := heap_alloc_new (w.alloc (.cells (#[.int .u8 0, .int .u8 0, .int .u8 0, .int .u8 0, .int .u8 0, .int .u8 0, .int .u8 0, .int .u8 0, .int .u8 0, .int .u8 0, .int .u8 0, .int .u8 0, .int .u8 0, .int .u8 0, .int .u8 0, .int .u8 0] : Array Value) 24)) (.cells (#[.int .u8 0, .int .u8 0, .int .u8 0, .int .u8 0, .int .u8 0, .int .u8 0, .int .u8 0, .int .u8 0, .int .u8 0, .int .u8 0, .int .u8 0, .int .u8 0, .int .u8 0, .int .u8 0, .int .u8 0, .int .u8 0] : Array Value) 24)
    rw [World.size_alloc] at this
    exact this
  have e2 : ((((w.alloc (.cells (#[.int .u8 0, .int .u8 0, .int .u8 0, .int .u8 0, .int .u8 0, .int .u8 0, .int .u8 0, .int .u8 0, .int .u8 0, .int .u8 0, .int .u8 0, .int .u8 0, .int .u8 0, .int .u8 0, .int .u8 0, .int .u8 0] : Array Value) 24)).alloc (.cells (#[.int .u8 0, .int .u8 0, .int .u8 0, .int .u8 0, .int .u8 0, .int .u8 0, .int .u8 0, .int .u8 0, .int .u8 0, .int .u8 0, .int .u8 0, .int .u8 0, .int .u8 0, .int .u8 0, .int .u8 0, .int .u8 0] : Array Value) 24)).alloc (.cells ((bigL 8 x).map bval).toArray 5)).drew).heap[w.heap.size + 1 + 1]? = some (.cells ((bigL 8 x).map bval).toArray 5 (0, 0)) := by
    show ((((w.alloc _).alloc _).alloc _)).heap[w.heap.size + 1 + 1]? = _
    have := heap_alloc_new ((w.alloc (.cells (#[.int .u8 0, .int .u8 0, .int .u8 0, .int .u8 0, .int .u8 0, .int .u8 0, .int .u8 0, .int .u8 0, .int .u8 0, .int .u8 0, .int .u8 0, .int .u8 0, .int .u8 0, .int .u8 0, .int .u8 0, .int .u8 0] : Array Value) 24)).alloc (.cells (#[.int .u8 0, .int .u8 0, .int .u8 0, .int .u8 0, .int .u8 0, .int .u8 0, .int .u8 0, .int .u8 0, .int .u8 0, .int .u8 0, .int .u8 0, .int .u8 0, .int .u8 0, .int .u8 0, .int .u8 0, .int .u8 0] : Array Value) 24)) (.cells ((bigL 8 x).map bval).toArray 5)
    rw [World.size_alloc, World.size_alloc] at this
    exact this
  have g0 : w.grownBy ((((w.alloc (.cells (#[.int .u8 0, .int .u8 0, .int .u8 0, .int .u8 0, .int .u8 0, .int .u8 0, .int .u8 0, .int .u8 0, .int .u8 0, .int .u8 0, .int .u8 0, .int .u8 0, .int .u8 0, .int .u8 0, .int .u8 0, .int .u8 0] : Array Value) 24)).alloc (.cells (#[.int .u8 0, .int .u8 0, .int .u8 0, .int .u8 0, .int .u8 0, .int .u8 0, .int .u8 0, .int .u8 0, .int .u8 0, .int .u8 0, .int .u8 0, .int .u8 0, .int .u8 0, .int .u8 0, .int .u8 0, .int .u8 0] : Array Value) 24)).alloc (.cells ((bigL 8 x).map bval).toArray 5)).drew) none := grownBy_trans (grownBy_al (grownBy_al (World.grownBy_alloc _ _ _) _) _) (grownBy_drewN _ 1 none)
  generalize ((((w.alloc (.cells (#[.int .u8 0, .int .u8 0, .int .u8 0, .int .u8 0, .int .u8 0, .int .u8 0, .int .u8 0, .int .u8 0, .int .u8 0, .int .u8 0, .int .u8 0, .int .u8 0, .int .u8 0, .int .u8 0, .int .u8 0, .int .u8 0] : Array Value) 24)).alloc (.cells (#[.int .u8 0, .int .u8 0, .int .u8 0, .int .u8 0, .int .u8 0, .int .u8 0, .int .u8 0, .int .u8 0, .int .u8 0, .int .u8 0, .int .u8 0, .int .u8 0, .int .u8 0, .int .u8 0, .int .u8 0, .int .u8 0] : Array Value) 24)).alloc (.cells ((bigL 8 x).map bval).toArray 5)).drew) = W at *
  refine ⟨_, run_copy_cells (P := Try.prog) W _ _ _ 5 (w.heap.size + 1) 8 8 8 ⟨w.heap.size + 1 + 1, 0, none⟩ 8 8 ((bigL 8 x).map bval) Try.underlying34 (by kernel_rfl) rfl ?_ ?_ ?_ ?_, ?_, ?_, ?_⟩
  · intro j v hj
    have ha : (⟨w.heap.size + 1 + 1, 0, none⟩ : Addr).add j = ⟨w.heap.size + 1 + 1, j, none⟩ := by unfold Addr.add; split <;> simp_all
    rw [ha]
    simp [World.cell?, e2, hj]
  · intro j hj
    have : j < 8 := hj
    simp [World.cell?, e1]
    omega
  · intro j hj
    simp [World.frozen?, e1]
  · intro v hv
    obtain ⟨y, _, rfl⟩ := List.mem_map.1 hv
    rfl
  · rw [← laid_ctr]; exact setCells_heap _ _ _ _ _ _ _ e1
  · rw [World.heap_setCells_other _ _ _ _ (Array.getElem?_eq_some_iff.1 e0).1 (by omega)]; exact e0
  · exact grownBy_old g0 (grownBy_setCells _ _ _ _) (by omega)

set_option maxRecDepth 100000 in
set_option maxHeartbeats 1000000 in
theorem counter_n (x : Nat) (hx : x < 18446744073709551616) (w : World) : Calls Try.prog 12 #[.int .u64 x] w fun e w' => e = .returned (.agg (ctrC x)) ∧ w.grownBy w' none := by
  obtain ⟨w4, hr, h1, h0, hg⟩ := copy_ctr x w
  go_enter Try.func12, Try.ntmps12
  go_wp2_with fail
  go_region_with (go_at_call 35; refine (big64_any x hx _).mono ?_; rintro e w' ⟨rfl, rfl⟩)
  go_wp2_with (first | (refine wpList_load_row rfl 24 _ rfl (w.heap.size + 1) rfl 24 (ctrC x) (0, 0) _ h1 Try.underlying24 rfl (by rw [size24, ctrC_size]) ?_) | (refine wpList_store_row rfl 24 _ _ rfl w.heap.size (ctrC x) rfl rfl 24 _ h0 (by rw [size24, ctrC_size]) (by rw [ctrC_size]; rfl) (ctrC_one x) ?_))
  refine bodyPost_ret (v := .agg (ctrC x)) (results_cell_row rfl _ _ w.heap.size 24 (ctrC x) (0, 0) _ rfl (setRow_heap _ _ _ _ _ _ h0) Try.underlying24 rfl (by rw [size24, ctrC_size])) rfl ⟨rfl, ?_⟩
  exact grownBy_old hg (grownBy_setRow _ _ _) (Nat.le_refl _)

set_option maxRecDepth 100000 in
set_option maxHeartbeats 1000000 in
theorem refCounter_n (x : Nat) (hx : x < 18446744073709551616) (w : World) : Calls Try.prog 13 #[.int .u64 x] w fun e w' => e = .returned (.agg (ctrC x)) ∧ w.grownBy w' none := by
  go_enter Try.func13, Try.ntmps13
  go_wp2_with fail
  go_rounds 9
  refine bodyPost_ret (v := .agg (ctrC x)) (results_cell_row rfl _ _ w.heap.size 24 (ctrC x) (0, 0) _ rfl ?_ Try.underlying24 rfl (by rw [size24, ctrC_size])) rfl ⟨rfl, ?_⟩
  · rw [Below.heap_alloc _ _ _ (by simp), heap_alloc_new]
    refine congrArg (fun c : List Value => some (Obj.cells c.toArray 24 (0, 0))) ?_
    simp only [ctrL, bigL, List.nil_append, List.cons_append, List.map_cons, List.map_nil, bval, u8i]
    repeat (first | (refine congr (congrArg List.cons (val_u8 (by first | rfl | omega))) ?_) | rfl)
  · exact grownBy_al (World.grownBy_alloc _ _ _) _

end Go.Proofs.Ytblgdfamomlklaa
