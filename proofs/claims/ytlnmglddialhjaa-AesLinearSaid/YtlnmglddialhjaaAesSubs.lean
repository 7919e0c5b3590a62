/- aes: SubAll, UnsubAll. -/
import Derived.Test.YtlnmglddialhjaaAesEach
namespace Go.Proofs.Ytlnmglddialhjaa
open Go.RowKit

theorem Blk.row {w : World} {g : Nat} {t : TypeId} {l : List UInt8} (h : Blk w g t l) (l' : List UInt8) : Blk (w.setRow g (cellsB l')) g t l' := setRow_heap _ _ _ _ _ _ h
theorem Blk.rowNe {w : World} {g g' : Nat} {t : TypeId} {l : List UInt8} (h : Blk w g t l) (cs : Array Value) (hne : g ≠ g') : Blk (w.setRow g' cs) g t l := (setRow_other w g' g _ hne).trans h

set_option maxRecDepth 100000 in
set_option maxHeartbeats 1000000 in
theorem unsubAll_n (l : List UInt8) (hl : l.length = 16) (w : World) : Calls Try.prog 30 #[aggB l] w fun e w' => e = .returned (aggB (l.map aunsub)) ∧ w.grownBy w' none := by
  have hm := map_len aunsub hl
  unfold aggB
  obtain ⟨hb, hr, hg⟩ := two w l z16 33 33
  have HR := Lib.hid hr
  have HG := Lib.hid hg
  have HB := Lib.hid hb
  clear hr hg hb
  go_enter Try.func30, Try.ntmps30
  go_wp2_with (refine wpList_load_row rfl 33 _ rfl w.heap.size rfl 33 (cellsB l) (0, 0) _ HB.out Try.underlying33 rfl (by rw [size_state, cellsB_size, hl]) ?_)
  refine (eachUn_n l hl _).mono ?_
  rintro e w' ⟨rfl, hg⟩
  have hr := HR.out.grown hg (by simp)
  have HRR := Lib.hid hr
  have HGG := Lib.hid (grownBy_trans HG.out hg)
  clear hr hg
  unfold aggB
  go_wp2_with (refine wpList_store_row rfl 33 _ _ rfl (w.heap.size + 1) (cellsB (l.map aunsub)) rfl rfl 33 _ HRR.out (by rw [size_state, cellsB_size, hm]) (by rw [cellsB_size, cellsB_size, hm]; rfl) (cellsB_one _) ?_)
  refine bodyPost_ret (v := .agg (cellsB (l.map aunsub))) (results_cell_row rfl _ _ (w.heap.size + 1) 33 (cellsB (l.map aunsub)) (0, 0) _ rfl (setRow_heap _ _ _ _ _ _ HRR.out) Try.underlying33 rfl (by rw [size_state, cellsB_size, hm])) rfl ⟨rfl, ?_⟩
  exact grownBy_old HGG.out (grownBy_setRow _ _ _) (by omega)

set_option maxRecDepth 100000 in
set_option maxHeartbeats 1000000 in
theorem subAll_n (l : List UInt8) (hl : l.length = 16) (w : World) : Calls Try.prog 28 #[aggB l] w fun e w' => e = .returned (aggB (l.map asub)) ∧ w.grownBy w' none := by
  have hm := map_len asub hl
  have hmf : ∀ (fn : Fn) (first cap : Array Value) (w : World), (Instr.makeFunc fn first cap).run Try.prog w = .ok (.func fn first cap) w := fun _ _ _ _ => rfl
  unfold aggB
  obtain ⟨hb, hr, hg⟩ := two w l z16 33 33
  have HR := Lib.hid hr
  have HG := Lib.hid hg
  have HB := Lib.hid hb
  clear hr hg hb
  go_enter Try.func28, Try.ntmps28
  go_wp2_with fail
  refine (subs_n _).mono ?_
  rintro e w1 ⟨rfl, hg⟩
  have hn := Blk.new w1 57 z256
  rw [← zero_tab] at hn
  have gn := World.grownBy_alloc w1 (.cells Try.zeroCells57 57) none
  have hlt1 := (HR.out.grown hg (by simp)).lt
  have hb := ((HB.out.grown hg (by simp)).grown gn (by simp)).rowNe (cellsB tabS) (show w.heap.size ≠ w1.heap.size by omega)
  have hr := ((HR.out.grown hg (by simp)).grown gn (by simp)).rowNe (cellsB tabS) (show w.heap.size + 1 ≠ w1.heap.size by omega)
  have ht := Blk.row (l := z256) hn tabS
  have hg2 := grownBy_old (grownBy_trans (grownBy_trans HG.out hg) gn) (grownBy_setRow _ w1.heap.size (cellsB tabS)) (by omega)
  have HB2 := Lib.hid hb
  have HR2 := Lib.hid hr
  have HT2 := Lib.hid ht
  have HG2 := Lib.hid hg2
  have HN := Lib.hid hn
  clear hb hr ht hg2 hn gn hg
  unfold aggB
  have hz : z256.length = 256 := by simp [z256]
  go_wp2_with (first | (refine wpList_store_row rfl 57 _ _ rfl w1.heap.size (cellsB tabS) rfl rfl 57 _ HN.out (by rw [size_tab, cellsB_size, tabS_len]) (by rw [cellsB_size, cellsB_size, tabS_len, hz]) (cellsB_one _) ?_) | (refine wpList_load_row rfl 33 _ rfl w.heap.size rfl 33 (cellsB l) (0, 0) _ HB2.out Try.underlying33 rfl (by rw [size_state, cellsB_size, hl]) ?_))
  refine (eachSub_n l hl _ w1.heap.size HT2.out).mono ?_
  rintro e w' ⟨rfl, hg⟩
  have hr := HR2.out.grown hg (by simp)
  have HRR := Lib.hid hr
  have HGG := Lib.hid (grownBy_trans HG2.out hg)
  clear hr hg
  unfold aggB
  go_wp2_with (refine wpList_store_row rfl 33 _ _ rfl (w.heap.size + 1) (cellsB (l.map asub)) rfl rfl 33 _ HRR.out (by rw [size_state, cellsB_size, hm]) (by rw [cellsB_size, cellsB_size, hm]; rfl) (cellsB_one _) ?_)
  refine bodyPost_ret (v := .agg (cellsB (l.map asub))) (results_cell_row rfl _ _ (w.heap.size + 1) 33 (cellsB (l.map asub)) (0, 0) _ rfl (setRow_heap _ _ _ _ _ _ HRR.out) Try.underlying33 rfl (by rw [size_state, cellsB_size, hm])) rfl ⟨rfl, ?_⟩
  exact grownBy_old HGG.out (grownBy_setRow _ _ _) (by omega)

end Go.Proofs.Ytlnmglddialhjaa
