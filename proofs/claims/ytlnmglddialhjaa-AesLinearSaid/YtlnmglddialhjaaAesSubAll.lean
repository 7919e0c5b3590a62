/- aes: subs, each, SubAll, UnsubAll; the document's. -/
import Derived.Test.YtlnmglddialhjaaAesShift
import Derived.Deep.RegionWith
namespace Go.Proofs.Ytlnmglddialhjaa
open Go.RowKit

def tabS : List UInt8 := (List.range 256).map fun i => asub (UInt8.ofNat i)
def z256 : List UInt8 := List.replicate 256 0
def tbF (k : Nat) (o : List UInt8) : List UInt8 := o.set k (asub (UInt8.ofNat k))
theorem tbF_len : ∀ k o, (tbF k o).length = o.length := fun k o => by simp [tbF]
theorem tb_end : iterU tbF z256 256 = tabS := by decide +kernel
theorem tabS_len : tabS.length = 256 := by simp [tabS]
theorem tabS_get (x : UInt8) : tabS.getD x.toNat 0 = asub x := by
  have := x.toNat_lt
  simp [tabS, List.getD, this]
theorem size_tab : (Try.prog.info? 57).map (·.size) = some 256 := by kernel_rfl
theorem zero_tab : Try.zeroCells57 = cellsB z256 := by kernel_rfl
theorem u8_nat {k : Nat} (h : k < 256) : ((UInt8.ofNat k).toNat : Int) = (k : Int) := by rw [UInt8.toNat_ofNat', Nat.mod_eq_of_lt h]

set_option maxRecDepth 100000 in
set_option maxHeartbeats 1000000 in
theorem subs_n (w : World) : Calls Try.prog 53 #[] w fun e w' => e = .returned (aggB tabS) ∧ w.grownBy w' none := by
  obtain ⟨hr, hs, hg⟩ := two w z256 z256 57 57
  rw [← zero_tab] at hr hs hg
  have HR := Lib.hid hr
  have HS := Lib.hid hs
  have HG := Lib.hid hg
  clear hr hg hs
  go_enter Try.func53, Try.ntmps53
  go_wp2_with fail
  go_loopw [3] (fun vi wr => ∃ k : Nat, k ≤ 256 ∧ vi = .int .i64 k ∧ Blk wr w.heap.size 57 z256 ∧ Blk wr (w.heap.size + 1) 57 (iterU tbF z256 k) ∧ w.grownBy wr none) (fun vi _ => 256 - (intOf vi).toNat)
  case atStart => exact ⟨0, by omega, rfl, HR.out, HS.out, HG.out⟩
  case round =>
    obtain ⟨k, hk, rfl, hr, hs, hg⟩ := hrel
    have HRR := Lib.hid hr
    have HGG := Lib.hid hg
    have hlen : (iterU tbF z256 k).length = 256 := (iterU_len tbF_len k).trans (by simp [z256])
    have hcell := hs.cell 256 hlen
    have hfree := hs.free
    have HSS := Lib.hid hs
    clear hr hg hs hlen
    by_cases hlt : k < 256
    · have hcj := hcell _ hlt
      obtain ⟨u0, hu0⟩ : ∃ u0, wr.cell? ⟨w.heap.size + 1, k, none⟩ = some u0 := ⟨_, hcj⟩
      have hset := HSS.out.set k (asub (UInt8.ofNat k))
      have he : iterU tbF z256 (k + 1) = (iterU tbF z256 k).set k (asub (UInt8.ofNat k)) := rfl
      rw [← he] at hset
      have HSET := Lib.hid hset
      clear hset HSS hcell hcj he
      go_wp2_with (go_at_call 18; refine (sub_i _ (UInt8.ofNat k) _ (u8_nat hlt)).mono ?_; rintro e w' ⟨rfl, rfl⟩)
      go_roundw
      case rel => exact ⟨k + 1, by omega, by go_num, HRR.out.other (by omega), HSET.out, grownBy_old HGG.out (grownBy_setCell _ _ _ _) (by omega)⟩
      case measure => simp [intOf]; omega
    · obtain rfl : k = 256 := by omega
      have e256 : ((256 : Nat) : Int) = 256 := rfl
      rw [e256]
      clear hcell hfree e256
      have hs := HSS.out
      rw [tb_end] at hs
      have HS2 := Lib.hid hs
      clear hs HSS
      have hz : z256.length = 256 := by simp [z256]
      go_wp2_with (first | (refine wpList_load_row rfl 57 _ rfl (w.heap.size + 1) rfl 57 (cellsB tabS) (0, 0) _ HS2.out Try.underlying57 rfl (by rw [size_tab, cellsB_size, tabS_len]) ?_) | (refine wpList_store_row rfl 57 _ _ rfl w.heap.size (cellsB tabS) rfl rfl 57 _ HRR.out (by rw [size_tab, cellsB_size, tabS_len]) (by rw [cellsB_size, cellsB_size, tabS_len, hz]) (cellsB_one _) ?_))
      refine bodyPost_ret (v := .agg (cellsB tabS)) (results_cell_row rfl _ _ w.heap.size 57 (cellsB tabS) (0, 0) _ rfl (setRow_heap _ _ _ _ _ _ HRR.out) Try.underlying57 rfl (by rw [size_tab, cellsB_size, tabS_len])) rfl ⟨rfl, ?_⟩
      exact grownBy_old HGG.out (grownBy_setRow _ _ _) (by omega)

set_option maxRecDepth 100000 in
set_option maxHeartbeats 1000000 in
theorem tabl_i (z : Int) (x : UInt8) (g : Nat) (w : World) (hz : (x.toNat : Int) = z) (hb : Blk w g 57 tabS) : Calls Try.prog 56 #[.int .u8 z, .pointer (some ⟨g, 0, none⟩)] w fun e w' => e = .returned (.int .u8 ((asub x).toNat : Nat)) ∧ w = w' := by
  subst hz
  have hx := x.toNat_lt
  have hc := hb.cell 256 tabS_len x.toNat (by omega)
  rw [tabS_get] at hc
  clear hb
  go_enter Try.func56, Try.ntmps56
  go_wp2
  go_ret
  exact ⟨rfl, rfl⟩

end Go.Proofs.Ytlnmglddialhjaa
