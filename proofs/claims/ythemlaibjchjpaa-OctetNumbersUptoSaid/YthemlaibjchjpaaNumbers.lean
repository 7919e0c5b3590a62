/- OctetNumbers: the walk. -/
import Derived.Test.YthemlaibjchjpaaNumFns
import Derived.Test.YthemlaibjchjpaaApart2
namespace Go.Proofs.Ythemlaibjchjpaa
open Go.RowKit

set_option maxRecDepth 100000 in
set_option maxHeartbeats 1000000 in
theorem numbers_walk (x y : Nat) (a : Option Addr) (c n : Nat) (l : List UInt8) (v : Int) (w : World) (hx : x < 18446744073709551616) (hy : y < 18446744073709551616) (ha : BLies w a l) (hn : l.length = n) (hm : n ≤ 1048576) :
    Calls Try.prog 4 #[.int .u64 x, .int .u64 y, .slice a n c, .int .i64 v] w fun e w' => e = .returned (.bool true) ∧ w.grownBy w' none := by
  obtain ⟨k, hk⟩ := Wd.ex v
  have HK := Lib.hid hk
  have HX := Lib.hid hx
  have HY := Lib.hid hy
  have HA := Lib.hid ha
  have HN := Lib.hid hn
  have hk8 := hk.le
  clear hk hx hy ha hn
  go_enter Try.func4, Try.ntmps4
  go_wp2_with fail
  refine (cut_any x v k HX.out HK.out _).mono ?_
  rintro e w' ⟨rfl, rfl⟩
  go_wp2_with fail
  refine (width_any v k HK.out _).mono ?_
  rintro e w' ⟨rfl, rfl⟩
  go_wp2_with fail
  refine (refBig_any (cutN k x) k (cutN_lt HX.out) hk8 _).mono ?_
  rintro e w1 ⟨a1, c1, rfl, o1, g1⟩
  go_wp2_with fail
  refine (cut_any y v k HY.out HK.out _).mono ?_
  rintro e w' ⟨rfl, rfl⟩
  go_wp2_with fail
  refine (width_any v k HK.out _).mono ?_
  rintro e w' ⟨rfl, rfl⟩
  go_wp2_with fail
  refine (refBig_any (cutN k y) k (cutN_lt HY.out) hk8 _).mono ?_
  rintro e w2 ⟨a2, c2, rfl, o2, g2⟩
  go_wp2_with fail
  refine (lawBig_any x v k HX.out HK.out _).mono ?_
  rintro e w3 ⟨a3, c3, rfl, o3, g3⟩
  go_wp2_with fail
  refine (lawBig_any x v k HX.out HK.out _).mono ?_
  rintro e w4 ⟨a4, c4, rfl, o4, g4⟩
  go_wp2_with fail
  refine (lawBig_any y v k HY.out HK.out _).mono ?_
  rintro e w5 ⟨a5, c5, rfl, o5, g5⟩
  go_wp2_with fail
  have b1 := (((o1.grown g2).grown g3).grown g4).grown g5
  have b2 := ((o2.grown g3).grown g4).grown g5
  have b3 := (o3.grown g4).grown g5
  have b4 := o4.grown g5
  have G5 := Lib.hid (grownBy_trans g1 (grownBy_trans g2 (grownBy_trans g3 (grownBy_trans g4 g5))))
  have z1 := g1.size
  have z2 := g2.size
  have z3 := g3.size
  have z4 := g4.size
  have z5 := g5.size
  have k0 : k ≤ maxLen := by unfold maxLen; omega
  have K0 := Lib.hid k0
  clear k0
  refine (same_yes _ _ _ _ _ _ (bigL k (cutN k x)) _ b3.lies b1.lies (bigL_length _ _) (bigL_length _ _) K0.out).mono ?_
  rintro e w' ⟨rfl, n1, rfl⟩
  go_wp2_with fail
  refine (same_yes _ _ _ _ _ _ (bigL k (cutN k x)) _ (b4.lies.drewN _) (b1.lies.drewN _) (bigL_length _ _) (bigL_length _ _) K0.out).mono ?_
  rintro e w' ⟨rfl, n2, rfl⟩
  go_wp2_with fail
  refine (same_yes _ _ _ _ _ _ (bigL k (cutN k y)) _ (o5.lies.drewN _) (b2.lies.drewN _) (bigL_length _ _) (bigL_length _ _) K0.out).mono ?_
  rintro e w' ⟨rfl, n3, rfl⟩
  go_wp2_with fail
  have hst := st1_lit (w := w5.drewN (n1 + n2 + n3)) (base := w.heap.size) (L := [⟨a3, k, c3⟩, ⟨a4, k, c4⟩, ⟨a5, k, c5⟩])
    (fun j hj => match j, hj with
      | 0, _ => ⟨_, b3.mono (by omega)⟩
      | 1, _ => ⟨_, b4.mono (by omega)⟩
      | 2, _ => ⟨_, o5.mono (by omega)⟩) (by show _ ≤ w5.heap.size; omega) 3 rfl (by decide)
  have hd : Distinct [⟨a3, k, c3⟩, ⟨a4, k, c4⟩, ⟨a5, k, c5⟩] := distinct_of _ (fun | 0 => w2.heap.size | 1 => w3.heap.size | 2 => w4.heap.size | _ => w5.heap.size)
    (fun i hi => match i, hi with
      | 0, _ => z3
      | 1, _ => z4
      | 2, _ => z5)
    (fun i hi => match i, hi with
      | 0, _ => o3.within
      | 1, _ => o4.within
      | 2, _ => o5.within)
  refine (apart_n _ _ _ 3 _ _ hst (by simp; omega) hd rfl (by omega) (fun j hj => match j, hj with
      | 0, _ => (by omega : k ≤ 100000000)
      | 1, _ => (by omega : k ≤ 100000000)
      | 2, _ => (by omega : k ≤ 100000000))).mono ?_
  rintro e w6 ⟨rfl, hbel⟩
  have G6 := Lib.hid (grown_below (grownBy_trans G5.out (grownBy_trans (grownBy_drewN w5 (n1 + n2 + n3) none) (World.grownBy_alloc (w5.drewN (n1 + n2 + n3)) (.cells ([(⟨a3, k, c3⟩ : Sl), ⟨a4, k, c4⟩, ⟨a5, k, c5⟩].map Sl.val).toArray 22) none))) hbel (Nat.le_refl _))
  clear hbel hd hst b1 b2 b3 b4 o1 o2 o3 o4 o5 g1 g2 g3 g4 g5 G5 z1 z2 z3 z4 z5
  go_wp2_with fail
  refine (lent_n _ _ _ l _ (HA.out.grown G6.out) HN.out (by omega)).mono ?_
  rintro e w7 ⟨gf, cf, rfl, of, g7⟩
  have hcf := of.cap.1
  have G7 := Lib.hid (grownBy_trans G6.out g7)
  have tk := of.lies.take n
  rw [lent_take l n HN.out] at tk
  have TK := Lib.hid tk
  have n0 : n ≤ maxLen := by unfold maxLen; omega
  have N0 := Lib.hid n0
  clear tk g7 G6 n0
  go_wp2_with fail
  refine (lawSmall_v _ _ _ l v k _ TK.out HN.out N0.out HK.out).mono ?_
  rintro e w' ⟨rfl, rfl⟩
  go_wp2_with fail
  refine (width_any v k HK.out _).mono ?_
  rintro e w' ⟨rfl, rfl⟩
  go_wp2_with fail
  refine (refSmall_v _ _ _ k l _ (HA.out.grown G7.out) HN.out N0.out hk8).mono ?_
  rintro e w' ⟨rfl, rfl⟩
  go_wp2_with fail
  refine (kept_yes _ _ _ _ n _ l _ of.lies (HA.out.grown G7.out) HN.out rfl (by omega)).mono ?_
  rintro e w8 ⟨rfl, g8⟩
  go_wp2_with fail
  go_ret
  exact ⟨rfl, grownBy_trans G7.out g8⟩

end Go.Proofs.Ythemlaibjchjpaa
