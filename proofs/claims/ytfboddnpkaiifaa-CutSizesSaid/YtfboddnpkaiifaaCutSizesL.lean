/- The law CutSizes. -/
import Derived.Test.YtfboddnpkaiifaaCutAwake
import Derived.Test.YtfboddnpkaiifaaCutRefSize
import Derived.Test.YtfboddnpkaiifaaCutCoverW
namespace Go.Proofs.Ytfboddnpkaiifaa
open Go.RowKit

set_option maxRecDepth 100000 in
set_option maxHeartbeats 4000000 in
theorem sizes_walk (s : Sh) (hs : s.Wf) (j a m : Int) (ha : i64ok a) (hm : i64ok m) (w : World) : Calls Try.prog 9 #[s.val, .int .i64 j, .int .i64 a, .int .i64 m] w fun e w' => e = .returned (.bool true) ∧ w.grownBy w' none := by
  have h1 := segsize_n s hs j
  have h2 := blocksize_n s hs j
  have h3 := cover_n s hs a m ha hm
  have h4 := refSegSize_n s hs j
  have h5 := refBlockSize_n s hs j
  have h6 := refCover_n s hs a m ha hm
  generalize szV s j s.seg s.tail = V1 at h1 h4
  generalize szV s j s.block s.last = V2 at h2 h5
  generalize szE s j = E1 at h1 h2 h4 h5
  generalize cvA s a m = C1 at h3 h6
  generalize cvB s a m = C2 at h3 h6
  generalize cvE s a m = E2 at h3 h6
  have H1 := Lib.hid h1
  have H2 := Lib.hid h2
  have H3 := Lib.hid h3
  have H4 := Lib.hid h4
  have H5 := Lib.hid h5
  have H6 := Lib.hid h6
  clear h1 h2 h3 h4 h5 h6 ha hm hs
  obtain ⟨k, n, g, z, sg, t, b, l⟩ := s
  unfold Sh.val at H1 H2 H3 H4 H5 H6 ⊢
  go_enter Try.func9, Try.ntmps9
  have HP0 := Lib.hid (heap_alloc_new w (.cells #[.int .i64 k, .int .i64 n, .int .i64 g, .int .i64 z, .int .i64 sg, .int .i64 t, .int .i64 b, .int .i64 l] 47))
  have HG0 := Lib.hid (World.grownBy_alloc w (.cells #[.int .i64 k, .int .i64 n, .int .i64 g, .int .i64 z, .int .i64 sg, .int .i64 t, .int .i64 b, .int .i64 l] 47) none)
  go_wp2_with (first | (refine wpList_load_row rfl 47 _ rfl w.heap.size rfl 47 #[.int .i64 k, .int .i64 n, .int .i64 g, .int .i64 z, .int .i64 sg, .int .i64 t, .int .i64 b, .int .i64 l] (0, 0) _ HP0.out Try.underlying47 rfl size_shape ?_))
  refine (H1.out _).mono ?_
  rintro e w1 ⟨rfl, hg1⟩
  have HP1 := Lib.hid (heap_grown HP0.out hg1)
  have HG1 := Lib.hid (grownBy_trans HG0.out hg1)
  clear hg1 HP0 HG0
  go_wp2_with (first | (refine wpList_load_row rfl 47 _ rfl w.heap.size rfl 47 #[.int .i64 k, .int .i64 n, .int .i64 g, .int .i64 z, .int .i64 sg, .int .i64 t, .int .i64 b, .int .i64 l] (0, 0) _ HP1.out Try.underlying47 rfl size_shape ?_))
  refine (H2.out _).mono ?_
  rintro e w2 ⟨rfl, hg2⟩
  have HP2 := Lib.hid (heap_grown HP1.out hg2)
  have HG2 := Lib.hid (grownBy_trans HG1.out hg2)
  clear hg2 HP1 HG1
  go_wp2_with (first | (refine wpList_load_row rfl 47 _ rfl w.heap.size rfl 47 #[.int .i64 k, .int .i64 n, .int .i64 g, .int .i64 z, .int .i64 sg, .int .i64 t, .int .i64 b, .int .i64 l] (0, 0) _ HP2.out Try.underlying47 rfl size_shape ?_))
  refine (H3.out _).mono ?_
  rintro e w3 ⟨rfl, hg3⟩
  have HP3 := Lib.hid (heap_grown HP2.out hg3)
  have HG3 := Lib.hid (grownBy_trans HG2.out hg3)
  clear hg3 HP2 HG2
  go_wp2_with (first | (refine wpList_load_row rfl 47 _ rfl w.heap.size rfl 47 #[.int .i64 k, .int .i64 n, .int .i64 g, .int .i64 z, .int .i64 sg, .int .i64 t, .int .i64 b, .int .i64 l] (0, 0) _ HP3.out Try.underlying47 rfl size_shape ?_))
  refine (H4.out _).mono ?_
  rintro e w4 ⟨rfl, hg4⟩
  have HP4 := Lib.hid (heap_grown HP3.out hg4)
  have HG4 := Lib.hid (grownBy_trans HG3.out hg4)
  clear hg4 HP3 HG3
  go_wp2_with (first | (refine wpList_load_row rfl 47 _ rfl w.heap.size rfl 47 #[.int .i64 k, .int .i64 n, .int .i64 g, .int .i64 z, .int .i64 sg, .int .i64 t, .int .i64 b, .int .i64 l] (0, 0) _ HP4.out Try.underlying47 rfl size_shape ?_))
  refine (H5.out _).mono ?_
  rintro e w5 ⟨rfl, hg5⟩
  have HP5 := Lib.hid (heap_grown HP4.out hg5)
  have HG5 := Lib.hid (grownBy_trans HG4.out hg5)
  clear hg5 HP4 HG4
  go_wp2_with (first | (refine wpList_load_row rfl 47 _ rfl w.heap.size rfl 47 #[.int .i64 k, .int .i64 n, .int .i64 g, .int .i64 z, .int .i64 sg, .int .i64 t, .int .i64 b, .int .i64 l] (0, 0) _ HP5.out Try.underlying47 rfl size_shape ?_))
  refine (H6.out _).mono ?_
  rintro e w6 ⟨rfl, hg6⟩
  have HP6 := Lib.hid (heap_grown HP5.out hg6)
  have HG6 := Lib.hid (grownBy_trans HG5.out hg6)
  clear hg6 HP5 HG5
  go_wp2_with fail
  refine (awake_n _).mono ?_
  rintro e w7 ⟨rfl, hg7⟩
  have HG7 := Lib.hid (grownBy_trans HG6.out hg7)
  clear hg7
  go_wp2_with fail
  refine bodyPost_ret (by simp [*, results, Try.results9, go_sem]; try rfl) rfl ?_
  exact ⟨rfl, HG7.out⟩

end Go.Proofs.Ytfboddnpkaiifaa
