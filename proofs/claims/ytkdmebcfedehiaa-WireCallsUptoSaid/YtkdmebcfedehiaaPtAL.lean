/- Helpers and contracts of the proofs over this seat: WireRefQ, WireFits, WireRefF, WireRefXN, AskB, SameLists. Each states what a function of the program answers, or is plain Lean; its conditions stand in each statement. -/
import Derived.Test.YtkdmebcfedehiaaPtAA
import Derived.Test.YtkdmebcfedehiaaPtAB
import Derived.Test.YtkdmebcfedehiaaPtAC
import Derived.Test.YtkdmebcfedehiaaPtAD
import Derived.Test.YtkdmebcfedehiaaPtAE
import Derived.Test.YtkdmebcfedehiaaPtAF
import Derived.Test.YtkdmebcfedehiaaPtAG
import Derived.Test.YtkdmebcfedehiaaPtAH
import Derived.Test.YtkdmebcfedehiaaPtAI
import Derived.Test.YtkdmebcfedehiaaPtAJ
import Derived.Test.YtkdmebcfedehiaaPtAK
set_option linter.unusedVariables false
/- The document's PutRequest (strongroomref20). Printed by gens/wireref_q.py. -/
namespace Go.Proofs.Ytkdmebcfedehiaa
open Go.RowKit

theorem rq_ixL {w : World} {g : Nat} {q : Rq} {s : Value} (h : Row w g 43 (rqC q s)) : BLies w (some ⟨g, 1, none⟩) q.ix := by
  intro k hk
  refine ⟨g, 1, rfl, ?_⟩
  rw [rq_ixr h k (bval q.ix[k]) (by simp [hk])]
  rfl
set_option maxRecDepth 100000 in
set_option maxHeartbeats 4000000 in
theorem refPutQ_no (q : Rq) (a : Option Addr) (n c : Nat) (w : World) (hx : q.ix.length = 16) (hk : q.kind < 256) (hbs : BLies w a q.bytes) (hn : q.bytes.length = n) (hok : LeaseOk q.who q.till) (hnm : n ≤ maxLen) (hmay : ¬ MayQ q) :
    Calls Try.prog 36 #[.agg (rqC q (.slice a n c))] w fun e w' => ∃ a' n' c', e = .returned (.tuple #[.slice a' n' c', .int .i64 (putQE q)]) ∧ BOwn w' w.heap.size a' n' c' (putQL q) ∧ w.grownBy w' none := by
  have hL : putQL q = [] := if_neg hmay
  have hE : putQE q = 200 := if_neg hmay
  have hd : decide (MayQ q) = false := decide_eq_false hmay
  rw [hL, hE]
  have hma := fun W => refMayQ_n q a n c W hx hn hok hnm
  rw [hd] at hma
  have HMA := Lib.hid hma
  have HBS := Lib.hid hbs
  have HN := Lib.hid hn
  have HX := Lib.hid hx
  clear hL hE hd hma hbs hn hx hnm
  go_enter Try.func36, Try.ntmps36
  go_upto_region 1 with (refine wpList_boxed rfl rfl (rqC q (.slice a n c)) rfl ?_; intro wb hs g hr; have HG := Lib.hid g; have HB := Lib.hid (show Row wb w.heap.size 43 (rqC q (.slice a n c)) from hr); clear hs g hr)
  obtain ⟨bx, hbx⟩ : ∃ bx, bx = w.heap.size := ⟨_, rfl⟩
  rw [← hbx] at HB ⊢
  clear hbx
  go_wp2_with (refine wpList_load_row rfl 43 _ rfl bx rfl 43 (rqC q (.slice a n c)) (0, 0) _ HB.out Try.underlying43 rfl (by rw [size_req]; exact congrArg some (rq_len q _ HX.out).symm) ?_)
  refine (HMA.out wb).mono ?_
  rintro e w1 ⟨rfl, g⟩
  have HG1 := Lib.hid g
  have HB1 := Lib.hid (HB.out.grown g)
  clear g
  go_wp2_with fail
  go_ret2
  exact ⟨_, _, _, rfl, Own.nil _ _ _ _ _, grownBy_trans HG.out HG1.out⟩
set_option maxRecDepth 100000 in
set_option maxHeartbeats 4000000 in
theorem refPutQ_1 (q : Rq) (a : Option Addr) (n c : Nat) (w : World) (hx : q.ix.length = 16) (hk : q.kind < 256) (hbs : BLies w a q.bytes) (hn : q.bytes.length = n) (hok : LeaseOk q.who q.till) (hnm : n ≤ maxLen) (hmay : MayQ q) (hkk : q.kind = 1) :
    Calls Try.prog 36 #[.agg (rqC q (.slice a n c))] w fun e w' => ∃ a' n' c', e = .returned (.tuple #[.slice a' n' c', .int .i64 (putQE q)]) ∧ BOwn w' w.heap.size a' n' c' (putQL q) ∧ w.grownBy w' none := by
  have hL : putQL q = encQ q := if_pos hmay
  have hE : putQE q = 0 := if_pos hmay
  have hd : decide (MayQ q) = true := decide_eq_true hmay
  rw [hL, hE]
  have hma := fun W => refMayQ_n q a n c W hx hn hok hnm
  rw [hd] at hma
  have HMA := Lib.hid hma
  have HBS := Lib.hid hbs
  have HN := Lib.hid hn
  have HX := Lib.hid hx
  clear hL hE hd hma hbs hn hx hnm
  have HEN := Lib.hid (show encQ q = [UInt8.ofNat q.kind] ++ q.ix from by unfold encQ; simp only [hkk] <;> simp)
  have hok2 := hok
  unfold LeaseOk at hok2
  unfold MayQ at hmay
  have hnn := HN.out
  have HLE := Lib.hid (show (encQ q).length ≤ 40000000 from by rw [HEN.out]; simp [HX.out] <;> omega)
  obtain ⟨T, hT⟩ : ∃ T : Nat, T = q.till.toNat := ⟨_, rfl⟩
  obtain ⟨P, hP⟩ : ∃ P : Nat, P = q.pos.toNat := ⟨_, rfl⟩
  obtain ⟨E, hE⟩ : ∃ E : Nat, E = q.len.toNat := ⟨_, rfl⟩
  obtain ⟨KK, hK⟩ : ∃ KK : Int, (q.kind : Int) = KK := ⟨_, rfl⟩
  have HKq := Lib.hid hK
  have kq2 : (KK == 2) = false := by rw [beq_eq_false_iff_ne]; omega
  have kq3 : (KK == 3) = false := by rw [beq_eq_false_iff_ne]; omega
  have kq4 : (KK == 4) = false := by rw [beq_eq_false_iff_ne]; omega
  have kq5 : (KK == 5) = false := by rw [beq_eq_false_iff_ne]; omega
  have HBV := Lib.hid (show bval (UInt8.ofNat q.kind) = .int .u8 KK from by rw [bval_nat _ hk, hK])
  have HTT := Lib.hid hT
  have HPP := Lib.hid hP
  have HEE := Lib.hid hE
  have HOK := Lib.hid hok
  clear hok hok2 hmay hnn hT hP hE hK hk hkk
  go_enter Try.func36, Try.ntmps36
  go_upto_region 1 with (refine wpList_boxed rfl rfl (rqC q (.slice a n c)) rfl ?_; intro wb hs g hr; have HG := Lib.hid g; have HB := Lib.hid (show Row wb w.heap.size 43 (rqC q (.slice a n c)) from hr); clear hs g hr)
  obtain ⟨bx, hbx⟩ : ∃ bx, bx = w.heap.size := ⟨_, rfl⟩
  rw [← hbx] at HB ⊢
  clear hbx
  go_wp2_with (refine wpList_load_row rfl 43 _ rfl bx rfl 43 (rqC q (.slice a n c)) (0, 0) _ HB.out Try.underlying43 rfl (by rw [size_req]; exact congrArg some (rq_len q _ HX.out).symm) ?_)
  refine (HMA.out wb).mono ?_
  rintro e w1 ⟨rfl, g⟩
  have HG1 := Lib.hid g
  have HB1 := Lib.hid (HB.out.grown g)
  clear g
  have k0 := rq_kind HB1.out
  rw [HKq.out] at k0
  go_upto_region 4 with fail
  obtain ⟨W2, hW2⟩ : ∃ W2, W2 = w1.alloc (.cells #[.int .u8 KK] 5) := ⟨_, rfl⟩
  rw [← hW2]
  have HA2 : Hid (Acc wb W2 (some ⟨w1.heap.size, 0, none⟩) 1 1 [UInt8.ofNat q.kind]) := Lib.hid (by rw [hW2]; exact Acc.one HG1.out HBV.out.symm)
  have HB2 := Lib.hid (HB.out.grown HA2.out.2)
  clear k0 hW2
  go_upto_region 5 with (at_builtin; refine wpList_accA rfl (.tmp 11) (.tmp 13) rfl q.ix rfl rfl HA2.out (rq_ixL HB2.out) HX.out (by simp) ?_; intro a3 n3 k3 w3 h3; have HA3 := Lib.hid h3; clear h3)
  have HB3 := Lib.hid (HB.out.grown HA3.out.2)
  have k0 := rq_kind HB3.out
  rw [HKq.out] at k0
  go_wp2_with fail
  go_ret2
  refine ⟨_, _, _, rfl, ?_, grownBy_trans HG.out HA3.out.2⟩
  have h := HA3.out.1
  rw [HEN.out]
  try simp only [← HTT.out, ← HPP.out, ← HEE.out]
  exact h.mono HG.out.size
set_option maxRecDepth 100000 in
set_option maxHeartbeats 4000000 in
theorem refPutQ_2 (q : Rq) (a : Option Addr) (n c : Nat) (w : World) (hx : q.ix.length = 16) (hk : q.kind < 256) (hbs : BLies w a q.bytes) (hn : q.bytes.length = n) (hok : LeaseOk q.who q.till) (hnm : n ≤ maxLen) (hmay : MayQ q) (hkk : q.kind = 2) :
    Calls Try.prog 36 #[.agg (rqC q (.slice a n c))] w fun e w' => ∃ a' n' c', e = .returned (.tuple #[.slice a' n' c', .int .i64 (putQE q)]) ∧ BOwn w' w.heap.size a' n' c' (putQL q) ∧ w.grownBy w' none := by
  have hL : putQL q = encQ q := if_pos hmay
  have hE : putQE q = 0 := if_pos hmay
  have hd : decide (MayQ q) = true := decide_eq_true hmay
  rw [hL, hE]
  have hma := fun W => refMayQ_n q a n c W hx hn hok hnm
  rw [hd] at hma
  have HMA := Lib.hid hma
  have HBS := Lib.hid hbs
  have HN := Lib.hid hn
  have HX := Lib.hid hx
  clear hL hE hd hma hbs hn hx hnm
  have HEN := Lib.hid (show encQ q = ((((([UInt8.ofNat q.kind] ++ q.ix) ++ [numB q.number]) ++ bigL 4 q.who) ++ bigL 8 q.till.toNat) ++ bigL 4 n) ++ q.bytes from by unfold encQ; simp only [hkk] <;> simp [HN.out])
  have hok2 := hok
  unfold LeaseOk at hok2
  unfold MayQ at hmay
  have hnn := HN.out
  have HLE := Lib.hid (show (encQ q).length ≤ 40000000 from by rw [HEN.out]; simp [bigL_length, HX.out] <;> omega)
  obtain ⟨T, hT⟩ : ∃ T : Nat, T = q.till.toNat := ⟨_, rfl⟩
  obtain ⟨P, hP⟩ : ∃ P : Nat, P = q.pos.toNat := ⟨_, rfl⟩
  obtain ⟨E, hE⟩ : ∃ E : Nat, E = q.len.toNat := ⟨_, rfl⟩
  obtain ⟨KK, hK⟩ : ∃ KK : Int, (q.kind : Int) = KK := ⟨_, rfl⟩
  have HKq := Lib.hid hK
  have kq2 : (KK == 2) = true := by rw [beq_iff_eq]; omega
  have HNB := Lib.hid (show bval (numB q.number) = .int .u8 q.number from bval_numB (by omega) (by omega))
  have hwn : IntKind.u8.wrap q.number = q.number := by rw [show IntKind.u8.wrap q.number = q.number % 256 from rfl]; omega
  have hww : IntKind.i64.wrap (q.who : Int) = (q.who : Int) := IntWalk.i64_in _ (by omega)
  have hwb : q.who ≤ 9223372036854775807 := by omega
  have hTl : q.till = (T : Int) := by omega
  have HTL := Lib.hid hTl
  have hTb : T ≤ 9223372036854775807 := by omega
  clear hTl
  have hnb : n ≤ 9223372036854775807 := by omega
  have HBV := Lib.hid (show bval (UInt8.ofNat q.kind) = .int .u8 KK from by rw [bval_nat _ hk, hK])
  have HTT := Lib.hid hT
  have HPP := Lib.hid hP
  have HEE := Lib.hid hE
  have HOK := Lib.hid hok
  clear hok hok2 hmay hnn hT hP hE hK hk hkk
  go_enter Try.func36, Try.ntmps36
  go_upto_region 1 with (refine wpList_boxed rfl rfl (rqC q (.slice a n c)) rfl ?_; intro wb hs g hr; have HG := Lib.hid g; have HB := Lib.hid (show Row wb w.heap.size 43 (rqC q (.slice a n c)) from hr); clear hs g hr)
  obtain ⟨bx, hbx⟩ : ∃ bx, bx = w.heap.size := ⟨_, rfl⟩
  rw [← hbx] at HB ⊢
  clear hbx
  go_wp2_with (refine wpList_load_row rfl 43 _ rfl bx rfl 43 (rqC q (.slice a n c)) (0, 0) _ HB.out Try.underlying43 rfl (by rw [size_req]; exact congrArg some (rq_len q _ HX.out).symm) ?_)
  refine (HMA.out wb).mono ?_
  rintro e w1 ⟨rfl, g⟩
  have HG1 := Lib.hid g
  have HB1 := Lib.hid (HB.out.grown g)
  clear g
  have k0 := rq_kind HB1.out
  rw [HKq.out] at k0
  go_upto_region 4 with fail
  obtain ⟨W2, hW2⟩ : ∃ W2, W2 = w1.alloc (.cells #[.int .u8 KK] 5) := ⟨_, rfl⟩
  rw [← hW2]
  have HA2 : Hid (Acc wb W2 (some ⟨w1.heap.size, 0, none⟩) 1 1 [UInt8.ofNat q.kind]) := Lib.hid (by rw [hW2]; exact Acc.one HG1.out HBV.out.symm)
  have HB2 := Lib.hid (HB.out.grown HA2.out.2)
  clear k0 hW2
  go_upto_region 5 with (at_builtin; refine wpList_accA rfl (.tmp 11) (.tmp 13) rfl q.ix rfl rfl HA2.out (rq_ixL HB2.out) HX.out (by simp) ?_; intro a3 n3 k3 w3 h3; have HA3 := Lib.hid h3; clear h3)
  have HB3 := Lib.hid (HB.out.grown HA3.out.2)
  have k0 := rq_kind HB3.out
  rw [HKq.out] at k0
  have x0 := rq_cell HB3.out HX.out 0
  simp at x0
  have hll : (([UInt8.ofNat q.kind] ++ q.ix)).length ≤ 40000000 := by have h1 := HLE.out; rw [HEN.out] at h1; simp only [List.length_append, bigL_length] at h1 ⊢; omega
  have HLL := Lib.hid hll
  clear hll
  go_upto_region 8 with (at_builtin; refine wpList_accP rfl (.tmp 19) (.tmp 23) rfl rfl rfl HA3.out (numB q.number) (HNB.out.symm) (by have := HLL.out; omega) ?_; intro a4 n4 k4 w4 h; have HA4 := Lib.hid h; clear h)
  clear k0
  clear x0
  have HB4 := Lib.hid (HB.out.grown HA4.out.2)
  have x3 := rq_cell HB4.out HX.out 3
  simp at x3
  have hll : ((([UInt8.ofNat q.kind] ++ q.ix) ++ [numB q.number])).length ≤ 40000000 := by have h1 := HLE.out; rw [HEN.out] at h1; simp only [List.length_append, bigL_length] at h1 ⊢; omega
  have HLL := Lib.hid hll
  clear hll
  go_upto_region 9 with (first
    | (go_at_call 61; refine (refBig_n q.who 4 (by omega) (by omega) _).mono ?_; rintro e u4 ⟨g4, q4, rfl, ho, hg⟩; have HO4 := Lib.hid ho; have HU4 := Lib.hid (HA4.out.grown hg); clear ho hg)
    | (at_builtin; refine wpList_accA rfl (.tmp 25) (.tmp 30) rfl (bigL 4 q.who) rfl rfl HU4.out HO4.out.lies (bigL_length _ _) (by have := HLL.out; omega) ?_; intro a5 n5 k5 w5 h; have HA5 := Lib.hid h; clear h))
  clear x3
  have HB5 := Lib.hid (HB.out.grown HA5.out.2)
  have x4 := rq_cell HB5.out HX.out 4
  simp at x4
  rw [HTL.out] at x4
  have hll : (((([UInt8.ofNat q.kind] ++ q.ix) ++ [numB q.number]) ++ bigL 4 q.who)).length ≤ 40000000 := by have h1 := HLE.out; rw [HEN.out] at h1; simp only [List.length_append, bigL_length] at h1 ⊢; omega
  have HLL := Lib.hid hll
  clear hll
  go_upto_region 10 with (first
    | (go_at_call 61; refine (refBig_n T 8 (by omega) (by omega) _).mono ?_; rintro e u5 ⟨g5, q5, rfl, ho, hg⟩; have HO5 := Lib.hid ho; have HU5 := Lib.hid (HA5.out.grown hg); clear ho hg)
    | (at_builtin; refine wpList_accA rfl (.tmp 32) (.tmp 36) rfl (bigL 8 T) rfl rfl HU5.out HO5.out.lies (bigL_length _ _) (by have := HLL.out; omega) ?_; intro a6 n6 k6 w6 h; have HA6 := Lib.hid h; clear h))
  clear x4
  have HB6 := Lib.hid (HB.out.grown HA6.out.2)
  have x5 := rq_cell HB6.out HX.out 5
  simp at x5
  have hll : ((((([UInt8.ofNat q.kind] ++ q.ix) ++ [numB q.number]) ++ bigL 4 q.who) ++ bigL 8 T)).length ≤ 40000000 := by have h1 := HLE.out; rw [HEN.out] at h1; simp only [List.length_append, bigL_length] at h1 ⊢; omega
  have HLL := Lib.hid hll
  clear hll
  go_upto_region 11 with (first
    | (go_at_call 61; refine (refBig_n n 4 (by omega) (by omega) _).mono ?_; rintro e u6 ⟨g6, q6, rfl, ho, hg⟩; have HO6 := Lib.hid ho; have HU6 := Lib.hid (HA6.out.grown hg); clear ho hg)
    | (at_builtin; refine wpList_accA rfl (.tmp 38) (.tmp 42) rfl (bigL 4 n) rfl rfl HU6.out HO6.out.lies (bigL_length _ _) (by have := HLL.out; omega) ?_; intro a7 n7 k7 w7 h; have HA7 := Lib.hid h; clear h))
  clear x5
  have HB7 := Lib.hid (HB.out.grown HA7.out.2)
  have x5 := rq_cell HB7.out HX.out 5
  simp at x5
  have hll : (((((([UInt8.ofNat q.kind] ++ q.ix) ++ [numB q.number]) ++ bigL 4 q.who) ++ bigL 8 T) ++ bigL 4 n)).length ≤ 40000000 := by have h1 := HLE.out; rw [HEN.out] at h1; simp only [List.length_append, bigL_length] at h1 ⊢; omega
  have HLL := Lib.hid hll
  clear hll
  go_wp2_with (at_builtin; refine wpList_accA rfl (.tmp 44) (.tmp 46) rfl q.bytes rfl rfl HA7.out ((HBS.out.grown HG.out).grown HA7.out.2) HN.out (by have h1 := HLL.out; have h2 := HLE.out; rw [HEN.out] at h2; simp only [List.length_append, bigL_length] at h1 h2 ⊢; have := HN.out; omega) ?_; intro a8 n8 k8 w8 h; have HA8 := Lib.hid h; clear h)
  clear x5
  go_ret2
  refine ⟨_, _, _, rfl, ?_, grownBy_trans HG.out HA8.out.2⟩
  have h := HA8.out.1
  rw [HEN.out]
  try simp only [← HTT.out]
  exact h.mono HG.out.size
set_option maxRecDepth 100000 in
set_option maxHeartbeats 4000000 in
theorem refPutQ_3 (q : Rq) (a : Option Addr) (n c : Nat) (w : World) (hx : q.ix.length = 16) (hk : q.kind < 256) (hbs : BLies w a q.bytes) (hn : q.bytes.length = n) (hok : LeaseOk q.who q.till) (hnm : n ≤ maxLen) (hmay : MayQ q) (hkk : q.kind = 3) :
    Calls Try.prog 36 #[.agg (rqC q (.slice a n c))] w fun e w' => ∃ a' n' c', e = .returned (.tuple #[.slice a' n' c', .int .i64 (putQE q)]) ∧ BOwn w' w.heap.size a' n' c' (putQL q) ∧ w.grownBy w' none := by
  have hL : putQL q = encQ q := if_pos hmay
  have hE : putQE q = 0 := if_pos hmay
  have hd : decide (MayQ q) = true := decide_eq_true hmay
  rw [hL, hE]
  have hma := fun W => refMayQ_n q a n c W hx hn hok hnm
  rw [hd] at hma
  have HMA := Lib.hid hma
  have HBS := Lib.hid hbs
  have HN := Lib.hid hn
  have HX := Lib.hid hx
  clear hL hE hd hma hbs hn hx hnm
  have HEN := Lib.hid (show encQ q = ((([UInt8.ofNat q.kind] ++ q.ix) ++ [numB q.number]) ++ bigL 4 q.pos.toNat) ++ bigL 4 q.len.toNat from by unfold encQ; simp only [hkk] <;> simp)
  have hok2 := hok
  unfold LeaseOk at hok2
  unfold MayQ at hmay
  have hnn := HN.out
  have HLE := Lib.hid (show (encQ q).length ≤ 40000000 from by rw [HEN.out]; simp [bigL_length, HX.out] <;> omega)
  obtain ⟨T, hT⟩ : ∃ T : Nat, T = q.till.toNat := ⟨_, rfl⟩
  obtain ⟨P, hP⟩ : ∃ P : Nat, P = q.pos.toNat := ⟨_, rfl⟩
  obtain ⟨E, hE⟩ : ∃ E : Nat, E = q.len.toNat := ⟨_, rfl⟩
  obtain ⟨KK, hK⟩ : ∃ KK : Int, (q.kind : Int) = KK := ⟨_, rfl⟩
  have HKq := Lib.hid hK
  have kq2 : (KK == 2) = false := by rw [beq_eq_false_iff_ne]; omega
  have kq3 : (KK == 3) = true := by rw [beq_iff_eq]; omega
  have HNB := Lib.hid (show bval (numB q.number) = .int .u8 q.number from bval_numB (by omega) (by omega))
  have hwn : IntKind.u8.wrap q.number = q.number := by rw [show IntKind.u8.wrap q.number = q.number % 256 from rfl]; omega
  have hPl : q.pos = (P : Int) := by omega
  have HPL := Lib.hid hPl
  have hPb : P ≤ 9223372036854775807 := by omega
  clear hPl
  have hEl : q.len = (E : Int) := by omega
  have HEL := Lib.hid hEl
  have hEb : E ≤ 9223372036854775807 := by omega
  clear hEl
  have HBV := Lib.hid (show bval (UInt8.ofNat q.kind) = .int .u8 KK from by rw [bval_nat _ hk, hK])
  have HTT := Lib.hid hT
  have HPP := Lib.hid hP
  have HEE := Lib.hid hE
  have HOK := Lib.hid hok
  clear hok hok2 hmay hnn hT hP hE hK hk hkk
  go_enter Try.func36, Try.ntmps36
  go_upto_region 1 with (refine wpList_boxed rfl rfl (rqC q (.slice a n c)) rfl ?_; intro wb hs g hr; have HG := Lib.hid g; have HB := Lib.hid (show Row wb w.heap.size 43 (rqC q (.slice a n c)) from hr); clear hs g hr)
  obtain ⟨bx, hbx⟩ : ∃ bx, bx = w.heap.size := ⟨_, rfl⟩
  rw [← hbx] at HB ⊢
  clear hbx
  go_wp2_with (refine wpList_load_row rfl 43 _ rfl bx rfl 43 (rqC q (.slice a n c)) (0, 0) _ HB.out Try.underlying43 rfl (by rw [size_req]; exact congrArg some (rq_len q _ HX.out).symm) ?_)
  refine (HMA.out wb).mono ?_
  rintro e w1 ⟨rfl, g⟩
  have HG1 := Lib.hid g
  have HB1 := Lib.hid (HB.out.grown g)
  clear g
  have k0 := rq_kind HB1.out
  rw [HKq.out] at k0
  go_upto_region 4 with fail
  obtain ⟨W2, hW2⟩ : ∃ W2, W2 = w1.alloc (.cells #[.int .u8 KK] 5) := ⟨_, rfl⟩
  rw [← hW2]
  have HA2 : Hid (Acc wb W2 (some ⟨w1.heap.size, 0, none⟩) 1 1 [UInt8.ofNat q.kind]) := Lib.hid (by rw [hW2]; exact Acc.one HG1.out HBV.out.symm)
  have HB2 := Lib.hid (HB.out.grown HA2.out.2)
  clear k0 hW2
  go_upto_region 5 with (at_builtin; refine wpList_accA rfl (.tmp 11) (.tmp 13) rfl q.ix rfl rfl HA2.out (rq_ixL HB2.out) HX.out (by simp) ?_; intro a3 n3 k3 w3 h3; have HA3 := Lib.hid h3; clear h3)
  have HB3 := Lib.hid (HB.out.grown HA3.out.2)
  have k0 := rq_kind HB3.out
  rw [HKq.out] at k0
  have x0 := rq_cell HB3.out HX.out 0
  simp at x0
  have hll : (([UInt8.ofNat q.kind] ++ q.ix)).length ≤ 40000000 := by have h1 := HLE.out; rw [HEN.out] at h1; simp only [List.length_append, bigL_length] at h1 ⊢; omega
  have HLL := Lib.hid hll
  clear hll
  go_upto_region 14 with (at_builtin; refine wpList_accP rfl (.tmp 50) (.tmp 54) rfl rfl rfl HA3.out (numB q.number) (HNB.out.symm) (by have := HLL.out; omega) ?_; intro a4 n4 k4 w4 h; have HA4 := Lib.hid h; clear h)
  clear k0
  clear x0
  have HB4 := Lib.hid (HB.out.grown HA4.out.2)
  have x1 := rq_cell HB4.out HX.out 1
  simp at x1
  rw [HPL.out] at x1
  have hll : ((([UInt8.ofNat q.kind] ++ q.ix) ++ [numB q.number])).length ≤ 40000000 := by have h1 := HLE.out; rw [HEN.out] at h1; simp only [List.length_append, bigL_length] at h1 ⊢; omega
  have HLL := Lib.hid hll
  clear hll
  go_upto_region 15 with (first
    | (go_at_call 61; refine (refBig_n P 4 (by omega) (by omega) _).mono ?_; rintro e u4 ⟨g4, q4, rfl, ho, hg⟩; have HO4 := Lib.hid ho; have HU4 := Lib.hid (HA4.out.grown hg); clear ho hg)
    | (at_builtin; refine wpList_accA rfl (.tmp 56) (.tmp 59) rfl (bigL 4 P) rfl rfl HU4.out HO4.out.lies (bigL_length _ _) (by have := HLL.out; omega) ?_; intro a5 n5 k5 w5 h; have HA5 := Lib.hid h; clear h))
  clear x1
  have HB5 := Lib.hid (HB.out.grown HA5.out.2)
  have x2 := rq_cell HB5.out HX.out 2
  simp at x2
  rw [HEL.out] at x2
  have hll : (((([UInt8.ofNat q.kind] ++ q.ix) ++ [numB q.number]) ++ bigL 4 P)).length ≤ 40000000 := by have h1 := HLE.out; rw [HEN.out] at h1; simp only [List.length_append, bigL_length] at h1 ⊢; omega
  have HLL := Lib.hid hll
  clear hll
  go_wp2_with (first
    | (go_at_call 61; refine (refBig_n E 4 (by omega) (by omega) _).mono ?_; rintro e u5 ⟨g5, q5, rfl, ho, hg⟩; have HO5 := Lib.hid ho; have HU5 := Lib.hid (HA5.out.grown hg); clear ho hg)
    | (at_builtin; refine wpList_accA rfl (.tmp 61) (.tmp 64) rfl (bigL 4 E) rfl rfl HU5.out HO5.out.lies (bigL_length _ _) (by have := HLL.out; omega) ?_; intro a6 n6 k6 w6 h; have HA6 := Lib.hid h; clear h))
  clear x2
  go_ret2
  refine ⟨_, _, _, rfl, ?_, grownBy_trans HG.out HA6.out.2⟩
  have h := HA6.out.1
  rw [HEN.out]
  try simp only [← HPP.out, ← HEE.out]
  exact h.mono HG.out.size
set_option maxRecDepth 100000 in
set_option maxHeartbeats 4000000 in
theorem refPutQ_4 (q : Rq) (a : Option Addr) (n c : Nat) (w : World) (hx : q.ix.length = 16) (hk : q.kind < 256) (hbs : BLies w a q.bytes) (hn : q.bytes.length = n) (hok : LeaseOk q.who q.till) (hnm : n ≤ maxLen) (hmay : MayQ q) (hkk : q.kind = 4) :
    Calls Try.prog 36 #[.agg (rqC q (.slice a n c))] w fun e w' => ∃ a' n' c', e = .returned (.tuple #[.slice a' n' c', .int .i64 (putQE q)]) ∧ BOwn w' w.heap.size a' n' c' (putQL q) ∧ w.grownBy w' none := by
  have hL : putQL q = encQ q := if_pos hmay
  have hE : putQE q = 0 := if_pos hmay
  have hd : decide (MayQ q) = true := decide_eq_true hmay
  rw [hL, hE]
  have hma := fun W => refMayQ_n q a n c W hx hn hok hnm
  rw [hd] at hma
  have HMA := Lib.hid hma
  have HBS := Lib.hid hbs
  have HN := Lib.hid hn
  have HX := Lib.hid hx
  clear hL hE hd hma hbs hn hx hnm
  have HEN := Lib.hid (show encQ q = (([UInt8.ofNat q.kind] ++ q.ix) ++ bigL 4 q.who) ++ bigL 8 q.till.toNat from by unfold encQ; simp only [hkk] <;> simp)
  have hok2 := hok
  unfold LeaseOk at hok2
  unfold MayQ at hmay
  have hnn := HN.out
  have HLE := Lib.hid (show (encQ q).length ≤ 40000000 from by rw [HEN.out]; simp [bigL_length, HX.out] <;> omega)
  obtain ⟨T, hT⟩ : ∃ T : Nat, T = q.till.toNat := ⟨_, rfl⟩
  obtain ⟨P, hP⟩ : ∃ P : Nat, P = q.pos.toNat := ⟨_, rfl⟩
  obtain ⟨E, hE⟩ : ∃ E : Nat, E = q.len.toNat := ⟨_, rfl⟩
  obtain ⟨KK, hK⟩ : ∃ KK : Int, (q.kind : Int) = KK := ⟨_, rfl⟩
  have HKq := Lib.hid hK
  have kq2 : (KK == 2) = false := by rw [beq_eq_false_iff_ne]; omega
  have kq3 : (KK == 3) = false := by rw [beq_eq_false_iff_ne]; omega
  have kq4 : (KK == 4) = true := by rw [beq_iff_eq]; omega
  have hww : IntKind.i64.wrap (q.who : Int) = (q.who : Int) := IntWalk.i64_in _ (by omega)
  have hwb : q.who ≤ 9223372036854775807 := by omega
  have hTl : q.till = (T : Int) := by omega
  have HTL := Lib.hid hTl
  have hTb : T ≤ 9223372036854775807 := by omega
  clear hTl
  have HBV := Lib.hid (show bval (UInt8.ofNat q.kind) = .int .u8 KK from by rw [bval_nat _ hk, hK])
  have HTT := Lib.hid hT
  have HPP := Lib.hid hP
  have HEE := Lib.hid hE
  have HOK := Lib.hid hok
  clear hok hok2 hmay hnn hT hP hE hK hk hkk
  go_enter Try.func36, Try.ntmps36
  go_upto_region 1 with (refine wpList_boxed rfl rfl (rqC q (.slice a n c)) rfl ?_; intro wb hs g hr; have HG := Lib.hid g; have HB := Lib.hid (show Row wb w.heap.size 43 (rqC q (.slice a n c)) from hr); clear hs g hr)
  obtain ⟨bx, hbx⟩ : ∃ bx, bx = w.heap.size := ⟨_, rfl⟩
  rw [← hbx] at HB ⊢
  clear hbx
  go_wp2_with (refine wpList_load_row rfl 43 _ rfl bx rfl 43 (rqC q (.slice a n c)) (0, 0) _ HB.out Try.underlying43 rfl (by rw [size_req]; exact congrArg some (rq_len q _ HX.out).symm) ?_)
  refine (HMA.out wb).mono ?_
  rintro e w1 ⟨rfl, g⟩
  have HG1 := Lib.hid g
  have HB1 := Lib.hid (HB.out.grown g)
  clear g
  have k0 := rq_kind HB1.out
  rw [HKq.out] at k0
  go_upto_region 4 with fail
  obtain ⟨W2, hW2⟩ : ∃ W2, W2 = w1.alloc (.cells #[.int .u8 KK] 5) := ⟨_, rfl⟩
  rw [← hW2]
  have HA2 : Hid (Acc wb W2 (some ⟨w1.heap.size, 0, none⟩) 1 1 [UInt8.ofNat q.kind]) := Lib.hid (by rw [hW2]; exact Acc.one HG1.out HBV.out.symm)
  have HB2 := Lib.hid (HB.out.grown HA2.out.2)
  clear k0 hW2
  go_upto_region 5 with (at_builtin; refine wpList_accA rfl (.tmp 11) (.tmp 13) rfl q.ix rfl rfl HA2.out (rq_ixL HB2.out) HX.out (by simp) ?_; intro a3 n3 k3 w3 h3; have HA3 := Lib.hid h3; clear h3)
  have HB3 := Lib.hid (HB.out.grown HA3.out.2)
  have k0 := rq_kind HB3.out
  rw [HKq.out] at k0
  have x3 := rq_cell HB3.out HX.out 3
  simp at x3
  have hll : (([UInt8.ofNat q.kind] ++ q.ix)).length ≤ 40000000 := by have h1 := HLE.out; rw [HEN.out] at h1; simp only [List.length_append, bigL_length] at h1 ⊢; omega
  have HLL := Lib.hid hll
  clear hll
  go_upto_region 18 with (first
    | (go_at_call 61; refine (refBig_n q.who 4 (by omega) (by omega) _).mono ?_; rintro e u3 ⟨g3, q3, rfl, ho, hg⟩; have HO3 := Lib.hid ho; have HU3 := Lib.hid (HA3.out.grown hg); clear ho hg)
    | (at_builtin; refine wpList_accA rfl (.tmp 68) (.tmp 73) rfl (bigL 4 q.who) rfl rfl HU3.out HO3.out.lies (bigL_length _ _) (by have := HLL.out; omega) ?_; intro a4 n4 k4 w4 h; have HA4 := Lib.hid h; clear h))
  clear k0
  clear x3
  have HB4 := Lib.hid (HB.out.grown HA4.out.2)
  have x4 := rq_cell HB4.out HX.out 4
  simp at x4
  rw [HTL.out] at x4
  have hll : ((([UInt8.ofNat q.kind] ++ q.ix) ++ bigL 4 q.who)).length ≤ 40000000 := by have h1 := HLE.out; rw [HEN.out] at h1; simp only [List.length_append, bigL_length] at h1 ⊢; omega
  have HLL := Lib.hid hll
  clear hll
  go_wp2_with (first
    | (go_at_call 61; refine (refBig_n T 8 (by omega) (by omega) _).mono ?_; rintro e u4 ⟨g4, q4, rfl, ho, hg⟩; have HO4 := Lib.hid ho; have HU4 := Lib.hid (HA4.out.grown hg); clear ho hg)
    | (at_builtin; refine wpList_accA rfl (.tmp 75) (.tmp 79) rfl (bigL 8 T) rfl rfl HU4.out HO4.out.lies (bigL_length _ _) (by have := HLL.out; omega) ?_; intro a5 n5 k5 w5 h; have HA5 := Lib.hid h; clear h))
  clear x4
  go_ret2
  refine ⟨_, _, _, rfl, ?_, grownBy_trans HG.out HA5.out.2⟩
  have h := HA5.out.1
  rw [HEN.out]
  try simp only [← HTT.out]
  exact h.mono HG.out.size
set_option maxRecDepth 100000 in
set_option maxHeartbeats 4000000 in
theorem refPutQ_5 (q : Rq) (a : Option Addr) (n c : Nat) (w : World) (hx : q.ix.length = 16) (hk : q.kind < 256) (hbs : BLies w a q.bytes) (hn : q.bytes.length = n) (hok : LeaseOk q.who q.till) (hnm : n ≤ maxLen) (hmay : MayQ q) (hkk : q.kind = 5) :
    Calls Try.prog 36 #[.agg (rqC q (.slice a n c))] w fun e w' => ∃ a' n' c', e = .returned (.tuple #[.slice a' n' c', .int .i64 (putQE q)]) ∧ BOwn w' w.heap.size a' n' c' (putQL q) ∧ w.grownBy w' none := by
  have hL : putQL q = encQ q := if_pos hmay
  have hE : putQE q = 0 := if_pos hmay
  have hd : decide (MayQ q) = true := decide_eq_true hmay
  rw [hL, hE]
  have hma := fun W => refMayQ_n q a n c W hx hn hok hnm
  rw [hd] at hma
  have HMA := Lib.hid hma
  have HBS := Lib.hid hbs
  have HN := Lib.hid hn
  have HX := Lib.hid hx
  clear hL hE hd hma hbs hn hx hnm
  have HEN := Lib.hid (show encQ q = ([UInt8.ofNat q.kind] ++ q.ix) ++ bigL 4 q.who from by unfold encQ; simp only [hkk] <;> simp)
  have hok2 := hok
  unfold LeaseOk at hok2
  unfold MayQ at hmay
  have hnn := HN.out
  have HLE := Lib.hid (show (encQ q).length ≤ 40000000 from by rw [HEN.out]; simp [bigL_length, HX.out] <;> omega)
  obtain ⟨T, hT⟩ : ∃ T : Nat, T = q.till.toNat := ⟨_, rfl⟩
  obtain ⟨P, hP⟩ : ∃ P : Nat, P = q.pos.toNat := ⟨_, rfl⟩
  obtain ⟨E, hE⟩ : ∃ E : Nat, E = q.len.toNat := ⟨_, rfl⟩
  obtain ⟨KK, hK⟩ : ∃ KK : Int, (q.kind : Int) = KK := ⟨_, rfl⟩
  have HKq := Lib.hid hK
  have kq2 : (KK == 2) = false := by rw [beq_eq_false_iff_ne]; omega
  have kq3 : (KK == 3) = false := by rw [beq_eq_false_iff_ne]; omega
  have kq4 : (KK == 4) = false := by rw [beq_eq_false_iff_ne]; omega
  have kq5 : (KK == 5) = true := by rw [beq_iff_eq]; omega
  have hww : IntKind.i64.wrap (q.who : Int) = (q.who : Int) := IntWalk.i64_in _ (by omega)
  have hwb : q.who ≤ 9223372036854775807 := by omega
  have HBV := Lib.hid (show bval (UInt8.ofNat q.kind) = .int .u8 KK from by rw [bval_nat _ hk, hK])
  have HTT := Lib.hid hT
  have HPP := Lib.hid hP
  have HEE := Lib.hid hE
  have HOK := Lib.hid hok
  clear hok hok2 hmay hnn hT hP hE hK hk hkk
  go_enter Try.func36, Try.ntmps36
  go_upto_region 1 with (refine wpList_boxed rfl rfl (rqC q (.slice a n c)) rfl ?_; intro wb hs g hr; have HG := Lib.hid g; have HB := Lib.hid (show Row wb w.heap.size 43 (rqC q (.slice a n c)) from hr); clear hs g hr)
  obtain ⟨bx, hbx⟩ : ∃ bx, bx = w.heap.size := ⟨_, rfl⟩
  rw [← hbx] at HB ⊢
  clear hbx
  go_wp2_with (refine wpList_load_row rfl 43 _ rfl bx rfl 43 (rqC q (.slice a n c)) (0, 0) _ HB.out Try.underlying43 rfl (by rw [size_req]; exact congrArg some (rq_len q _ HX.out).symm) ?_)
  refine (HMA.out wb).mono ?_
  rintro e w1 ⟨rfl, g⟩
  have HG1 := Lib.hid g
  have HB1 := Lib.hid (HB.out.grown g)
  clear g
  have k0 := rq_kind HB1.out
  rw [HKq.out] at k0
  go_upto_region 4 with fail
  obtain ⟨W2, hW2⟩ : ∃ W2, W2 = w1.alloc (.cells #[.int .u8 KK] 5) := ⟨_, rfl⟩
  rw [← hW2]
  have HA2 : Hid (Acc wb W2 (some ⟨w1.heap.size, 0, none⟩) 1 1 [UInt8.ofNat q.kind]) := Lib.hid (by rw [hW2]; exact Acc.one HG1.out HBV.out.symm)
  have HB2 := Lib.hid (HB.out.grown HA2.out.2)
  clear k0 hW2
  go_upto_region 5 with (at_builtin; refine wpList_accA rfl (.tmp 11) (.tmp 13) rfl q.ix rfl rfl HA2.out (rq_ixL HB2.out) HX.out (by simp) ?_; intro a3 n3 k3 w3 h3; have HA3 := Lib.hid h3; clear h3)
  have HB3 := Lib.hid (HB.out.grown HA3.out.2)
  have k0 := rq_kind HB3.out
  rw [HKq.out] at k0
  have x3 := rq_cell HB3.out HX.out 3
  simp at x3
  have hll : (([UInt8.ofNat q.kind] ++ q.ix)).length ≤ 40000000 := by have h1 := HLE.out; rw [HEN.out] at h1; simp only [List.length_append, bigL_length] at h1 ⊢; omega
  have HLL := Lib.hid hll
  clear hll
  go_wp2_with (first
    | (go_at_call 61; refine (refBig_n q.who 4 (by omega) (by omega) _).mono ?_; rintro e u3 ⟨g3, q3, rfl, ho, hg⟩; have HO3 := Lib.hid ho; have HU3 := Lib.hid (HA3.out.grown hg); clear ho hg)
    | (at_builtin; refine wpList_accA rfl (.tmp 83) (.tmp 88) rfl (bigL 4 q.who) rfl rfl HU3.out HO3.out.lies (bigL_length _ _) (by have := HLL.out; omega) ?_; intro a4 n4 k4 w4 h; have HA4 := Lib.hid h; clear h))
  clear k0
  clear x3
  go_ret2
  refine ⟨_, _, _, rfl, ?_, grownBy_trans HG.out HA4.out.2⟩
  have h := HA4.out.1
  rw [HEN.out]
  try simp only [← HTT.out, ← HPP.out, ← HEE.out]
  exact h.mono HG.out.size
theorem refPutQ_n (q : Rq) (a : Option Addr) (n c : Nat) (w : World) (hx : q.ix.length = 16) (hk : q.kind < 256) (hbs : BLies w a q.bytes) (hn : q.bytes.length = n) (hok : LeaseOk q.who q.till) (hnm : n ≤ maxLen) :
    Calls Try.prog 36 #[.agg (rqC q (.slice a n c))] w fun e w' => ∃ a' n' c', e = .returned (.tuple #[.slice a' n' c', .int .i64 (putQE q)]) ∧ BOwn w' w.heap.size a' n' c' (putQL q) ∧ w.grownBy w' none := by
  by_cases hmay : MayQ q
  · have hm := hmay
    unfold MayQ at hm
    by_cases h1 : q.kind = 1
    · exact refPutQ_1 q a n c w hx hk hbs hn hok hnm hmay h1
    by_cases h2 : q.kind = 2
    · exact refPutQ_2 q a n c w hx hk hbs hn hok hnm hmay h2
    by_cases h3 : q.kind = 3
    · exact refPutQ_3 q a n c w hx hk hbs hn hok hnm hmay h3
    by_cases h4 : q.kind = 4
    · exact refPutQ_4 q a n c w hx hk hbs hn hok hnm hmay h4
    exact refPutQ_5 q a n c w hx hk hbs hn hok hnm hmay (by omega)
  · exact refPutQ_no q a n c w hx hk hbs hn hok hnm hmay
end Go.Proofs.Ytkdmebcfedehiaa
/- wire.Fits, and the document's Fits. Printed by gens/wirefits.py. -/
namespace Go.Proofs.Ytkdmebcfedehiaa
open Go.RowKit

/-- may a reply answer a request? -/
def fitsL (q : Rq) (r : Rp) : Bool :=
  decide (MayQ q) && (mayR r && (if r.kind = 1 then decide (q.kind = 1 ∨ q.kind = 4 ∨ q.kind = 5) else if r.kind = 5 then decide (q.kind = 3 ∧ (r.bytes.length : Int) = q.len) else if r.kind = 6 then decide (q.kind = 3) else if r.kind = 7 then true else decide (q.kind = 2)))
set_option maxRecDepth 100000 in
set_option maxHeartbeats 4000000 in
theorem index_n (b : Nat) (K : Int) (w : World) (hr : Row w b 36 #[.int .u8 1, .int .u8 4, .int .u8 5]) :
    Calls Try.prog 71 #[.slice (some ⟨b, 0, none⟩) 3 3, .int .u8 K] w fun e w' => ∃ x : Int, e = .returned (.int .i64 x) ∧ (decide (0 ≤ x) = decide (K = 1 ∨ K = 4 ∨ K = 5)) ∧ w = w' := by
  have c0 := Row.cell hr 0
  have c1 := Row.cell hr 1
  have c2 := Row.cell hr 2
  simp at c0 c1 c2
  have HR := Lib.hid hr
  clear hr
  by_cases k1 : K = 1
  · subst k1
    go_enter Try.func71, Try.ntmps71
    go_wp2
    go_rounds 1
    go_ret
    exact ⟨_, rfl, by decide, rfl⟩
  by_cases k4 : K = 4
  · subst k4
    go_enter Try.func71, Try.ntmps71
    go_wp2
    go_rounds 2
    go_ret
    exact ⟨_, rfl, by decide, rfl⟩
  by_cases k5 : K = 5
  · subst k5
    go_enter Try.func71, Try.ntmps71
    go_wp2
    go_rounds 3
    go_ret
    exact ⟨_, rfl, by decide, rfl⟩
  have e1 : (K == 1) = false := by rw [beq_eq_false_iff_ne]; exact k1
  have e4 : (K == 4) = false := by rw [beq_eq_false_iff_ne]; exact k4
  have e5 : (K == 5) = false := by rw [beq_eq_false_iff_ne]; exact k5
  have HD := Lib.hid (show decide (K = 1 ∨ K = 4 ∨ K = 5) = false from decide_eq_false (by omega))
  clear k1 k4 k5
  go_enter Try.func71, Try.ntmps71
  go_wp2
  go_rounds 4
  go_ret
  exact ⟨_, rfl, by rw [HD.out]; decide, rfl⟩
set_option maxRecDepth 100000 in
set_option maxHeartbeats 4000000 in
theorem contains_n (b : Nat) (K : Int) (w : World) (hr : Row w b 36 #[.int .u8 1, .int .u8 4, .int .u8 5]) :
    Calls Try.prog 65 #[.slice (some ⟨b, 0, none⟩) 3 3, .int .u8 K] w fun e w' => e = .returned (.bool (decide (K = 1 ∨ K = 4 ∨ K = 5))) ∧ w = w' := by
  have HR := Lib.hid hr
  clear hr
  go_enter Try.func65, Try.ntmps65
  go_wp2_with fail
  refine (index_n b K w HR.out).mono ?_
  rintro e w' ⟨x, rfl, hx, rfl⟩
  have HX := Lib.hid hx
  clear hx
  go_wp2_with fail
  go_ret
  exact ⟨ret_bool HX.out, rfl⟩
set_option maxRecDepth 100000 in
set_option maxHeartbeats 4000000 in
theorem wfits_q (q : Rq) (aq : Option Addr) (nq cq : Nat) (K : Int) (k n cn m cb : Nat) (an ab : Option Addr) (ns : List Int) (bs : List UInt8) (w : World) (hx : q.ix.length = 16) (hnq : q.bytes.length = nq) (hok : LeaseOk q.who q.till) (hnm : nq ≤ maxLen) (hK : K = (k : Int)) (hns : Lies w an (IV ns)) (hn : ns.length = n) (hm : bs.length = m) (hn1 : n ≤ maxLen) (hm1 : m ≤ maxLen) (hq : ¬ MayQ q) :
    Calls Try.prog 40 #[.agg (rqC q (.slice aq nq cq)), .agg #[.int .u8 K, .slice an n cn, .slice ab m cb]] w fun e w' => e = .returned (.bool (fitsL q ⟨k, ns, bs⟩)) ∧ w.grownBy w' none := by
  have HX := Lib.hid hx
  have HA := Lib.hid (fun W => mayAsk_n q aq nq cq W hx hnq hok hnm)
  have HTE := Lib.hid (fun W (hW : w.grownBy W none) => mayTell_n K k n cn m cb an ab ns bs W hK (hns.grown hW) hn hm hn1 hm1)
  have HM := Lib.hid hm
  have HMQ := Lib.hid (show decide (MayQ q) = false from decide_eq_false hq)
  have HF := Lib.hid (show fitsL q ⟨k, ns, bs⟩ = false by unfold fitsL; rw [HMQ.out]; rfl)
  clear hx hnq hok hnm hK hns hn hm hn1 hm1 hq
  go_enter Try.func40, Try.ntmps40
  go_upto_region 1 with (first
    | (refine wpList_boxed rfl rfl (rqC q (.slice aq nq cq)) rfl ?_; intro w1 hs g hr; have G1 := Lib.hid g; have R1 := Lib.hid (show Row w1 w.heap.size 43 (rqC q (.slice aq nq cq)) from hr); clear hs g hr)
    | (refine wpList_boxed rfl rfl #[.int .u8 K, .slice an n cn, .slice ab m cb] rfl ?_; intro w2 hs g hr; have G2 := Lib.hid (grownBy_trans G1.out g); have R2 := Lib.hid (R1.out.grown g); have RR2 := Lib.hid (show Row w2 w1.heap.size 26 #[.int .u8 K, .slice an n cn, .slice ab m cb] from hr); clear hs g hr))
  obtain ⟨b1, hb1⟩ : ∃ b1, b1 = w.heap.size := ⟨_, rfl⟩
  obtain ⟨b2, hb2⟩ : ∃ b2, b2 = w1.heap.size := ⟨_, rfl⟩
  rw [← hb1] at R2 ⊢
  rw [← hb2] at RR2 ⊢
  clear hb1 hb2 R1 G1
  go_wp2_with (first
    | ((with_reducible show wpList _ _ _ ({ dst := some 5, op := _, type := _, pos := _, after := _, guard := _ } :: _) _ _); refine wpList_load_row rfl 43 _ rfl b1 rfl 43 (rqC q (.slice aq nq cq)) (0, 0) _ R2.out Try.underlying43 rfl (by rw [size_req]; exact congrArg some (rq_len q _ HX.out).symm) ?_)
    | (go_at_call 32; refine (HA.out w2).mono ?_; rintro e w3 ⟨rfl, g⟩; rw [HMQ.out]; have G3 := Lib.hid (grownBy_trans G2.out g); have R3 := Lib.hid (R2.out.grown g); have RR3 := Lib.hid (RR2.out.grown g); clear g))
  go_ret
  exact ⟨ret_bool HF.out.symm, G3.out⟩
set_option maxRecDepth 100000 in
set_option maxHeartbeats 4000000 in
theorem wfits_r (q : Rq) (aq : Option Addr) (nq cq : Nat) (K : Int) (k n cn m cb : Nat) (an ab : Option Addr) (ns : List Int) (bs : List UInt8) (w : World) (hx : q.ix.length = 16) (hnq : q.bytes.length = nq) (hok : LeaseOk q.who q.till) (hnm : nq ≤ maxLen) (hK : K = (k : Int)) (hns : Lies w an (IV ns)) (hn : ns.length = n) (hm : bs.length = m) (hn1 : n ≤ maxLen) (hm1 : m ≤ maxLen) (hq : MayQ q) (hr : ¬ mayR ⟨k, ns, bs⟩ = true) :
    Calls Try.prog 40 #[.agg (rqC q (.slice aq nq cq)), .agg #[.int .u8 K, .slice an n cn, .slice ab m cb]] w fun e w' => e = .returned (.bool (fitsL q ⟨k, ns, bs⟩)) ∧ w.grownBy w' none := by
  have HX := Lib.hid hx
  have HA := Lib.hid (fun W => mayAsk_n q aq nq cq W hx hnq hok hnm)
  have HTE := Lib.hid (fun W (hW : w.grownBy W none) => mayTell_n K k n cn m cb an ab ns bs W hK (hns.grown hW) hn hm hn1 hm1)
  have HM := Lib.hid hm
  have HMQ := Lib.hid (show decide (MayQ q) = true from decide_eq_true hq)
  have HMR := Lib.hid (show mayR ⟨k, ns, bs⟩ = false by simpa using hr)
  have HF := Lib.hid (show fitsL q ⟨k, ns, bs⟩ = false by unfold fitsL; rw [HMQ.out, HMR.out]; rfl)
  clear hx hnq hok hnm hK hns hn hm hn1 hm1 hq hr
  go_enter Try.func40, Try.ntmps40
  go_upto_region 1 with (first
    | (refine wpList_boxed rfl rfl (rqC q (.slice aq nq cq)) rfl ?_; intro w1 hs g hr; have G1 := Lib.hid g; have R1 := Lib.hid (show Row w1 w.heap.size 43 (rqC q (.slice aq nq cq)) from hr); clear hs g hr)
    | (refine wpList_boxed rfl rfl #[.int .u8 K, .slice an n cn, .slice ab m cb] rfl ?_; intro w2 hs g hr; have G2 := Lib.hid (grownBy_trans G1.out g); have R2 := Lib.hid (R1.out.grown g); have RR2 := Lib.hid (show Row w2 w1.heap.size 26 #[.int .u8 K, .slice an n cn, .slice ab m cb] from hr); clear hs g hr))
  obtain ⟨b1, hb1⟩ : ∃ b1, b1 = w.heap.size := ⟨_, rfl⟩
  obtain ⟨b2, hb2⟩ : ∃ b2, b2 = w1.heap.size := ⟨_, rfl⟩
  rw [← hb1] at R2 ⊢
  rw [← hb2] at RR2 ⊢
  clear hb1 hb2 R1 G1
  go_wp2_with (first
    | ((with_reducible show wpList _ _ _ ({ dst := some 5, op := _, type := _, pos := _, after := _, guard := _ } :: _) _ _); refine wpList_load_row rfl 43 _ rfl b1 rfl 43 (rqC q (.slice aq nq cq)) (0, 0) _ R2.out Try.underlying43 rfl (by rw [size_req]; exact congrArg some (rq_len q _ HX.out).symm) ?_)
    | (go_at_call 32; refine (HA.out w2).mono ?_; rintro e w3 ⟨rfl, g⟩; rw [HMQ.out]; have G3 := Lib.hid (grownBy_trans G2.out g); have R3 := Lib.hid (R2.out.grown g); have RR3 := Lib.hid (RR2.out.grown g); clear g)
    | ((with_reducible show wpList _ _ _ ({ dst := some 9, op := _, type := _, pos := _, after := _, guard := _ } :: _) _ _); refine wpList_load_rowW (by kernel_rfl) 26 _ rfl b2 rfl 26 #[.int .u8 K, .slice an n cn, .slice ab m cb] (0, 0) _ RR3.out Try.underlying26 rfl (by kernel_rfl) ?_)
    | (go_at_call 22; refine (HTE.out w3 G3.out).mono ?_; rintro e w4 ⟨rfl, g⟩; rw [HMR.out]; have G4 := Lib.hid (grownBy_trans G3.out g); have R4 := Lib.hid (R3.out.grown g); have RR4 := Lib.hid (RR3.out.grown g); clear g))
  go_ret
  exact ⟨ret_bool HF.out.symm, G4.out⟩
set_option maxRecDepth 100000 in
set_option maxHeartbeats 4000000 in
theorem wfits_y (q : Rq) (aq : Option Addr) (nq cq : Nat) (K : Int) (k n cn m cb : Nat) (an ab : Option Addr) (ns : List Int) (bs : List UInt8) (w : World) (hx : q.ix.length = 16) (hnq : q.bytes.length = nq) (hok : LeaseOk q.who q.till) (hnm : nq ≤ maxLen) (hK : K = (k : Int)) (hns : Lies w an (IV ns)) (hn : ns.length = n) (hm : bs.length = m) (hn1 : n ≤ maxLen) (hm1 : m ≤ maxLen) (hq : MayQ q) (hr : mayR ⟨k, ns, bs⟩ = true) (hk : 1 ≤ k ∧ k ≤ 7) :
    Calls Try.prog 40 #[.agg (rqC q (.slice aq nq cq)), .agg #[.int .u8 K, .slice an n cn, .slice ab m cb]] w fun e w' => e = .returned (.bool (fitsL q ⟨k, ns, bs⟩)) ∧ w.grownBy w' none := by
  have HX := Lib.hid hx
  have HA := Lib.hid (fun W => mayAsk_n q aq nq cq W hx hnq hok hnm)
  have HTE := Lib.hid (fun W (hW : w.grownBy W none) => mayTell_n K k n cn m cb an ab ns bs W hK (hns.grown hW) hn hm hn1 hm1)
  have HM := Lib.hid hm
  have HMQ := Lib.hid (show decide (MayQ q) = true from decide_eq_true hq)
  have HMR := Lib.hid (show mayR ⟨k, ns, bs⟩ = true from hr)
  have HKK := Lib.hid hk
  have HKI := Lib.hid hK
  obtain ⟨Q, hQ⟩ : ∃ Q : Int, Q = (q.kind : Int) := ⟨_, rfl⟩
  have HQ := Lib.hid hQ
  clear hx hnq hok hnm hK hns hn hm hn1 hm1 hq hr hk
  go_enter Try.func40, Try.ntmps40
  go_upto_region 1 with (first
    | (refine wpList_boxed rfl rfl (rqC q (.slice aq nq cq)) rfl ?_; intro w1 hs g hr; have G1 := Lib.hid g; have R1 := Lib.hid (show Row w1 w.heap.size 43 (rqC q (.slice aq nq cq)) from hr); clear hs g hr)
    | (refine wpList_boxed rfl rfl #[.int .u8 K, .slice an n cn, .slice ab m cb] rfl ?_; intro w2 hs g hr; have G2 := Lib.hid (grownBy_trans G1.out g); have R2 := Lib.hid (R1.out.grown g); have RR2 := Lib.hid (show Row w2 w1.heap.size 26 #[.int .u8 K, .slice an n cn, .slice ab m cb] from hr); clear hs g hr))
  obtain ⟨b1, hb1⟩ : ∃ b1, b1 = w.heap.size := ⟨_, rfl⟩
  obtain ⟨b2, hb2⟩ : ∃ b2, b2 = w1.heap.size := ⟨_, rfl⟩
  rw [← hb1] at R2 ⊢
  rw [← hb2] at RR2 ⊢
  clear hb1 hb2 R1 G1
  go_upto_region 3 with (first
    | ((with_reducible show wpList _ _ _ ({ dst := some 5, op := _, type := _, pos := _, after := _, guard := _ } :: _) _ _); refine wpList_load_row rfl 43 _ rfl b1 rfl 43 (rqC q (.slice aq nq cq)) (0, 0) _ R2.out Try.underlying43 rfl (by rw [size_req]; exact congrArg some (rq_len q _ HX.out).symm) ?_)
    | (go_at_call 32; refine (HA.out w2).mono ?_; rintro e w3 ⟨rfl, g⟩; rw [HMQ.out]; have G3 := Lib.hid (grownBy_trans G2.out g); have R3 := Lib.hid (R2.out.grown g); have RR3 := Lib.hid (RR2.out.grown g); clear g)
    | ((with_reducible show wpList _ _ _ ({ dst := some 9, op := _, type := _, pos := _, after := _, guard := _ } :: _) _ _); refine wpList_load_rowW (by kernel_rfl) 26 _ rfl b2 rfl 26 #[.int .u8 K, .slice an n cn, .slice ab m cb] (0, 0) _ RR3.out Try.underlying26 rfl (by kernel_rfl) ?_)
    | (go_at_call 22; refine (HTE.out w3 G3.out).mono ?_; rintro e w4 ⟨rfl, g⟩; rw [HMR.out]; have G4 := Lib.hid (grownBy_trans G3.out g); have R4 := Lib.hid (R3.out.grown g); have RR4 := Lib.hid (RR3.out.grown g); clear g))
  have k0 := rq_kind R4.out
  rw [← HQ.out] at k0
  have d0 := Row.cell RR4.out 0
  simp at d0
  clear hQ
  have hk := HKK.out
  rcases (show k = 1 ∨ k = 2 ∨ k = 3 ∨ k = 4 ∨ k = 5 ∨ k = 6 ∨ k = 7 by omega) with h | h | h | h | h | h | h
  · have z1 : (K == 1) = true := by rw [beq_iff_eq]; have := HKI.out; omega
    have z2 : (K == 2) = false := by rw [beq_eq_false_iff_ne]; have := HKI.out; omega
    have z3 : (K == 3) = false := by rw [beq_eq_false_iff_ne]; have := HKI.out; omega
    have z4 : (K == 4) = false := by rw [beq_eq_false_iff_ne]; have := HKI.out; omega
    have z5 : (K == 5) = false := by rw [beq_eq_false_iff_ne]; have := HKI.out; omega
    have z6 : (K == 6) = false := by rw [beq_eq_false_iff_ne]; have := HKI.out; omega
    have z7 : (K == 7) = false := by rw [beq_eq_false_iff_ne]; have := HKI.out; omega
    have HF := Lib.hid (show fitsL q ⟨k, ns, bs⟩ = decide (q.kind = 1 ∨ q.kind = 4 ∨ q.kind = 5) by unfold fitsL; rw [HMQ.out, HMR.out]; simp [h])
    clear h hk
    have HV := Lib.hid (show decide (q.kind = 1 ∨ q.kind = 4 ∨ q.kind = 5) = decide (Q = 1 ∨ Q = 4 ∨ Q = 5) from decide_eq_decide.2 (by have := HQ.out; omega))
    go_upto_region 7 with fail
    obtain ⟨w5, h5⟩ : ∃ w5, w5 = w4.alloc (.cells #[.int .u8 1, .int .u8 4, .int .u8 5] 36) := ⟨_, rfl⟩
    have g5 : w4.grownBy w5 none := h5 ▸ World.grownBy_alloc _ _ _
    have r5 : Row w5 w4.heap.size 36 #[.int .u8 1, .int .u8 4, .int .u8 5] := h5 ▸ heap_alloc_new w4 _
    have G5 := Lib.hid (grownBy_trans G4.out g5)
    have k5 := rq_kind (R4.out.grown g5)
    rw [← HQ.out] at k5
    have H5 := Lib.hid h5
    have RR5 := Lib.hid r5
    clear h5 g5 r5
    go_wp2_with ((with_reducible show wpList _ _ _ ({ dst := some 19, op := _, type := _, pos := _, after := _, guard := _ } :: _) _ _); refine wpList_valp (v := .slice (some ⟨w4.heap.size, 0, none⟩) 3 3) (w1 := w5) rfl (by rw [H5.out]; go_simp) ?_)
    refine (contains_n w4.heap.size Q w5 RR5.out).mono ?_
    rintro e w' ⟨rfl, rfl⟩
    go_wp2_with fail
    go_ret
    exact ⟨ret_bool (by rw [HF.out, HV.out]; simp), G5.out⟩
  · have z1 : (K == 1) = false := by rw [beq_eq_false_iff_ne]; have := HKI.out; omega
    have z2 : (K == 2) = true := by rw [beq_iff_eq]; have := HKI.out; omega
    have z3 : (K == 3) = false := by rw [beq_eq_false_iff_ne]; have := HKI.out; omega
    have z4 : (K == 4) = false := by rw [beq_eq_false_iff_ne]; have := HKI.out; omega
    have z5 : (K == 5) = false := by rw [beq_eq_false_iff_ne]; have := HKI.out; omega
    have z6 : (K == 6) = false := by rw [beq_eq_false_iff_ne]; have := HKI.out; omega
    have z7 : (K == 7) = false := by rw [beq_eq_false_iff_ne]; have := HKI.out; omega
    have HF := Lib.hid (show fitsL q ⟨k, ns, bs⟩ = decide (q.kind = 2) by unfold fitsL; rw [HMQ.out, HMR.out]; simp [h])
    clear h hk
    have HV := Lib.hid (show decide (q.kind = 2) = (Q == 2) from by
      by_cases h : q.kind = 2
      · rw [decide_eq_true h, eq_comm, beq_iff_eq]; have := HQ.out; omega
      · rw [decide_eq_false h, eq_comm, beq_eq_false_iff_ne]; have := HQ.out; omega)
    go_wp2_with fail
    go_ret
    exact ⟨ret_bool (by rw [HF.out, HV.out]), G4.out⟩
  · have z1 : (K == 1) = false := by rw [beq_eq_false_iff_ne]; have := HKI.out; omega
    have z2 : (K == 2) = false := by rw [beq_eq_false_iff_ne]; have := HKI.out; omega
    have z3 : (K == 3) = true := by rw [beq_iff_eq]; have := HKI.out; omega
    have z4 : (K == 4) = false := by rw [beq_eq_false_iff_ne]; have := HKI.out; omega
    have z5 : (K == 5) = false := by rw [beq_eq_false_iff_ne]; have := HKI.out; omega
    have z6 : (K == 6) = false := by rw [beq_eq_false_iff_ne]; have := HKI.out; omega
    have z7 : (K == 7) = false := by rw [beq_eq_false_iff_ne]; have := HKI.out; omega
    have HF := Lib.hid (show fitsL q ⟨k, ns, bs⟩ = decide (q.kind = 2) by unfold fitsL; rw [HMQ.out, HMR.out]; simp [h])
    clear h hk
    have HV := Lib.hid (show decide (q.kind = 2) = (Q == 2) from by
      by_cases h : q.kind = 2
      · rw [decide_eq_true h, eq_comm, beq_iff_eq]; have := HQ.out; omega
      · rw [decide_eq_false h, eq_comm, beq_eq_false_iff_ne]; have := HQ.out; omega)
    go_wp2_with fail
    go_ret
    exact ⟨ret_bool (by rw [HF.out, HV.out]), G4.out⟩
  · have z1 : (K == 1) = false := by rw [beq_eq_false_iff_ne]; have := HKI.out; omega
    have z2 : (K == 2) = false := by rw [beq_eq_false_iff_ne]; have := HKI.out; omega
    have z3 : (K == 3) = false := by rw [beq_eq_false_iff_ne]; have := HKI.out; omega
    have z4 : (K == 4) = true := by rw [beq_iff_eq]; have := HKI.out; omega
    have z5 : (K == 5) = false := by rw [beq_eq_false_iff_ne]; have := HKI.out; omega
    have z6 : (K == 6) = false := by rw [beq_eq_false_iff_ne]; have := HKI.out; omega
    have z7 : (K == 7) = false := by rw [beq_eq_false_iff_ne]; have := HKI.out; omega
    have HF := Lib.hid (show fitsL q ⟨k, ns, bs⟩ = decide (q.kind = 2) by unfold fitsL; rw [HMQ.out, HMR.out]; simp [h])
    clear h hk
    have HV := Lib.hid (show decide (q.kind = 2) = (Q == 2) from by
      by_cases h : q.kind = 2
      · rw [decide_eq_true h, eq_comm, beq_iff_eq]; have := HQ.out; omega
      · rw [decide_eq_false h, eq_comm, beq_eq_false_iff_ne]; have := HQ.out; omega)
    go_wp2_with fail
    go_ret
    exact ⟨ret_bool (by rw [HF.out, HV.out]), G4.out⟩
  · have z1 : (K == 1) = false := by rw [beq_eq_false_iff_ne]; have := HKI.out; omega
    have z2 : (K == 2) = false := by rw [beq_eq_false_iff_ne]; have := HKI.out; omega
    have z3 : (K == 3) = false := by rw [beq_eq_false_iff_ne]; have := HKI.out; omega
    have z4 : (K == 4) = false := by rw [beq_eq_false_iff_ne]; have := HKI.out; omega
    have z5 : (K == 5) = true := by rw [beq_iff_eq]; have := HKI.out; omega
    have z6 : (K == 6) = false := by rw [beq_eq_false_iff_ne]; have := HKI.out; omega
    have z7 : (K == 7) = false := by rw [beq_eq_false_iff_ne]; have := HKI.out; omega
    have HF := Lib.hid (show fitsL q ⟨k, ns, bs⟩ = decide (q.kind = 3 ∧ (bs.length : Int) = q.len) by unfold fitsL; rw [HMQ.out, HMR.out]; simp [h])
    clear h hk
    by_cases c3 : Q = 3
    · subst c3
      have x2 := rq_cell R4.out HX.out 2
      have d2 := Row.cell RR4.out 2
      simp at x2 d2
      by_cases ce : (m : Int) = q.len
      · have ee : ((m : Int) == q.len) = true := by rw [beq_iff_eq]; exact ce
        have HV := Lib.hid (show decide (q.kind = 3 ∧ (bs.length : Int) = q.len) = true from decide_eq_true (by have := HQ.out; have := HM.out; omega))
        clear ce
        go_wp2_with fail
        go_ret
        exact ⟨ret_bool (by rw [HF.out, HV.out]), G4.out⟩
      · have ee : ((m : Int) == q.len) = false := by rw [beq_eq_false_iff_ne]; exact ce
        have HV := Lib.hid (show decide (q.kind = 3 ∧ (bs.length : Int) = q.len) = false from decide_eq_false (by have := HQ.out; have := HM.out; omega))
        clear ce
        go_wp2_with fail
        go_ret
        exact ⟨ret_bool (by rw [HF.out, HV.out]), G4.out⟩
    have e3 : (Q == 3) = false := by rw [beq_eq_false_iff_ne]; exact c3
    have HV := Lib.hid (show decide (q.kind = 3 ∧ (bs.length : Int) = q.len) = false from decide_eq_false (by have := HQ.out; omega))
    clear c3
    go_wp2_with fail
    go_ret
    exact ⟨ret_bool (by rw [HF.out, HV.out]), G4.out⟩
  · have z1 : (K == 1) = false := by rw [beq_eq_false_iff_ne]; have := HKI.out; omega
    have z2 : (K == 2) = false := by rw [beq_eq_false_iff_ne]; have := HKI.out; omega
    have z3 : (K == 3) = false := by rw [beq_eq_false_iff_ne]; have := HKI.out; omega
    have z4 : (K == 4) = false := by rw [beq_eq_false_iff_ne]; have := HKI.out; omega
    have z5 : (K == 5) = false := by rw [beq_eq_false_iff_ne]; have := HKI.out; omega
    have z6 : (K == 6) = true := by rw [beq_iff_eq]; have := HKI.out; omega
    have z7 : (K == 7) = false := by rw [beq_eq_false_iff_ne]; have := HKI.out; omega
    have HF := Lib.hid (show fitsL q ⟨k, ns, bs⟩ = decide (q.kind = 3) by unfold fitsL; rw [HMQ.out, HMR.out]; simp [h])
    clear h hk
    have HV := Lib.hid (show decide (q.kind = 3) = (Q == 3) from by
      by_cases h : q.kind = 3
      · rw [decide_eq_true h, eq_comm, beq_iff_eq]; have := HQ.out; omega
      · rw [decide_eq_false h, eq_comm, beq_eq_false_iff_ne]; have := HQ.out; omega)
    go_wp2_with fail
    go_ret
    exact ⟨ret_bool (by rw [HF.out, HV.out]), G4.out⟩
  · have z1 : (K == 1) = false := by rw [beq_eq_false_iff_ne]; have := HKI.out; omega
    have z2 : (K == 2) = false := by rw [beq_eq_false_iff_ne]; have := HKI.out; omega
    have z3 : (K == 3) = false := by rw [beq_eq_false_iff_ne]; have := HKI.out; omega
    have z4 : (K == 4) = false := by rw [beq_eq_false_iff_ne]; have := HKI.out; omega
    have z5 : (K == 5) = false := by rw [beq_eq_false_iff_ne]; have := HKI.out; omega
    have z6 : (K == 6) = false := by rw [beq_eq_false_iff_ne]; have := HKI.out; omega
    have z7 : (K == 7) = true := by rw [beq_iff_eq]; have := HKI.out; omega
    have HF := Lib.hid (show fitsL q ⟨k, ns, bs⟩ = true by unfold fitsL; rw [HMQ.out, HMR.out]; simp [h])
    clear h hk
    go_wp2_with fail
    go_ret
    exact ⟨ret_bool HF.out.symm, G4.out⟩
theorem wfits_n (q : Rq) (aq : Option Addr) (nq cq : Nat) (K : Int) (k n cn m cb : Nat) (an ab : Option Addr) (ns : List Int) (bs : List UInt8) (w : World) (hx : q.ix.length = 16) (hnq : q.bytes.length = nq) (hok : LeaseOk q.who q.till) (hnm : nq ≤ maxLen) (hK : K = (k : Int)) (hns : Lies w an (IV ns)) (hn : ns.length = n) (hm : bs.length = m) (hn1 : n ≤ maxLen) (hm1 : m ≤ maxLen) :
    Calls Try.prog 40 #[.agg (rqC q (.slice aq nq cq)), .agg #[.int .u8 K, .slice an n cn, .slice ab m cb]] w fun e w' => e = .returned (.bool (fitsL q ⟨k, ns, bs⟩)) ∧ w.grownBy w' none := by
  by_cases hq : MayQ q
  · by_cases hr : mayR ⟨k, ns, bs⟩ = true
    · have hk : 1 ≤ k ∧ k ≤ 7 := by
        have h := hr
        unfold mayR at h
        simp only at h
        split at h
        · cases h
        by_cases k1 : k = 1
        · omega
        by_cases k5 : k = 5
        · omega
        rw [if_neg k1, if_neg k5, Bool.and_eq_true, decide_eq_true_eq, decide_eq_true_eq] at h
        exact h
      exact wfits_y q aq nq cq K k n cn m cb an ab ns bs w hx hnq hok hnm hK hns hn hm hn1 hm1 hq hr hk
    · exact wfits_r q aq nq cq K k n cn m cb an ab ns bs w hx hnq hok hnm hK hns hn hm hn1 hm1 hq hr
  · exact wfits_q q aq nq cq K k n cn m cb an ab ns bs w hx hnq hok hnm hK hns hn hm hn1 hm1 hq
end Go.Proofs.Ytkdmebcfedehiaa
/- The document's Fits. Printed by gens/wirefits.py. -/
namespace Go.Proofs.Ytkdmebcfedehiaa
open Go.RowKit

set_option maxRecDepth 100000 in
set_option maxHeartbeats 4000000 in
theorem rfits_q (q : Rq) (aq : Option Addr) (nq cq : Nat) (K : Int) (k n cn m cb : Nat) (an ab : Option Addr) (ns : List Int) (bs : List UInt8) (w : World) (hx : q.ix.length = 16) (hnq : q.bytes.length = nq) (hok : LeaseOk q.who q.till) (hnm : nq ≤ maxLen) (hK : K = (k : Int)) (hns : Lies w an (IV ns)) (hn : ns.length = n) (hm : bs.length = m) (hn1 : n ≤ maxLen) (hm1 : m ≤ maxLen) (hq : ¬ MayQ q) :
    Calls Try.prog 41 #[.agg (rqC q (.slice aq nq cq)), .agg #[.int .u8 K, .slice an n cn, .slice ab m cb]] w fun e w' => e = .returned (.bool (fitsL q ⟨k, ns, bs⟩)) ∧ w.grownBy w' none := by
  have HX := Lib.hid hx
  have HA := Lib.hid (fun W => refMayQ_n q aq nq cq W hx hnq hok hnm)
  have HTE := Lib.hid (fun W (hW : w.grownBy W none) => refMayR_n K k n cn m cb an ab ns bs W hK (hns.grown hW) hn hm hn1 hm1)
  have HM := Lib.hid hm
  have HMQ := Lib.hid (show decide (MayQ q) = false from decide_eq_false hq)
  have HF := Lib.hid (show fitsL q ⟨k, ns, bs⟩ = false by unfold fitsL; rw [HMQ.out]; rfl)
  clear hx hnq hok hnm hK hns hn hm hn1 hm1 hq
  go_enter Try.func41, Try.ntmps41
  go_upto_region 1 with (first
    | (refine wpList_boxed rfl rfl (rqC q (.slice aq nq cq)) rfl ?_; intro w1 hs g hr; have G1 := Lib.hid g; have R1 := Lib.hid (show Row w1 w.heap.size 43 (rqC q (.slice aq nq cq)) from hr); clear hs g hr)
    | (refine wpList_boxed rfl rfl #[.int .u8 K, .slice an n cn, .slice ab m cb] rfl ?_; intro w2 hs g hr; have G2 := Lib.hid (grownBy_trans G1.out g); have R2 := Lib.hid (R1.out.grown g); have RR2 := Lib.hid (show Row w2 w1.heap.size 26 #[.int .u8 K, .slice an n cn, .slice ab m cb] from hr); clear hs g hr))
  obtain ⟨b1, hb1⟩ : ∃ b1, b1 = w.heap.size := ⟨_, rfl⟩
  obtain ⟨b2, hb2⟩ : ∃ b2, b2 = w1.heap.size := ⟨_, rfl⟩
  rw [← hb1] at R2 ⊢
  rw [← hb2] at RR2 ⊢
  clear hb1 hb2 R1 G1
  go_wp2_with (first
    | ((with_reducible show wpList _ _ _ ({ dst := some 5, op := _, type := _, pos := _, after := _, guard := _ } :: _) _ _); refine wpList_load_row rfl 43 _ rfl b1 rfl 43 (rqC q (.slice aq nq cq)) (0, 0) _ R2.out Try.underlying43 rfl (by rw [size_req]; exact congrArg some (rq_len q _ HX.out).symm) ?_)
    | (go_at_call 60; refine (HA.out w2).mono ?_; rintro e w3 ⟨rfl, g⟩; rw [HMQ.out]; have G3 := Lib.hid (grownBy_trans G2.out g); have R3 := Lib.hid (R2.out.grown g); have RR3 := Lib.hid (RR2.out.grown g); clear g))
  go_ret
  exact ⟨ret_bool HF.out.symm, G3.out⟩
set_option maxRecDepth 100000 in
set_option maxHeartbeats 4000000 in
theorem rfits_r (q : Rq) (aq : Option Addr) (nq cq : Nat) (K : Int) (k n cn m cb : Nat) (an ab : Option Addr) (ns : List Int) (bs : List UInt8) (w : World) (hx : q.ix.length = 16) (hnq : q.bytes.length = nq) (hok : LeaseOk q.who q.till) (hnm : nq ≤ maxLen) (hK : K = (k : Int)) (hns : Lies w an (IV ns)) (hn : ns.length = n) (hm : bs.length = m) (hn1 : n ≤ maxLen) (hm1 : m ≤ maxLen) (hq : MayQ q) (hr : ¬ mayR ⟨k, ns, bs⟩ = true) :
    Calls Try.prog 41 #[.agg (rqC q (.slice aq nq cq)), .agg #[.int .u8 K, .slice an n cn, .slice ab m cb]] w fun e w' => e = .returned (.bool (fitsL q ⟨k, ns, bs⟩)) ∧ w.grownBy w' none := by
  have HX := Lib.hid hx
  have HA := Lib.hid (fun W => refMayQ_n q aq nq cq W hx hnq hok hnm)
  have HTE := Lib.hid (fun W (hW : w.grownBy W none) => refMayR_n K k n cn m cb an ab ns bs W hK (hns.grown hW) hn hm hn1 hm1)
  have HM := Lib.hid hm
  have HMQ := Lib.hid (show decide (MayQ q) = true from decide_eq_true hq)
  have HMR := Lib.hid (show mayR ⟨k, ns, bs⟩ = false by simpa using hr)
  have HF := Lib.hid (show fitsL q ⟨k, ns, bs⟩ = false by unfold fitsL; rw [HMQ.out, HMR.out]; rfl)
  clear hx hnq hok hnm hK hns hn hm hn1 hm1 hq hr
  go_enter Try.func41, Try.ntmps41
  go_upto_region 1 with (first
    | (refine wpList_boxed rfl rfl (rqC q (.slice aq nq cq)) rfl ?_; intro w1 hs g hr; have G1 := Lib.hid g; have R1 := Lib.hid (show Row w1 w.heap.size 43 (rqC q (.slice aq nq cq)) from hr); clear hs g hr)
    | (refine wpList_boxed rfl rfl #[.int .u8 K, .slice an n cn, .slice ab m cb] rfl ?_; intro w2 hs g hr; have G2 := Lib.hid (grownBy_trans G1.out g); have R2 := Lib.hid (R1.out.grown g); have RR2 := Lib.hid (show Row w2 w1.heap.size 26 #[.int .u8 K, .slice an n cn, .slice ab m cb] from hr); clear hs g hr))
  obtain ⟨b1, hb1⟩ : ∃ b1, b1 = w.heap.size := ⟨_, rfl⟩
  obtain ⟨b2, hb2⟩ : ∃ b2, b2 = w1.heap.size := ⟨_, rfl⟩
  rw [← hb1] at R2 ⊢
  rw [← hb2] at RR2 ⊢
  clear hb1 hb2 R1 G1
  go_wp2_with (first
    | ((with_reducible show wpList _ _ _ ({ dst := some 5, op := _, type := _, pos := _, after := _, guard := _ } :: _) _ _); refine wpList_load_row rfl 43 _ rfl b1 rfl 43 (rqC q (.slice aq nq cq)) (0, 0) _ R2.out Try.underlying43 rfl (by rw [size_req]; exact congrArg some (rq_len q _ HX.out).symm) ?_)
    | (go_at_call 60; refine (HA.out w2).mono ?_; rintro e w3 ⟨rfl, g⟩; rw [HMQ.out]; have G3 := Lib.hid (grownBy_trans G2.out g); have R3 := Lib.hid (R2.out.grown g); have RR3 := Lib.hid (RR2.out.grown g); clear g)
    | ((with_reducible show wpList _ _ _ ({ dst := some 9, op := _, type := _, pos := _, after := _, guard := _ } :: _) _ _); refine wpList_load_rowW (by kernel_rfl) 26 _ rfl b2 rfl 26 #[.int .u8 K, .slice an n cn, .slice ab m cb] (0, 0) _ RR3.out Try.underlying26 rfl (by kernel_rfl) ?_)
    | (go_at_call 64; refine (HTE.out w3 G3.out).mono ?_; rintro e w4 ⟨rfl, g⟩; rw [HMR.out]; have G4 := Lib.hid (grownBy_trans G3.out g); have R4 := Lib.hid (R3.out.grown g); have RR4 := Lib.hid (RR3.out.grown g); clear g))
  go_ret
  exact ⟨ret_bool HF.out.symm, G4.out⟩
set_option maxRecDepth 100000 in
set_option maxHeartbeats 4000000 in
theorem rfits_y (q : Rq) (aq : Option Addr) (nq cq : Nat) (K : Int) (k n cn m cb : Nat) (an ab : Option Addr) (ns : List Int) (bs : List UInt8) (w : World) (hx : q.ix.length = 16) (hnq : q.bytes.length = nq) (hok : LeaseOk q.who q.till) (hnm : nq ≤ maxLen) (hK : K = (k : Int)) (hns : Lies w an (IV ns)) (hn : ns.length = n) (hm : bs.length = m) (hn1 : n ≤ maxLen) (hm1 : m ≤ maxLen) (hq : MayQ q) (hr : mayR ⟨k, ns, bs⟩ = true) (hk : 1 ≤ k ∧ k ≤ 7) :
    Calls Try.prog 41 #[.agg (rqC q (.slice aq nq cq)), .agg #[.int .u8 K, .slice an n cn, .slice ab m cb]] w fun e w' => e = .returned (.bool (fitsL q ⟨k, ns, bs⟩)) ∧ w.grownBy w' none := by
  have HX := Lib.hid hx
  have HA := Lib.hid (fun W => refMayQ_n q aq nq cq W hx hnq hok hnm)
  have HTE := Lib.hid (fun W (hW : w.grownBy W none) => refMayR_n K k n cn m cb an ab ns bs W hK (hns.grown hW) hn hm hn1 hm1)
  have HM := Lib.hid hm
  have HMQ := Lib.hid (show decide (MayQ q) = true from decide_eq_true hq)
  have HMR := Lib.hid (show mayR ⟨k, ns, bs⟩ = true from hr)
  have HKK := Lib.hid hk
  have HKI := Lib.hid hK
  obtain ⟨Q, hQ⟩ : ∃ Q : Int, Q = (q.kind : Int) := ⟨_, rfl⟩
  have HQ := Lib.hid hQ
  clear hx hnq hok hnm hK hns hn hm hn1 hm1 hq hr hk
  go_enter Try.func41, Try.ntmps41
  go_upto_region 1 with (first
    | (refine wpList_boxed rfl rfl (rqC q (.slice aq nq cq)) rfl ?_; intro w1 hs g hr; have G1 := Lib.hid g; have R1 := Lib.hid (show Row w1 w.heap.size 43 (rqC q (.slice aq nq cq)) from hr); clear hs g hr)
    | (refine wpList_boxed rfl rfl #[.int .u8 K, .slice an n cn, .slice ab m cb] rfl ?_; intro w2 hs g hr; have G2 := Lib.hid (grownBy_trans G1.out g); have R2 := Lib.hid (R1.out.grown g); have RR2 := Lib.hid (show Row w2 w1.heap.size 26 #[.int .u8 K, .slice an n cn, .slice ab m cb] from hr); clear hs g hr))
  obtain ⟨b1, hb1⟩ : ∃ b1, b1 = w.heap.size := ⟨_, rfl⟩
  obtain ⟨b2, hb2⟩ : ∃ b2, b2 = w1.heap.size := ⟨_, rfl⟩
  rw [← hb1] at R2 ⊢
  rw [← hb2] at RR2 ⊢
  clear hb1 hb2 R1 G1
  go_upto_region 3 with (first
    | ((with_reducible show wpList _ _ _ ({ dst := some 5, op := _, type := _, pos := _, after := _, guard := _ } :: _) _ _); refine wpList_load_row rfl 43 _ rfl b1 rfl 43 (rqC q (.slice aq nq cq)) (0, 0) _ R2.out Try.underlying43 rfl (by rw [size_req]; exact congrArg some (rq_len q _ HX.out).symm) ?_)
    | (go_at_call 60; refine (HA.out w2).mono ?_; rintro e w3 ⟨rfl, g⟩; rw [HMQ.out]; have G3 := Lib.hid (grownBy_trans G2.out g); have R3 := Lib.hid (R2.out.grown g); have RR3 := Lib.hid (RR2.out.grown g); clear g)
    | ((with_reducible show wpList _ _ _ ({ dst := some 9, op := _, type := _, pos := _, after := _, guard := _ } :: _) _ _); refine wpList_load_rowW (by kernel_rfl) 26 _ rfl b2 rfl 26 #[.int .u8 K, .slice an n cn, .slice ab m cb] (0, 0) _ RR3.out Try.underlying26 rfl (by kernel_rfl) ?_)
    | (go_at_call 64; refine (HTE.out w3 G3.out).mono ?_; rintro e w4 ⟨rfl, g⟩; rw [HMR.out]; have G4 := Lib.hid (grownBy_trans G3.out g); have R4 := Lib.hid (R3.out.grown g); have RR4 := Lib.hid (RR3.out.grown g); clear g))
  have k0 := rq_kind R4.out
  rw [← HQ.out] at k0
  have d0 := Row.cell RR4.out 0
  simp at d0
  clear hQ
  have hk := HKK.out
  rcases (show k = 1 ∨ k = 2 ∨ k = 3 ∨ k = 4 ∨ k = 5 ∨ k = 6 ∨ k = 7 by omega) with h | h | h | h | h | h | h
  · have z1 : (K == 1) = true := by rw [beq_iff_eq]; have := HKI.out; omega
    have z2 : (K == 2) = false := by rw [beq_eq_false_iff_ne]; have := HKI.out; omega
    have z3 : (K == 3) = false := by rw [beq_eq_false_iff_ne]; have := HKI.out; omega
    have z4 : (K == 4) = false := by rw [beq_eq_false_iff_ne]; have := HKI.out; omega
    have z5 : (K == 5) = false := by rw [beq_eq_false_iff_ne]; have := HKI.out; omega
    have z6 : (K == 6) = false := by rw [beq_eq_false_iff_ne]; have := HKI.out; omega
    have z7 : (K == 7) = false := by rw [beq_eq_false_iff_ne]; have := HKI.out; omega
    have HF := Lib.hid (show fitsL q ⟨k, ns, bs⟩ = decide (q.kind = 1 ∨ q.kind = 4 ∨ q.kind = 5) by unfold fitsL; rw [HMQ.out, HMR.out]; simp [h])
    clear h hk
    by_cases c1 : Q = 1
    · subst c1
      have HV := Lib.hid (show decide (q.kind = 1 ∨ q.kind = 4 ∨ q.kind = 5) = true from decide_eq_true (by have := HQ.out; omega))
      go_wp2_with fail
      go_ret
      exact ⟨ret_bool (by rw [HF.out, HV.out]), G4.out⟩
    have e1 : (Q == 1) = false := by rw [beq_eq_false_iff_ne]; exact c1
    by_cases c4 : Q = 4
    · subst c4
      have HV := Lib.hid (show decide (q.kind = 1 ∨ q.kind = 4 ∨ q.kind = 5) = true from decide_eq_true (by have := HQ.out; omega))
      go_wp2_with fail
      go_ret
      exact ⟨ret_bool (by rw [HF.out, HV.out]), G4.out⟩
    have e4 : (Q == 4) = false := by rw [beq_eq_false_iff_ne]; exact c4
    by_cases c5 : Q = 5
    · subst c5
      have HV := Lib.hid (show decide (q.kind = 1 ∨ q.kind = 4 ∨ q.kind = 5) = true from decide_eq_true (by have := HQ.out; omega))
      go_wp2_with fail
      go_ret
      exact ⟨ret_bool (by rw [HF.out, HV.out]), G4.out⟩
    have e5 : (Q == 5) = false := by rw [beq_eq_false_iff_ne]; exact c5
    have HV := Lib.hid (show decide (q.kind = 1 ∨ q.kind = 4 ∨ q.kind = 5) = false from decide_eq_false (by have := HQ.out; omega))
    clear c1 c4 c5
    go_wp2_with fail
    go_ret
    exact ⟨ret_bool (by rw [HF.out, HV.out]), G4.out⟩
  · have z1 : (K == 1) = false := by rw [beq_eq_false_iff_ne]; have := HKI.out; omega
    have z2 : (K == 2) = true := by rw [beq_iff_eq]; have := HKI.out; omega
    have z3 : (K == 3) = false := by rw [beq_eq_false_iff_ne]; have := HKI.out; omega
    have z4 : (K == 4) = false := by rw [beq_eq_false_iff_ne]; have := HKI.out; omega
    have z5 : (K == 5) = false := by rw [beq_eq_false_iff_ne]; have := HKI.out; omega
    have z6 : (K == 6) = false := by rw [beq_eq_false_iff_ne]; have := HKI.out; omega
    have z7 : (K == 7) = false := by rw [beq_eq_false_iff_ne]; have := HKI.out; omega
    have HF := Lib.hid (show fitsL q ⟨k, ns, bs⟩ = decide (q.kind = 2) by unfold fitsL; rw [HMQ.out, HMR.out]; simp [h])
    clear h hk
    have HV := Lib.hid (show decide (q.kind = 2) = (Q == 2) from by
      by_cases h : q.kind = 2
      · rw [decide_eq_true h, eq_comm, beq_iff_eq]; have := HQ.out; omega
      · rw [decide_eq_false h, eq_comm, beq_eq_false_iff_ne]; have := HQ.out; omega)
    go_wp2_with fail
    go_ret
    exact ⟨ret_bool (by rw [HF.out, HV.out]), G4.out⟩
  · have z1 : (K == 1) = false := by rw [beq_eq_false_iff_ne]; have := HKI.out; omega
    have z2 : (K == 2) = false := by rw [beq_eq_false_iff_ne]; have := HKI.out; omega
    have z3 : (K == 3) = true := by rw [beq_iff_eq]; have := HKI.out; omega
    have z4 : (K == 4) = false := by rw [beq_eq_false_iff_ne]; have := HKI.out; omega
    have z5 : (K == 5) = false := by rw [beq_eq_false_iff_ne]; have := HKI.out; omega
    have z6 : (K == 6) = false := by rw [beq_eq_false_iff_ne]; have := HKI.out; omega
    have z7 : (K == 7) = false := by rw [beq_eq_false_iff_ne]; have := HKI.out; omega
    have HF := Lib.hid (show fitsL q ⟨k, ns, bs⟩ = decide (q.kind = 2) by unfold fitsL; rw [HMQ.out, HMR.out]; simp [h])
    clear h hk
    have HV := Lib.hid (show decide (q.kind = 2) = (Q == 2) from by
      by_cases h : q.kind = 2
      · rw [decide_eq_true h, eq_comm, beq_iff_eq]; have := HQ.out; omega
      · rw [decide_eq_false h, eq_comm, beq_eq_false_iff_ne]; have := HQ.out; omega)
    go_wp2_with fail
    go_ret
    exact ⟨ret_bool (by rw [HF.out, HV.out]), G4.out⟩
  · have z1 : (K == 1) = false := by rw [beq_eq_false_iff_ne]; have := HKI.out; omega
    have z2 : (K == 2) = false := by rw [beq_eq_false_iff_ne]; have := HKI.out; omega
    have z3 : (K == 3) = false := by rw [beq_eq_false_iff_ne]; have := HKI.out; omega
    have z4 : (K == 4) = true := by rw [beq_iff_eq]; have := HKI.out; omega
    have z5 : (K == 5) = false := by rw [beq_eq_false_iff_ne]; have := HKI.out; omega
    have z6 : (K == 6) = false := by rw [beq_eq_false_iff_ne]; have := HKI.out; omega
    have z7 : (K == 7) = false := by rw [beq_eq_false_iff_ne]; have := HKI.out; omega
    have HF := Lib.hid (show fitsL q ⟨k, ns, bs⟩ = decide (q.kind = 2) by unfold fitsL; rw [HMQ.out, HMR.out]; simp [h])
    clear h hk
    have HV := Lib.hid (show decide (q.kind = 2) = (Q == 2) from by
      by_cases h : q.kind = 2
      · rw [decide_eq_true h, eq_comm, beq_iff_eq]; have := HQ.out; omega
      · rw [decide_eq_false h, eq_comm, beq_eq_false_iff_ne]; have := HQ.out; omega)
    go_wp2_with fail
    go_ret
    exact ⟨ret_bool (by rw [HF.out, HV.out]), G4.out⟩
  · have z1 : (K == 1) = false := by rw [beq_eq_false_iff_ne]; have := HKI.out; omega
    have z2 : (K == 2) = false := by rw [beq_eq_false_iff_ne]; have := HKI.out; omega
    have z3 : (K == 3) = false := by rw [beq_eq_false_iff_ne]; have := HKI.out; omega
    have z4 : (K == 4) = false := by rw [beq_eq_false_iff_ne]; have := HKI.out; omega
    have z5 : (K == 5) = true := by rw [beq_iff_eq]; have := HKI.out; omega
    have z6 : (K == 6) = false := by rw [beq_eq_false_iff_ne]; have := HKI.out; omega
    have z7 : (K == 7) = false := by rw [beq_eq_false_iff_ne]; have := HKI.out; omega
    have HF := Lib.hid (show fitsL q ⟨k, ns, bs⟩ = decide (q.kind = 3 ∧ (bs.length : Int) = q.len) by unfold fitsL; rw [HMQ.out, HMR.out]; simp [h])
    clear h hk
    by_cases c3 : Q = 3
    · subst c3
      have x2 := rq_cell R4.out HX.out 2
      have d2 := Row.cell RR4.out 2
      simp at x2 d2
      by_cases ce : (m : Int) = q.len
      · have ee : ((m : Int) == q.len) = true := by rw [beq_iff_eq]; exact ce
        have HV := Lib.hid (show decide (q.kind = 3 ∧ (bs.length : Int) = q.len) = true from decide_eq_true (by have := HQ.out; have := HM.out; omega))
        clear ce
        go_wp2_with fail
        go_ret
        exact ⟨ret_bool (by rw [HF.out, HV.out]), G4.out⟩
      · have ee : ((m : Int) == q.len) = false := by rw [beq_eq_false_iff_ne]; exact ce
        have HV := Lib.hid (show decide (q.kind = 3 ∧ (bs.length : Int) = q.len) = false from decide_eq_false (by have := HQ.out; have := HM.out; omega))
        clear ce
        go_wp2_with fail
        go_ret
        exact ⟨ret_bool (by rw [HF.out, HV.out]), G4.out⟩
    have e3 : (Q == 3) = false := by rw [beq_eq_false_iff_ne]; exact c3
    have HV := Lib.hid (show decide (q.kind = 3 ∧ (bs.length : Int) = q.len) = false from decide_eq_false (by have := HQ.out; omega))
    clear c3
    go_wp2_with fail
    go_ret
    exact ⟨ret_bool (by rw [HF.out, HV.out]), G4.out⟩
  · have z1 : (K == 1) = false := by rw [beq_eq_false_iff_ne]; have := HKI.out; omega
    have z2 : (K == 2) = false := by rw [beq_eq_false_iff_ne]; have := HKI.out; omega
    have z3 : (K == 3) = false := by rw [beq_eq_false_iff_ne]; have := HKI.out; omega
    have z4 : (K == 4) = false := by rw [beq_eq_false_iff_ne]; have := HKI.out; omega
    have z5 : (K == 5) = false := by rw [beq_eq_false_iff_ne]; have := HKI.out; omega
    have z6 : (K == 6) = true := by rw [beq_iff_eq]; have := HKI.out; omega
    have z7 : (K == 7) = false := by rw [beq_eq_false_iff_ne]; have := HKI.out; omega
    have HF := Lib.hid (show fitsL q ⟨k, ns, bs⟩ = decide (q.kind = 3) by unfold fitsL; rw [HMQ.out, HMR.out]; simp [h])
    clear h hk
    have HV := Lib.hid (show decide (q.kind = 3) = (Q == 3) from by
      by_cases h : q.kind = 3
      · rw [decide_eq_true h, eq_comm, beq_iff_eq]; have := HQ.out; omega
      · rw [decide_eq_false h, eq_comm, beq_eq_false_iff_ne]; have := HQ.out; omega)
    go_wp2_with fail
    go_ret
    exact ⟨ret_bool (by rw [HF.out, HV.out]), G4.out⟩
  · have z1 : (K == 1) = false := by rw [beq_eq_false_iff_ne]; have := HKI.out; omega
    have z2 : (K == 2) = false := by rw [beq_eq_false_iff_ne]; have := HKI.out; omega
    have z3 : (K == 3) = false := by rw [beq_eq_false_iff_ne]; have := HKI.out; omega
    have z4 : (K == 4) = false := by rw [beq_eq_false_iff_ne]; have := HKI.out; omega
    have z5 : (K == 5) = false := by rw [beq_eq_false_iff_ne]; have := HKI.out; omega
    have z6 : (K == 6) = false := by rw [beq_eq_false_iff_ne]; have := HKI.out; omega
    have z7 : (K == 7) = true := by rw [beq_iff_eq]; have := HKI.out; omega
    have HF := Lib.hid (show fitsL q ⟨k, ns, bs⟩ = true by unfold fitsL; rw [HMQ.out, HMR.out]; simp [h])
    clear h hk
    go_wp2_with fail
    go_ret
    exact ⟨ret_bool HF.out.symm, G4.out⟩
theorem rfits_n (q : Rq) (aq : Option Addr) (nq cq : Nat) (K : Int) (k n cn m cb : Nat) (an ab : Option Addr) (ns : List Int) (bs : List UInt8) (w : World) (hx : q.ix.length = 16) (hnq : q.bytes.length = nq) (hok : LeaseOk q.who q.till) (hnm : nq ≤ maxLen) (hK : K = (k : Int)) (hns : Lies w an (IV ns)) (hn : ns.length = n) (hm : bs.length = m) (hn1 : n ≤ maxLen) (hm1 : m ≤ maxLen) :
    Calls Try.prog 41 #[.agg (rqC q (.slice aq nq cq)), .agg #[.int .u8 K, .slice an n cn, .slice ab m cb]] w fun e w' => e = .returned (.bool (fitsL q ⟨k, ns, bs⟩)) ∧ w.grownBy w' none := by
  by_cases hq : MayQ q
  · by_cases hr : mayR ⟨k, ns, bs⟩ = true
    · have hk : 1 ≤ k ∧ k ≤ 7 := by
        have h := hr
        unfold mayR at h
        simp only at h
        split at h
        · cases h
        by_cases k1 : k = 1
        · omega
        by_cases k5 : k = 5
        · omega
        rw [if_neg k1, if_neg k5, Bool.and_eq_true, decide_eq_true_eq, decide_eq_true_eq] at h
        exact h
      exact rfits_y q aq nq cq K k n cn m cb an ab ns bs w hx hnq hok hnm hK hns hn hm hn1 hm1 hq hr hk
    · exact rfits_r q aq nq cq K k n cn m cb an ab ns bs w hx hnq hok hnm hK hns hn hm hn1 hm1 hq hr
  · exact rfits_q q aq nq cq K k n cn m cb an ab ns bs w hx hnq hok hnm hK hns hn hm hn1 hm1 hq
end Go.Proofs.Ytkdmebcfedehiaa
/- The document's Request of all bytes. Printed by gens/wireref_x.py. -/
namespace Go.Proofs.Ytkdmebcfedehiaa
open Go.RowKit

theorem refReq_n (a : Option Addr) (n c : Nat) (l : List UInt8) (w : World) (hl : BLies w a l) (hn : l.length = n) (hc : n ≤ c) (hnm : n ≤ 140737488355000) :
    Calls Try.prog 37 #[.slice a n c] w fun e w' => ReqP w (decQ l) e w' := by
  rcases Nat.eq_zero_or_pos n with h0 | h0
  · exact refReq_empty a n c l w hl hn hc hnm h0
  obtain ⟨b, off, ha, _⟩ := bytes_cells hl (by omega)
  by_cases hk : headQ (l.getD 0 0).toNat = 0
  · exact refReq_kind a n c l w hl hn hc hnm b off ha h0 _ rfl hk
  rcases headQ_cases hk with h | h | h | h | h
  · exact refReq_1 a n c l w hl hn hc hnm b off ha h0 (by omega)
  · exact refReq_2 a n c l w hl hn hc hnm b off ha h0 (by omega)
  · exact refReq_3 a n c l w hl hn hc hnm b off ha h0 (by omega)
  · exact refReq_4 a n c l w hl hn hc hnm b off ha h0 (by omega)
  · exact refReq_5 a n c l w hl hn hc hnm b off ha h0 (by omega)
end Go.Proofs.Ytkdmebcfedehiaa
/- strongroomlaw20.ask: the words. Printed by gens/wireask.py. -/
namespace Go.Proofs.Ytkdmebcfedehiaa
open Go.RowKit

/-- one call of a script, in cells -/
def opC (call : Int) (q : Rq) (s : Value) (K : Int) (x y z : Value) : Array Value := (.int .i64 call :: ((rqC q s).toList ++ [.int .u8 K, x, y, z])).toArray
theorem op_len (call : Int) (q : Rq) (s : Value) (K : Int) (x y z : Value) (h : q.ix.length = 16) : (opC call q s K x y z).size = 28 := by simp [opC, rqC, h]
theorem op_get (call : Int) (q : Rq) (s : Value) (K : Int) (x y z : Value) (h : q.ix.length = 16) (j : Nat) : (opC call q s K x y z)[24 + j]? = ([.int .u8 K, x, y, z] : List Value)[j]? := by
  unfold opC
  have hl : (rqC q s).toList.length = 23 := by simp [rqC, h]
  rw [List.getElem?_toArray, show 24 + j = (23 + j) + 1 by omega, List.getElem?_cons_succ, List.getElem?_append_right (by omega), hl, Nat.add_sub_cancel_left]
theorem op_getq (call : Int) (q : Rq) (s : Value) (K : Int) (x y z : Value) (h : q.ix.length = 16) (j : Nat) (hj : j < 23) : (opC call q s K x y z)[1 + j]? = (rqC q s)[j]? := by
  unfold opC
  have hl : (rqC q s).toList.length = 23 := by simp [rqC, h]
  rw [List.getElem?_toArray, Nat.add_comm 1 j, List.getElem?_cons_succ, List.getElem?_append_left (by omega)]
  simp
section
variable {w : World} {g : Nat} {call : Int} {q : Rq} {s : Value} {K : Int} {x y z : Value}
theorem op_cell (h : Row w g 59 (opC call q s K x y z)) (hx : q.ix.length = 16) (j : Nat) : w.cell? ⟨g, 24 + j, none⟩ = ([.int .u8 K, x, y, z] : List Value)[j]? := by
  rw [Row.cell h, op_get _ _ _ _ _ _ _ hx]
theorem op_call (h : Row w g 59 (opC call q s K x y z)) : w.cell? ⟨g, 0, none⟩ = some (.int .i64 call) := by
  rw [Row.cell h]; rfl
theorem op_byt (h : Row w g 59 (opC call q s K x y z)) (hx : q.ix.length = 16) : w.cell? ⟨g, 23, none⟩ = some s := by
  rw [Row.cell h, show 23 = 1 + 22 from rfl, op_getq _ _ _ _ _ _ _ hx 22 (by omega), show 22 = 17 + 5 from rfl, rq_get q s hx]
  rfl
theorem op_req (h : Row w g 59 (opC call q s K x y z)) (hx : q.ix.length = 16) : w.rangeAt g 1 (rqC q s).toList := by
  intro j v hj
  have hl : (rqC q s).toList.length = 23 := by simp [rqC, hx]
  have hj2 : j < 23 := by
    rcases Nat.lt_or_ge j 23 with h | h
    · exact h
    · rw [List.getElem?_eq_none (by omega)] at hj; cases hj
  rw [Row.cell h, op_getq _ _ _ _ _ _ _ hx j hj2, ← hj]
  simp
theorem op_rep (h : Row w g 59 (opC call q s K x y z)) (hx : q.ix.length = 16) : w.rangeAt g 24 [.int .u8 K, x, y] := by
  intro j v hj
  have hj2 : j < 3 := by
    rcases Nat.lt_or_ge j 3 with h | h
    · exact h
    · rw [List.getElem?_eq_none (by simpa using h)] at hj; cases hj
  rw [op_cell h hx, ← hj]
  match j, hj2 with
  | 0, _ => rfl
  | 1, _ => rfl
  | 2, _ => rfl
end
theorem size_op : (Try.prog.info? 59).map (·.size) = some 28 := by kernel_rfl
theorem size_rep : (Try.prog.info? 26).map (·.size) = some 3 := by kernel_rfl
theorem run_pre_opI (w : World) (ev : Operand → Value) {o : Oper} (x h : Operand) (ho : o.op = .slice 23 x none (some h) none) (a : Option Addr) (N c m : Nat) (hx : ev x = .slice a N c) (hh : ev h = .int .i64 (m : Int)) (hm : m ≤ c) :
    (execOp ev o).run Try.prog w = .ok (.value (.slice a m c)) w := by
  have hu : Try.prog.underlying 23 = some (.slice (Try.prog.elem 23)) := by kernel_rfl
  have hz : (sizeOf (Try.prog.elem 23)).run Try.prog w = .ok 1 w := by
    obtain ⟨i, hi, hz, hs, hb⟩ := elI.info
    have he : Try.prog.elem 23 = 3 := by kernel_rfl
    rw [he]
    simp [sizeOf, typeInfo, hi, hs]
  unfold execOp
  simp only [ho, Option.map_some, Option.map_none]
  simp only [Sem.run_bind, run_sliceAt_slice (P := Try.prog) w _ _ _ _ _ hu, hx, hh]
  rw [run_slice_h (P := Try.prog) w _ _ _ _ hu _ _ (by omega) (by omega)]
  have hm0 : a.map (fun a => a.add 0) = a := by cases a <;> simp [Addr.add]
  simp [hz, sliced, hm0]
def decQL (l : List UInt8) : Rq := rqOf (decQ l)
theorem decQ_facts (l : List UInt8) : (rqOf (decQ l)).ix.length = 16 ∧ LeaseOk (rqOf (decQ l)).who (rqOf (decQ l)).till ∧ (rqOf (decQ l)).bytes.length ≤ l.length := by
  cases h : decQ l with
  | error p => exact ⟨by simp [rqOf, noRq, ix0], by show LeaseOk 0 0; unfold LeaseOk; omega, by show 0 ≤ _; omega⟩
  | ok q =>
    obtain ⟨h1, h2, h3, h4, h5⟩ := encQ_dec l q h
    refine ⟨h3, ?_, ?_⟩
    · show LeaseOk (q.who : Int) q.till
      unfold LeaseOk
      unfold MayQ at h1
      omega
    · show q.bytes.length ≤ _
      rw [← h2]
      unfold encQ
      unfold MayQ at h1
      by_cases k2 : q.kind = 2
      · rw [if_pos k2]; simp; omega
      · omega
theorem decR_facts (l : List UInt8) : (rpOf (decR l)).nums.length ≤ 255 ∧ (rpOf (decR l)).bytes.length ≤ 131072 := by
  cases h : decR l with
  | error p => exact ⟨by show 0 ≤ _; omega, by show 0 ≤ _; omega⟩
  | ok r =>
    obtain ⟨h1, _⟩ := enc_dec l r h
    obtain ⟨k, ns, bs⟩ := r
    show ns.length ≤ 255 ∧ bs.length ≤ 131072
    by_cases k1 : k = 1
    · subst k1
      rcases Nat.eq_zero_or_pos bs.length with h0 | h0
      · have hb := List.eq_nil_of_length_eq_zero h0
        subst hb
        rw [mayR_1] at h1
        have := incr_len ns (-1) h1 (by omega)
        simp
        omega
      · rw [mayR_1b ns h0] at h1; cases h1
    rcases Nat.eq_zero_or_pos ns.length with h0 | h0
    · have hb := List.eq_nil_of_length_eq_zero h0
      subst hb
      by_cases k5 : k = 5
      · subst k5
        rw [mayR_5, Bool.and_eq_true, decide_eq_true_eq, decide_eq_true_eq] at h1
        simp
        omega
      · rcases Nat.eq_zero_or_pos bs.length with h2 | h2
        · simp; omega
        · rw [mayR_b k1 k5 h2] at h1; cases h1
    · rw [mayR_n k1 h0] at h1; cases h1
theorem putQL_len (q : Rq) (hx : q.ix.length = 16) (n : Nat) (hn : q.bytes.length = n) (h : n ≤ 40000000) : (putQL q).length ≤ 50000000 := by
  unfold putQL
  split
  · unfold encQ
    simp [hx]
    split
    · simp [bigL_length]; omega
    split
    · simp [bigL_length]
    split
    · simp [bigL_length]
    split
    · simp [bigL_length]
    · simp
  · simp
theorem putL_len (r : Rp) (n m : Nat) (hn : r.nums.length = n) (hm : r.bytes.length = m) (h : n ≤ 4000000 ∧ m ≤ 4000000) : (putL r).length ≤ 50000000 := by
  unfold putL
  split
  · unfold encR
    simp
    split
    · simp; omega
    split
    · simp [bigL_length]; omega
    · simp
  · simp
/-- what a call of a script does -/
def AskP (w : World) (bk base : Nat) (bs : List (List UInt8)) (is : List (List Int)) (e : Ending) (w' : World) : Prop :=
  e = .returned (.bool true) ∧ ∃ bs' is', Book w' bk base bs' is' ∧ bs'.length ≤ bs.length + 1 ∧ is'.length ≤ is.length + 1 ∧ (∀ x ∈ bs', x ∈ bs ∨ x.length ≤ 50000000) ∧ (∀ x ∈ is', x ∈ is ∨ x.length ≤ 50000000) ∧ Ch (fun x => bk ≤ x) w w'
theorem ints_take {w : World} {a : Option Addr} {l : List Int} (h : Ints.ILies w a l) (n : Nat) : Ints.ILies w a (l.take n) := by
  intro k hk
  obtain ⟨b, off, e, hc⟩ := h k (by simp at hk; omega)
  exact ⟨b, off, e, by rw [hc]; simp⟩
theorem rowL_lis {w w' : World} {b : Nat} {a : Option Addr} {n c : Nat} {bs : List (List UInt8)} {L : List Sl} (h : LIs w b a n c bs L) {g t : Nat} {cs : Array Value} (hr : Row w g t cs) (hg : w.grownBy w' (some g)) (h1 : t ≠ 24) (h2 : t ≠ 5) : LIs w' b a n c bs L :=
  ⟨Own.grownNe h.outer hg (fun g' h0 e e2 => by injection e2 with e2; subst e2; exact row_in hr h.outer h1 ⟨h0, e⟩), h.len, fun i hi hi' => Own.grownNe (h.inner i hi hi') hg (fun g' h0 e e2 => by injection e2 with e2; subst e2; exact row_in hr (h.inner i hi hi') h2 ⟨h0, e⟩), h.apart⟩
theorem rowL_lisI {w w' : World} {b : Nat} {a : Option Addr} {n c : Nat} {bs : List (List Int)} {L : List Sl} (h : LIsI w b a n c bs L) {g t : Nat} {cs : Array Value} (hr : Row w g t cs) (hg : w.grownBy w' (some g)) (h1 : t ≠ 23) (h2 : t ≠ 3) : LIsI w' b a n c bs L :=
  ⟨Own.grownNe h.outer hg (fun g' h0 e e2 => by injection e2 with e2; subst e2; exact row_in hr h.outer h1 ⟨h0, e⟩), h.len, fun i hi hi' => Own.grownNe (h.inner i hi hi') hg (fun g' h0 e e2 => by injection e2 with e2; subst e2; exact row_in hr (h.inner i hi hi') h2 ⟨h0, e⟩), h.apart⟩
end Go.Proofs.Ytkdmebcfedehiaa
/- SameLists: what it tells. -/
namespace Go.Proofs.Ytkdmebcfedehiaa
open Go.RowKit

theorem quietSL {P : Program} {f : FuncId} {args : Array Value} {w : World} {n : Nat} {v : Value} (h : Calls P f args (w.drewN n) fun e w' => e = .returned v ∧ ∃ q, w' = (w.drewN n).drewN q) : Calls P f args (w.drewN n) fun e w'' => e = .returned v ∧ ∃ m, w'' = w.drewN m :=
  h.mono fun _ _ ⟨he, q, hw⟩ => ⟨he, n + q, by rw [hw, World.drewN_drewN]⟩

/-- where list i lies -/
theorem LLies.atS {w : World} {a : Option Addr} {L : List Sl} {bs : List (List UInt8)} (h : LLies w a L bs) (i : Nat) (hi : i < bs.length) : ∃ g o sa m sc, a = some ⟨g, o, none⟩ ∧ w.cell? ⟨g, o + i, none⟩ = some (.slice sa m sc) ∧ BLies w sa bs[i] ∧ (bs[i]).length = m := by
  have hiL : i < L.length := by rw [h.2.1]; exact hi
  obtain ⟨g, o, e, hc⟩ := h.1 i (by rw [List.length_map]; exact hiL)
  obtain ⟨h1, h2⟩ := h.2.2 i hiL hi
  refine ⟨g, o, (L[i]).a, (L[i]).n, (L[i]).c, e, ?_, h1, h2.symm⟩
  rw [hc]
  simp [Sl.val]


set_option maxRecDepth 100000 in
set_option maxHeartbeats 1000000 in
theorem sameLists_n (a a' : Option Addr) (c c' n n' : Nat) (L L' : List Sl) (bs cs : List (List UInt8)) (w : World) (ha : LLies w a L bs) (hb : LLies w a' L' cs) (hn : bs.length = n) (hn' : cs.length = n') (hm : n ≤ maxLen) (hl : ∀ b ∈ bs, b.length ≤ maxLen) :
    Calls Try.prog 19 #[.slice a n c, .slice a' n' c'] w fun e w' => e = .returned (.bool (decide (bs = cs))) ∧ ∃ q, w' = w.drewN q := by
  unfold maxLen at hm
  have HA := Lib.hid ha
  have HB := Lib.hid hb
  have HN := Lib.hid hn
  have HN' := Lib.hid hn'
  have HL := Lib.hid hl
  clear ha hb hn hn' hl
  by_cases hnn : n = n'
  · subst hnn
    go_enter Try.func19, Try.ntmps19
    go_wp2_with fail
    go_loopw [5] (fun vi wr => ∃ i q : Nat, i ≤ n ∧ vi = .int .i64 i ∧ wr = w.drewN q ∧ bs.take i = cs.take i) (fun vi _ => n - (intOf vi).toNat)
    case atStart => exact ⟨0, 0, by omega, rfl, rfl, by simp⟩
    case round =>
      obtain ⟨i, q0, hi, rfl, hq0, ht⟩ := hrel
      have hgw : w.grownBy wr none := by rw [hq0]; exact grownBy_drewN _ _ _
      have HGW := Lib.hid hgw
      have HQ0 := Lib.hid hq0
      have HT := Lib.hid ht
      clear hgw hq0 ht
      by_cases hlt : i < n
      · have hib : i < bs.length := by rw [HN.out]; exact hlt
        have hic : i < cs.length := by rw [HN'.out]; exact hlt
        obtain ⟨g, o, sa, m, sc, rfl, c1, l1, h1⟩ := (HA.out.grown HGW.out).atS i hib
        obtain ⟨g', o', sa', m', sc', rfl, c2, l2, h2⟩ := (HB.out.grown HGW.out).atS i hic
        have hmx : (bs[i]).length ≤ maxLen := HL.out _ (List.getElem_mem _)
        have L1 := Lib.hid l1
        have L2 := Lib.hid l2
        have H1 := Lib.hid h1
        have H2 := Lib.hid h2
        have HMX := Lib.hid hmx
        clear l1 l2 h1 h2 hmx
        obtain ⟨r, hr⟩ : ∃ r, r = decide (bs[i] = cs[i]) := ⟨_, rfl⟩
        have HR := Lib.hid hr
        clear hr
        cases r with
        | true =>
          have he : bs[i] = cs[i] := of_decide_eq_true HR.out.symm
          have HE := Lib.hid he
          clear he
          go_wp2_with fail
          go_quiet ((go_at_call 12; exact quietSL ((same_n sa sa' sc sc' m m' _ _ _ (L1.out.drewN _) (L2.out.drewN _) H1.out H2.out (by rw [← H1.out]; exact HMX.out)).mono (fun e w' h => ⟨by rw [h.1, ← HR.out], h.2⟩))))
          go_wp2_with fail
          go_roundw
          case rel => exact ⟨i + 1, q0 + nq, by omega, by go_num, by rw [HQ0.out, World.drewN_drewN], by rw [List.take_succ_eq_append_getElem hib, List.take_succ_eq_append_getElem hic, HT.out, HE.out]⟩
          case measure => simp [intOf]; omega
        | false =>
          have he : bs[i] ≠ cs[i] := of_decide_eq_false HR.out.symm
          have HE := Lib.hid he
          clear he
          go_wp2_with fail
          go_quiet ((go_at_call 12; exact quietSL ((same_n sa sa' sc sc' m m' _ _ _ (L1.out.drewN _) (L2.out.drewN _) H1.out H2.out (by rw [← H1.out]; exact HMX.out)).mono (fun e w' h => ⟨by rw [h.1, ← HR.out], h.2⟩))))
          go_wp2_with fail
          go_ret
          exact ⟨ret_bool (by rw [eq_comm, decide_eq_false_iff_not]; intro h; exact HE.out (by simp [h])), q0 + nq, by rw [HQ0.out, World.drewN_drewN]⟩
      · obtain rfl : i = n := by omega
        go_wp2_with fail
        go_ret
        exact ⟨ret_bool (by have h1 := HT.out; have h2 := HN.out; have h3 := HN'.out; rw [eq_comm, decide_eq_true_iff]; rwa [List.take_of_length_le (by omega), List.take_of_length_le (by omega)] at h1), _, HQ0.out⟩
  · have hlb : ((n : Int) != (n' : Int)) = true := by rw [bne_iff_ne]; omega
    go_enter Try.func19, Try.ntmps19
    go_wp2_with fail
    go_ret
    exact ⟨ret_bool (by rw [eq_comm, decide_eq_false_iff_not]; intro h; exact hnn (by rw [← HN.out, ← HN'.out, h])), 0, rfl⟩
end Go.Proofs.Ytkdmebcfedehiaa
