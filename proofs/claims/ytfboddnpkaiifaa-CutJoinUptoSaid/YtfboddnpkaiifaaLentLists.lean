/- LentLists: a list of lists in memory of its own, with marks behind. -/
import Derived.Test.YtfboddnpkaiifaaLists
import Derived.Test.YtfboddnpkaiifaaCh
import Derived.Test.YtfboddnpkaiifaaRegE
namespace Go.Proofs.Ytfboddnpkaiifaa
open Go.RowKit

theorem clo_ch (S : Nat → Prop) (w0 : World) : Clo (fun u => Ch S w0 u) := fun _ _ h g => h.then g
theorem wp_skip_op {P : Program} {o : Oper} {a : Act} {w w1 : World} {K : Act → World → Prop} {Q : Exit → Act → World → Prop} (h : (execOp a.eval o).run P w = .ok .skip w1) (hk : K (a.put o.dst undef) w1) : o.wp P a w K Q := by
  unfold Oper.wp
  rw [h, Oper.upon_skip]
  exact hk
/-- what a region may count on round an append: of what was there the one row alone may have changed, and it still begins as it did -/
def AppS (w0 : World) (base : Nat) (e : TypeId) (a : Option Addr) (n c : Nat) (xs : List Value) (u : World) : Prop := Ch (In a c) w0 u ∧ Own u base e 1 a n c xs
theorem clo_app (w0 : World) (base : Nat) (e : TypeId) (a : Option Addr) (n c : Nat) (xs : List Value) : Clo (AppS w0 base e a n c xs) := fun _ _ h g => ⟨h.1.then g, Own.ch h.2 (Ch.ofNone g (fun _ => False)) (fun _ _ _ h => h)⟩
theorem clo_and {S T : World → Prop} (h : Clo S) (k : Clo T) : Clo (fun u => S u ∧ T u) := fun u v hs hg => ⟨h u v hs.1 hg, k u v hs.2 hg⟩
theorem clo_row (g : Nat) (t : TypeId) (cs : Array Value) : Clo (fun u => Row u g t cs) := fun _ _ h hg => h.grown hg
theorem own_behind {w w1 : World} {base : Nat} {e : TypeId} {a a2 : Option Addr} {n c c2 : Nat} {xs ys : List Value} (h : Own w base e 1 a n c xs) (h1 : Own w1 base e 1 a2 (n + 1) c2 (xs ++ ys)) (hg : GrewP w w1 a c a2 c2) : Own w1 base e 1 a n c xs := by
  rcases hg with ⟨g, rfl, rfl, hc, rfl, hg⟩ | ⟨g, _, _, hg⟩
  · rcases h1.2 with ⟨h0, _⟩ | ⟨g', cur, ha, hb, hh, hn, hm, hs, ht⟩
    · omega
    · refine ⟨h.1, .inr ⟨g', cur, ha, hb, hh, by omega, hm, hs, ?_⟩⟩
      have h2 := congrArg (List.take (n * 1)) ht
      rw [List.take_take, Nat.min_eq_left (by omega)] at h2
      rw [h2, List.take_left' h.1]
  · exact Own.ch h (Ch.ofNone hg (fun _ => False)) (fun _ _ _ h => h)
/-- the slices without their marks -/
def preS (L : List Sl) : List Sl := L.map fun s => ⟨s.a, s.n - 70, s.c⟩
theorem preS_len (L : List Sl) : (preS L).length = L.length := by simp [preS]
theorem row_in {w : World} {g : Nat} {t : TypeId} {cs : Array Value} (h : Row w g t cs) {base : Nat} {e : TypeId} {size : Nat} {a : Option Addr} {n c : Nat} {xs : List Value} (ho : Own w base e size a n c xs) (hne : t ≠ e) : ¬ In a c g := by
  rintro ⟨hc, ha⟩
  rcases ho.2 with ⟨_, h0⟩ | ⟨g', cur, ha', _, hh, _⟩
  · omega
  rw [ha] at ha'
  injection ha' with ha'; injection ha' with ha'
  subst ha'
  have h' : w.heap[g]? = some (.cells cs t (0, 0)) := h
  rw [h'] at hh
  injection hh with hh
  injection hh with _ h2 _
  exact hne h2
theorem run_app_op {P : Program} (w w1 : World) (ev : Operand → Value) {o : Oper} {t : TypeId} (s x : Operand) (ho : o.op = .call { callee := .builtin .append, args := #[s, x], argTypes := #[t, t] }) (v : Value) (h : (Builtin.append_ #[t, t] o.type #[ev s, ev x]).run P w = .ok v w1) : (execOp ev o).run P w = .ok (.value v) w1 := by
  unfold execOp
  simp only [ho, resolve, invoke, builtin, Sem.run_bind, Sem.run_pure, Result.andThen_ok, List.map_toArray, List.map_cons, List.map_nil, h]

/-- one list more, told by its slices -/
theorem LIs.push' {w w1 w2 : World} {base : Nat} {a : Option Addr} {n c : Nat} {bs : List (List UInt8)} {L : List Sl} (h : LIs w base a n c bs L) (hb : base ≤ w.heap.size) (hg : w.grownBy w1 none)
    {a' : Option Addr} {n' c' : Nat} {b : List UInt8} (ho : BOwn w1 w.heap.size a' n' c' b) {a2 : Option Addr} {c2 : Nat}
    (hs : Own w2 base 22 1 a2 (n + 1) c2 (L.map Sl.val ++ [.slice a' n' c'])) (hgr : GrewP w1 w2 a c a2 c2) : LIs w2 base a2 (n + 1) c2 (bs ++ [b]) (L ++ [⟨a', n', c'⟩]) := by
  obtain ⟨h1, h2, h3, h4⟩ := h
  have h1' : SOwn w1 base a n c L := Own.grownNone h1 hg
  have hin : ∀ i (h : i < L.length) (h' : i < bs.length), BOwn w2 base (L[i]).a (L[i]).n (L[i]).c bs[i] := fun i h h' => Own.grewOther ((h3 i h h').grown hg) h1' hgr (by decide)
  have hnew : BOwn w2 base a' n' c' b := Own.grewOther (ho.mono hb) h1' hgr (by decide)
  refine ⟨?_, by simp [h2], ?_, ?_⟩
  · unfold SOwn; rw [List.map_append]; exact hs
  · intro i hi hi'
    by_cases e : i < L.length
    · have e' : i < bs.length := by omega
      rw [List.getElem_append_left e, List.getElem_append_left e']
      exact hin i e e'
    · simp only [List.length_append, List.length_singleton] at hi
      obtain rfl : i = L.length := by omega
      have e2 : (L ++ [⟨a', n', c'⟩])[L.length] = (⟨a', n', c'⟩ : Sl) := by simp
      have e3 : (bs ++ [b])[L.length] = b := by simp [h2]
      rw [e2, e3]
      exact hnew
  · have old : ∀ i (hi : i < L.length) g, (L[i]).blk = some g → g < w.heap.size := by
      intro i hi g hgb
      have hbo := h3 i hi (by omega)
      obtain ⟨hc, ha⟩ := hbo.blk hgb
      obtain ⟨g', ha', _, hlt⟩ := Own.block hbo hc
      rw [ha] at ha'
      obtain rfl : g = g' := by simpa using ha'
      exact hlt
    have new : ∀ g, (⟨a', n', c'⟩ : Sl).blk = some g → w.heap.size ≤ g := by
      intro g hgb
      have hbo : BOwn w1 w.heap.size (⟨a', n', c'⟩ : Sl).a (⟨a', n', c'⟩ : Sl).n (⟨a', n', c'⟩ : Sl).c b := ho
      obtain ⟨hc, ha⟩ := hbo.blk hgb
      obtain ⟨g', ha', hlt, _⟩ := Own.block hbo hc
      rw [ha] at ha'
      obtain rfl : g = g' := by simpa using ha'
      exact hlt
    intro i j hi hj hij g hgi hgj
    simp only [List.length_append, List.length_singleton] at hi hj
    by_cases ei : i < L.length
    · by_cases ej : j < L.length
      · rw [List.getElem_append_left ei] at hgi
        rw [List.getElem_append_left ej] at hgj
        exact h4 i j ei ej hij g hgi hgj
      · obtain rfl : j = L.length := by omega
        rw [List.getElem_append_left ei] at hgi
        have e2 : (L ++ [⟨a', n', c'⟩])[L.length]'(by simp) = (⟨a', n', c'⟩ : Sl) := by simp
        rw [e2] at hgj
        have := old i ei g hgi
        have := new g hgj
        omega
    · obtain rfl : i = L.length := by omega
      have ej : j < L.length := by omega
      rw [List.getElem_append_left ej] at hgj
      have e2 : (L ++ [⟨a', n', c'⟩])[L.length]'(by simp) = (⟨a', n', c'⟩ : Sl) := by simp
      rw [e2] at hgi
      have := old j ej g hgj
      have := new g hgi
      omega
theorem LIs.ch {w w' : World} {base : Nat} {a : Option Addr} {n c : Nat} {bs : List (List UInt8)} {L : List Sl} {S : Nat → Prop} (h : LIs w base a n c bs L) (hc : Ch S w w') (ho : ∀ g, In a c g → ¬ S g) (hi : ∀ i (hi : i < L.length) g, In (L[i]).a (L[i]).c g → ¬ S g) : LIs w' base a n c bs L :=
  ⟨Own.ch h.outer hc (fun h0 g e => ho g ⟨h0, e⟩), h.len, fun i h1 h2 => Own.ch (h.inner i h1 h2) hc (fun h0 g e => hi i h1 g ⟨h0, e⟩), h.apart⟩
theorem LIs.chTy {w w' : World} {base base' : Nat} {a a' : Option Addr} {n c n' c' : Nat} {bs : List (List UInt8)} {L : List Sl} {xs : List Value} (h : LIs w base a n c bs L) (hc : Ch (In a' c') w w') (h' : Own w base' 22 1 a' n' c' xs) (ho : ∀ g, In a c g → ¬ In a' c' g) : LIs w' base a n c bs L :=
  h.ch hc ho (fun i hi g hg hg' => by
    have hin := h.inner i hi (by have := h.len; omega)
    obtain ⟨h1, h2⟩ := hg
    obtain ⟨h3, h4⟩ := hg'
    rw [h2] at hin
    rw [h4] at h'
    exact own_ne hin h' h1 h3 (by decide) rfl)

set_option maxRecDepth 100000 in
set_option maxHeartbeats 2000000 in
theorem lentLists_n (a : Option Addr) (c n : Nat) (L : List Sl) (bs : List (List UInt8)) (w : World) (hL : LLies w a L bs) (hn : bs.length = n) (hb : ∀ b ∈ bs, b.length ≤ 4000000000) (hn2 : n ≤ 4000000000) :
    Calls Try.prog 22 #[.slice a n c] w fun e w' => ∃ aF cF aE cE Es Ms, e = .returned (.agg #[.slice aF n cF, .slice aF (n + 70) cF, .slice aE n cE]) ∧ LIs w' w.heap.size aE n cE (bs.map lent) Es ∧
      SOwn w' w.heap.size aF (n + 70) cF (preS Es ++ Ms) ∧ Ms.length = 70 ∧ (∀ i (h : i < Ms.length), BOwn w' w.heap.size (Ms[i]).a 2 (Ms[i]).c [UInt8.ofNat i, 99] ∧ (Ms[i]).n = 2) ∧ w.grownBy w' none := by
  obtain ⟨il, hil, hilz, hils, _⟩ := info_parts (show (Try.prog.info? 36).map (fun i => (i.zero, i.size, i.bytes)) = some (some (.agg #[.slice none 0 0, .slice none 0 0, .slice none 0 0]), 3, 72) by kernel_rfl)
  have hLl : L.length = n := by rw [hL.2.1, hn]
  have HL := Lib.hid hL
  have HN := Lib.hid hn
  have HB := Lib.hid hb
  have HLL := Lib.hid hLl
  clear hL hn hb hLl
  go_enter Try.func22, Try.ntmps22
  go_upto_region 1 with (refine wpList_made rfl rfl hil hilz ?_; intro w1 hs1 hg1 hr1; have HS1 := Lib.hid hs1; have HG1 := Lib.hid hg1; have HR1 := Lib.hid (show Row w1 w.heap.size 36 #[.slice none 0 0, .slice none 0 0, .slice none 0 0] from hr1); clear hs1 hg1 hr1)
  go_wp2_with (refine wpList_made rfl rfl hil hilz ?_; intro w2 hs2 hg2 hr2; have HG2 := Lib.hid (grownBy_trans HG1.out hg2); have HR2 := Lib.hid (show Row w2 w1.heap.size 36 #[.slice none 0 0, .slice none 0 0, .slice none 0 0] from hr2); have HT2 := Lib.hid (HR1.out.grown hg2); clear hs2 hg2 hr2)
  obtain ⟨b3, hb3⟩ : ∃ b3, b3 = w1.heap.size := ⟨_, rfl⟩
  have hb3w : w.heap.size < b3 := by rw [hb3]; exact HR1.out.lt
  rw [← hb3] at HR2 ⊢
  clear hb3 HR1 HS1 HG1
  go_loopw [4] (fun vi wr => ∃ (i : Nat) (aF aE : Option Addr) (cF cE : Nat) (Es : List Sl), i ≤ n ∧ vi = .int .i64 i ∧ Row wr b3 36 #[.slice none 0 0, .slice aF i cF, .slice aE i cE] ∧ Row wr w.heap.size 36 #[.slice none 0 0, .slice none 0 0, .slice none 0 0] ∧ LIs wr w.heap.size aE i cE ((bs.take i).map lent) Es ∧ SOwn wr w.heap.size aF i cF (preS Es) ∧ (∀ g, In aE cE g → ¬ In aF cF g) ∧ w.grownBy wr none) (fun vi _ => n - (intOf vi).toNat)
  case atStart => exact ⟨0, none, none, 0, 0, [], by omega, rfl, HR2.out, HT2.out, ⟨Own.nil _ _ _ _ _, rfl, fun i h => absurd h (by simp), fun i j h => absurd h (by simp)⟩, Own.nil _ _ _ _ _, fun g h => absurd h.1 (by omega), HG2.out⟩
  case round =>
    obtain ⟨i, aF, aE, cF, cE, Es, hi, rfl, hrow, hrt, hE, hF, hdis, hg⟩ := hrel
    have HROW := Lib.hid hrow
    have HT := Lib.hid hrt
    have HE := Lib.hid hE
    have HF := Lib.hid hF
    have HD := Lib.hid hdis
    have HG := Lib.hid hg
    clear hrow hrt hE hF hdis hg HR2 HT2 HG2
    by_cases hlt : i < n
    · obtain ⟨ga, oa, haa, hcell⟩ := (HL.out.grown HG.out).1 i (by rw [List.length_map, HLL.out]; exact hlt)
      subst haa
      obtain ⟨s, hs⟩ : ∃ s, s = L[i]'(by rw [HLL.out]; exact hlt) := ⟨_, rfl⟩
      obtain ⟨b, hbe⟩ : ∃ b, b = bs[i]'(by rw [HN.out]; exact hlt) := ⟨_, rfl⟩
      have hsb := HL.out.2.2 i (by rw [HLL.out]; exact hlt) (by rw [HN.out]; exact hlt)
      rw [← hs, ← hbe] at hsb
      have hcell2 : wr.cell? ⟨ga, oa + i, none⟩ = some s.val := by rw [hcell, hs]; simp
      have hbl : b.length ≤ 4000000000 := HB.out b (by rw [hbe]; exact List.getElem_mem _)
      have htk : (bs.take (i + 1)).map lent = (bs.take i).map lent ++ [lent b] := by rw [List.take_succ_eq_append_getElem (by rw [HN.out]; exact hlt), List.map_append, hbe]; rfl
      obtain ⟨sa, m, sc⟩ := s
      obtain ⟨hsl, hsn⟩ := hsb
      have hsn' : b.length = m := hsn.symm
      have hsl' : BLies w sa b := hsl
      have hgw : ga < w.heap.size := by
        obtain ⟨g', o', e, hc⟩ := HL.out.1 i (by rw [List.length_map, HLL.out]; exact hlt)
        injection e with e; injection e with e1 e2
        subst e1
        exact World.block_lt_of_cell? w _ hc
      have HSL := Lib.hid hsl'
      have HSN := Lib.hid hsn'
      have HTK := Lib.hid htk
      have hcv : wr.cell? ⟨ga, oa + i, none⟩ = some (.slice sa m sc) := hcell2
      have HCV := Lib.hid hcv
      have hml : m ≤ 4000000000 := by omega
      clear hcell hcell2 hs hbe hsl hsn hsn' hsl' htk hbl
      go_wp2_with fail
      clear hcv
      refine (lent_n sa sc m b wr (HSL.out.grown HG.out) HSN.out hml).mono ?_
      rintro e' w4 ⟨gB, cB, rfl, hob, hg4⟩
      have hcB := hob.cap.1
      have HOB := Lib.hid hob
      have HG4 := Lib.hid hg4
      have HROW4 := Lib.hid (HROW.out.grown hg4)
      have c2 := Row.cell HROW4.out 2
      have f2 := Row.frozen HROW4.out 2
      simp at c2
      have hE4 : Own w4 w.heap.size 22 1 aE i cE (Es.map Sl.val) := Own.ch HE.out.outer (Ch.ofNone hg4 (fun _ => False)) (fun _ _ _ h => h)
      have HE4 := Lib.hid hE4
      clear hob hg4 hE4
      go_upto_region 7 with (at_builtin; refine wpList_push elS rfl (.tmp 19) (.tmp 21) rfl rfl HE4.out (.slice (some ⟨gB, 0, none⟩) (m + 70) cB) rfl rfl (by unfold maxLen; omega) (by omega) (by have := HG4.out.size; have := HG.out.size; omega) ?_; intro gE cE2 w5 hown5 hgr5; have HO5 := Lib.hid hown5; have HGR5 := Lib.hid hgr5; have HROW5 := Lib.hid (HROW4.out.ch hgr5.ch (row_in HROW4.out HE4.out (by decide))); have c25 := Row.cell HROW5.out 2; have f25 := Row.frozen HROW5.out 2; simp at c25; clear hown5 hgr5)
      obtain ⟨w6, hw6⟩ : ∃ w6, w6 = w5.setCell ⟨b3, 2, none⟩ (.slice (some ⟨gE, 0, none⟩) (i + 1) cE2) := ⟨_, rfl⟩
      rw [← hw6]
      have hg6 : w5.grownBy w6 (some b3) := hw6 ▸ grownBy_setCell _ _ _ _
      have HROW6 := Lib.hid (show Row w6 b3 36 #[.slice none 0 0, .slice aF i cF, .slice (some ⟨gE, 0, none⟩) (i + 1) cE2] from hw6 ▸ Row.setc HROW5.out 2 _)
      have hE5 : LIs w5 w.heap.size (some ⟨gE, 0, none⟩) (i + 1) cE2 ((bs.take (i + 1)).map lent) (Es ++ [⟨some ⟨gB, 0, none⟩, m + 70, cB⟩]) := by
        rw [HTK.out]
        exact LIs.push' HE.out HG.out.size HG4.out HOB.out HO5.out HGR5.out
      have hnot : ∀ g, In (some ⟨gE, 0, none⟩) cE2 g → g ≠ b3 := fun g hi h => by
        subst h
        exact row_in HROW5.out hE5.outer (by decide) hi
      have hE6 : LIs w6 w.heap.size (some ⟨gE, 0, none⟩) (i + 1) cE2 ((bs.take (i + 1)).map lent) (Es ++ [⟨some ⟨gB, 0, none⟩, m + 70, cB⟩]) := hE5.ch (Ch.ofSome (S := fun k => k = b3) hg6 rfl) (fun g hi h => hnot g hi h) (fun j hj g hi h => by
        subst h
        exact row_in HROW5.out (hE5.inner j hj (by have := hE5.len; omega)) (by decide) hi)
      have hF5 : Own w5 w.heap.size 22 1 aF i cF ((preS Es).map Sl.val) := Own.ch (Own.ch HF.out (Ch.ofNone HG4.out (fun _ => False)) (fun _ _ _ h => h)) HGR5.out.ch (fun h0 g e h => HD.out g h ⟨h0, e⟩)
      have hF6 : Own w6 w.heap.size 22 1 aF i cF ((preS Es).map Sl.val) := Own.ch hF5 (Ch.ofSome (S := fun k => k = b3) hg6 rfl) (fun h0 g e h => by
        subst h
        exact row_in HROW5.out hF5 (by decide) ⟨h0, e⟩)
      have hb6 : ∀ g, In (some ⟨gE, 0, none⟩) cE2 g → ¬ In aF cF g := fun g hi h => by
        rcases HGR5.out.inn hi with h1 | h1
        · exact HD.out g h1 h
        · have := (Own.inn (Own.ch HF.out (Ch.ofNone HG4.out (fun _ => False)) (fun _ _ _ h => h)) h).2
          omega
      have hgw5 : w.grownBy w5 none := Ch.fresh (grownBy_trans HG.out HG4.out) HGR5.out.ch (fun g hg h => by have := (Own.inn HE.out.outer h).1; omega)
      have HG6 := Lib.hid (grownBy_old hgw5 hg6 (by omega))
      have HT6 := Lib.hid ((((HT.out.grown HG4.out).ch HGR5.out.ch (row_in (HT.out.grown HG4.out) HE4.out (by decide)))).grownNe hg6 (by omega))
      have HE6 := Lib.hid hE6
      have HF6 := Lib.hid hF6
      have HB6 := Lib.hid hb6
      have hfin : ∀ u, Ch (In aF cF) w6 u → u.cell? ⟨b3, 1, none⟩ = some (.slice aF i cF) := fun u hu => by
        have h := Row.cell (HROW6.out.ch hu (row_in HROW6.out hF6 (by decide))) 1
        simpa using h
      have hfin2 : ∀ u, Ch (In aF cF) w6 u → u.cell? ⟨ga, oa + i, none⟩ = some (.slice sa m sc) := fun u hu => by
        have h1 : w6.cell? ⟨ga, oa + i, none⟩ = some (.slice sa m sc) := by
          have hold := HCV.out
          have hgr : ga < wr.heap.size := by have := HG.out.size; omega
          have e1 : w4.cell? ⟨ga, oa + i, none⟩ = wr.cell? ⟨ga, oa + i, none⟩ := World.cell?_of_block (HG4.out.block ga hgr (by simp))
          have hg4' : ga < w4.heap.size := by have := HG4.out.size; omega
          have e2 : w5.cell? ⟨ga, oa + i, none⟩ = w4.cell? ⟨ga, oa + i, none⟩ := World.cell?_of_block (HGR5.out.ch.block ga hg4' (fun h => by have := (Own.inn HE4.out h).1; omega))
          have e3 : w6.cell? ⟨ga, oa + i, none⟩ = w5.cell? ⟨ga, oa + i, none⟩ := World.cell?_of_block (hg6.block ga (by have := hgw5.size; omega) (by simp; omega))
          rw [e3, e2, e1, hold]
        have hga6 : ga < w6.heap.size := World.block_lt_of_cell? w6 _ h1
        exact (World.cell?_of_block (hu.block ga hga6 (fun h => by have := (Own.inn hF6 h).1; omega))).trans h1
      have HC1 := Lib.hid hfin
      have HC2 := Lib.hid hfin2
      have HHE6 : Hid (w.heap.size ≤ w6.heap.size) := Lib.hid HG6.out.size
      clear hw6 hg6 hE5 hnot hE6 hF5 hF6 hb6 hgw5 hfin hfin2 HROW HROW4 HROW5 HE HF HD HG HE4 HO5 HGR5 HOB HG4 HT c2 f2 c25 f25
      go_upto_region 7 with fail
      refine wp_regionX (AppS w6 w.heap.size 22 aF i cF ((preS Es).map Sl.val)) 12 (by kernel_rfl) ⟨Ch.ofNone (grownBy_drewN w6 1 none) _, HF6.out⟩ ?_
      refine wpX_take 0 (v := .pointer (some ⟨b3, 1, none⟩)) (oi := { dst := some 24, op := Op.fieldAddr 36 (Operand.tmp 3) 1, type := 0, pos := "nested.go:31", after := #[], guard := none }) (oL := { dst := none, op := Op.store 24 (Operand.tmp 35) (Operand.tmp 34), type := 0, pos := "nested.go:31", after := #[{ on := 11, ground := Ground.data }, { on := 10, ground := Ground.data }, { on := 10, ground := Ground.chain }, { on := 0, ground := Ground.phase }, { on := 1, ground := Ground.phase }, { on := 2, ground := Ground.phase }, { on := 3, ground := Ground.phase }, { on := 4, ground := Ground.phase }, { on := 5, ground := Ground.phase }, { on := 6, ground := Ground.phase }, { on := 7, ground := Ground.phase }, { on := 8, ground := Ground.phase }, { on := 9, ground := Ground.phase }, { on := 10, ground := Ground.phase }], guard := none }) (clo_app _ _ _ _ _ _ _) rfl rfl rfl (by kernel_rfl) (by kernel_rfl) (by kernel_rfl) (by kernel_rfl) (by kernel_rfl) (fun _ _ _ h => h) (YG.val (by rfl) (fun _ _ => by go_simp)) ?_
      simp only [Act.put, List.setIfInBounds_toArray, List.set_cons_zero, List.set_cons_succ]
      refine wpX_take 1 (v := .slice aF i cF) (oi := { dst := some 25, op := Op.load 24 (Operand.tmp 24), type := 24, pos := "nested.go:31", after := #[{ on := 0, ground := Ground.data }], guard := none }) (oL := { dst := none, op := Op.store 24 (Operand.tmp 35) (Operand.tmp 34), type := 0, pos := "nested.go:31", after := #[{ on := 11, ground := Ground.data }, { on := 10, ground := Ground.data }, { on := 10, ground := Ground.chain }, { on := 0, ground := Ground.phase }, { on := 1, ground := Ground.phase }, { on := 2, ground := Ground.phase }, { on := 3, ground := Ground.phase }, { on := 4, ground := Ground.phase }, { on := 5, ground := Ground.phase }, { on := 6, ground := Ground.phase }, { on := 7, ground := Ground.phase }, { on := 8, ground := Ground.phase }, { on := 9, ground := Ground.phase }, { on := 10, ground := Ground.phase }], guard := none }) (clo_app _ _ _ _ _ _ _) rfl rfl rfl (by kernel_rfl) (by kernel_rfl) (by kernel_rfl) (by kernel_rfl) (by kernel_rfl) (fun _ _ _ h => h) (YG.val (by rfl) (fun u hu => by have hc1 := HC1.out u hu.1; go_simp)) ?_
      simp only [Act.put, List.setIfInBounds_toArray, List.set_cons_zero, List.set_cons_succ]
      refine wpX_take 2 (v := .slice (some ⟨gB, 0, none⟩) (m + 70) cB) (oi := { dst := some 26, op := Op.move (Operand.tmp 5), type := 22, pos := "nested.go:31", after := #[], guard := none }) (oL := { dst := none, op := Op.store 24 (Operand.tmp 35) (Operand.tmp 34), type := 0, pos := "nested.go:31", after := #[{ on := 11, ground := Ground.data }, { on := 10, ground := Ground.data }, { on := 10, ground := Ground.chain }, { on := 0, ground := Ground.phase }, { on := 1, ground := Ground.phase }, { on := 2, ground := Ground.phase }, { on := 3, ground := Ground.phase }, { on := 4, ground := Ground.phase }, { on := 5, ground := Ground.phase }, { on := 6, ground := Ground.phase }, { on := 7, ground := Ground.phase }, { on := 8, ground := Ground.phase }, { on := 9, ground := Ground.phase }, { on := 10, ground := Ground.phase }], guard := none }) (clo_app _ _ _ _ _ _ _) rfl rfl rfl (by kernel_rfl) (by kernel_rfl) (by kernel_rfl) (by kernel_rfl) (by kernel_rfl) (fun _ _ _ h => h) (YG.val (by rfl) (fun _ _ => rfl)) ?_
      simp only [Act.put, List.setIfInBounds_toArray, List.set_cons_zero, List.set_cons_succ]
      refine wpX_take 3 (v := .slice (some ⟨ga, oa, none⟩) n c) (oi := { dst := some 27, op := Op.move (Operand.tmp 0), type := 24, pos := "nested.go:31", after := #[], guard := none }) (oL := { dst := none, op := Op.store 24 (Operand.tmp 35) (Operand.tmp 34), type := 0, pos := "nested.go:31", after := #[{ on := 11, ground := Ground.data }, { on := 10, ground := Ground.data }, { on := 10, ground := Ground.chain }, { on := 0, ground := Ground.phase }, { on := 1, ground := Ground.phase }, { on := 2, ground := Ground.phase }, { on := 3, ground := Ground.phase }, { on := 4, ground := Ground.phase }, { on := 5, ground := Ground.phase }, { on := 6, ground := Ground.phase }, { on := 7, ground := Ground.phase }, { on := 8, ground := Ground.phase }, { on := 9, ground := Ground.phase }, { on := 10, ground := Ground.phase }], guard := none }) (clo_app _ _ _ _ _ _ _) rfl rfl rfl (by kernel_rfl) (by kernel_rfl) (by kernel_rfl) (by kernel_rfl) (by kernel_rfl) (fun _ _ _ h => h) (YG.val (by rfl) (fun _ _ => rfl)) ?_
      simp only [Act.put, List.setIfInBounds_toArray, List.set_cons_zero, List.set_cons_succ]
      refine wpX_take 4 (v := .int .i64 (i : Int)) (oi := { dst := some 28, op := Op.move (Operand.tmp 4), type := 3, pos := "nested.go:31", after := #[], guard := none }) (oL := { dst := none, op := Op.store 24 (Operand.tmp 35) (Operand.tmp 34), type := 0, pos := "nested.go:31", after := #[{ on := 11, ground := Ground.data }, { on := 10, ground := Ground.data }, { on := 10, ground := Ground.chain }, { on := 0, ground := Ground.phase }, { on := 1, ground := Ground.phase }, { on := 2, ground := Ground.phase }, { on := 3, ground := Ground.phase }, { on := 4, ground := Ground.phase }, { on := 5, ground := Ground.phase }, { on := 6, ground := Ground.phase }, { on := 7, ground := Ground.phase }, { on := 8, ground := Ground.phase }, { on := 9, ground := Ground.phase }, { on := 10, ground := Ground.phase }], guard := none }) (clo_app _ _ _ _ _ _ _) rfl rfl rfl (by kernel_rfl) (by kernel_rfl) (by kernel_rfl) (by kernel_rfl) (by kernel_rfl) (fun _ _ _ h => h) (YG.val (by rfl) (fun _ _ => rfl)) ?_
      simp only [Act.put, List.setIfInBounds_toArray, List.set_cons_zero, List.set_cons_succ]
      refine wpX_take 5 (v := .pointer (some ⟨ga, oa + i, none⟩)) (oi := { dst := some 29, op := Op.indexAddr 24 (Operand.tmp 27) (Operand.tmp 28), type := 0, pos := "nested.go:31", after := #[{ on := 3, ground := Ground.data }, { on := 4, ground := Ground.data }], guard := none }) (oL := { dst := none, op := Op.store 24 (Operand.tmp 35) (Operand.tmp 34), type := 0, pos := "nested.go:31", after := #[{ on := 11, ground := Ground.data }, { on := 10, ground := Ground.data }, { on := 10, ground := Ground.chain }, { on := 0, ground := Ground.phase }, { on := 1, ground := Ground.phase }, { on := 2, ground := Ground.phase }, { on := 3, ground := Ground.phase }, { on := 4, ground := Ground.phase }, { on := 5, ground := Ground.phase }, { on := 6, ground := Ground.phase }, { on := 7, ground := Ground.phase }, { on := 8, ground := Ground.phase }, { on := 9, ground := Ground.phase }, { on := 10, ground := Ground.phase }], guard := none }) (clo_app _ _ _ _ _ _ _) rfl rfl rfl (by kernel_rfl) (by kernel_rfl) (by kernel_rfl) (by kernel_rfl) (by kernel_rfl) (fun _ _ _ h => h) (YG.val (by rfl) (fun _ _ => by go_simp)) ?_
      simp only [Act.put, List.setIfInBounds_toArray, List.set_cons_zero, List.set_cons_succ]
      refine wpX_take 6 (v := .slice sa m sc) (oi := { dst := some 30, op := Op.load 22 (Operand.tmp 29), type := 22, pos := "nested.go:31", after := #[{ on := 5, ground := Ground.data }], guard := none }) (oL := { dst := none, op := Op.store 24 (Operand.tmp 35) (Operand.tmp 34), type := 0, pos := "nested.go:31", after := #[{ on := 11, ground := Ground.data }, { on := 10, ground := Ground.data }, { on := 10, ground := Ground.chain }, { on := 0, ground := Ground.phase }, { on := 1, ground := Ground.phase }, { on := 2, ground := Ground.phase }, { on := 3, ground := Ground.phase }, { on := 4, ground := Ground.phase }, { on := 5, ground := Ground.phase }, { on := 6, ground := Ground.phase }, { on := 7, ground := Ground.phase }, { on := 8, ground := Ground.phase }, { on := 9, ground := Ground.phase }, { on := 10, ground := Ground.phase }], guard := none }) (clo_app _ _ _ _ _ _ _) rfl rfl rfl (by kernel_rfl) (by kernel_rfl) (by kernel_rfl) (by kernel_rfl) (by kernel_rfl) (fun _ _ _ h => h) (YG.val (by rfl) (fun u hu => by have hc2 := HC2.out u hu.1; go_simp)) ?_
      simp only [Act.put, List.setIfInBounds_toArray, List.set_cons_zero, List.set_cons_succ]
      refine wpX_take 7 (v := .int .i64 (m : Int)) (oi := { dst := some 31, op := Op.call { callee := Callee.builtin Builtin.len, args := #[Operand.tmp 30], argTypes := #[22] }, type := 3, pos := "nested.go:31", after := #[{ on := 6, ground := Ground.data }], guard := none }) (oL := { dst := none, op := Op.store 24 (Operand.tmp 35) (Operand.tmp 34), type := 0, pos := "nested.go:31", after := #[{ on := 11, ground := Ground.data }, { on := 10, ground := Ground.data }, { on := 10, ground := Ground.chain }, { on := 0, ground := Ground.phase }, { on := 1, ground := Ground.phase }, { on := 2, ground := Ground.phase }, { on := 3, ground := Ground.phase }, { on := 4, ground := Ground.phase }, { on := 5, ground := Ground.phase }, { on := 6, ground := Ground.phase }, { on := 7, ground := Ground.phase }, { on := 8, ground := Ground.phase }, { on := 9, ground := Ground.phase }, { on := 10, ground := Ground.phase }], guard := none }) (clo_app _ _ _ _ _ _ _) rfl rfl rfl (by kernel_rfl) (by kernel_rfl) (by kernel_rfl) (by kernel_rfl) (by kernel_rfl) (fun _ _ _ h => h) (YG.val (by rfl) (fun _ _ => by go_simp)) ?_
      simp only [Act.put, List.setIfInBounds_toArray, List.set_cons_zero, List.set_cons_succ]
      refine wpX_take 8 (v := .slice (some ⟨gB, 0, none⟩) m cB) (oi := { dst := some 32, op := Op.slice 22 (Operand.tmp 26) none (some (Operand.tmp 31)) none, type := 22, pos := "nested.go:31", after := #[{ on := 2, ground := Ground.data }, { on := 7, ground := Ground.data }], guard := none }) (oL := { dst := none, op := Op.store 24 (Operand.tmp 35) (Operand.tmp 34), type := 0, pos := "nested.go:31", after := #[{ on := 11, ground := Ground.data }, { on := 10, ground := Ground.data }, { on := 10, ground := Ground.chain }, { on := 0, ground := Ground.phase }, { on := 1, ground := Ground.phase }, { on := 2, ground := Ground.phase }, { on := 3, ground := Ground.phase }, { on := 4, ground := Ground.phase }, { on := 5, ground := Ground.phase }, { on := 6, ground := Ground.phase }, { on := 7, ground := Ground.phase }, { on := 8, ground := Ground.phase }, { on := 9, ground := Ground.phase }, { on := 10, ground := Ground.phase }], guard := none }) (clo_app _ _ _ _ _ _ _) rfl rfl rfl (by kernel_rfl) (by kernel_rfl) (by kernel_rfl) (by kernel_rfl) (by kernel_rfl) (fun _ _ _ h => h) (YG.val (by rfl) (fun u _ => run_pre_op u _ (.tmp 26) (.tmp 31) rfl gB (m + 70) cB m rfl rfl (by omega))) ?_
      simp only [Act.put, List.setIfInBounds_toArray, List.set_cons_zero, List.set_cons_succ]
      refine wpX_step 9 (o := { dst := some 33, op := Op.buildSlice 24 1 #[(0, Operand.tmp 32)], type := 24, pos := "nested.go:31", after := #[{ on := 8, ground := Ground.data }], guard := none }) rfl rfl (by kernel_rfl) (by rfl) (fun u2 hS2 K hK => ?_)
      have HK := Lib.hid hK
      have HS2 := Lib.hid hS2
      clear hK hS2
      have ha2 := World.grownBy_alloc u2 (.cells #[.slice (some ⟨gB, 0, none⟩) m cB] 22) none
      refine wp_val_op (v := .slice (some ⟨u2.heap.size, 0, none⟩) 1 1) (w1 := u2.alloc (.cells #[.slice (some ⟨gB, 0, none⟩) m cB] 22)) (by go_simp) ?_
      have hrw2 : Row (u2.alloc (.cells #[.slice (some ⟨gB, 0, none⟩) m cB] 22)) u2.heap.size 22 #[.slice (some ⟨gB, 0, none⟩) m cB] := heap_alloc_new u2 _
      refine HK.out (fun u => AppS w6 w.heap.size 22 aF i cF ((preS Es).map Sl.val) u ∧ Row u u2.heap.size 22 #[.slice (some ⟨gB, 0, none⟩) m cB]) _ _ ⟨clo_app _ _ _ _ _ _ _ _ _ HS2.out ha2, hrw2⟩ (fun u h => h.1) (clo_and (clo_app _ _ _ _ _ _ _) (clo_row _ _ _)) ?_
      simp only [Act.put, List.setIfInBounds_toArray, List.set_cons_zero, List.set_cons_succ]
      clear ha2 hrw2
      have hu26 : w6.heap.size ≤ u2.heap.size := HS2.out.1.size
      refine wpX_step 10 (o := { dst := some 34, op := Op.call { callee := Callee.builtin Builtin.append, args := #[Operand.tmp 25, Operand.tmp 33], argTypes := #[24, 24] }, type := 24, pos := "nested.go:31", after := #[{ on := 1, ground := Ground.data }, { on := 9, ground := Ground.data }], guard := none }) rfl rfl (by kernel_rfl) (by rfl) (fun u3 hS3 K3 hK3 => ?_)
      have HK3 := Lib.hid hK3
      have HS3 := Lib.hid hS3
      clear hK3 hS3
      have hnews : ∀ j u, ([.slice (some ⟨gB, 0, none⟩) m cB] : List Value)[j]? = some u → u3.cell? ((⟨u2.heap.size, 0, none⟩ : Addr).add j) = some u := by
        intro j u hu
        have h2 : ((⟨u2.heap.size, 0, none⟩ : Addr).add j) = ⟨u2.heap.size, j, none⟩ := by unfold Addr.add; split <;> simp_all
        rw [h2, Row.cell HS3.out.2]
        simpa using hu
      have hzb : w.heap.size ≤ u3.heap.size := by
        have h1 := HHE6.out
        have h2 := HS3.out.1.1.size
        omega
      have hFn : ¬ In aF cF u2.heap.size := fun h => by
        have := (Own.inn HF6.out h).2
        omega
      obtain ⟨gF, cF2, w8, hrun, hown8, hgr8⟩ := run_app (P := Try.prog) (ty := 24) u3 elS HS3.out.1.2 ⟨u2.heap.size, 0, none⟩ 1 1 [.slice (some ⟨gB, 0, none⟩) m cB] rfl hnews (by simp [Value.oneCell']) (by unfold maxLen; omega) (by omega) hzb (fun _ _ _ => trivial) (by omega)
      refine wp_val_op (v := .slice (some ⟨gF, 0, none⟩) (i + 1) cF2) (w1 := w8) (run_app_op u3 w8 _ (.tmp 25) (.tmp 33) rfl _ hrun) ?_
      refine HK3.out (fun u => (AppS w6 w.heap.size 22 aF i cF ((preS Es).map Sl.val) u ∧ Row u u2.heap.size 22 #[.slice (some ⟨gB, 0, none⟩) m cB]) ∧ w8.grownBy u none) _ _ ⟨⟨⟨HS3.out.1.1.trans hgr8.ch (fun _ _ h => h), own_behind HS3.out.1.2 hown8 hgr8⟩, Row.ch HS3.out.2 hgr8.ch hFn⟩, World.grownBy.refl _ _⟩ (fun u h => h.1) (clo_and (clo_and (clo_app _ _ _ _ _ _ _) (clo_row _ _ _)) (clo_grown _)) ?_
      simp only [Act.put, List.setIfInBounds_toArray, List.set_cons_zero, List.set_cons_succ]
      refine wpX_take 11 (v := .pointer (some ⟨b3, 1, none⟩)) (oi := { dst := some 35, op := Op.fieldAddr 36 (Operand.tmp 3) 1, type := 0, pos := "nested.go:31", after := #[{ on := 0, ground := Ground.phase }, { on := 1, ground := Ground.phase }, { on := 2, ground := Ground.phase }, { on := 3, ground := Ground.phase }, { on := 4, ground := Ground.phase }, { on := 5, ground := Ground.phase }, { on := 6, ground := Ground.phase }, { on := 7, ground := Ground.phase }, { on := 8, ground := Ground.phase }, { on := 9, ground := Ground.phase }, { on := 10, ground := Ground.phase }], guard := none }) (oL := { dst := none, op := Op.store 24 (Operand.tmp 35) (Operand.tmp 34), type := 0, pos := "nested.go:31", after := #[{ on := 11, ground := Ground.data }, { on := 10, ground := Ground.data }, { on := 10, ground := Ground.chain }, { on := 0, ground := Ground.phase }, { on := 1, ground := Ground.phase }, { on := 2, ground := Ground.phase }, { on := 3, ground := Ground.phase }, { on := 4, ground := Ground.phase }, { on := 5, ground := Ground.phase }, { on := 6, ground := Ground.phase }, { on := 7, ground := Ground.phase }, { on := 8, ground := Ground.phase }, { on := 9, ground := Ground.phase }, { on := 10, ground := Ground.phase }], guard := none }) (clo_and (clo_and (clo_app _ _ _ _ _ _ _) (clo_row _ _ _)) (clo_grown _)) rfl rfl rfl (by kernel_rfl) (by kernel_rfl) (by kernel_rfl) (by kernel_rfl) (by kernel_rfl) (fun _ _ _ h => h) (YG.val (by rfl) (fun _ _ => by go_simp)) ?_
      simp only [Act.put, List.setIfInBounds_toArray, List.set_cons_zero, List.set_cons_succ]
      refine wpX_last (oL := { dst := none, op := Op.store 24 (Operand.tmp 35) (Operand.tmp 34), type := 0, pos := "nested.go:31", after := #[{ on := 11, ground := Ground.data }, { on := 10, ground := Ground.data }, { on := 10, ground := Ground.chain }, { on := 0, ground := Ground.phase }, { on := 1, ground := Ground.phase }, { on := 2, ground := Ground.phase }, { on := 3, ground := Ground.phase }, { on := 4, ground := Ground.phase }, { on := 5, ground := Ground.phase }, { on := 6, ground := Ground.phase }, { on := 7, ground := Ground.phase }, { on := 8, ground := Ground.phase }, { on := 9, ground := Ground.phase }, { on := 10, ground := Ground.phase }], guard := none }) rfl (by kernel_rfl) (by kernel_rfl) (by rfl) (fun u4 hS4 K4 hK4 => ?_)
      have hrow4 := HROW6.out.ch hS4.1.1.1 (row_in HROW6.out HF6.out (by decide))
      have c14 := Row.cell hrow4 1
      have f14 := Row.frozen hrow4 1
      simp at c14
      refine wp_skip_op (w1 := u4.setCell ⟨b3, 1, none⟩ (.slice (some ⟨gF, 0, none⟩) (i + 1) cF2)) (by go_simp) (hK4 _ _ ?_)
      simp only [Act.put, List.setIfInBounds_toArray, List.set_cons_zero, List.set_cons_succ]
      obtain ⟨w9, hw9⟩ : ∃ w9, w9 = u4.setCell ⟨b3, 1, none⟩ (.slice (some ⟨gF, 0, none⟩) (i + 1) cF2) := ⟨_, rfl⟩
      rw [← hw9]
      have hg9 : u4.grownBy w9 (some b3) := hw9 ▸ grownBy_setCell _ _ _ _
      have hrow9 : Row w9 b3 36 #[.slice none 0 0, .slice (some ⟨gF, 0, none⟩) (i + 1) cF2, .slice (some ⟨gE, 0, none⟩) (i + 1) cE2] := hw9 ▸ Row.setc hrow4 1 _
      have hE4 : LIs u4 w.heap.size (some ⟨gE, 0, none⟩) (i + 1) cE2 ((bs.take (i + 1)).map lent) (Es ++ [⟨some ⟨gB, 0, none⟩, m + 70, cB⟩]) := HE6.out.chTy hS4.1.1.1 HF6.out HB6.out
      have hE9 : LIs w9 w.heap.size (some ⟨gE, 0, none⟩) (i + 1) cE2 ((bs.take (i + 1)).map lent) (Es ++ [⟨some ⟨gB, 0, none⟩, m + 70, cB⟩]) := hE4.ch (Ch.ofSome (S := fun k => k = b3) hg9 rfl) (fun g hi h => by
        subst h
        exact row_in hrow4 hE4.outer (by decide) hi) (fun j hj g hi h => by
        subst h
        exact row_in hrow4 (hE4.inner j hj (by have := hE4.len; omega)) (by decide) hi)
      have hF4 : Own u4 w.heap.size 22 1 (some ⟨gF, 0, none⟩) (i + 1) cF2 ((preS Es).map Sl.val ++ [.slice (some ⟨gB, 0, none⟩) m cB]) := Own.ch hown8 (Ch.ofNone hS4.2 (fun _ => False)) (fun _ _ _ h => h)
      have hF9 : SOwn w9 w.heap.size (some ⟨gF, 0, none⟩) (i + 1) cF2 (preS (Es ++ [⟨some ⟨gB, 0, none⟩, m + 70, cB⟩])) := by
        have h1 : (preS (Es ++ [(⟨some ⟨gB, 0, none⟩, m + 70, cB⟩ : Sl)])).map Sl.val = (preS Es).map Sl.val ++ [.slice (some ⟨gB, 0, none⟩) m cB] := by simp [preS, Sl.val]
        unfold SOwn
        rw [h1]
        exact Own.ch hF4 (Ch.ofSome (S := fun k => k = b3) hg9 rfl) (fun h0 g e h => by
          subst h
          exact row_in hrow4 hF4 (by decide) ⟨h0, e⟩)
      have hd9 : ∀ g, In (some ⟨gE, 0, none⟩) cE2 g → ¬ In (some ⟨gF, 0, none⟩) cF2 g := fun g hi h => by
        have h6 := (Own.inn HE6.out.outer hi).2
        rcases hgr8.inn h with h1 | h1
        · exact HB6.out g hi h1
        · have := HS3.out.1.1.size
          omega
      have hG4 : w.grownBy u4 none := Ch.fresh HG6.out hS4.1.1.1 (fun g hg h => by have := (Own.inn HF6.out h).1; omega)
      have HG9 := Lib.hid (grownBy_old hG4 hg9 (by omega))
      have HT9 := Lib.hid ((HT6.out.ch hS4.1.1.1 (row_in HT6.out HF6.out (by decide))).grownNe hg9 (by omega))
      have HROW9 := Lib.hid hrow9
      have HE9 := Lib.hid hE9
      have HF9 := Lib.hid hF9
      have HD9 := Lib.hid hd9
      clear hw9 hg9 hrow9 hE4 hE9 hF4 hF9 hd9 hG4 hrow4 c14 f14 hS4 HS3 hgr8 hown8 hrun hFn hzb hnews hu26 HK3 HK HS2 HE6 HF6 HB6 HC1 HC2 HROW6 HT6 HG6 hK4
      go_wp2_with fail
      go_roundw
      case rel => exact ⟨i + 1, _, _, _, _, _, by omega, by go_num, HROW9.out, HT9.out, HE9.out, HF9.out, HD9.out, HG9.out⟩
      case measure => simp [intOf]; omega
    · obtain rfl : i = n := by omega
      have htk : bs.take i = bs := List.take_of_length_le (by rw [HN.out]; exact Nat.le_refl _)
      rw [htk] at HE
      clear htk
      go_wp2_with fail
      go_loopw [6] (fun vj wr2 => ∃ (j m : Nat) (aF : Option Addr) (cF : Nat) (Ms : List Sl), j ≤ 70 ∧ m = i + j ∧ vj = .int .i64 j ∧ Row wr2 b3 36 #[.slice none 0 0, .slice aF m cF, .slice aE i cE] ∧ Row wr2 w.heap.size 36 #[.slice none 0 0, .slice none 0 0, .slice none 0 0] ∧ LIs wr2 w.heap.size aE i cE (bs.map lent) Es ∧ SOwn wr2 w.heap.size aF m cF (preS Es ++ Ms) ∧ Ms.length = j ∧ (∀ k (h : k < Ms.length), BOwn wr2 w.heap.size (Ms[k]).a 2 (Ms[k]).c [UInt8.ofNat k, 99] ∧ (Ms[k]).n = 2) ∧ (∀ g, In aE cE g → ¬ In aF cF g) ∧ w.grownBy wr2 none) (fun vj _ => 70 - (intOf vj).toNat)
      case atStart => exact ⟨0, i, aF, cF, [], by omega, rfl, rfl, HROW.out, HT.out, HE.out, by rw [List.append_nil]; exact HF.out, rfl, fun k h => absurd h (by simp), HD.out, HG.out⟩
      case round =>
        obtain ⟨j, m, aF, cF, Ms, hj, hm, rfl, hrow, hrt, hE, hF, hMl, hM, hdis, hg⟩ := hrel
        replace HROW := Lib.hid hrow
        replace HT := Lib.hid hrt
        replace HE := Lib.hid hE
        replace HF := Lib.hid hF
        have HM := Lib.hid hM
        have HML := Lib.hid hMl
        replace HD := Lib.hid hdis
        replace HG := Lib.hid hg
        have HMM := Lib.hid hm
        have hmb : m ≤ 4000000070 := by omega
        clear hrow hrt hE hF hMl hM hdis hg hm
        by_cases hlt2 : j < 70
        · have hwv : IntKind.u8.wrap (j : Int) = (j : Int) := IntWalk.u8_in _ (by omega)
          have c1 := Row.cell HROW.out 1
          simp at c1
          have ha1 := World.grownBy_alloc wr (.cells #[.int .u8 (j : Int), .int .u8 99] 5) none
          have HF1 : Hid (Own (wr.alloc (.cells #[.int .u8 (j : Int), .int .u8 99] 5)) w.heap.size 22 1 aF m cF ((preS Es ++ Ms).map Sl.val)) := Lib.hid (Own.ch HF.out (Ch.ofNone ha1 (fun _ => False)) (fun _ _ _ h => h))
          have HROW1 := Lib.hid (HROW.out.grown ha1)
          have HA1 := Lib.hid ha1
          clear ha1
          go_wp2_with (at_builtin; go_loud (refine wpList_push elS rfl (.tmp 41) (.tmp 45) rfl rfl HF1.out (.slice (some ⟨wr.heap.size, 0, none⟩) 2 2) (by rw [World.size_alloc]; rfl) rfl (by unfold maxLen; omega) (by omega) (by have := HG.out.size; rw [World.size_alloc]; omega) ?_; intro gF cF2 w5 hown5 hgr5; have HO5 := Lib.hid hown5; have HGR5 := Lib.hid hgr5; have HROW5 := Lib.hid (HROW1.out.ch hgr5.ch (row_in HROW1.out HF1.out (by decide))); have c15 := Row.cell HROW5.out 1; have f15 := Row.frozen HROW5.out 1; simp at c15; clear hown5 hgr5))
          obtain ⟨w6, hw6⟩ : ∃ w6, w6 = w5.setCell ⟨b3, 1, none⟩ (.slice (some ⟨gF, 0, none⟩) (m + 1) cF2) := ⟨_, rfl⟩
          rw [← hw6]
          have hg6 : w5.grownBy w6 (some b3) := hw6 ▸ grownBy_setCell _ _ _ _
          have hrow6 : Row w6 b3 36 #[.slice none 0 0, .slice (some ⟨gF, 0, none⟩) (m + 1) cF2, .slice aE i cE] := hw6 ▸ Row.setc HROW5.out 1 _
          have hE1 : LIs (wr.alloc (.cells #[.int .u8 (j : Int), .int .u8 99] 5)) w.heap.size aE i cE (bs.map lent) Es := HE.out.grown HA1.out
          have hE5 : LIs w5 w.heap.size aE i cE (bs.map lent) Es := hE1.chTy HGR5.out.ch HF1.out HD.out
          have hE6 : LIs w6 w.heap.size aE i cE (bs.map lent) Es := hE5.ch (Ch.ofSome (S := fun k => k = b3) hg6 rfl) (fun g hi h => by
            subst h
            exact row_in HROW5.out hE5.outer (by decide) hi) (fun k hk g hi h => by
            subst h
            exact row_in HROW5.out (hE5.inner k hk (by have := hE5.len; omega)) (by decide) hi)
          have hF6 : SOwn w6 w.heap.size (some ⟨gF, 0, none⟩) (m + 1) cF2 (preS Es ++ (Ms ++ [⟨some ⟨wr.heap.size, 0, none⟩, 2, 2⟩])) := by
            have h1 : (preS Es ++ (Ms ++ [(⟨some ⟨wr.heap.size, 0, none⟩, 2, 2⟩ : Sl)])).map Sl.val = (preS Es ++ Ms).map Sl.val ++ [.slice (some ⟨wr.heap.size, 0, none⟩) 2 2] := by simp [Sl.val]
            unfold SOwn
            rw [h1]
            exact Own.ch HO5.out (Ch.ofSome (S := fun k => k = b3) hg6 rfl) (fun h0 g e h => by
              subst h
              exact row_in HROW5.out HO5.out (by decide) ⟨h0, e⟩)
          have keep : ∀ (a' : Option Addr) (n' c' : Nat) (l : List UInt8), BOwn (wr.alloc (.cells #[.int .u8 (j : Int), .int .u8 99] 5)) w.heap.size a' n' c' l → BOwn w6 w.heap.size a' n' c' l := fun a' n' c' l h => by
            have h5 : BOwn w5 w.heap.size a' n' c' l := Own.ch h HGR5.out.ch (fun h0 g e hi => by
              obtain ⟨h3, h4⟩ := hi
              have h' := HF1.out
              rw [h4] at h'
              have hh : Own (wr.alloc (.cells #[.int .u8 (j : Int), .int .u8 99] 5)) w.heap.size 5 1 (some ⟨g, 0, none⟩) n' c' (l.map bval) := e ▸ h
              exact own_ne hh h' h0 h3 (by decide) rfl)
            exact Own.ch h5 (Ch.ofSome (S := fun k => k = b3) hg6 rfl) (fun h0 g e hi => by
              subst hi
              exact row_in HROW5.out h5 (by decide) ⟨h0, e⟩)
          have hnew : BOwn (wr.alloc (.cells #[.int .u8 (j : Int), .int .u8 99] 5)) w.heap.size (some ⟨wr.heap.size, 0, none⟩) 2 2 [UInt8.ofNat j, 99] := by
            have hz : ((UInt8.ofNat j).toNat : Int) = (j : Int) := by rw [UInt8.toNat_ofNat']; omega
            have hb : BRow (wr.alloc (.cells #[.int .u8 (j : Int), .int .u8 99] 5)) wr.heap.size 5 [UInt8.ofNat j, 99] := by
              have h1 : rowB [UInt8.ofNat j, 99] = #[.int .u8 (j : Int), .int .u8 99] := by
                simp [rowB, bval]
                omega
              unfold BRow
              rw [h1]
              exact heap_alloc_new wr _
            exact BRow.own hb HG.out.size 2 rfl (by decide)
          have hM6 : ∀ k (h : k < (Ms ++ [(⟨some ⟨wr.heap.size, 0, none⟩, 2, 2⟩ : Sl)]).length), BOwn w6 w.heap.size ((Ms ++ [(⟨some ⟨wr.heap.size, 0, none⟩, 2, 2⟩ : Sl)])[k]).a 2 ((Ms ++ [(⟨some ⟨wr.heap.size, 0, none⟩, 2, 2⟩ : Sl)])[k]).c [UInt8.ofNat k, 99] ∧ ((Ms ++ [(⟨some ⟨wr.heap.size, 0, none⟩, 2, 2⟩ : Sl)])[k]).n = 2 := by
            intro k hk
            by_cases hkl : k < Ms.length
            · rw [List.getElem_append_left hkl]
              obtain ⟨h1, h2⟩ := HM.out k hkl
              exact ⟨keep _ _ _ _ (Own.ch h1 (Ch.ofNone HA1.out (fun _ => False)) (fun _ _ _ h => h)), h2⟩
            · simp only [List.length_append, List.length_singleton] at hk
              obtain rfl : k = Ms.length := by omega
              have e2 : (Ms ++ [(⟨some ⟨wr.heap.size, 0, none⟩, 2, 2⟩ : Sl)])[Ms.length]'(by simp) = (⟨some ⟨wr.heap.size, 0, none⟩, 2, 2⟩ : Sl) := by simp
              rw [e2, HML.out]
              exact ⟨keep _ _ _ _ hnew, rfl⟩
          have hd6 : ∀ g, In aE cE g → ¬ In (some ⟨gF, 0, none⟩) cF2 g := fun g hi h => by
            rcases HGR5.out.inn h with h1 | h1
            · exact HD.out g hi h1
            · have := (Own.inn HE.out.outer hi).2
              rw [World.size_alloc] at h1
              omega
          have hg1 : w.grownBy (wr.alloc (.cells #[.int .u8 (j : Int), .int .u8 99] 5)) none := grownBy_trans HG.out HA1.out
          have hg5 : w.grownBy w5 none := Ch.fresh hg1 HGR5.out.ch (fun g hg h => by have := (Own.inn HF1.out h).1; omega)
          have HG6 := Lib.hid (grownBy_old hg5 hg6 (by omega))
          have HT6 := Lib.hid (((HT.out.grown HA1.out).ch HGR5.out.ch (row_in (HT.out.grown HA1.out) HF1.out (by decide))).grownNe hg6 (by omega))
          have HROW6 := Lib.hid hrow6
          have HE6 := Lib.hid hE6
          have HF6 := Lib.hid hF6
          have HM6 := Lib.hid hM6
          have HD6 := Lib.hid hd6
          clear hw6 hg6 hrow6 hE1 hE5 hE6 hF6 keep hnew hM6 hd6 hg1 hg5 c1 c15 f15 HROW HT HE HF HM HD HG HO5 HGR5 HROW5 HROW1 HF1 HA1
          go_roundw
          case rel => exact ⟨j + 1, m + 1, _, _, _, by omega, by have := HMM.out; omega, by go_num, HROW6.out, HT6.out, HE6.out, HF6.out, by simp [HML.out], HM6.out, HD6.out, HG6.out⟩
          case measure => simp [intOf]; omega
        · obtain rfl : j = 70 := by omega
          have hmm := HMM.out
          subst hmm
          have hcF := (Own.cap HF.out).1
          obtain ⟨gF, haF, hgF, hgF2⟩ := Own.block HF.out (by omega)
          subst haF
          have c1 := Row.cell HROW.out 1
          have c0 := Row.cell HROW.out 0
          have f0 := Row.frozen HROW.out 0
          simp at c0 c1
          go_upto_region 13 with fail
          obtain ⟨w6, hw6⟩ : ∃ w6, w6 = wr.setCell ⟨b3, 0, none⟩ (.slice (some ⟨gF, 0, none⟩) i cF) := ⟨_, rfl⟩
          rw [← hw6]
          have hg6 : wr.grownBy w6 (some b3) := hw6 ▸ grownBy_setCell _ _ _ _
          have HROW6 := Lib.hid (show Row w6 b3 36 #[.slice (some ⟨gF, 0, none⟩) i cF, .slice (some ⟨gF, 0, none⟩) (i + 70) cF, .slice aE i cE] from hw6 ▸ Row.setc HROW.out 0 _)
          have HT6 := Lib.hid (HT.out.grownNe hg6 (by omega))
          have hE6 : LIs w6 w.heap.size aE i cE (bs.map lent) Es := HE.out.ch (Ch.ofSome (S := fun k => k = b3) hg6 rfl) (fun g hi h => by
            subst h
            exact row_in HROW.out HE.out.outer (by decide) hi) (fun k hk g hi h => by
            subst h
            exact row_in HROW.out (HE.out.inner k hk (by have := HE.out.len; omega)) (by decide) hi)
          have hF6 : SOwn w6 w.heap.size (some ⟨gF, 0, none⟩) (i + 70) cF (preS Es ++ Ms) := Own.ch HF.out (Ch.ofSome (S := fun k => k = b3) hg6 rfl) (fun h0 g e h => by
            subst h
            exact row_in HROW.out HF.out (by decide) ⟨h0, e⟩)
          have hM6 : ∀ k (h : k < Ms.length), BOwn w6 w.heap.size (Ms[k]).a 2 (Ms[k]).c [UInt8.ofNat k, 99] ∧ (Ms[k]).n = 2 := fun k hk => by
            obtain ⟨h1, h2⟩ := HM.out k hk
            exact ⟨Own.ch h1 (Ch.ofSome (S := fun k => k = b3) hg6 rfl) (fun h0 g e h => by
              subst h
              exact row_in HROW.out h1 (by decide) ⟨h0, e⟩), h2⟩
          have HG6 := Lib.hid (grownBy_old HG.out hg6 (by omega))
          have HE6 := Lib.hid hE6
          have HF6 := Lib.hid hF6
          have HM6 := Lib.hid hM6
          clear hw6 hg6 hE6 hF6 hM6 c0 c1 f0 HROW HT HE HF HM HG
          go_wp2_with (first | (refine wpList_load_row rfl 36 _ rfl b3 rfl 36 #[.slice (some ⟨gF, 0, none⟩) i cF, .slice (some ⟨gF, 0, none⟩) (i + 70) cF, .slice aE i cE] (0, 0) _ HROW6.out Try.underlying36 rfl (by kernel_rfl) ?_) | (refine wpList_putrow rfl rfl w.heap.size rfl #[.slice (some ⟨gF, 0, none⟩) i cF, .slice (some ⟨gF, 0, none⟩) (i + 70) cF, .slice aE i cE] rfl HT6.out (by kernel_rfl) rfl (by simp [Value.oneCell']) ?_; intro W7 hg7 hr7; have HG7 := Lib.hid hg7; have HR7 := Lib.hid hr7; clear hg7 hr7))
          have hE7 : LIs W7 w.heap.size aE i cE (bs.map lent) Es := HE6.out.ch (Ch.ofSome (S := fun k => k = w.heap.size) HG7.out rfl) (fun g hi h => by
            subst h
            exact row_in HT6.out HE6.out.outer (by decide) hi) (fun k hk g hi h => by
            subst h
            exact row_in HT6.out (HE6.out.inner k hk (by have := HE6.out.len; omega)) (by decide) hi)
          have hF7 : SOwn W7 w.heap.size (some ⟨gF, 0, none⟩) (i + 70) cF (preS Es ++ Ms) := Own.ch HF6.out (Ch.ofSome (S := fun k => k = w.heap.size) HG7.out rfl) (fun h0 g e h => by
            subst h
            exact row_in HT6.out HF6.out (by decide) ⟨h0, e⟩)
          have hM7 : ∀ k (h : k < Ms.length), BOwn W7 w.heap.size (Ms[k]).a 2 (Ms[k]).c [UInt8.ofNat k, 99] ∧ (Ms[k]).n = 2 := fun k hk => by
            obtain ⟨h1, h2⟩ := HM6.out k hk
            exact ⟨Own.ch h1 (Ch.ofSome (S := fun k => k = w.heap.size) HG7.out rfl) (fun h0 g e h => by
              subst h
              exact row_in HT6.out h1 (by decide) ⟨h0, e⟩), h2⟩
          refine bodyPost_ret (results_cell_row rfl _ _ w.heap.size 36 #[.slice (some ⟨gF, 0, none⟩) i cF, .slice (some ⟨gF, 0, none⟩) (i + 70) cF, .slice aE i cE] (0, 0) _ rfl HR7.out Try.underlying36 rfl (by kernel_rfl)) rfl ?_
          exact ⟨_, _, _, _, rfl, Es, hE7, Ms, hF7, HML.out, hM7, grownBy_old HG6.out HG7.out (Nat.le_refl _)⟩

end Go.Proofs.Ytfboddnpkaiifaa
