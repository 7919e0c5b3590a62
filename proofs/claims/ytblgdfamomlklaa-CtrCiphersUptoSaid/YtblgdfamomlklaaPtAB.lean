/- Helpers and contracts of the proofs over this seat: AesKs, AesSched, AesRefSched, AesKeys, AesCip, AesNew, AesMix, AesAlg, AesQuick. Each states what a function of the program answers, or is plain Lean; its conditions stand in each statement. -/
import Derived.Deep.RegionWith
import Derived.Deep.RegionLaw
import Derived.Test.YtblgdfamomlklaaPtAA
set_option linter.unusedVariables false
/- aes: the schedule, in plain Lean; rows written into the middle of a block. -/
namespace Go.Proofs.Ytblgdfamomlklaa
open Go.RowKit

def ax8' (p : UInt8) : UInt8 := UInt8.ofNat (ax p.toNat)
theorem ax8_nat (p : UInt8) : (ax8' p).toNat = ax p.toNat := by
  unfold ax8'
  rw [UInt8.toNat_ofNat', Nat.mod_eq_of_lt (ax_lt p.toNat_lt)]
/-- a row of bytes written from o on -/
def spl (l : List UInt8) (o : Nat) : List UInt8 → List UInt8
  | [] => l
  | x :: r => spl (l.set o x) (o + 1) r
theorem spl_len : ∀ (m : List UInt8) (l : List UInt8) (o : Nat), (spl l o m).length = l.length
  | [], _, _ => rfl
  | x :: r, l, o => by rw [spl, spl_len r]; simp
theorem Blk.spl : ∀ (m : List UInt8) {w : World} {g o : Nat} {t : TypeId} {l : List UInt8}, Blk w g t l → Blk (w.setCells g o (m.map bval)) g t (spl l o m)
  | [], _, _, _, _, _, h => h
  | x :: r, _, _, o, _, _, h => Blk.spl r (h.set o x)
theorem Blk.splNe : ∀ (m : List Value) {w : World} {g g' o : Nat} {t : TypeId} {l : List UInt8}, Blk w g t l → g ≠ g' → Blk (w.setCells g' o m) g t l
  | [], _, _, _, _, _, _, h, _ => h
  | _ :: r, _, _, _, _, _, _, h, hne => Blk.splNe r (h.other hne) hne
theorem grownBy_spl (g : Nat) : ∀ (xs : List Value) (o : Nat) (w : World), w.grownBy (w.setCells g o xs) (some g)
  | [], _, _ => World.grownBy.refl _ _
  | v :: r, o, w => grownBy_trans (grownBy_setCell w g o v) (grownBy_spl g r (o + 1) _)
theorem range_other {w w' : World} {b o g : Nat} {cs : List Value} (h : w.rangeAt b o cs) (hg : w.grownBy w' (some g)) (hne : b ≠ g) : w'.rangeAt b o cs := fun j v hj =>
  (World.cell?_of_block (hg.block _ (World.block_lt_of_cell? w _ (h j v hj)) (by simpa using hne))).trans (h j v hj)
theorem Blk.there {w : World} {g o n : Nat} {t : TypeId} {l : List UInt8} (h : Blk w g t l) (hn : o + n ≤ l.length) : w.there g o n := fun j hj => by
  rw [h.cell _ rfl (o + j) (by omega)]
  exact ⟨rfl, h.free _⟩
/-- four bytes from o on -/
def at4 (l : List UInt8) (o : Nat) : List UInt8 := [l.getD o 0, l.getD (o + 1) 0, l.getD (o + 2) 0, l.getD (o + 3) 0]
theorem Blk.at4 {w : World} {g o : Nat} {t : TypeId} {l : List UInt8} (h : Blk w g t l) (hn : o + 4 ≤ l.length) : w.rangeAt g o ((at4 l o).map bval) := by
  intro j v hj
  match j, hj with
  | 0, hj => simp [Go.Proofs.Ytblgdfamomlklaa.at4] at hj; subst hj; rw [h.cell _ rfl _ (by omega)]; simp [bval]
  | 1, hj => simp [Go.Proofs.Ytblgdfamomlklaa.at4] at hj; subst hj; rw [h.cell _ rfl _ (by omega)]; simp [bval]
  | 2, hj => simp [Go.Proofs.Ytblgdfamomlklaa.at4] at hj; subst hj; rw [h.cell _ rfl _ (by omega)]; simp [bval]
  | 3, hj => simp [Go.Proofs.Ytblgdfamomlklaa.at4] at hj; subst hj; rw [h.cell _ rfl _ (by omega)]; simp [bval]
  | j + 4, hj => simp [Go.Proofs.Ytblgdfamomlklaa.at4] at hj

def z176 : List UInt8 := List.replicate 176 0
theorem z176_len : z176.length = 176 := by unfold z176; exact List.length_replicate ..
/-- the key laid at the head -/
def kwF (k : List UInt8) (i : Nat) (o : List UInt8) : List UInt8 := spl o (i * 4) (at4 k (4 * i))
theorem kwF_len (k : List UInt8) : ∀ i o, (kwF k i o).length = o.length := fun i o => spl_len _ _ _
def kw (k z : List UInt8) : List UInt8 := iterU (kwF k) z 4
theorem kw_len (k z : List UInt8) : (kw k z).length = z.length := iterU_len (kwF_len k) 4
/-- the word that goes in -/
def ksT (o : List UInt8) (p : UInt8) (i : Nat) : List UInt8 :=
  if i % 4 = 0 then [asub (o.getD ((i - 1) * 4 + 1) 0) ^^^ p, asub (o.getD ((i - 1) * 4 + 2) 0), asub (o.getD ((i - 1) * 4 + 3) 0), asub (o.getD ((i - 1) * 4) 0)] else at4 o ((i - 1) * 4)
theorem ksT_len (o : List UInt8) (p : UInt8) (i : Nat) : (ksT o p i).length = 4 := by unfold ksT; split <;> rfl
def inF (i : Nat) (t : List UInt8) (n : Nat) (o : List UInt8) : List UInt8 := o.set (i * 4 + n) (o.getD ((i - 4) * 4 + n) 0 ^^^ t.getD n 0)
theorem inF_len (i : Nat) (t : List UInt8) : ∀ n o, (inF i t n o).length = o.length := fun n o => by simp [inF]
def ksStep (i : Nat) (s : List UInt8 × UInt8) : List UInt8 × UInt8 := (iterU (inF i (ksT s.1 s.2 i)) s.1 4, if i % 4 = 0 then ax8' s.2 else s.2)
def ksn (s : List UInt8 × UInt8) : Nat → List UInt8 × UInt8
  | 0 => s
  | n + 1 => ksStep (n + 4) (ksn s n)
theorem ksn_len (s : List UInt8 × UInt8) : ∀ n, (ksn s n).1.length = s.1.length
  | 0 => rfl
  | n + 1 => (iterU_len (inF_len _ _) 4).trans (ksn_len s n)
def ks (k z : List UInt8) (i : Nat) : List UInt8 × UInt8 := ksn (kw k z, 1) (i - 4)
theorem ksn_zero (s : List UInt8 × UInt8) : ksn s 0 = s := rfl
theorem ks_four (k z : List UInt8) : ks k z 4 = (kw k z, 1) := ksn_zero _
theorem ks_four1 (k z : List UInt8) : (ks k z 4).1 = kw k z := by rw [ks_four]
theorem ks_four2 (k z : List UInt8) : (ks k z 4).2 = 1 := by rw [ks_four]
theorem ksn_succ (s : List UInt8 × UInt8) {i : Nat} (h : 4 ≤ i) : ksn s (i + 1 - 4) = ksStep i (ksn s (i - 4)) := by
  obtain ⟨n, rfl⟩ : ∃ n, i = n + 4 := ⟨i - 4, by omega⟩
  rw [show n + 4 + 1 - 4 = n + 1 by omega, show n + 4 - 4 = n by omega]
  rfl
theorem ks_succ (k z : List UInt8) {i : Nat} (h : 4 ≤ i) : ks k z (i + 1) = ksStep i (ks k z i) := ksn_succ _ h
theorem ks_len (k z : List UInt8) (hz : z.length = 176) (i : Nat) : (ks k z i).1.length = 176 := (ksn_len _ _).trans ((kw_len k z).trans hz)
def keysL (k : List UInt8) : List UInt8 := (ks k z176 44).1
theorem keysL_len (k : List UInt8) : (keysL k).length = 176 := ks_len k z176 z176_len 44
/-- the words copied out -/
def cpF (l : List UInt8) (i : Nat) (o : List UInt8) : List UInt8 := spl o (i / 4 * 16 + 4 * (i % 4)) (at4 l (i * 4))
theorem cpF_len (l : List UInt8) : ∀ i o, (cpF l i o).length = o.length := fun i o => spl_len _ _ _
theorem spl_app : ∀ (m a b c : List UInt8), b.length = m.length → spl (a ++ b ++ c) a.length m = a ++ m ++ c
  | [], a, b, c, h => by simp at h; subst h; simp [spl]
  | x :: m, a, [], c, h => by simp at h
  | x :: m, a, y :: b, c, h => by
    simp at h
    have e : (a ++ y :: b ++ c).set a.length x = (a ++ [x]) ++ b ++ c := by simp
    rw [spl, e, show a.length + 1 = (a ++ [x]).length by simp, spl_app m (a ++ [x]) b c h]
    simp
theorem at4_eq {l : List UInt8} {o : Nat} (h : o + 4 ≤ l.length) : at4 l o = (l.drop o).take 4 := by
  have e : (l.drop o).take 4 = [l[o], l[o + 1], l[o + 2], l[o + 3]] := by
    rw [List.drop_eq_getElem_cons (show o < l.length by omega), List.drop_eq_getElem_cons (show o + 1 < l.length by omega), List.drop_eq_getElem_cons (show o + 1 + 1 < l.length by omega), List.drop_eq_getElem_cons (show o + 1 + 1 + 1 < l.length by omega)]
    rfl
  rw [e]
  simp [at4, List.getD, List.getElem?_eq_getElem (show o < l.length by omega), List.getElem?_eq_getElem (show o + 1 < l.length by omega), List.getElem?_eq_getElem (show o + 2 < l.length by omega), List.getElem?_eq_getElem (show o + 3 < l.length by omega)]
theorem cp_some {l z : List UInt8} (hl : l.length = 176) (hz : z.length = 176) : ∀ i, i ≤ 44 → iterU (cpF l) z i = l.take (i * 4) ++ z.drop (i * 4)
  | 0, _ => by simp [iterU]
  | i + 1, h => by
    have ih := cp_some hl hz i (by omega)
    show cpF l i (iterU (cpF l) z i) = _
    rw [ih]
    unfold cpF
    rw [at4_eq (by omega)]
    have h1 : i / 4 * 16 + 4 * (i % 4) = (l.take (i * 4)).length := by simp; omega
    have h2 : z.drop (i * 4) = (z.drop (i * 4)).take 4 ++ z.drop ((i + 1) * 4) := by
      rw [show (i + 1) * 4 = i * 4 + 4 by omega, ← List.drop_drop, List.take_append_drop]
    rw [h1, h2, ← List.append_assoc, spl_app _ _ _ _ (by rw [List.length_take, List.length_drop, List.length_take, List.length_drop, hz]; omega)]
    congr 1
    rw [show (i + 1) * 4 = i * 4 + 4 by omega, List.take_add]
theorem cp_end {l z : List UInt8} (hl : l.length = 176) (hz : z.length = 176) : iterU (cpF l) z 44 = l := by
  rw [cp_some hl hz 44 (by omega), List.take_of_length_le (by omega), List.drop_of_length_le (by rw [hz]; omega), List.append_nil]

end Go.Proofs.Ytblgdfamomlklaa
/- aes: schedule. -/
namespace Go.Proofs.Ytblgdfamomlklaa
open Go.RowKit

theorem size_four' : (Try.prog.info? 91).map (·.size) = some 4 := by kernel_rfl
theorem size_keys : (Try.prog.info? 79).map (·.size) = some 176 := by kernel_rfl
theorem size_words : (Try.prog.info? 92).map (·.size) = some 176 := by kernel_rfl
theorem zero28 : Try.zeroCells79 = cellsB z176 := by kernel_rfl
theorem zero68 : Try.zeroCells92 = cellsB z176 := by kernel_rfl
theorem threeC (w : World) (c1 c2 c3 : List UInt8) (C1 C2 C3 : Array Value) (t1 t2 t3 : TypeId) (e1 : C1 = cellsB c1) (e2 : C2 = cellsB c2) (e3 : C3 = cellsB c3) :
    Blk (((w.alloc (.cells C1 t1)).alloc (.cells C2 t2)).alloc (.cells C3 t3)) w.heap.size t1 c1 ∧ Blk (((w.alloc (.cells C1 t1)).alloc (.cells C2 t2)).alloc (.cells C3 t3)) (w.heap.size + 1) t2 c2 ∧
    Blk (((w.alloc (.cells C1 t1)).alloc (.cells C2 t2)).alloc (.cells C3 t3)) (w.heap.size + 1 + 1) t3 c3 ∧ w.grownBy (((w.alloc (.cells C1 t1)).alloc (.cells C2 t2)).alloc (.cells C3 t3)) none := by
  subst e1 e2 e3
  exact three w c1 c2 c3 t1 t2 t3
theorem run_index_row {P : Program} {t e f : TypeId} {n m : Nat} (h : P.underlying t = some (.array n e)) (he : P.underlying e = some (.array m f)) (hsz : (P.info? e).map (·.size) = some m)
    (cs : Array Value) (k : IntKind) (i : Nat) (hi : i < n) (w : World) : (Instr.index t (.agg cs) (.int k (i : Int))).run P w = .ok (.agg (cs.extract (i * m) (i * m + m))) w := by
  cases hq : P.info? e with
  | none => simp [hq] at hsz
  | some x =>
    have hx : x.size = m := by simp [hq] at hsz; exact hsz
    have hni : ¬ n ≤ i := by omega
    simp [Instr.index, run_underlying h, asIntOf, sizeOf, typeInfo, hq, hx, part, isAgg, run_underlying he, hni, Result.andThen]
theorem wpList_index_row {P : Program} {ops : Array Oper} {rest : List Oper} {o : Oper} {a : Act} {w : World} {Q : Exit → Act → World → Prop} (hgd : o.guard = none) (ty : TypeId) (x y : Operand) (ho : o.op = .index ty x y)
    (cs : Array Value) (k : IntKind) (i : Int) (v : Value) (hx : a.eval x = .agg cs) (hy : a.eval y = .int k i) (hr : ∀ w, (Instr.index ty (.agg cs) (.int k i)).run P w = .ok v w)
    (h : wpList P ops Q rest (a.put o.dst v) w) : wpList P ops Q (o :: rest) a w :=
  wpList_plain hgd fun K hK => by
    unfold Oper.wp execOp
    simp only [ho, hx, hy, Sem.run_bind, hr, Result.andThen_ok, Sem.run_pure]
    exact hK _ _ h
theorem cells_at4 {l : List UInt8} {o : Nat} (h : o + 4 ≤ l.length) : (cellsB l).extract o (o + 4) = cellsB (at4 l o) := by
  rw [at4_eq h]
  unfold cellsB
  simp [List.map_drop, List.map_take]
theorem double_u (p : UInt8) (w : World) : Calls Try.prog 52 #[.int .u8 (p.toNat : Int)] w fun e w' => e = .returned (.int .u8 ((ax8' p).toNat : Nat)) ∧ w = w' := by
  rw [ax8_nat]
  exact doubleN_any p.toNat w p.toNat_lt
theorem tab_cell {w : World} {gt ot : Nat} (h : w.rangeAt gt ot (tabS.map bval)) (x : UInt8) : w.cell? ⟨gt, ot + x.toNat, none⟩ = some (.int .u8 ((asub x).toNat : Int)) := by
  have hx := x.toNat_lt
  have hl : x.toNat < tabS.length := by rw [tabS_len]; omega
  have := h x.toNat (.int .u8 ((tabS.getD x.toNat 0).toNat : Int)) (by simp [hl, bval])
  rwa [tabS_get] at this

theorem copy4 (W : World) (g0 o n gx : Nat) (t0 tx : TypeId) (m o0 : List UInt8) (hm : m.length = 4) (hn : 4 ≤ n) (hO : Blk W g0 t0 o0) (ho : o + 4 ≤ o0.length) (hX : Blk W gx tx m) :
    (Builtin.copy_ #[34, 34] 3 #[.slice (some ⟨g0, o, none⟩) n n, .slice (some ⟨gx, 0, none⟩) 4 4]).run Try.prog W = .ok (.int .i64 4) (W.setCells g0 o (m.map bval)) := by
  have h := run_copy_cells (P := Try.prog) W 34 34 3 5 g0 o n n ⟨gx, 0, none⟩ 4 4 (m.map bval) Try.underlying34 (by kernel_rfl) (by rw [List.length_map, hm]; exact (Nat.min_eq_left hn).symm)
    (fun j v hj => by rw [Addr.add_mid]; exact hX.range j v hj) (fun j hj => by rw [hO.cell _ rfl (o + j) (by rw [List.length_map, hm] at hj; omega)]; rfl) (fun j _ => hO.free _) (fun v hv => by obtain ⟨y, _, rfl⟩ := List.mem_map.1 hv; rfl)
  rw [h, List.length_map, hm]
  rfl
theorem arr_at (g o c : Nat) (w : World) : (Instr.arrayAt 91 (.slice (some ⟨g, o, none⟩) 4 c)).run Try.prog w = .ok (.pointer (some ⟨g, o, none⟩)) w := by
  simp [Instr.arrayAt, run_underlying Try.underlying91, Result.andThen]

set_option maxRecDepth 100000 in
set_option maxHeartbeats 4000000 in
theorem schedule_n (k : List UInt8) (hk : k.length = 16) (gt ot : Nat) (w : World) (ht : w.rangeAt gt ot (tabS.map bval)) (hgt : gt < w.heap.size) :
    Calls Try.prog 46 #[aggB k, .pointer (some ⟨gt, ot, none⟩)] w fun e w' => e = .returned (aggB (keysL k)) ∧ w.grownBy w' none := by
  obtain ⟨kk, hkk⟩ : ∃ kk, kk = keysL k := ⟨_, rfl⟩
  obtain ⟨z, hz⟩ : ∃ z, z = z176 := ⟨_, rfl⟩
  have hzl : z.length = 176 := by rw [hz]; exact z176_len
  have e28 : Try.zeroCells79 = cellsB z := by rw [hz]; exact zero28
  have e68 : Try.zeroCells92 = cellsB z := by rw [hz]; exact zero68
  have hke : kk = (ks k z 44).1 := by rw [hkk, hz]; rfl
  rw [← hkk]
  have HKE := Lib.hid hke
  have E28 := Lib.hid e28
  unfold aggB
  obtain ⟨hb, hr, hs, hg⟩ := threeC w k z z (cellsB k) Try.zeroCells79 Try.zeroCells92 27 79 92 rfl e28 e68
  have HR := Lib.hid hr
  have HS := Lib.hid hs
  have HG := Lib.hid hg
  have HB := Lib.hid hb
  have HT0 := Lib.hid ht
  clear hr hg hs hb ht hkk hz hke e28 e68
  go_enter Try.func46, Try.ntmps46
  go_wp2_with fail
  go_loopw [14] (fun vi wr => ∃ i : Nat, i ≤ 4 ∧ vi = .int .i64 i ∧ Blk wr w.heap.size 27 k ∧ Blk wr (w.heap.size + 1) 79 z ∧ Blk wr (w.heap.size + 1 + 1) 92 (iterU (kwF k) z i) ∧ w.grownBy wr none) (fun vi _ => 4 - (intOf vi).toNat)
  case atStart => exact ⟨0, by omega, rfl, HB.out, HR.out, HS.out, HG.out⟩
  case round =>
    obtain ⟨i, hi, rfl, hb, hr, hs, hg⟩ := hrel
    have HBB := Lib.hid hb
    have HRR := Lib.hid hr
    have HGG := Lib.hid hg
    have HSS := Lib.hid hs
    have hlen : (iterU (kwF k) z i).length = 176 := (iterU_len (kwF_len k) i).trans hzl
    have HLEN := Lib.hid hlen
    clear hr hg hs hb hlen
    by_cases hlt : i < 4
    · have harr := fun (o c : Nat) (w1 : World) => arr_at w.heap.size o c w1
      obtain rfl | rfl | rfl | rfl : i = 0 ∨ i = 1 ∨ i = 2 ∨ i = 3 := by omega
      · have e0 : ((0 : Nat) : Int) = 0 := rfl
        rw [e0]
        obtain ⟨m, hm⟩ : ∃ m, m = at4 k 0 := ⟨_, rfl⟩
        have hml : m.length = 4 := by rw [hm]; rfl
        have he : iterU (kwF k) z (0 + 1) = spl (iterU (kwF k) z 0) 0 m := by rw [hm]; rfl
        have HA := Lib.hid (show wr.rangeAt w.heap.size 0 (m.map bval) from by rw [hm]; exact HBB.out.at4 (by rw [hk]; decide))
        have HC := Lib.hid (show wr.there (w.heap.size + 1 + 1) 0 (cellsB m).size from by rw [cellsB_size, hml]; exact HSS.out.there (by rw [HLEN.out]; decide))
        have HE := Lib.hid he
        clear hm he
        go_wp2_with (first | (refine wpList_load_mid rfl 91 _ rfl w.heap.size 0 rfl (m.map bval) _ HA.out Try.underlying91 rfl (by rw [size_four', List.length_map, hml]) ?_) | (refine wpList_store_mid rfl 91 _ _ rfl (w.heap.size + 1 + 1) 0 (cellsB m) rfl rfl HC.out (by rw [size_four', cellsB_size, hml]) (cellsB_one _) ?_))
        go_roundw
        case rel => exact ⟨1, by decide, rfl, HBB.out.splNe _ (by omega), HRR.out.splNe _ (by omega), by rw [HE.out]; exact HSS.out.spl m, grownBy_old HGG.out (grownBy_spl _ _ _ _) (by omega)⟩
        case measure => simp [intOf]
      · have e0 : ((1 : Nat) : Int) = 1 := rfl
        rw [e0]
        obtain ⟨m, hm⟩ : ∃ m, m = at4 k 4 := ⟨_, rfl⟩
        have hml : m.length = 4 := by rw [hm]; rfl
        have he : iterU (kwF k) z (1 + 1) = spl (iterU (kwF k) z 1) 4 m := by rw [hm]; rfl
        have HA := Lib.hid (show wr.rangeAt w.heap.size 4 (m.map bval) from by rw [hm]; exact HBB.out.at4 (by rw [hk]; decide))
        have HC := Lib.hid (show wr.there (w.heap.size + 1 + 1) 4 (cellsB m).size from by rw [cellsB_size, hml]; exact HSS.out.there (by rw [HLEN.out]; decide))
        have HE := Lib.hid he
        clear hm he
        go_wp2_with (first | (refine wpList_load_mid rfl 91 _ rfl w.heap.size 4 rfl (m.map bval) _ HA.out Try.underlying91 rfl (by rw [size_four', List.length_map, hml]) ?_) | (refine wpList_store_mid rfl 91 _ _ rfl (w.heap.size + 1 + 1) 4 (cellsB m) rfl rfl HC.out (by rw [size_four', cellsB_size, hml]) (cellsB_one _) ?_))
        go_roundw
        case rel => exact ⟨2, by decide, rfl, HBB.out.splNe _ (by omega), HRR.out.splNe _ (by omega), by rw [HE.out]; exact HSS.out.spl m, grownBy_old HGG.out (grownBy_spl _ _ _ _) (by omega)⟩
        case measure => simp [intOf]
      · have e0 : ((2 : Nat) : Int) = 2 := rfl
        rw [e0]
        obtain ⟨m, hm⟩ : ∃ m, m = at4 k 8 := ⟨_, rfl⟩
        have hml : m.length = 4 := by rw [hm]; rfl
        have he : iterU (kwF k) z (2 + 1) = spl (iterU (kwF k) z 2) 8 m := by rw [hm]; rfl
        have HA := Lib.hid (show wr.rangeAt w.heap.size 8 (m.map bval) from by rw [hm]; exact HBB.out.at4 (by rw [hk]; decide))
        have HC := Lib.hid (show wr.there (w.heap.size + 1 + 1) 8 (cellsB m).size from by rw [cellsB_size, hml]; exact HSS.out.there (by rw [HLEN.out]; decide))
        have HE := Lib.hid he
        clear hm he
        go_wp2_with (first | (refine wpList_load_mid rfl 91 _ rfl w.heap.size 8 rfl (m.map bval) _ HA.out Try.underlying91 rfl (by rw [size_four', List.length_map, hml]) ?_) | (refine wpList_store_mid rfl 91 _ _ rfl (w.heap.size + 1 + 1) 8 (cellsB m) rfl rfl HC.out (by rw [size_four', cellsB_size, hml]) (cellsB_one _) ?_))
        go_roundw
        case rel => exact ⟨3, by decide, rfl, HBB.out.splNe _ (by omega), HRR.out.splNe _ (by omega), by rw [HE.out]; exact HSS.out.spl m, grownBy_old HGG.out (grownBy_spl _ _ _ _) (by omega)⟩
        case measure => simp [intOf]
      · have e0 : ((3 : Nat) : Int) = 3 := rfl
        rw [e0]
        obtain ⟨m, hm⟩ : ∃ m, m = at4 k 12 := ⟨_, rfl⟩
        have hml : m.length = 4 := by rw [hm]; rfl
        have he : iterU (kwF k) z (3 + 1) = spl (iterU (kwF k) z 3) 12 m := by rw [hm]; rfl
        have HA := Lib.hid (show wr.rangeAt w.heap.size 12 (m.map bval) from by rw [hm]; exact HBB.out.at4 (by rw [hk]; decide))
        have HC := Lib.hid (show wr.there (w.heap.size + 1 + 1) 12 (cellsB m).size from by rw [cellsB_size, hml]; exact HSS.out.there (by rw [HLEN.out]; decide))
        have HE := Lib.hid he
        clear hm he
        go_wp2_with (first | (refine wpList_load_mid rfl 91 _ rfl w.heap.size 12 rfl (m.map bval) _ HA.out Try.underlying91 rfl (by rw [size_four', List.length_map, hml]) ?_) | (refine wpList_store_mid rfl 91 _ _ rfl (w.heap.size + 1 + 1) 12 (cellsB m) rfl rfl HC.out (by rw [size_four', cellsB_size, hml]) (cellsB_one _) ?_))
        go_roundw
        case rel => exact ⟨4, by decide, rfl, HBB.out.splNe _ (by omega), HRR.out.splNe _ (by omega), by rw [HE.out]; exact HSS.out.spl m, grownBy_old HGG.out (grownBy_spl _ _ _ _) (by omega)⟩
        case measure => simp [intOf]
    · obtain rfl : i = 4 := by omega
      have e4 : ((4 : Nat) : Int) = 4 := rfl
      rw [e4]
      clear e4
      have HTT := Lib.hid (range_grown HT0.out HGG.out)
      go_wp2_with fail
      go_loopw [7, 8] (fun vp vi wr => ∃ i : Nat, 4 ≤ i ∧ i ≤ 44 ∧ vi = .int .i64 i ∧ vp = .int .u8 ((ks k z i).2.toNat : Int) ∧ Blk wr (w.heap.size + 1) 79 z ∧ Blk wr (w.heap.size + 1 + 1) 92 (ks k z i).1 ∧ wr.rangeAt gt ot (tabS.map bval) ∧ w.grownBy wr none) (fun _ vi _ => 44 - (intOf vi).toNat)
      case atStart => exact ⟨4, by omega, by omega, rfl, by rw [ks_four2]; rfl, HRR.out, by rw [ks_four1]; unfold kw; exact HSS.out, HTT.out, HGG.out⟩
      case round =>
        clear HBB HRR HGG HSS HLEN HTT hlt hi
        obtain ⟨i, hi4, hi, rfl, rfl, hr, hs, ht, hg⟩ := hrel
        have HRR := Lib.hid hr
        have HGG := Lib.hid hg
        have HSS := Lib.hid hs
        have HTT := Lib.hid ht
        clear hr hg hs ht
        by_cases hlt : i < 44
        · have hl := ks_len k z hzl i
          obtain ⟨l, hle⟩ : ∃ l, l = (ks k z i).1 := ⟨_, rfl⟩
          obtain ⟨p, hpe⟩ : ∃ p, p = (ks k z i).2 := ⟨_, rfl⟩
          have hs := HSS.out
          rw [← hle] at hs hl
          have hks1 : (ks k z (i + 1)).1 = iterU (inF i (ksT l p i)) l 4 := by rw [ks_succ k z hi4, hle, hpe]; rfl
          have hks2 : (ks k z (i + 1)).2 = if i % 4 = 0 then ax8' p else p := by rw [ks_succ k z hi4, hpe]; rfl
          rw [← hpe]
          obtain ⟨t, hte⟩ : ∃ t, t = ksT l p i := ⟨_, rfl⟩
          rw [← hte] at hks1
          have htl : t.length = 4 := by rw [hte]; exact ksT_len _ _ _
          have HK1 := Lib.hid hks1
          have HK2 := Lib.hid hks2
          have HTE := Lib.hid hte
          obtain ⟨m1, hm1⟩ : ∃ m, m = at4 l ((i - 1) * 4) := ⟨_, rfl⟩
          have hm1l : m1.length = 4 := by rw [hm1]; rfl
          have HM1 := Lib.hid hm1
          have HR4 := Lib.hid (show wr.rangeAt (w.heap.size + 1 + 1) ((i - 1) * 4) (m1.map bval) from by rw [hm1]; exact hs.at4 (by omega))
          clear hm1
          have hn := Blk.new wr 91 [0, 0, 0, 0]
          have gn := World.grownBy_alloc wr (.cells (cellsB [0, 0, 0, 0]) 91) none
          have hgs := HGG.out.size
          have hlt2 := HRR.out.lt
          have hlt3 := HSS.out.lt
          obtain ⟨W1, hW1⟩ : ∃ W, W = (wr.alloc (.cells #[.int .u8 0, .int .u8 0, .int .u8 0, .int .u8 0] 91)).setRow wr.heap.size (cellsB m1) := ⟨_, rfl⟩
          have HN := Lib.hid hn
          have HB1 := Lib.hid (show Blk W1 wr.heap.size 91 m1 from hW1 ▸ hn.row m1)
          have HR1 := Lib.hid (show Blk W1 (w.heap.size + 1) 79 z from hW1 ▸ (HRR.out.grown gn (by simp)).rowNe (cellsB m1) (show w.heap.size + 1 ≠ wr.heap.size by omega))
          have HS1 := Lib.hid (show Blk W1 (w.heap.size + 1 + 1) 92 l from hW1 ▸ (hs.grown gn (by simp)).rowNe (cellsB m1) (show w.heap.size + 1 + 1 ≠ wr.heap.size by omega))
          have HT1 := Lib.hid (show W1.rangeAt gt ot (tabS.map bval) from hW1 ▸ range_other (range_grown HTT.out gn) (grownBy_setRow _ wr.heap.size (cellsB m1)) (show gt ≠ wr.heap.size by omega))
          have HG1 := Lib.hid (show w.grownBy W1 none from hW1 ▸ grownBy_old (grownBy_trans HGG.out gn) (grownBy_setRow _ wr.heap.size (cellsB m1)) (by omega))
          clear hn gn hs hks1 hks2 hte hle hpe HSS HTT HRR HGG
          by_cases h4 : i % 4 = 0
          · have e3 : (i : Int).tmod 4 = 0 := by rw [Int.tmod_eq_emod_of_nonneg (by omega)]; omega
            go_wp2_with (first | (refine wpList_load_mid rfl 91 _ rfl (w.heap.size + 1 + 1) ((i - 1) * 4) rfl (m1.map bval) _ HR4.out Try.underlying91 rfl (by rw [size_four', List.length_map, hm1l]) ?_) | (refine wpList_store_row rfl 91 _ _ rfl wr.heap.size (cellsB m1) rfl rfl 91 _ HN.out (by rw [size_four', cellsB_size, hm1l]) (by rw [cellsB_size, cellsB_size, hm1l]; rfl) (cellsB_one _) ?_))
            rw [← hW1]
            obtain ⟨x0, y0⟩ : ∃ x, x = m1.getD 0 0 := ⟨_, rfl⟩
            obtain ⟨x1, y1⟩ : ∃ x, x = m1.getD 1 0 := ⟨_, rfl⟩
            obtain ⟨x2, y2⟩ : ∃ x, x = m1.getD 2 0 := ⟨_, rfl⟩
            obtain ⟨x3, y3⟩ : ∃ x, x = m1.getD 3 0 := ⟨_, rfl⟩
            have ht' : t = [asub x1 ^^^ p, asub x2, asub x3, asub x0] := by
              rw [HTE.out, y0, y1, y2, y3, HM1.out]; unfold ksT; rw [if_pos h4]; rfl
            have HB3 := Lib.hid HB1.out.dr
            have HR3 := Lib.hid HR1.out.dr
            have HS3 := Lib.hid HS1.out.dr
            have HT3 := Lib.hid (range_grown HT1.out (grownBy_d1 (World.grownBy.refl W1 none)))
            have HG3 := Lib.hid (grownBy_d1 HG1.out)
            clear HB1 HR1 HS1 HT1 HG1
            have hc := HB3.out.cell 4 hm1l
            have c0 := hc 0 (by decide)
            have c1 := hc 1 (by decide)
            have c2 := hc 2 (by decide)
            have c3 := hc 3 (by decide)
            rw [← y0] at c0
            rw [← y1] at c1
            rw [← y2] at c2
            rw [← y3] at c3
            have d0 := tab_cell HT3.out x0
            have d1 := tab_cell HT3.out x1
            have d2 := tab_cell HT3.out x2
            have d3 := tab_cell HT3.out x3
            have b0 : (x0.toNat : Int) < 256 := by have := x0.toNat_lt; omega
            have b1 : (x1.toNat : Int) < 256 := by have := x1.toNat_lt; omega
            have b2 : (x2.toNat : Int) < 256 := by have := x2.toNat_lt; omega
            have b3 : (x3.toNat : Int) < 256 := by have := x3.toNat_lt; omega
            have hx := xor_u8 (asub x1) p
            clear hc y0 y1 y2 y3
            refine wp_region_still_tail 27 (by kernel_rfl) (by kernel_rfl) ?_
            simp only [List.take_succ_cons, List.take_zero, List.drop_succ_cons, List.drop_zero]
            change wpStill _ _ W1.drew (fun a' => wpList _ _ _ _ a' W1.drew) _ _
            have hgsz : W1.heap.size = W1.drew.heap.size := rfl
            generalize W1.drew = W2 at *
            repeat still_step
            refine wpStill_nil ?_
            have HT' := Lib.hid ht'
            clear c0 c1 c2 c3 d0 d1 d2 d3 b0 b1 b2 b3 hx ht'
            go_wp2_with (first | (refine wpList_store_row rfl 91 _ _ rfl wr.heap.size (cellsB t) rfl (by rw [HT'.out]; rfl) 91 _ HB3.out (by rw [size_four', cellsB_size, htl]) (by rw [cellsB_size, cellsB_size, htl, hm1l]) (cellsB_one _) ?_) | (go_at_call 52; refine (double_u p _).mono ?_; rintro e w' ⟨rfl, rfl⟩))
            have HB2 := Lib.hid (HB3.out.row t)
            have HR2 := Lib.hid (HR3.out.rowNe (cellsB t) (show w.heap.size + 1 ≠ wr.heap.size by omega))
            have HS2 := Lib.hid (HS3.out.rowNe (cellsB t) (show w.heap.size + 1 + 1 ≠ wr.heap.size by omega))
            have HT2 := Lib.hid (range_other HT3.out (grownBy_setRow _ wr.heap.size (cellsB t)) (show gt ≠ wr.heap.size by omega))
            have HG2 := Lib.hid (grownBy_old HG3.out (grownBy_setRow _ wr.heap.size (cellsB t)) (by omega))
            clear HB3 HR3 HS3 HT3 HG3
            go_loopw [68] (fun vi wr2 => ∃ n : Nat, n ≤ 4 ∧ vi = .int .i64 n ∧ Blk wr2 (w.heap.size + 1) 79 z ∧ Blk wr2 (w.heap.size + 1 + 1) 92 (iterU (inF i t) l n) ∧ Blk wr2 wr.heap.size 91 t ∧ wr2.rangeAt gt ot (tabS.map bval) ∧ w.grownBy wr2 none) (fun vi _ => 4 - (intOf vi).toNat)
            case atStart => exact ⟨0, by omega, rfl, HR2.out, HS2.out, HB2.out, HT2.out, HG2.out⟩
            case round =>
              clear HB2 HR2 HS2 HT2 HG2
              obtain ⟨n, hn, rfl, hr, hs, hb, ht, hg⟩ := hrel
              have HRR := Lib.hid hr
              have HGG := Lib.hid hg
              have HTT := Lib.hid ht
              have hlen : (iterU (inF i t) l n).length = 176 := (iterU_len (inF_len i t) n).trans hl
              have hcell := hs.cell 176 hlen
              have hfree := hs.free
              have HSS := Lib.hid hs
              have HBB := Lib.hid hb
              clear hr hg hs hlen hb ht
              by_cases hn4 : n < 4
              · have hct := HBB.out.cell 4 htl n hn4
                have hci := hcell ((i - 4) * 4 + n) (by omega)
                have hcj := hcell (i * 4 + n) (by omega)
                have hset := HSS.out.set (i * 4 + n) ((iterU (inF i t) l n).getD ((i - 4) * 4 + n) 0 ^^^ t.getD n 0)
                have he : iterU (inF i t) l (n + 1) = (iterU (inF i t) l n).set (i * 4 + n) ((iterU (inF i t) l n).getD ((i - 4) * 4 + n) 0 ^^^ t.getD n 0) := rfl
                obtain ⟨x, hx⟩ : ∃ x, x = (iterU (inF i t) l n).getD ((i - 4) * 4 + n) 0 := ⟨_, rfl⟩
                obtain ⟨y, hy⟩ : ∃ y, y = t.getD n 0 := ⟨_, rfl⟩
                rw [← hx, ← hy] at hset he
                rw [← hx] at hci
                rw [← hy] at hct
                rw [← he] at hset
                obtain ⟨u0, hu0⟩ : ∃ u0, _ = some u0 := ⟨_, hcj⟩
                have hxy := xor_u8 x y
                have HSET := Lib.hid hset
                clear hset HSS hcell hx he hy
                go_wp2_with fail
                go_region
                go_wp2
                go_roundw
                case rel => exact ⟨n + 1, by omega, by go_num, (HRR.out.other (by omega)).dr, HSET.out.dr, (HBB.out.other (by omega)).dr, range_grown (range_other HTT.out (grownBy_setCell _ _ _ _) (by omega)) (grownBy_d1 (World.grownBy.refl _ _)), grownBy_d1 (grownBy_old HGG.out (grownBy_setCell _ _ _ _) (by omega))⟩
                case measure => simp [intOf]; omega
              · obtain rfl : n = 4 := by omega
                clear hcell hfree
                go_wp2_with fail
                go_roundw
                case rel => exact ⟨i + 1, by omega, by omega, by go_num, by rw [HK2.out, if_pos h4], HRR.out, by rw [HK1.out]; exact HSS.out, HTT.out, HGG.out⟩
                case measure => simp [intOf]; omega
          · have e3 : (i : Int).tmod 4 ≠ 0 := by rw [Int.tmod_eq_emod_of_nonneg (by omega)]; omega
            have e3b : ((i : Int).tmod 4 == 0) = false := by simpa using e3
            have e44 : decide ((i : Int) < 44) = true := by simp; omega
            go_wp2_with (first | (refine wpList_load_mid rfl 91 _ rfl (w.heap.size + 1 + 1) ((i - 1) * 4) rfl (m1.map bval) _ HR4.out Try.underlying91 rfl (by rw [size_four', List.length_map, hm1l]) ?_) | (refine wpList_store_row rfl 91 _ _ rfl wr.heap.size (cellsB m1) rfl rfl 91 _ HN.out (by rw [size_four', cellsB_size, hm1l]) (by rw [cellsB_size, cellsB_size, hm1l]; rfl) (cellsB_one _) ?_))
            rw [← hW1]
            obtain rfl : t = m1 := by rw [HTE.out, HM1.out]; unfold ksT; rw [if_neg h4]
            have HB2 := HB1
            have HR2 := HR1
            have HS2 := HS1
            have HT2 := HT1
            have HG2 := HG1
            clear HB1 HR1 HS1 HT1 HG1
            go_loopw [68] (fun vi wr2 => ∃ n : Nat, n ≤ 4 ∧ vi = .int .i64 n ∧ Blk wr2 (w.heap.size + 1) 79 z ∧ Blk wr2 (w.heap.size + 1 + 1) 92 (iterU (inF i t) l n) ∧ Blk wr2 wr.heap.size 91 t ∧ wr2.rangeAt gt ot (tabS.map bval) ∧ w.grownBy wr2 none) (fun vi _ => 4 - (intOf vi).toNat)
            case atStart => exact ⟨0, by omega, rfl, HR2.out, HS2.out, HB2.out, HT2.out, HG2.out⟩
            case round =>
              clear HB2 HR2 HS2 HT2 HG2
              obtain ⟨n, hn, rfl, hr, hs, hb, ht, hg⟩ := hrel
              have HRR := Lib.hid hr
              have HGG := Lib.hid hg
              have HTT := Lib.hid ht
              have hlen : (iterU (inF i t) l n).length = 176 := (iterU_len (inF_len i t) n).trans hl
              have hcell := hs.cell 176 hlen
              have hfree := hs.free
              have HSS := Lib.hid hs
              have HBB := Lib.hid hb
              clear hr hg hs hlen hb ht
              by_cases hn4 : n < 4
              · have hct := HBB.out.cell 4 htl n hn4
                have hci := hcell ((i - 4) * 4 + n) (by omega)
                have hcj := hcell (i * 4 + n) (by omega)
                have hset := HSS.out.set (i * 4 + n) ((iterU (inF i t) l n).getD ((i - 4) * 4 + n) 0 ^^^ t.getD n 0)
                have he : iterU (inF i t) l (n + 1) = (iterU (inF i t) l n).set (i * 4 + n) ((iterU (inF i t) l n).getD ((i - 4) * 4 + n) 0 ^^^ t.getD n 0) := rfl
                obtain ⟨x, hx⟩ : ∃ x, x = (iterU (inF i t) l n).getD ((i - 4) * 4 + n) 0 := ⟨_, rfl⟩
                obtain ⟨y, hy⟩ : ∃ y, y = t.getD n 0 := ⟨_, rfl⟩
                rw [← hx, ← hy] at hset he
                rw [← hx] at hci
                rw [← hy] at hct
                rw [← he] at hset
                obtain ⟨u0, hu0⟩ : ∃ u0, _ = some u0 := ⟨_, hcj⟩
                have hxy := xor_u8 x y
                have HSET := Lib.hid hset
                clear hset HSS hcell hx he hy
                go_wp2_with fail
                go_region
                go_wp2
                go_roundw
                case rel => exact ⟨n + 1, by omega, by go_num, (HRR.out.other (by omega)).dr, HSET.out.dr, (HBB.out.other (by omega)).dr, range_grown (range_other HTT.out (grownBy_setCell _ _ _ _) (by omega)) (grownBy_d1 (World.grownBy.refl _ _)), grownBy_d1 (grownBy_old HGG.out (grownBy_setCell _ _ _ _) (by omega))⟩
                case measure => simp [intOf]; omega
              · obtain rfl : n = 4 := by omega
                clear hcell hfree
                go_wp2_with fail
                go_roundw
                case rel => exact ⟨i + 1, by omega, by omega, by go_num, by rw [HK2.out, if_neg h4], HRR.out, by rw [HK1.out]; exact HSS.out, HTT.out, HGG.out⟩
                case measure => simp [intOf]; omega
        · obtain rfl : i = 44 := by omega
          have e44 : ((44 : Nat) : Int) = 44 := rfl
          rw [e44]
          clear e44
          have hl : (ks k z 44).1.length = 176 := ks_len k z hzl 44
          have hke := HKE.out
          clear HKE
          have hs := HSS.out
          obtain ⟨l, hle⟩ : ∃ l, l = (ks k z 44).1 := ⟨_, rfl⟩
          obtain ⟨p, hpe⟩ : ∃ p, p = (ks k z 44).2 := ⟨_, rfl⟩
          rw [← hle] at hl hke hs
          rw [← hpe]
          clear hle hpe
          have HKE := Lib.hid hke
          have hn := Blk.new wr 79 z
          rw [← E28.out] at hn
          have gn := World.grownBy_alloc wr (.cells Try.zeroCells79 79) none
          have hlt2 := HRR.out.lt
          have hlt3 := hs.lt
          have HO := Lib.hid hn
          have HR1 := Lib.hid (HRR.out.grown gn (by simp))
          have HS1 := Lib.hid (hs.grown gn (by simp))
          have HG1 := Lib.hid (grownBy_trans HGG.out gn)
          clear hn gn hs hke HSS HTT HRR HGG
          go_wp2_with (refine wpList_load_row rfl 92 _ rfl (w.heap.size + 1 + 1) rfl 92 (cellsB l) (0, 0) _ HS1.out Try.underlying92 rfl (by rw [size_words, cellsB_size, hl]) ?_)
          obtain ⟨g0, hg0⟩ : ∃ q, q = wr.heap.size := ⟨_, rfl⟩
          rw [← hg0] at HO hlt2 hlt3 ⊢
          go_loopw [87] (fun vi wr2 => ∃ j : Nat, j ≤ 44 ∧ vi = .int .i64 j ∧ Blk wr2 (w.heap.size + 1) 79 z ∧ Blk wr2 g0 79 (iterU (cpF l) z j) ∧ w.grownBy wr2 none) (fun vi _ => 44 - (intOf vi).toNat)
          case atStart => exact ⟨0, by omega, rfl, HR1.out, HO.out, HG1.out⟩
          case round =>
            clear HR1 HO HG1 HS1 hg0
            obtain ⟨j, hj, rfl, hr, hs, hg⟩ := hrel
            by_cases hlt4 : j < 44
            · obtain ⟨m, hm⟩ : ∃ m, m = at4 l (j * 4) := ⟨_, rfl⟩
              have hml : m.length = 4 := by rw [hm]; rfl
              have hidx : ∀ w1, (Instr.index 92 (.agg (cellsB l)) (.int .i64 (j : Int))).run Try.prog w1 = .ok (.agg (cellsB m)) w1 := fun w1 => by
                rw [hm, ← cells_at4 (by omega)]
                exact run_index_row Try.underlying92 Try.underlying91 (by kernel_rfl) _ _ _ hlt4 w1
              have hlen : (iterU (cpF l) z j).length = 176 := (iterU_len (cpF_len l) j).trans hzl
              have hn := Blk.new wr 91 [0, 0, 0, 0]
              have gn := World.grownBy_alloc wr (.cells (cellsB [0, 0, 0, 0]) 91) none
              obtain ⟨W3, hW3⟩ : ∃ W, W = (wr.alloc (.cells #[.int .u8 0, .int .u8 0, .int .u8 0, .int .u8 0] 91)).setRow wr.heap.size (cellsB m) := ⟨_, rfl⟩
              have hl2 := hr.lt
              have hl3 := hs.lt
              have hgs := hg.size
              have HX := Lib.hid (show Blk W3 wr.heap.size 91 m from hW3 ▸ hn.row m)
              have HR3 := Lib.hid (show Blk W3 (w.heap.size + 1) 79 z from hW3 ▸ (hr.grown gn (by simp)).rowNe (cellsB m) (show w.heap.size + 1 ≠ wr.heap.size by omega))
              have HO3 := Lib.hid (show Blk W3 g0 79 (iterU (cpF l) z j) from hW3 ▸ (hs.grown gn (by simp)).rowNe (cellsB m) (show g0 ≠ wr.heap.size by omega))
              have HG3 := Lib.hid (show w.grownBy W3 none from hW3 ▸ grownBy_old (grownBy_trans hg gn) (grownBy_setRow _ wr.heap.size (cellsB m)) (by omega))
              have HN := Lib.hid hn
              have HM := Lib.hid hm
              have HIX := Lib.hid hidx
              clear hn gn hr hs hg hm hidx hlen
              go_wp2_with (first | (refine wpList_index_row rfl _ _ _ rfl (cellsB l) .i64 (j : Int) (.agg (cellsB m)) rfl rfl HIX.out ?_) | (refine wpList_store_row rfl 91 _ _ rfl wr.heap.size (cellsB m) rfl rfl 91 _ HN.out (by rw [size_four', cellsB_size, hml]) (by rw [cellsB_size, cellsB_size, hml]; rfl) (cellsB_one _) ?_))
              rw [← hW3]
              clear hW3
              obtain ⟨q, hq⟩ : ∃ q, q = j / 4 := ⟨_, rfl⟩
              have t1 : (j : Int).tdiv 4 = (q : Int) := by rw [hq]; rfl
              have t1' : (j : Int) / 4 = (q : Int) := by omega
              have t5 : IntKind.i64.wrap (q : Int) = (q : Int) := i64_nat _ (by omega)
              have t3 : (q : Int) < 11 := by omega
              have hlen : (iterU (cpF l) z j).length = 176 := (iterU_len (cpF_len l) j).trans hzl
              have HLEN := Lib.hid hlen
              have HQ := Lib.hid hq
              clear hlen hq
              obtain hb | hb | hb | hb : j % 4 = 0 ∨ j % 4 = 1 ∨ j % 4 = 2 ∨ j % 4 = 3 := by omega
              · have t2 : (j : Int).tmod 4 = 0 := by rw [Int.tmod_eq_emod_of_nonneg (by omega)]; omega
                have tw : IntKind.i64.wrap 0 = 0 := rfl
                have tw' : IntKind.i64.wrap 0 = 0 := rfl
                have he : iterU (cpF l) z (j + 1) = spl (iterU (cpF l) z j) (q * 16) m := by
                  show spl (iterU (cpF l) z j) (j / 4 * 16 + 4 * (j % 4)) (at4 l (j * 4)) = _
                  rw [hb, HM.out, HQ.out]
                  try rfl
                have hcopy := copy4 W3.drew g0 (q * 16) 16 wr.heap.size _ _ m _ hml (by omega) HO3.out.dr (by rw [HLEN.out]; omega) HX.out.dr
                obtain ⟨W4, hW4⟩ : ∃ W4, W4 = W3.drew.setCells g0 (q * 16) (m.map bval) := ⟨_, rfl⟩
                rw [← hW4] at hcopy
                have HO4 := Lib.hid (show Blk W4 g0 79 (iterU (cpF l) z (j + 1)) from by rw [he, hW4]; exact HO3.out.dr.spl m)
                have HR4 := Lib.hid (show Blk W4 (w.heap.size + 1) 79 z from hW4 ▸ HR3.out.dr.splNe _ (by omega))
                have HG4 := Lib.hid (show w.grownBy W4 none from hW4 ▸ grownBy_old (grownBy_d1 HG3.out) (grownBy_spl _ _ _ _) (by omega))
                clear he hW4
                go_region_with fail
                all_goals
                  go_wp2_with fail
                  go_roundw
                  case rel => exact ⟨j + 1, by omega, by go_num, HR4.out, HO4.out, HG4.out⟩
                  case measure => simp [intOf]; omega
              · have t2 : (j : Int).tmod 4 = 1 := by rw [Int.tmod_eq_emod_of_nonneg (by omega)]; omega
                have tw : IntKind.i64.wrap 4 = 4 := rfl
                have tw' : IntKind.i64.wrap 1 = 1 := rfl
                have he : iterU (cpF l) z (j + 1) = spl (iterU (cpF l) z j) (q * 16 + 4) m := by
                  show spl (iterU (cpF l) z j) (j / 4 * 16 + 4 * (j % 4)) (at4 l (j * 4)) = _
                  rw [hb, HM.out, HQ.out]
                  try rfl
                have hcopy := copy4 W3.drew g0 (q * 16 + 4) 12 wr.heap.size _ _ m _ hml (by omega) HO3.out.dr (by rw [HLEN.out]; omega) HX.out.dr
                obtain ⟨W4, hW4⟩ : ∃ W4, W4 = W3.drew.setCells g0 (q * 16 + 4) (m.map bval) := ⟨_, rfl⟩
                rw [← hW4] at hcopy
                have HO4 := Lib.hid (show Blk W4 g0 79 (iterU (cpF l) z (j + 1)) from by rw [he, hW4]; exact HO3.out.dr.spl m)
                have HR4 := Lib.hid (show Blk W4 (w.heap.size + 1) 79 z from hW4 ▸ HR3.out.dr.splNe _ (by omega))
                have HG4 := Lib.hid (show w.grownBy W4 none from hW4 ▸ grownBy_old (grownBy_d1 HG3.out) (grownBy_spl _ _ _ _) (by omega))
                clear he hW4
                go_region_with fail
                all_goals
                  go_wp2_with fail
                  go_roundw
                  case rel => exact ⟨j + 1, by omega, by go_num, HR4.out, HO4.out, HG4.out⟩
                  case measure => simp [intOf]; omega
              · have t2 : (j : Int).tmod 4 = 2 := by rw [Int.tmod_eq_emod_of_nonneg (by omega)]; omega
                have tw : IntKind.i64.wrap 8 = 8 := rfl
                have tw' : IntKind.i64.wrap 2 = 2 := rfl
                have he : iterU (cpF l) z (j + 1) = spl (iterU (cpF l) z j) (q * 16 + 8) m := by
                  show spl (iterU (cpF l) z j) (j / 4 * 16 + 4 * (j % 4)) (at4 l (j * 4)) = _
                  rw [hb, HM.out, HQ.out]
                  try rfl
                have hcopy := copy4 W3.drew g0 (q * 16 + 8) 8 wr.heap.size _ _ m _ hml (by omega) HO3.out.dr (by rw [HLEN.out]; omega) HX.out.dr
                obtain ⟨W4, hW4⟩ : ∃ W4, W4 = W3.drew.setCells g0 (q * 16 + 8) (m.map bval) := ⟨_, rfl⟩
                rw [← hW4] at hcopy
                have HO4 := Lib.hid (show Blk W4 g0 79 (iterU (cpF l) z (j + 1)) from by rw [he, hW4]; exact HO3.out.dr.spl m)
                have HR4 := Lib.hid (show Blk W4 (w.heap.size + 1) 79 z from hW4 ▸ HR3.out.dr.splNe _ (by omega))
                have HG4 := Lib.hid (show w.grownBy W4 none from hW4 ▸ grownBy_old (grownBy_d1 HG3.out) (grownBy_spl _ _ _ _) (by omega))
                clear he hW4
                go_region_with fail
                all_goals
                  go_wp2_with fail
                  go_roundw
                  case rel => exact ⟨j + 1, by omega, by go_num, HR4.out, HO4.out, HG4.out⟩
                  case measure => simp [intOf]; omega
              · have t2 : (j : Int).tmod 4 = 3 := by rw [Int.tmod_eq_emod_of_nonneg (by omega)]; omega
                have tw : IntKind.i64.wrap 12 = 12 := rfl
                have tw' : IntKind.i64.wrap 3 = 3 := rfl
                have he : iterU (cpF l) z (j + 1) = spl (iterU (cpF l) z j) (q * 16 + 12) m := by
                  show spl (iterU (cpF l) z j) (j / 4 * 16 + 4 * (j % 4)) (at4 l (j * 4)) = _
                  rw [hb, HM.out, HQ.out]
                  try rfl
                have hcopy := copy4 W3.drew g0 (q * 16 + 12) 4 wr.heap.size _ _ m _ hml (by omega) HO3.out.dr (by rw [HLEN.out]; omega) HX.out.dr
                obtain ⟨W4, hW4⟩ : ∃ W4, W4 = W3.drew.setCells g0 (q * 16 + 12) (m.map bval) := ⟨_, rfl⟩
                rw [← hW4] at hcopy
                have HO4 := Lib.hid (show Blk W4 g0 79 (iterU (cpF l) z (j + 1)) from by rw [he, hW4]; exact HO3.out.dr.spl m)
                have HR4 := Lib.hid (show Blk W4 (w.heap.size + 1) 79 z from hW4 ▸ HR3.out.dr.splNe _ (by omega))
                have HG4 := Lib.hid (show w.grownBy W4 none from hW4 ▸ grownBy_old (grownBy_d1 HG3.out) (grownBy_spl _ _ _ _) (by omega))
                clear he hW4
                go_region_with fail
                all_goals
                  go_wp2_with fail
                  go_roundw
                  case rel => exact ⟨j + 1, by omega, by go_num, HR4.out, HO4.out, HG4.out⟩
                  case measure => simp [intOf]; omega
            · obtain rfl : j = 44 := by omega
              have e44 : ((44 : Nat) : Int) = 44 := rfl
              rw [e44]
              clear e44
              have hke := HKE.out
              rw [cp_end hl hzl, ← hke] at hs
              have HO5 := Lib.hid hs
              have HR5 := Lib.hid hr
              have HG5 := Lib.hid hg
              have hkl : kk.length = 176 := by rw [hke]; exact hl
              clear hs hr hg
              go_wp2_with (first | (refine wpList_load_row rfl 79 _ rfl g0 rfl 79 (cellsB kk) (0, 0) _ HO5.out Try.underlying79 rfl (by rw [size_keys, cellsB_size, hkl]) ?_) | (refine wpList_store_row rfl 79 _ _ rfl (w.heap.size + 1) (cellsB kk) rfl rfl 79 _ HR5.out (by rw [size_keys, cellsB_size, hkl]) (by rw [cellsB_size, cellsB_size, hkl, hzl]) (cellsB_one _) ?_))
              refine bodyPost_ret (v := .agg (cellsB kk)) (results_cell_row rfl _ _ (w.heap.size + 1) 79 (cellsB kk) (0, 0) _ rfl (setRow_heap _ _ _ _ _ _ HR5.out) Try.underlying79 rfl (by rw [size_keys, cellsB_size, hkl])) rfl ⟨rfl, ?_⟩
              exact grownBy_old HG5.out (grownBy_setRow _ _ _) (by omega)

end Go.Proofs.Ytblgdfamomlklaa
/- aes: Schedule; the document's. -/
namespace Go.Proofs.Ytblgdfamomlklaa
open Go.RowKit

def rkF (k : List UInt8) (i : Nat) (o : List UInt8) : List UInt8 := o.set (i / 4 * 4 + i % 4) (k.getD i 0)
theorem rkF_len (k : List UInt8) : ∀ i o, (rkF k i o).length = o.length := fun i o => by simp [rkF]
theorem ex16r {z : List UInt8} (h : 16 ≤ z.length) : ∃ z0 z1 z2 z3 z4 z5 z6 z7 z8 z9 z10 z11 z12 z13 z14 z15 r, z = z0 :: z1 :: z2 :: z3 :: z4 :: z5 :: z6 :: z7 :: z8 :: z9 :: z10 :: z11 :: z12 :: z13 :: z14 :: z15 :: r := by
  obtain ⟨z0, z1, z2, z3, z4, z5, z6, z7, z8, z9, z10, z11, z12, z13, z14, z15, e⟩ := ex16 (l := z.take 16) (by rw [List.length_take]; omega)
  refine ⟨z0, z1, z2, z3, z4, z5, z6, z7, z8, z9, z10, z11, z12, z13, z14, z15, z.drop 16, ?_⟩
  conv => lhs; rw [← List.take_append_drop 16 z, e]
  rfl
set_option maxHeartbeats 4000000 in
theorem rk_end {k z : List UInt8} (hk : k.length = 16) (hz : z.length = 176) : iterU (rkF k) z 16 = kw k z := by
  obtain ⟨x0, x1, x2, x3, x4, x5, x6, x7, x8, x9, x10, x11, x12, x13, x14, x15, rfl⟩ := ex16 hk
  obtain ⟨z0, z1, z2, z3, z4, z5, z6, z7, z8, z9, z10, z11, z12, z13, z14, z15, r, rfl⟩ := ex16r (z := z) (by omega)
  simp [iterU, rkF, kw, kwF, spl, at4]
def rcF (l : List UInt8) (i : Nat) (o : List UInt8) : List UInt8 := o.set (i / 16 * 16 + i % 16) (l.getD (i / 4 * 4 + i % 4) 0)
theorem rcF_len (l : List UInt8) : ∀ i o, (rcF l i o).length = o.length := fun i o => by simp [rcF]
theorem rc_some {l z : List UInt8} (hl : l.length = 176) (hz : z.length = 176) : ∀ i, i ≤ 176 → iterU (rcF l) z i = l.take i ++ z.drop i
  | 0, _ => by simp [iterU]
  | i + 1, h => by
    have ih := rc_some hl hz i (by omega)
    show rcF l i (iterU (rcF l) z i) = _
    rw [ih]
    unfold rcF
    rw [show i / 16 * 16 + i % 16 = i by omega, show i / 4 * 4 + i % 4 = i by omega]
    rw [List.take_succ_eq_append_getElem (show i < l.length by omega), List.drop_eq_getElem_cons (show i < z.length by omega)]
    have e : (l.take i).length = i := by rw [List.length_take]; omega
    have eg : l.getD i 0 = l[i] := by simp [List.getD, List.getElem?_eq_getElem (show i < l.length by omega)]
    rw [List.set_append_right _ _ (by omega), e, Nat.sub_self, List.set_cons_zero, eg, List.append_assoc]
    rfl
theorem rc_end {l z : List UInt8} (hl : l.length = 176) (hz : z.length = 176) : iterU (rcF l) z 176 = l := by
  rw [rc_some hl hz 176 (by omega), List.take_of_length_le (by omega), List.drop_of_length_le (by omega), List.append_nil]
theorem am_two (p : UInt8) : am p 2 = ax8' p := by
  have := all256 (p := fun p => am p 2 == ax8' p) (by decide +kernel) p
  simpa using this
theorem prod_two (p : UInt8) (w : World) : Calls Try.prog 73 #[.int .u8 (p.toNat : Int), .int .u8 2] w fun e w' => e = .returned (.int .u8 ((ax8' p).toNat : Nat)) ∧ w = w' := by
  rw [← am_two]
  exact refProd_i _ _ p 2 w rfl rfl

set_option maxRecDepth 100000 in
set_option maxHeartbeats 4000000 in
theorem refSchedule_n (k : List UInt8) (hk : k.length = 16) (w : World) :
    Calls Try.prog 60 #[aggB k] w fun e w' => e = .returned (aggB (keysL k)) ∧ w.grownBy w' none := by
  obtain ⟨kk, hkk⟩ : ∃ kk, kk = keysL k := ⟨_, rfl⟩
  obtain ⟨z, hz⟩ : ∃ z, z = z176 := ⟨_, rfl⟩
  have hzl : z.length = 176 := by rw [hz]; exact z176_len
  have e28 : Try.zeroCells79 = cellsB z := by rw [hz]; exact zero28
  have e68 : Try.zeroCells92 = cellsB z := by rw [hz]; exact zero68
  have hke : kk = (ks k z 44).1 := by rw [hkk, hz]; rfl
  rw [← hkk]
  have HKE := Lib.hid hke
  have E28 := Lib.hid e28
  unfold aggB
  obtain ⟨hb, hr, hs, hg⟩ := threeC w k z z (cellsB k) Try.zeroCells79 Try.zeroCells92 27 79 92 rfl e28 e68
  have HR := Lib.hid hr
  have HS := Lib.hid hs
  have HG := Lib.hid hg
  have HB := Lib.hid hb
  clear hr hg hs hb hkk hz hke e28 e68
  go_enter Try.func60, Try.ntmps60
  go_wp2_with fail
  go_loopw [4] (fun vi wr => ∃ i : Nat, i ≤ 16 ∧ vi = .int .i64 i ∧ Blk wr w.heap.size 27 k ∧ Blk wr (w.heap.size + 1) 79 z ∧ Blk wr (w.heap.size + 1 + 1) 92 (iterU (rkF k) z i) ∧ w.grownBy wr none) (fun vi _ => 16 - (intOf vi).toNat)
  case atStart => exact ⟨0, by omega, rfl, HB.out, HR.out, HS.out, HG.out⟩
  case round =>
    obtain ⟨i, hi, rfl, hb, hr, hs, hg⟩ := hrel
    have HBB := Lib.hid hb
    have HRR := Lib.hid hr
    have HGG := Lib.hid hg
    have HSS := Lib.hid hs
    have hlen : (iterU (rkF k) z i).length = 176 := (iterU_len (rkF_len k) i).trans hzl
    have hcell := hs.cell 176 hlen
    have hfree := hs.free
    clear hr hg hs hb hlen
    by_cases hlt : i < 16
    · have hci := HBB.out.cell 16 hk i hlt
      have hcj := hcell (i / 4 * 4 + i % 4) (by omega)
      have hset := HSS.out.set (i / 4 * 4 + i % 4) (k.getD i 0)
      have he : iterU (rkF k) z (i + 1) = (iterU (rkF k) z i).set (i / 4 * 4 + i % 4) (k.getD i 0) := rfl
      obtain ⟨u0, hu0⟩ : ∃ u0, _ = some u0 := ⟨_, hcj⟩
      obtain ⟨x, hx⟩ : ∃ x, x = k.getD i 0 := ⟨_, rfl⟩
      rw [← hx] at hset hci he
      rw [← he] at hset
      have HSET := Lib.hid hset
      clear hset HSS hcell hcj hx he
      go_wp2_with fail
      go_region
      go_wp2
      go_roundw
      case rel => exact ⟨i + 1, by omega, by go_num, (HBB.out.other (by omega)).dr, (HRR.out.other (by omega)).dr, HSET.out.dr, grownBy_d1 (grownBy_old HGG.out (grownBy_setCell _ _ _ _) (by omega))⟩
      case measure => simp [intOf]; omega
    · obtain rfl : i = 16 := by omega
      have e4 : ((16 : Nat) : Int) = 16 := rfl
      rw [e4]
      clear e4 hcell hfree
      go_wp2_with fail
      go_loopw [5, 6] (fun vp vi wr => ∃ i : Nat, 4 ≤ i ∧ i ≤ 44 ∧ vi = .int .i64 i ∧ vp = .int .u8 ((ks k z i).2.toNat : Int) ∧ Blk wr (w.heap.size + 1) 79 z ∧ Blk wr (w.heap.size + 1 + 1) 92 (ks k z i).1 ∧ w.grownBy wr none) (fun _ vi _ => 44 - (intOf vi).toNat)
      case atStart => exact ⟨4, by omega, by omega, rfl, by rw [ks_four2]; rfl, HRR.out, by rw [ks_four1, ← rk_end hk hzl]; exact HSS.out, HGG.out⟩
      case round =>
        clear HBB HRR HGG HSS hlt hi
        obtain ⟨i, hi4, hi, rfl, rfl, hr, hs, hg⟩ := hrel
        have HRR := Lib.hid hr
        have HGG := Lib.hid hg
        have HSS := Lib.hid hs
        clear hr hg hs
        by_cases hlt : i < 44
        · have hl := ks_len k z hzl i
          obtain ⟨l, hle⟩ : ∃ l, l = (ks k z i).1 := ⟨_, rfl⟩
          obtain ⟨p, hpe⟩ : ∃ p, p = (ks k z i).2 := ⟨_, rfl⟩
          have hs := HSS.out
          rw [← hle] at hs hl
          have hks1 : (ks k z (i + 1)).1 = iterU (inF i (ksT l p i)) l 4 := by rw [ks_succ k z hi4, hle, hpe]; rfl
          have hks2 : (ks k z (i + 1)).2 = if i % 4 = 0 then ax8' p else p := by rw [ks_succ k z hi4, hpe]; rfl
          rw [← hpe]
          obtain ⟨t, hte⟩ : ∃ t, t = ksT l p i := ⟨_, rfl⟩
          rw [← hte] at hks1
          have htl : t.length = 4 := by rw [hte]; exact ksT_len _ _ _
          have HK1 := Lib.hid hks1
          have HK2 := Lib.hid hks2
          have HTE := Lib.hid hte
          obtain ⟨m1, hm1⟩ : ∃ m, m = at4 l ((i - 1) * 4) := ⟨_, rfl⟩
          have hm1l : m1.length = 4 := by rw [hm1]; rfl
          have HM1 := Lib.hid hm1
          have HR4 := Lib.hid (show wr.rangeAt (w.heap.size + 1 + 1) ((i - 1) * 4) (m1.map bval) from by rw [hm1]; exact hs.at4 (by omega))
          clear hm1
          have hn := Blk.new wr 91 [0, 0, 0, 0]
          have gn := World.grownBy_alloc wr (.cells (cellsB [0, 0, 0, 0]) 91) none
          have hgs := HGG.out.size
          have hlt2 := HRR.out.lt
          have hlt3 := HSS.out.lt
          obtain ⟨W1, hW1⟩ : ∃ W, W = (wr.alloc (.cells #[.int .u8 0, .int .u8 0, .int .u8 0, .int .u8 0] 91)).setRow wr.heap.size (cellsB m1) := ⟨_, rfl⟩
          have HN := Lib.hid hn
          have HB1 := Lib.hid (show Blk W1 wr.heap.size 91 m1 from hW1 ▸ hn.row m1)
          have HR1 := Lib.hid (show Blk W1 (w.heap.size + 1) 79 z from hW1 ▸ (HRR.out.grown gn (by simp)).rowNe (cellsB m1) (show w.heap.size + 1 ≠ wr.heap.size by omega))
          have HS1 := Lib.hid (show Blk W1 (w.heap.size + 1 + 1) 92 l from hW1 ▸ (hs.grown gn (by simp)).rowNe (cellsB m1) (show w.heap.size + 1 + 1 ≠ wr.heap.size by omega))
          have HG1 := Lib.hid (show w.grownBy W1 none from hW1 ▸ grownBy_old (grownBy_trans HGG.out gn) (grownBy_setRow _ wr.heap.size (cellsB m1)) (by omega))
          clear hn gn hs hks1 hks2 hte hle hpe HSS HRR HGG
          by_cases h4 : i % 4 = 0
          · have e3 : (i : Int).tmod 4 = 0 := by rw [Int.tmod_eq_emod_of_nonneg (by omega)]; omega
            go_wp2_with (first | (refine wpList_load_mid rfl 91 _ rfl (w.heap.size + 1 + 1) ((i - 1) * 4) rfl (m1.map bval) _ HR4.out Try.underlying91 rfl (by rw [size_four', List.length_map, hm1l]) ?_) | (refine wpList_store_row rfl 91 _ _ rfl wr.heap.size (cellsB m1) rfl rfl 91 _ HN.out (by rw [size_four', cellsB_size, hm1l]) (by rw [cellsB_size, cellsB_size, hm1l]; rfl) (cellsB_one _) ?_))
            rw [← hW1]
            obtain ⟨x0, y0⟩ : ∃ x, x = m1.getD 0 0 := ⟨_, rfl⟩
            obtain ⟨x1, y1⟩ : ∃ x, x = m1.getD 1 0 := ⟨_, rfl⟩
            obtain ⟨x2, y2⟩ : ∃ x, x = m1.getD 2 0 := ⟨_, rfl⟩
            obtain ⟨x3, y3⟩ : ∃ x, x = m1.getD 3 0 := ⟨_, rfl⟩
            have ht' : t = [asub x1 ^^^ p, asub x2, asub x3, asub x0] := by
              rw [HTE.out, y0, y1, y2, y3, HM1.out]; unfold ksT; rw [if_pos h4]; rfl
            have HB3 := Lib.hid HB1.out.dr
            have HR3 := Lib.hid HR1.out.dr
            have HS3 := Lib.hid HS1.out.dr
            have HG3 := Lib.hid (grownBy_d1 HG1.out)
            clear HB1 HR1 HS1 HG1
            have hc := HB3.out.cell 4 hm1l
            have c0 := hc 0 (by decide)
            have c1 := hc 1 (by decide)
            have c2 := hc 2 (by decide)
            have c3 := hc 3 (by decide)
            rw [← y0] at c0
            rw [← y1] at c1
            rw [← y2] at c2
            rw [← y3] at c3
            have hx := xor_u8 (asub x1) p
            clear hc y0 y1 y2 y3
            refine wp_region_still_tail 15 (by kernel_rfl) (by kernel_rfl) ?_
            simp only [List.take_succ_cons, List.take_zero, List.drop_succ_cons, List.drop_zero]
            change wpStill _ _ W1.drew (fun a' => wpList _ _ _ _ a' W1.drew) _ _
            have hgsz : W1.heap.size = W1.drew.heap.size := rfl
            generalize W1.drew = W2 at *
            still_step
            still_step
            still_call ((refSub_i _ x1 _ rfl).mono (fun _ _ h => ⟨h.1, h.2.symm⟩))
            still_step
            still_step
            still_step
            still_step
            still_call ((refSub_i _ x2 _ rfl).mono (fun _ _ h => ⟨h.1, h.2.symm⟩))
            still_step
            still_step
            still_call ((refSub_i _ x3 _ rfl).mono (fun _ _ h => ⟨h.1, h.2.symm⟩))
            still_step
            still_step
            still_call ((refSub_i _ x0 _ rfl).mono (fun _ _ h => ⟨h.1, h.2.symm⟩))
            still_step
            refine wpStill_nil ?_
            have HT' := Lib.hid ht'
            clear c0 c1 c2 c3 hx ht'
            go_wp2_with (first | (refine wpList_store_row rfl 91 _ _ rfl wr.heap.size (cellsB t) rfl (by rw [HT'.out]; rfl) 91 _ HB3.out (by rw [size_four', cellsB_size, htl]) (by rw [cellsB_size, cellsB_size, htl, hm1l]) (cellsB_one _) ?_) | (go_at_call 73; refine (prod_two p _).mono ?_; rintro e w' ⟨rfl, rfl⟩))
            have HB2 := Lib.hid (HB3.out.row t)
            have HR2 := Lib.hid (HR3.out.rowNe (cellsB t) (show w.heap.size + 1 ≠ wr.heap.size by omega))
            have HS2 := Lib.hid (HS3.out.rowNe (cellsB t) (show w.heap.size + 1 + 1 ≠ wr.heap.size by omega))
            have HG2 := Lib.hid (grownBy_old HG3.out (grownBy_setRow _ wr.heap.size (cellsB t)) (by omega))
            clear HB3 HR3 HS3 HG3
            go_loopw [8] (fun vi wr2 => ∃ n : Nat, n ≤ 4 ∧ vi = .int .i64 n ∧ Blk wr2 (w.heap.size + 1) 79 z ∧ Blk wr2 (w.heap.size + 1 + 1) 92 (iterU (inF i t) l n) ∧ Blk wr2 wr.heap.size 91 t ∧ w.grownBy wr2 none) (fun vi _ => 4 - (intOf vi).toNat)
            case atStart => exact ⟨0, by omega, rfl, HR2.out, HS2.out, HB2.out, HG2.out⟩
            case round =>
              clear HB2 HR2 HS2 HG2
              obtain ⟨n, hn, rfl, hr, hs, hb, hg⟩ := hrel
              have HRR := Lib.hid hr
              have HGG := Lib.hid hg
              have hlen : (iterU (inF i t) l n).length = 176 := (iterU_len (inF_len i t) n).trans hl
              have hcell := hs.cell 176 hlen
              have hfree := hs.free
              have HSS := Lib.hid hs
              have HBB := Lib.hid hb
              clear hr hg hs hlen hb
              by_cases hn4 : n < 4
              · have hct := HBB.out.cell 4 htl n hn4
                have hci := hcell ((i - 4) * 4 + n) (by omega)
                have hcj := hcell (i * 4 + n) (by omega)
                have hset := HSS.out.set (i * 4 + n) ((iterU (inF i t) l n).getD ((i - 4) * 4 + n) 0 ^^^ t.getD n 0)
                have he : iterU (inF i t) l (n + 1) = (iterU (inF i t) l n).set (i * 4 + n) ((iterU (inF i t) l n).getD ((i - 4) * 4 + n) 0 ^^^ t.getD n 0) := rfl
                obtain ⟨x, hx⟩ : ∃ x, x = (iterU (inF i t) l n).getD ((i - 4) * 4 + n) 0 := ⟨_, rfl⟩
                obtain ⟨y, hy⟩ : ∃ y, y = t.getD n 0 := ⟨_, rfl⟩
                rw [← hx, ← hy] at hset he
                rw [← hx] at hci
                rw [← hy] at hct
                rw [← he] at hset
                obtain ⟨u0, hu0⟩ : ∃ u0, _ = some u0 := ⟨_, hcj⟩
                have hxy := xor_u8 x y
                have HSET := Lib.hid hset
                clear hset HSS hcell hx he hy
                go_wp2_with fail
                go_region
                go_wp2
                go_roundw
                case rel => exact ⟨n + 1, by omega, by go_num, (HRR.out.other (by omega)).dr, HSET.out.dr, (HBB.out.other (by omega)).dr, grownBy_d1 (grownBy_old HGG.out (grownBy_setCell _ _ _ _) (by omega))⟩
                case measure => simp [intOf]; omega
              · obtain rfl : n = 4 := by omega
                clear hcell hfree
                go_wp2_with fail
                go_roundw
                case rel => exact ⟨i + 1, by omega, by omega, by go_num, by rw [HK2.out, if_pos h4], HRR.out, by rw [HK1.out]; exact HSS.out, HGG.out⟩
                case measure => simp [intOf]; omega
          · have e3 : (i : Int).tmod 4 ≠ 0 := by rw [Int.tmod_eq_emod_of_nonneg (by omega)]; omega
            have e3b : ((i : Int).tmod 4 == 0) = false := by simpa using e3
            have e44 : decide ((i : Int) < 44) = true := by simp; omega
            go_wp2_with (first | (refine wpList_load_mid rfl 91 _ rfl (w.heap.size + 1 + 1) ((i - 1) * 4) rfl (m1.map bval) _ HR4.out Try.underlying91 rfl (by rw [size_four', List.length_map, hm1l]) ?_) | (refine wpList_store_row rfl 91 _ _ rfl wr.heap.size (cellsB m1) rfl rfl 91 _ HN.out (by rw [size_four', cellsB_size, hm1l]) (by rw [cellsB_size, cellsB_size, hm1l]; rfl) (cellsB_one _) ?_))
            rw [← hW1]
            obtain rfl : t = m1 := by rw [HTE.out, HM1.out]; unfold ksT; rw [if_neg h4]
            have HB2 := HB1
            have HR2 := HR1
            have HS2 := HS1
            have HG2 := HG1
            clear HB1 HR1 HS1 HG1
            go_loopw [8] (fun vi wr2 => ∃ n : Nat, n ≤ 4 ∧ vi = .int .i64 n ∧ Blk wr2 (w.heap.size + 1) 79 z ∧ Blk wr2 (w.heap.size + 1 + 1) 92 (iterU (inF i t) l n) ∧ Blk wr2 wr.heap.size 91 t ∧ w.grownBy wr2 none) (fun vi _ => 4 - (intOf vi).toNat)
            case atStart => exact ⟨0, by omega, rfl, HR2.out, HS2.out, HB2.out, HG2.out⟩
            case round =>
              clear HB2 HR2 HS2 HG2
              obtain ⟨n, hn, rfl, hr, hs, hb, hg⟩ := hrel
              have HRR := Lib.hid hr
              have HGG := Lib.hid hg
              have hlen : (iterU (inF i t) l n).length = 176 := (iterU_len (inF_len i t) n).trans hl
              have hcell := hs.cell 176 hlen
              have hfree := hs.free
              have HSS := Lib.hid hs
              have HBB := Lib.hid hb
              clear hr hg hs hlen hb
              by_cases hn4 : n < 4
              · have hct := HBB.out.cell 4 htl n hn4
                have hci := hcell ((i - 4) * 4 + n) (by omega)
                have hcj := hcell (i * 4 + n) (by omega)
                have hset := HSS.out.set (i * 4 + n) ((iterU (inF i t) l n).getD ((i - 4) * 4 + n) 0 ^^^ t.getD n 0)
                have he : iterU (inF i t) l (n + 1) = (iterU (inF i t) l n).set (i * 4 + n) ((iterU (inF i t) l n).getD ((i - 4) * 4 + n) 0 ^^^ t.getD n 0) := rfl
                obtain ⟨x, hx⟩ : ∃ x, x = (iterU (inF i t) l n).getD ((i - 4) * 4 + n) 0 := ⟨_, rfl⟩
                obtain ⟨y, hy⟩ : ∃ y, y = t.getD n 0 := ⟨_, rfl⟩
                rw [← hx, ← hy] at hset he
                rw [← hx] at hci
                rw [← hy] at hct
                rw [← he] at hset
                obtain ⟨u0, hu0⟩ : ∃ u0, _ = some u0 := ⟨_, hcj⟩
                have hxy := xor_u8 x y
                have HSET := Lib.hid hset
                clear hset HSS hcell hx he hy
                go_wp2_with fail
                go_region
                go_wp2
                go_roundw
                case rel => exact ⟨n + 1, by omega, by go_num, (HRR.out.other (by omega)).dr, HSET.out.dr, (HBB.out.other (by omega)).dr, grownBy_d1 (grownBy_old HGG.out (grownBy_setCell _ _ _ _) (by omega))⟩
                case measure => simp [intOf]; omega
              · obtain rfl : n = 4 := by omega
                clear hcell hfree
                go_wp2_with fail
                go_roundw
                case rel => exact ⟨i + 1, by omega, by omega, by go_num, by rw [HK2.out, if_neg h4], HRR.out, by rw [HK1.out]; exact HSS.out, HGG.out⟩
                case measure => simp [intOf]; omega
        · obtain rfl : i = 44 := by omega
          have e44 : ((44 : Nat) : Int) = 44 := rfl
          rw [e44]
          clear e44
          have hl : (ks k z 44).1.length = 176 := ks_len k z hzl 44
          have hke := HKE.out
          clear HKE
          have hs := HSS.out
          obtain ⟨l, hle⟩ : ∃ l, l = (ks k z 44).1 := ⟨_, rfl⟩
          obtain ⟨p, hpe⟩ : ∃ p, p = (ks k z 44).2 := ⟨_, rfl⟩
          rw [← hle] at hl hke hs
          rw [← hpe]
          clear hle hpe
          have HKE := Lib.hid hke
          have hn := Blk.new wr 79 z
          rw [← E28.out] at hn
          have gn := World.grownBy_alloc wr (.cells Try.zeroCells79 79) none
          have hlt2 := HRR.out.lt
          have hlt3 := hs.lt
          have HO := Lib.hid hn
          have HR1 := Lib.hid (HRR.out.grown gn (by simp))
          have HS1 := Lib.hid (hs.grown gn (by simp))
          have HG1 := Lib.hid (grownBy_trans HGG.out gn)
          clear hn gn hs hke HSS HRR HGG
          go_wp2_with fail
          obtain ⟨g0, hg0⟩ : ∃ q, q = wr.heap.size := ⟨_, rfl⟩
          rw [← hg0] at HO hlt2 hlt3 ⊢
          go_loopw [10] (fun vi wr2 => ∃ j : Nat, j ≤ 176 ∧ vi = .int .i64 j ∧ Blk wr2 (w.heap.size + 1) 79 z ∧ Blk wr2 (w.heap.size + 1 + 1) 92 l ∧ Blk wr2 g0 79 (iterU (rcF l) z j) ∧ w.grownBy wr2 none) (fun vi _ => 176 - (intOf vi).toNat)
          case atStart => exact ⟨0, by omega, rfl, HR1.out, HS1.out, HO.out, HG1.out⟩
          case round =>
            clear HR1 HO HG1 HS1 hg0
            obtain ⟨j, hj, rfl, hr, hw, hs, hg⟩ := hrel
            by_cases hlt4 : j < 176
            · have hlen : (iterU (rcF l) z j).length = 176 := (iterU_len (rcF_len l) j).trans hzl
              have hcell := hs.cell 176 hlen
              have hfree := hs.free
              have hci := hw.cell 176 hl (j / 4 * 4 + j % 4) (by omega)
              have hcj := hcell (j / 16 * 16 + j % 16) (by omega)
              have hset := hs.set (j / 16 * 16 + j % 16) (l.getD (j / 4 * 4 + j % 4) 0)
              have he : iterU (rcF l) z (j + 1) = (iterU (rcF l) z j).set (j / 16 * 16 + j % 16) (l.getD (j / 4 * 4 + j % 4) 0) := rfl
              obtain ⟨u0, hu0⟩ : ∃ u0, _ = some u0 := ⟨_, hcj⟩
              obtain ⟨x, hx⟩ : ∃ x, x = l.getD (j / 4 * 4 + j % 4) 0 := ⟨_, rfl⟩
              rw [← hx] at hset hci he
              rw [← he] at hset
              have HSET := Lib.hid hset
              have HRR := Lib.hid hr
              have HWW := Lib.hid hw
              have HGG := Lib.hid hg
              clear hset hs hr hw hg hcell hcj hx he hlen
              go_wp2_with fail
              go_region
              go_wp2
              go_roundw
              case rel => exact ⟨j + 1, by omega, by go_num, (HRR.out.other (by omega)).dr, (HWW.out.other (by omega)).dr, HSET.out.dr, grownBy_d1 (grownBy_old HGG.out (grownBy_setCell _ _ _ _) (by omega))⟩
              case measure => simp [intOf]; omega
            · obtain rfl : j = 176 := by omega
              have e44 : ((176 : Nat) : Int) = 176 := rfl
              rw [e44]
              clear e44
              have hke := HKE.out
              rw [rc_end hl hzl, ← hke] at hs
              have HO5 := Lib.hid hs
              have HR5 := Lib.hid hr
              have HG5 := Lib.hid hg
              have hkl : kk.length = 176 := by rw [hke]; exact hl
              clear hs hr hg hw
              go_wp2_with (first | (refine wpList_load_row rfl 79 _ rfl g0 rfl 79 (cellsB kk) (0, 0) _ HO5.out Try.underlying79 rfl (by rw [size_keys, cellsB_size, hkl]) ?_) | (refine wpList_store_row rfl 79 _ _ rfl (w.heap.size + 1) (cellsB kk) rfl rfl 79 _ HR5.out (by rw [size_keys, cellsB_size, hkl]) (by rw [cellsB_size, cellsB_size, hkl, hzl]) (cellsB_one _) ?_))
              refine bodyPost_ret (v := .agg (cellsB kk)) (results_cell_row rfl _ _ (w.heap.size + 1) 79 (cellsB kk) (0, 0) _ rfl (setRow_heap _ _ _ _ _ _ HR5.out) Try.underlying79 rfl (by rw [size_keys, cellsB_size, hkl])) rfl ⟨rfl, ?_⟩
              exact grownBy_old HG5.out (grownBy_setRow _ _ _) (by omega)

end Go.Proofs.Ytblgdfamomlklaa
/- AesKeys: Schedule, and the walk of the law. -/
namespace Go.Proofs.Ytblgdfamomlklaa
open Go.RowKit

theorem size_key : (Try.prog.info? 27).map (·.size) = some 16 := by kernel_rfl
theorem twoC (w : World) (c1 c2 : List UInt8) (C1 C2 : Array Value) (t1 t2 : TypeId) (e1 : C1 = cellsB c1) (e2 : C2 = cellsB c2) :
    Blk ((w.alloc (.cells C1 t1)).alloc (.cells C2 t2)) w.heap.size t1 c1 ∧ Blk ((w.alloc (.cells C1 t1)).alloc (.cells C2 t2)) (w.heap.size + 1) t2 c2 ∧ w.grownBy ((w.alloc (.cells C1 t1)).alloc (.cells C2 t2)) none := by
  subst e1 e2
  exact two w c1 c2 t1 t2

theorem lits_keys (l : List UInt8) (hl : l.length = 176) : Try.prog.keyLits 3 79 (l.map bval) = some (l.map litB) :=
  lits_arr (n := 11) (k := 16) Try.underlying79 (by kernel_rfl) (by kernel_rfl) _ hl (fun m hm => lits_block m hm)
theorem formed_keys (l : List UInt8) (hl : l.length = 176) : (Value.agg (l.map bval).toArray).formed Try.prog 79 = true := by
  simp [Value.formed, Try.underlying79, hl]; kernel_rfl
theorem same_keys (l : List UInt8) (hl : l.length = 176) (w : World) : (binOp .eql 79 (.agg (cellsB l)) (.agg (cellsB l))).run Try.prog w = .ok (.bool true) w := by
  have := (eql_lits (P := Try.prog) (t := 79) (m := 5) (D := 3) (by decide) (by kernel_rfl) (formed_keys l hl) (formed_keys l hl) (lits_keys l hl) (lits_keys l hl) w).1
  simpa [cellsB] using this
theorem YS.rowB {ops : Array Oper} {S : World → Prop} {o : Oper} {a : Act} (hw : Region.wanted o (yielded ops a.tmps) = true) (ty : TypeId) (x : Operand) (ho : o.op = .load ty x)
    (b : Nat) (hx : a.eval x = .pointer (some ⟨b, 0, none⟩)) (l : List UInt8) (d : TypeDesc) (hS : ∀ w, S w → w.rangeAt b 0 (l.map bval))
    (hu : Try.prog.underlying ty = some d) (hd : d.isRow = true) (hi : (Try.prog.info? ty).map (·.size) = some l.length) : YS Try.prog ops S o (.agg (cellsB l)) a :=
  YS.row hw ty x ho b hx (l.map bval) d hS hu hd (by rw [hi, List.length_map])

end Go.Proofs.Ytblgdfamomlklaa
/- aes: the cells of a cipher. -/
namespace Go.Proofs.Ytblgdfamomlklaa
open Go.RowKit

/-- a cipher's cells: made, the keys, the table -/
def CipAt (w : World) (gc : Nat) (kk : List UInt8) : Prop := w.rangeAt gc 0 [.bool true] ∧ w.rangeAt gc 1 (kk.map bval) ∧ w.rangeAt gc 177 (tabS.map bval)
theorem CipAt.grown {w w' : World} {gc : Nat} {kk : List UInt8} (h : CipAt w gc kk) (hg : w.grownBy w' none) : CipAt w' gc kk := ⟨range_grown h.1 hg, range_grown h.2.1 hg, range_grown h.2.2 hg⟩
theorem CipAt.far {w w' : World} {gc g : Nat} {kk : List UInt8} (h : CipAt w gc kk) (hg : w.grownBy w' (some g)) (hne : gc ≠ g) : CipAt w' gc kk := ⟨range_other h.1 hg hne, range_other h.2.1 hg hne, range_other h.2.2 hg hne⟩
theorem CipAt.lt {w : World} {gc : Nat} {kk : List UInt8} (h : CipAt w gc kk) : gc < w.heap.size := World.block_lt_of_cell? w ⟨gc, 0 + 0, none⟩ (h.1 0 _ rfl)
theorem there_grown {w w' : World} {b o n : Nat} (h : w.there b o n) (hg : w.grownBy w' none) : w'.there b o n := fun j hj => by
  obtain ⟨h1, h2⟩ := h j hj
  obtain ⟨u, hu⟩ := Option.isSome_iff_exists.1 h1
  have hb := hg.block b (World.block_lt_of_cell? w ⟨b, o + j, none⟩ hu) (by simp)
  refine ⟨by rw [World.cell?_of_block hb]; exact h1, ?_⟩
  unfold World.frozen? at h2 ⊢
  rw [hb]
  exact h2

end Go.Proofs.Ytblgdfamomlklaa
/- aes: New. -/
namespace Go.Proofs.Ytblgdfamomlklaa
open Go.RowKit

def NewS (w0 : World) (g0 gc : Nat) (k : List UInt8) (w : World) : Prop := w0.grownBy w none ∧ w.rangeAt g0 0 (k.map bval) ∧ w.rangeAt gc 0 [.bool true] ∧ w.rangeAt gc 177 (tabS.map bval) ∧ w.there gc 1 176
theorem NewS.grown {w0 w w' : World} {g0 gc : Nat} {k : List UInt8} (h : NewS w0 g0 gc k w) (hg : w.grownBy w' none) : NewS w0 g0 gc k w' :=
  ⟨grownBy_trans h.1 hg, range_grown h.2.1 hg, range_grown h.2.2.1 hg, range_grown h.2.2.2.1 hg, there_grown h.2.2.2.2 hg⟩
def cz0 : Array Value := #[.bool true] ++ cellsB z176 ++ cellsB tabS
theorem built0 : Try.prog.built 81 [(0, .bool true), (2, .agg (cellsB tabS))] = some cz0 := by kernel_rfl
theorem wpList_built {P : Program} {ops : Array Oper} {rest : List Oper} {o : Oper} {a : Act} {w : World} {Q : Exit → Act → World → Prop} (hg : o.guard = none) (t : TypeId) (parts : Array (Nat × Operand)) (ho : o.op = .build t parts)
    (cs : Array Value) (hb : P.built t (parts.map fun (i, x) => (i, a.eval x)).toList = some cs) (h : wpList P ops Q rest (a.put o.dst (.agg cs)) w) : wpList P ops Q (o :: rest) a w :=
  wpList_build hg t parts ho (by rw [hb]; rfl) (by rw [hb]; exact h)
theorem cz_facts {W : World} {g : Nat} {T : TypeId} {cz : Array Value} (z tt : List UInt8) (hz : z.length = 176) (ht : tt.length = 256) (hc : cz = #[.bool true] ++ cellsB z ++ cellsB tt) (hh : W.heap[g]? = some (.cells cz T (0, 0))) :
    W.rangeAt g 0 [.bool true] ∧ W.rangeAt g 177 (tt.map bval) ∧ W.there g 1 176 := by
  have hs1 : (#[Value.bool true] ++ cellsB z).size = 177 := by rw [Array.size_append, cellsB_size, hz]; rfl
  have hs : cz.size = 433 := by rw [hc, Array.size_append, hs1, cellsB_size, ht]
  refine ⟨?_, ?_, ?_⟩
  · intro j v hj
    match j, hj with
    | 0, hj =>
      simp only [List.getElem?_cons_zero, Option.some.injEq] at hj
      subst hj
      simp only [World.cell?, hh]
      rw [hc, Array.getElem?_append_left (by rw [hs1]; decide), Array.getElem?_append_left (by decide)]
      rfl
    | j + 1, hj => simp at hj
  · intro j v hj
    have hjl : j < 256 := by have := (List.getElem?_eq_some_iff.1 hj).1; rw [List.length_map, ht] at this; exact this
    simp only [World.cell?, hh]
    rw [hc, Array.getElem?_append_right (by rw [hs1]; omega), hs1, show 177 + j - 177 = j by omega]
    simpa [cellsB] using hj
  · intro j hj
    constructor
    · simp only [World.cell?, hh]
      rw [Array.getElem?_eq_getElem (by rw [hs]; omega)]
      rfl
    · simp [World.frozen?, hh]
theorem cz0_eq : cz0 = #[.bool true] ++ cellsB z176 ++ cellsB tabS := rfl

set_option maxRecDepth 100000 in
set_option maxHeartbeats 4000000 in
theorem new_n (k : List UInt8) (hk : k.length = 16) (w : World) : Calls Try.prog 37 #[aggB k] w fun e w' => ∃ gc, e = .returned (.pointer (some ⟨gc, 0, none⟩)) ∧ w.heap.size ≤ gc ∧ CipAt w' gc (keysL k) ∧ w.grownBy w' none := by
  have hcs := fun (w1 : World) (g o : Nat) (h : w1.rangeAt g o (tabS.map bval)) (hl : g < w1.heap.size) => schedule_n k hk g o w1 h hl
  obtain ⟨kk, hkk⟩ : ∃ kk, kk = keysL k := ⟨_, rfl⟩
  have hkl : kk.length = 176 := by rw [hkk]; exact keysL_len k
  rw [← hkk] at hcs ⊢
  have HCS := Lib.hid hcs
  clear hkk hcs
  have hi1 : (Try.prog.info? 27).map (·.size) = some k.length := by rw [size_key, hk]
  have hbuilt := built0
  have hce := cz0_eq
  have htl := tabS_len
  have hsubs := fun w1 : World => subs_n w1
  have hzl := z176_len
  obtain ⟨cz, hcz⟩ : ∃ cz, cz = cz0 := ⟨_, rfl⟩
  obtain ⟨tt, htt⟩ : ∃ tt, tt = tabS := ⟨_, rfl⟩
  obtain ⟨z, hz⟩ : ∃ z, z = z176 := ⟨_, rfl⟩
  rw [← hcz, ← htt] at hbuilt
  rw [← hcz, ← htt, ← hz] at hce
  rw [← htt] at htl hsubs
  rw [← hz] at hzl
  have HF0 := Lib.hid (fun (W : World) (g : Nat) (hh : W.heap[g]? = some (.cells cz 81 (0, 0))) => cz_facts z tt hzl htl hce hh)
  have HB0 := Lib.hid hbuilt
  have HSB := Lib.hid hsubs
  have HTT := Lib.hid htt
  clear hcz hbuilt hce htl hsubs hzl htt hz
  have HB := Lib.hid (Blk.new w 27 k)
  have HG := Lib.hid (World.grownBy_alloc w (.cells (cellsB k) 27) none)
  unfold aggB
  go_enter Try.func37, Try.ntmps37
  go_wp2_with fail
  refine (HSB.out _).mono ?_
  rintro e w1 ⟨rfl, hg⟩
  have hlt1 := (HB.out.grown hg (by simp)).lt
  have HS0 := Lib.hid (show NewS w w.heap.size w1.heap.size k (w1.alloc (.cells cz 81)) from ⟨grownBy_trans (grownBy_trans HG.out hg) (World.grownBy_alloc _ _ _), range_grown (range_grown HB.out.range hg) (World.grownBy_alloc _ _ _), (HF0.out _ _ (heap_alloc_new w1 _)).1, HTT.out ▸ (HF0.out _ _ (heap_alloc_new w1 _)).2.1, (HF0.out _ _ (heap_alloc_new w1 _)).2.2⟩)
  clear hg
  unfold aggB
  go_wp2_with (refine wpList_built rfl 81 #[(0, .const (.bool true)), (2, .tmp 4)] rfl cz (by first | exact HB0.out | (simp only [List.map_toArray, List.map_cons, List.map_nil, Act.eval]; exact HB0.out)) ?_)
  refine wp_regionT (NewS w w.heap.size w1.heap.size k) 8 (by kernel_rfl) (HS0.out.grown (grownBy_d1 (World.grownBy.refl _ _))) ?_
  refine wpT_take 0 (oi := { dst := some 7, op := Op.move (Operand.tmp 3), type := 70, pos := "aes.go:182", after := #[], guard := none }) (oL := { dst := none, op := Op.store 79 (Operand.tmp 14) (Operand.tmp 12), type := 0, pos := "aes.go:182", after := #[{ on := 7, ground := Ground.data }, { on := 5, ground := Ground.data }, { on := 5, ground := Ground.chain }, { on := 0, ground := Ground.phase }, { on := 1, ground := Ground.phase }, { on := 2, ground := Ground.phase }, { on := 3, ground := Ground.phase }, { on := 4, ground := Ground.phase }, { on := 5, ground := Ground.phase }], guard := none }) rfl rfl rfl (by kernel_rfl) (by kernel_rfl) (by kernel_rfl) (by kernel_rfl) (by kernel_rfl) (fun _ _ _ h => h) (YS.val (by rfl) (fun _ _ => rfl)) ?_
  simp only [Act.put, List.setIfInBounds_toArray, List.set_cons_zero, List.set_cons_succ]
  refine wpT_take 1 (oi := { dst := some 8, op := Op.load 27 (Operand.tmp 1), type := 27, pos := "aes.go:182", after := #[], guard := none }) (oL := { dst := none, op := Op.store 79 (Operand.tmp 14) (Operand.tmp 12), type := 0, pos := "aes.go:182", after := #[{ on := 7, ground := Ground.data }, { on := 5, ground := Ground.data }, { on := 5, ground := Ground.chain }, { on := 0, ground := Ground.phase }, { on := 1, ground := Ground.phase }, { on := 2, ground := Ground.phase }, { on := 3, ground := Ground.phase }, { on := 4, ground := Ground.phase }, { on := 5, ground := Ground.phase }], guard := none }) rfl rfl rfl (by kernel_rfl) (by kernel_rfl) (by kernel_rfl) (by kernel_rfl) (by kernel_rfl) (fun _ _ _ h => h) (YS.rowB (by rfl) _ _ rfl _ rfl k _ (fun _ h => h.2.1) Try.underlying27 rfl hi1) ?_
  simp only [Act.put, List.setIfInBounds_toArray, List.set_cons_zero, List.set_cons_succ]
  refine wpT_take 2 (oi := { dst := some 9, op := Op.move (Operand.tmp 3), type := 70, pos := "aes.go:182", after := #[], guard := none }) (oL := { dst := none, op := Op.store 79 (Operand.tmp 14) (Operand.tmp 12), type := 0, pos := "aes.go:182", after := #[{ on := 7, ground := Ground.data }, { on := 5, ground := Ground.data }, { on := 5, ground := Ground.chain }, { on := 0, ground := Ground.phase }, { on := 1, ground := Ground.phase }, { on := 2, ground := Ground.phase }, { on := 3, ground := Ground.phase }, { on := 4, ground := Ground.phase }, { on := 5, ground := Ground.phase }], guard := none }) rfl rfl rfl (by kernel_rfl) (by kernel_rfl) (by kernel_rfl) (by kernel_rfl) (by kernel_rfl) (fun _ _ _ h => h) (YS.val (by rfl) (fun _ _ => rfl)) ?_
  simp only [Act.put, List.setIfInBounds_toArray, List.set_cons_zero, List.set_cons_succ]
  refine wpT_take 3 (v := .pointer (some ⟨w1.heap.size, 0, none⟩)) (oi := { dst := some 10, op := Op.nilCheck (Operand.tmp 9), type := 0, pos := "aes.go:182", after := #[{ on := 2, ground := Ground.data }], guard := none }) (oL := { dst := none, op := Op.store 79 (Operand.tmp 14) (Operand.tmp 12), type := 0, pos := "aes.go:182", after := #[{ on := 7, ground := Ground.data }, { on := 5, ground := Ground.data }, { on := 5, ground := Ground.chain }, { on := 0, ground := Ground.phase }, { on := 1, ground := Ground.phase }, { on := 2, ground := Ground.phase }, { on := 3, ground := Ground.phase }, { on := 4, ground := Ground.phase }, { on := 5, ground := Ground.phase }], guard := none }) rfl rfl rfl (by kernel_rfl) (by kernel_rfl) (by kernel_rfl) (by kernel_rfl) (by kernel_rfl) (fun _ _ _ h => h) (YS.val (by rfl) (fun w _ => by go_simp)) ?_
  simp only [Act.put, List.setIfInBounds_toArray, List.set_cons_zero, List.set_cons_succ]
  refine wpT_take 4 (v := .pointer (some ⟨w1.heap.size, 177, none⟩)) (oi := { dst := some 11, op := Op.fieldAddr 81 (Operand.tmp 10) 2, type := 0, pos := "aes.go:182", after := #[{ on := 3, ground := Ground.data }], guard := none }) (oL := { dst := none, op := Op.store 79 (Operand.tmp 14) (Operand.tmp 12), type := 0, pos := "aes.go:182", after := #[{ on := 7, ground := Ground.data }, { on := 5, ground := Ground.data }, { on := 5, ground := Ground.chain }, { on := 0, ground := Ground.phase }, { on := 1, ground := Ground.phase }, { on := 2, ground := Ground.phase }, { on := 3, ground := Ground.phase }, { on := 4, ground := Ground.phase }, { on := 5, ground := Ground.phase }], guard := none }) rfl rfl rfl (by kernel_rfl) (by kernel_rfl) (by kernel_rfl) (by kernel_rfl) (by kernel_rfl) (fun _ _ _ h => h) (YS.val (by rfl) (fun w _ => by go_simp)) ?_
  simp only [Act.put, List.setIfInBounds_toArray, List.set_cons_zero, List.set_cons_succ]
  refine wpT_take 5 (v := .agg (cellsB kk)) (oi := { dst := some 12, op := Op.call { callee := Callee.value (Operand.func 46), args := #[Operand.tmp 8, Operand.tmp 11], argTypes := #[27, 83] }, type := 79, pos := "aes.go:182", after := #[{ on := 1, ground := Ground.data }, { on := 4, ground := Ground.data }], guard := none }) (oL := { dst := none, op := Op.store 79 (Operand.tmp 14) (Operand.tmp 12), type := 0, pos := "aes.go:182", after := #[{ on := 7, ground := Ground.data }, { on := 5, ground := Ground.data }, { on := 5, ground := Ground.chain }, { on := 0, ground := Ground.phase }, { on := 1, ground := Ground.phase }, { on := 2, ground := Ground.phase }, { on := 3, ground := Ground.phase }, { on := 4, ground := Ground.phase }, { on := 5, ground := Ground.phase }], guard := none }) rfl rfl rfl (by kernel_rfl) (by kernel_rfl) (by kernel_rfl) (by kernel_rfl) (by kernel_rfl) (fun _ _ _ h => h) (YS.call (f := 46) (args := #[.agg (cellsB k), .pointer (some ⟨w1.heap.size, 177, none⟩)]) (by rfl) (fun w => by go_simp) (fun w2 hS => (HCS.out w2 w1.heap.size 177 hS.2.2.2.1 (World.block_lt_of_cell? w2 ⟨w1.heap.size, 0 + 0, none⟩ (hS.2.2.1 0 _ rfl))).mono fun _ _ h => ⟨h.1, hS.grown h.2⟩)) ?_
  simp only [Act.put, List.setIfInBounds_toArray, List.set_cons_zero, List.set_cons_succ]
  refine wpT_take 6 (v := .pointer (some ⟨w1.heap.size, 0, none⟩)) (oi := { dst := some 13, op := Op.nilCheck (Operand.tmp 7), type := 0, pos := "aes.go:182", after := #[{ on := 0, ground := Ground.data }, { on := 0, ground := Ground.phase }, { on := 1, ground := Ground.phase }, { on := 2, ground := Ground.phase }, { on := 3, ground := Ground.phase }, { on := 4, ground := Ground.phase }, { on := 5, ground := Ground.phase }], guard := none }) (oL := { dst := none, op := Op.store 79 (Operand.tmp 14) (Operand.tmp 12), type := 0, pos := "aes.go:182", after := #[{ on := 7, ground := Ground.data }, { on := 5, ground := Ground.data }, { on := 5, ground := Ground.chain }, { on := 0, ground := Ground.phase }, { on := 1, ground := Ground.phase }, { on := 2, ground := Ground.phase }, { on := 3, ground := Ground.phase }, { on := 4, ground := Ground.phase }, { on := 5, ground := Ground.phase }], guard := none }) rfl rfl rfl (by kernel_rfl) (by kernel_rfl) (by kernel_rfl) (by kernel_rfl) (by kernel_rfl) (fun _ _ _ h => h) (YS.val (by rfl) (fun w _ => by go_simp)) ?_
  simp only [Act.put, List.setIfInBounds_toArray, List.set_cons_zero, List.set_cons_succ]
  refine wpT_take 7 (v := .pointer (some ⟨w1.heap.size, 1, none⟩)) (oi := { dst := some 14, op := Op.fieldAddr 81 (Operand.tmp 13) 1, type := 0, pos := "aes.go:182", after := #[{ on := 6, ground := Ground.data }, { on := 0, ground := Ground.phase }, { on := 1, ground := Ground.phase }, { on := 2, ground := Ground.phase }, { on := 3, ground := Ground.phase }, { on := 4, ground := Ground.phase }, { on := 5, ground := Ground.phase }], guard := none }) (oL := { dst := none, op := Op.store 79 (Operand.tmp 14) (Operand.tmp 12), type := 0, pos := "aes.go:182", after := #[{ on := 7, ground := Ground.data }, { on := 5, ground := Ground.data }, { on := 5, ground := Ground.chain }, { on := 0, ground := Ground.phase }, { on := 1, ground := Ground.phase }, { on := 2, ground := Ground.phase }, { on := 3, ground := Ground.phase }, { on := 4, ground := Ground.phase }, { on := 5, ground := Ground.phase }], guard := none }) rfl rfl rfl (by kernel_rfl) (by kernel_rfl) (by kernel_rfl) (by kernel_rfl) (by kernel_rfl) (fun _ _ _ h => h) (YS.val (by rfl) (fun w _ => by go_simp)) ?_
  simp only [Act.put, List.setIfInBounds_toArray, List.set_cons_zero, List.set_cons_succ]
  refine wpT_last rfl (by kernel_rfl) (by kernel_rfl) (by rfl) (fun w2 hS K hK => ?_)
  refine wp_store_mid 79 _ _ rfl w1.heap.size 1 (cellsB kk) rfl rfl (by rw [cellsB_size, hkl]; exact hS.2.2.2.2) (by rw [size_keys, cellsB_size, hkl]) (cellsB_one _) (hK _ _ ?_)
  have hfin : CipAt (w2.setCells w1.heap.size 1 (kk.map bval)) w1.heap.size kk := by
    refine ⟨World.rangeAt_setCells_apart hS.2.2.1 _ _ _ (.inr (.inl (by simp))), World.rangeAt_setCells_same _ _ _ _ (by rw [List.length_map, hkl]; exact hS.2.2.2.2), World.rangeAt_setCells_apart hS.2.2.2.1 _ _ _ (.inr (.inr (by rw [List.length_map, hkl]; decide)))⟩
  have hgf : w.grownBy (w2.setCells w1.heap.size 1 (kk.map bval)) none := grownBy_old hS.1 (grownBy_spl _ _ _ _) (by omega)
  have e1 : (cellsB kk).toList = kk.map bval := rfl
  rw [e1]
  obtain ⟨W, hW⟩ : ∃ W, W = w2.setCells w1.heap.size 1 (kk.map bval) := ⟨_, rfl⟩
  rw [← hW] at hfin hgf ⊢
  have HF := Lib.hid hfin
  have HGF := Lib.hid hgf
  clear hfin hgf hW e1 hS
  go_wp2_with fail
  go_ret
  exact ⟨_, rfl, by omega, HF.out, HGF.out⟩

end Go.Proofs.Ytblgdfamomlklaa
/- aes: mixed, Mix, Unmix; the document's. -/
namespace Go.Proofs.Ytblgdfamomlklaa
open Go.RowKit

theorem ex4 {l : List UInt8} (h : l.length = 4) : ∃ f0 f1 f2 f3, l = [f0, f1, f2, f3] := by
  match l, h with
  | [f0, f1, f2, f3], _ => exact ⟨f0, f1, f2, f3, rfl⟩
def mixL : List UInt8 → List UInt8 → List UInt8
  | [f0, f1, f2, f3], [x0, x1, x2, x3, x4, x5, x6, x7, x8, x9, x10, x11, x12, x13, x14, x15] => [am f0 x0 ^^^ am f1 x4 ^^^ am f2 x8 ^^^ am f3 x12, am f0 x1 ^^^ am f1 x5 ^^^ am f2 x9 ^^^ am f3 x13, am f0 x2 ^^^ am f1 x6 ^^^ am f2 x10 ^^^ am f3 x14, am f0 x3 ^^^ am f1 x7 ^^^ am f2 x11 ^^^ am f3 x15, am f3 x0 ^^^ am f0 x4 ^^^ am f1 x8 ^^^ am f2 x12, am f3 x1 ^^^ am f0 x5 ^^^ am f1 x9 ^^^ am f2 x13, am f3 x2 ^^^ am f0 x6 ^^^ am f1 x10 ^^^ am f2 x14, am f3 x3 ^^^ am f0 x7 ^^^ am f1 x11 ^^^ am f2 x15, am f2 x0 ^^^ am f3 x4 ^^^ am f0 x8 ^^^ am f1 x12, am f2 x1 ^^^ am f3 x5 ^^^ am f0 x9 ^^^ am f1 x13, am f2 x2 ^^^ am f3 x6 ^^^ am f0 x10 ^^^ am f1 x14, am f2 x3 ^^^ am f3 x7 ^^^ am f0 x11 ^^^ am f1 x15, am f1 x0 ^^^ am f2 x4 ^^^ am f3 x8 ^^^ am f0 x12, am f1 x1 ^^^ am f2 x5 ^^^ am f3 x9 ^^^ am f0 x13, am f1 x2 ^^^ am f2 x6 ^^^ am f3 x10 ^^^ am f0 x14, am f1 x3 ^^^ am f2 x7 ^^^ am f3 x11 ^^^ am f0 x15]
  | _, _ => []
theorem mixL_len {f l : List UInt8} (hf : f.length = 4) (h : l.length = 16) : (mixL f l).length = 16 := by
  obtain ⟨f0, f1, f2, f3, rfl⟩ := ex4 hf
  obtain ⟨x0, x1, x2, x3, x4, x5, x6, x7, x8, x9, x10, x11, x12, x13, x14, x15, rfl⟩ := ex16 h
  rfl
def mxF (f l : List UInt8) (c r k : Nat) (o : List UInt8) : List UInt8 := o.set (r * 4 + c) (o.getD (r * 4 + c) 0 ^^^ am (f.getD ((k + 4 - r) % 4) 0) (l.getD (k * 4 + c) 0))
theorem mxF_len (f l : List UInt8) : ∀ c r k o, (mxF f l c r k o).length = o.length := fun c r k o => by simp [mxF]
def mx2 (f l : List UInt8) (c : Nat) (o : List UInt8) (r : Nat) : List UInt8 := iterU (fun r o => iterU (mxF f l c r) o 4) o r
theorem mx2_len (f l : List UInt8) (c : Nat) (o : List UInt8) (r : Nat) : (mx2 f l c o r).length = o.length := iterU_len (fun r o => iterU_len (mxF_len f l c r) 4) r
def mx3 (f l : List UInt8) (c : Nat) : List UInt8 := iterU (fun c o => mx2 f l c o 4) z16 c
theorem mx3_len (f l : List UInt8) (c : Nat) : (mx3 f l c).length = 16 := iterU_len (fun c o => mx2_len f l c o 4) c
set_option maxHeartbeats 1000000 in
theorem mx_end {f l : List UInt8} (hf : f.length = 4) (h : l.length = 16) : mx3 f l 4 = mixL f l := by
  obtain ⟨f0, f1, f2, f3, rfl⟩ := ex4 hf
  obtain ⟨x0, x1, x2, x3, x4, x5, x6, x7, x8, x9, x10, x11, x12, x13, x14, x15, rfl⟩ := ex16 h
  simp [mx3, mx2, iterU, mxF, z16, mixL]

def xF (f l : List UInt8) (c r : Nat) : Nat → UInt8
  | 0 => 0
  | k + 1 => xF f l c r k ^^^ am (f.getD ((k + 4 - r) % 4) 0) (l.getD (k * 4 + c) 0)
def rmF (f l : List UInt8) (c r : Nat) (o : List UInt8) : List UInt8 := o.set (r * 4 + c) (xF f l c r 4)
theorem rmF_len (f l : List UInt8) : ∀ c r o, (rmF f l c r o).length = o.length := fun c r o => by simp [rmF]
set_option maxHeartbeats 1000000 in
theorem rm_end {f l : List UInt8} (hf : f.length = 4) (h : l.length = 16) : iter2 (rmF f l) z16 4 = mixL f l := by
  obtain ⟨f0, f1, f2, f3, rfl⟩ := ex4 hf
  obtain ⟨x0, x1, x2, x3, x4, x5, x6, x7, x8, x9, x10, x11, x12, x13, x14, x15, rfl⟩ := ex16 h
  simp [iter2, iterU, rmF, xF, z16, mixL]

theorem size_four : (Try.prog.info? 91).map (·.size) = some 4 := by kernel_rfl
/-- four blocks, made in a row -/
theorem four (w : World) (c1 c2 c3 c4 : List UInt8) (t1 t2 t3 t4 : TypeId) :
    Blk ((((w.alloc (.cells (cellsB c1) t1)).alloc (.cells (cellsB c2) t2)).alloc (.cells (cellsB c3) t3)).alloc (.cells (cellsB c4) t4)) w.heap.size t1 c1 ∧
    Blk ((((w.alloc (.cells (cellsB c1) t1)).alloc (.cells (cellsB c2) t2)).alloc (.cells (cellsB c3) t3)).alloc (.cells (cellsB c4) t4)) (w.heap.size + 1) t2 c2 ∧
    Blk ((((w.alloc (.cells (cellsB c1) t1)).alloc (.cells (cellsB c2) t2)).alloc (.cells (cellsB c3) t3)).alloc (.cells (cellsB c4) t4)) (w.heap.size + 1 + 1) t3 c3 ∧
    Blk ((((w.alloc (.cells (cellsB c1) t1)).alloc (.cells (cellsB c2) t2)).alloc (.cells (cellsB c3) t3)).alloc (.cells (cellsB c4) t4)) (w.heap.size + 1 + 1 + 1) t4 c4 ∧
    w.grownBy ((((w.alloc (.cells (cellsB c1) t1)).alloc (.cells (cellsB c2) t2)).alloc (.cells (cellsB c3) t3)).alloc (.cells (cellsB c4) t4)) none := by
  obtain ⟨h1, h2, h3, g3⟩ := three w c1 c2 c3 t1 t2 t3
  have h4 := Blk.new (((w.alloc (.cells (cellsB c1) t1)).alloc (.cells (cellsB c2) t2)).alloc (.cells (cellsB c3) t3)) t4 c4
  have g4 := World.grownBy_alloc (((w.alloc (.cells (cellsB c1) t1)).alloc (.cells (cellsB c2) t2)).alloc (.cells (cellsB c3) t3)) (.cells (cellsB c4) t4) none
  rw [World.size_alloc, World.size_alloc, World.size_alloc] at h4
  exact ⟨h1.grown g4 (by simp), h2.grown g4 (by simp), h3.grown g4 (by simp), h4, grownBy_trans g3 g4⟩

end Go.Proofs.Ytblgdfamomlklaa
/- aes: the laws of the field, out of bilinearity and a basis: in plain Lean. -/
namespace Go.Proofs.Ytblgdfamomlklaa

def Additive (f : UInt8 → UInt8) : Prop := ∀ x y, f (x ^^^ y) = f x ^^^ f y
theorem Additive.zero {f : UInt8 → UInt8} (h : Additive f) : f 0 = 0 := by
  have := h 0 0
  simpa using this
def part (a : UInt8) (k : Nat) : UInt8 := if a.toNat.testBit k then UInt8.ofNat (2 ^ k) else 0
theorem parts (a : UInt8) : a = part a 0 ^^^ part a 1 ^^^ part a 2 ^^^ part a 3 ^^^ part a 4 ^^^ part a 5 ^^^ part a 6 ^^^ part a 7 := by
  have h : ((List.range 256).all fun n => (UInt8.ofNat n == part (UInt8.ofNat n) 0 ^^^ part (UInt8.ofNat n) 1 ^^^ part (UInt8.ofNat n) 2 ^^^ part (UInt8.ofNat n) 3 ^^^ part (UInt8.ofNat n) 4 ^^^ part (UInt8.ofNat n) 5 ^^^ part (UInt8.ofNat n) 6 ^^^ part (UInt8.ofNat n) 7)) = true := by decide +kernel
  simpa using all256 (p := fun a => (a == part a 0 ^^^ part a 1 ^^^ part a 2 ^^^ part a 3 ^^^ part a 4 ^^^ part a 5 ^^^ part a 6 ^^^ part a 7)) h a
/-- two additive functions that agree on a basis agree -/
theorem Additive.ext {f g : UInt8 → UInt8} (hf : Additive f) (hg : Additive g) (h : ∀ k, k < 8 → f (UInt8.ofNat (2 ^ k)) = g (UInt8.ofNat (2 ^ k))) (a : UInt8) : f a = g a := by
  have hp : ∀ k, k < 8 → f (part a k) = g (part a k) := by
    intro k hk
    unfold part
    split
    · exact h k hk
    · rw [hf.zero, hg.zero]
  rw [parts a]
  simp only [hf _ _, hg _ _]
  rw [hp 0 (by omega), hp 1 (by omega), hp 2 (by omega), hp 3 (by omega), hp 4 (by omega), hp 5 (by omega), hp 6 (by omega), hp 7 (by omega)]

/-- times the generator, of a byte -/
def ax8 (a : UInt8) : UInt8 := UInt8.ofNat (ax a.toNat)
theorem ax8_toNat (a : UInt8) : (ax8 a).toNat = ax a.toNat := by
  unfold ax8
  rw [UInt8.toNat_ofNat', Nat.mod_eq_of_lt (ax_lt a.toNat_lt)]
theorem xor_lc (a b c : Nat) : a ^^^ (b ^^^ c) = b ^^^ (a ^^^ c) := by rw [← Nat.xor_assoc, Nat.xor_comm a b, Nat.xor_assoc]
theorem ax_xor (a b : Nat) (ha : a < 256) (hb : b < 256) : ax (a ^^^ b) = ax a ^^^ ax b := by
  have e : ∀ a < 256, ax a = (a <<< 1) ^^^ (if a < 128 then 0 else 283) := by decide +kernel
  have hl : a ^^^ b < 256 := Nat.xor_lt_two_pow (n := 8) ha hb
  have t : ∀ c < 256, (c < 128) = (c.testBit 7 = false) := by
    intro c hc
    have : ∀ c < 256, (decide (c < 128)) = !(c.testBit 7) := by decide +kernel
    have h2 := this c hc
    clear this
    apply propext
    cases h : c.testBit 7 <;> rw [h] at h2 <;> simp at h2 ⊢ <;> omega
  rw [e _ hl, e a ha, e b hb, Nat.shiftLeft_xor_distrib]
  simp only [t _ hl, t a ha, t b hb, Nat.testBit_xor]
  cases a.testBit 7 <;> cases b.testBit 7 <;> simp [Nat.xor_assoc, Nat.xor_comm 283]

theorem amL_acc : ∀ (n p a b : Nat), amL n p a b = p ^^^ amL n 0 a b := by
  intro n
  induction n with
  | zero => intro p a b; simp [amL]
  | succ n ih =>
    intro p a b
    simp only [amL]
    rw [ih (if b % 2 = 1 then p ^^^ a else p), ih (if b % 2 = 1 then 0 ^^^ a else 0)]
    split <;> simp [Nat.xor_assoc]
theorem amL_left : ∀ (n a a' b : Nat), a < 256 → a' < 256 → amL n 0 (a ^^^ a') b = amL n 0 a b ^^^ amL n 0 a' b := by
  intro n
  induction n with
  | zero => intro a a' b _ _; simp [amL]
  | succ n ih =>
    intro a a' b ha ha'
    simp only [amL]
    rw [amL_acc, amL_acc n (if b % 2 = 1 then 0 ^^^ a else 0), amL_acc n (if b % 2 = 1 then 0 ^^^ a' else 0), ax_xor a a' ha ha', ih _ _ _ (ax_lt ha) (ax_lt ha')]
    split
    · simp only [Nat.zero_xor]
      rw [Nat.xor_assoc, Nat.xor_assoc, xor_lc a' _ _]
    · simp
theorem amL_right : ∀ (n a b b' : Nat), amL n 0 a (b ^^^ b') = amL n 0 a b ^^^ amL n 0 a b' := by
  intro n
  induction n with
  | zero => intro a b b'; simp [amL]
  | succ n ih =>
    intro a b b'
    simp only [amL]
    rw [amL_acc, amL_acc n (if b % 2 = 1 then 0 ^^^ a else 0), amL_acc n (if b' % 2 = 1 then 0 ^^^ a else 0), Nat.xor_div_two, ih]
    have hx : ((b ^^^ b') % 2 = 1) = ¬ ((b % 2 = 1) ↔ (b' % 2 = 1)) := propext Nat.xor_mod_two_eq_one
    by_cases h1 : b % 2 = 1 <;> by_cases h2 : b' % 2 = 1
    · rw [if_neg (by rw [hx]; simp [h1, h2]), if_pos h1, if_pos h2]
      simp only [Nat.zero_xor]
      rw [Nat.xor_assoc, xor_lc (amL n 0 (ax a) (b / 2)), ← Nat.xor_assoc a a, Nat.xor_self, Nat.zero_xor]
    · rw [if_pos (by rw [hx]; simp [h1, h2]), if_pos h1, if_neg h2]
      simp [Nat.xor_assoc]
    · rw [if_pos (by rw [hx]; simp [h1, h2]), if_neg h1, if_pos h2]
      simp only [Nat.zero_xor]
      rw [xor_lc]
    · rw [if_neg (by rw [hx]; simp [h1, h2]), if_neg h1, if_neg h2]
      simp

theorem am_left (c : UInt8) : Additive (fun a => am a c) := by
  intro x y
  apply UInt8.toNat_inj.1
  rw [UInt8.toNat_xor, am_toNat, am_toNat, am_toNat, UInt8.toNat_xor]
  exact amL_left 8 _ _ _ x.toNat_lt y.toNat_lt
theorem am_right (a : UInt8) : Additive (fun c => am a c) := by
  intro x y
  apply UInt8.toNat_inj.1
  rw [UInt8.toNat_xor, am_toNat, am_toNat, am_toNat, UInt8.toNat_xor]
  exact amL_right 8 _ _ _
theorem am_add_left (a b c : UInt8) : am (a ^^^ b) c = am a c ^^^ am b c := am_left c a b
theorem am_add_right (a b c : UInt8) : am a (b ^^^ c) = am a b ^^^ am a c := am_right a b c

theorem comm_basis : ((List.range 8).all fun i => (List.range 8).all fun j => am (UInt8.ofNat (2 ^ i)) (UInt8.ofNat (2 ^ j)) == am (UInt8.ofNat (2 ^ j)) (UInt8.ofNat (2 ^ i))) = true := by decide +kernel
theorem am_comm (a b : UInt8) : am a b = am b a := by
  refine Additive.ext (f := fun b => am a b) (g := fun b => am b a) (am_right a) (am_left a) (fun j hj => ?_) b
  refine Additive.ext (f := fun a => am a _) (g := fun a => am _ a) (am_left _) (am_right _) (fun i hi => ?_) a
  have h1 := List.all_eq_true.1 comm_basis i (List.mem_range.2 hi)
  have h2 := List.all_eq_true.1 h1 j (List.mem_range.2 hj)
  exact beq_iff_eq.1 h2

theorem assoc_basis : ((List.range 8).all fun i => (List.range 8).all fun j => (List.range 8).all fun k => am (UInt8.ofNat (2 ^ i)) (am (UInt8.ofNat (2 ^ j)) (UInt8.ofNat (2 ^ k))) == am (am (UInt8.ofNat (2 ^ i)) (UInt8.ofNat (2 ^ j))) (UInt8.ofNat (2 ^ k))) = true := by decide +kernel
theorem Additive.comp {f g : UInt8 → UInt8} (hf : Additive f) (hg : Additive g) : Additive (fun x => f (g x)) := by
  intro x y
  show f (g (x ^^^ y)) = f (g x) ^^^ f (g y)
  rw [hg, hf]
theorem am_assoc (a b c : UInt8) : am a (am b c) = am (am a b) c := by
  refine Additive.ext (f := fun c => am a (am b c)) (g := fun c => am (am a b) c) ((am_right a).comp (am_right b)) (am_right _) (fun k hk => ?_) c
  refine Additive.ext (f := fun b => am a (am b _)) (g := fun b => am (am a b) _) ((am_right a).comp (am_left _)) ((am_left _).comp (am_right a)) (fun j hj => ?_) b
  refine Additive.ext (f := fun a => am a (am _ _)) (g := fun a => am (am a _) _) (am_left _) ((am_left _).comp (am_left _)) (fun i hi => ?_) a
  have h1 := List.all_eq_true.1 assoc_basis i (List.mem_range.2 hi)
  have h2 := List.all_eq_true.1 h1 j (List.mem_range.2 hj)
  have h3 := List.all_eq_true.1 h2 k (List.mem_range.2 hk)
  exact beq_iff_eq.1 h3
theorem am_one (a : UInt8) : am a 1 = a := by
  have h : ((List.range 256).all fun n => am (UInt8.ofNat n) 1 == UInt8.ofNat n) = true := by decide +kernel
  simpa using all256 (p := fun a => am a 1 == a) h a
theorem am_one_left (a : UInt8) : am 1 a = a := by rw [am_comm, am_one]
theorem am_zero_left (a : UInt8) : am 0 a = 0 := by rw [am_comm, am_zero_right]
theorem am_inv_all : ((List.range 256).all fun n => n == 0 || am (UInt8.ofNat n) (ainv (UInt8.ofNat n)) == 1) = true := by decide +kernel
theorem am_inv {a : UInt8} (h : a ≠ 0) : am a (ainv a) = 1 := by
  have h1 := List.all_eq_true.1 am_inv_all a.toNat (List.mem_range.2 a.toNat_lt)
  simp only [UInt8.ofNat_toNat, Bool.or_eq_true, beq_iff_eq] at h1
  rcases h1 with h1 | h1
  · exact absurd (UInt8.toNat_inj.1 h1) h
  · exact h1
theorem am_eq_zero {a b : UInt8} : am a b = 0 ↔ a = 0 ∨ b = 0 := by
  constructor
  · intro h
    by_cases ha : a = 0
    · exact .inl ha
    · right
      have h1 : am (ainv a) (am a b) = 0 := by rw [h, am_zero_right]
      rw [am_assoc, am_comm (ainv a) a, am_inv ha, am_one_left] at h1
      exact h1
  · rintro (rfl | rfl)
    · exact am_zero_left b
    · exact am_zero_right a
theorem ainv_ne {a : UInt8} (h : a ≠ 0) : ainv a ≠ 0 := by
  intro e
  have := am_inv h
  rw [e, am_zero_right] at this
  exact absurd this (by decide)

end Go.Proofs.Ytblgdfamomlklaa
/- aes: with, quick. -/
namespace Go.Proofs.Ytblgdfamomlklaa
open Go.RowKit

def wiF (b : List UInt8) (i : Nat) (o : List UInt8) : List UInt8 := o.set i (o.getD i 0 ^^^ b.getD i 0)
theorem wiF_len (b : List UInt8) : ∀ i o, (wiF b i o).length = o.length := fun i o => by simp [wiF]
def xorL (a b : List UInt8) : List UInt8 := List.zipWith (· ^^^ ·) a b
theorem xorL_len {a b : List UInt8} (ha : a.length = 16) (hb : b.length = 16) : (xorL a b).length = 16 := by simp [xorL, ha, hb]
theorem wi_end {a b : List UInt8} (ha : a.length = 16) (hb : b.length = 16) : iterU (wiF b) a 16 = xorL a b := by
  obtain ⟨x0, x1, x2, x3, x4, x5, x6, x7, x8, x9, x10, x11, x12, x13, x14, x15, rfl⟩ := ex16 ha
  obtain ⟨y0, y1, y2, y3, y4, y5, y6, y7, y8, y9, y10, y11, y12, y13, y14, y15, rfl⟩ := ex16 hb
  simp [iterU, wiF, xorL]

set_option maxRecDepth 100000 in
set_option maxHeartbeats 1000000 in
theorem with_n (a b : List UInt8) (ha : a.length = 16) (hb : b.length = 16) (w : World) : Calls Try.prog 53 #[aggB a, aggB b] w fun e w' => e = .returned (aggB (xorL a b)) ∧ w.grownBy w' none := by
  unfold aggB
  obtain ⟨hs, hbb, hr, hg⟩ := three w a b z16 24 24 24
  have HR := Lib.hid hr
  have HS := Lib.hid hs
  have HG := Lib.hid hg
  have HB := Lib.hid hbb
  clear hr hg hs hbb
  go_enter Try.func53, Try.ntmps53
  go_wp2_with fail
  go_loopw [6] (fun vi wr => ∃ k : Nat, k ≤ 16 ∧ vi = .int .i64 k ∧ Blk wr w.heap.size 24 (iterU (wiF b) a k) ∧ Blk wr (w.heap.size + 1) 24 b ∧ Blk wr (w.heap.size + 1 + 1) 24 z16 ∧ w.grownBy wr none) (fun vi _ => 16 - (intOf vi).toNat)
  case atStart => exact ⟨0, by omega, rfl, HS.out, HB.out, HR.out, HG.out⟩
  case round =>
    obtain ⟨k, hk, rfl, hs, hbb, hr, hg⟩ := hrel
    have HBB := Lib.hid hbb
    have HRR := Lib.hid hr
    have HGG := Lib.hid hg
    have hlen : (iterU (wiF b) a k).length = 16 := (iterU_len (wiF_len b) k).trans ha
    have hcell := hs.cell 16 hlen
    have hfree := hs.free
    have HSS := Lib.hid hs
    clear hr hg hs hlen hbb
    by_cases hlt : k < 16
    · have hci := HBB.out.cell 16 hb k hlt
      have hcj := hcell k hlt
      have hset := HSS.out.set k ((iterU (wiF b) a k).getD k 0 ^^^ b.getD k 0)
      have he : iterU (wiF b) a (k + 1) = (iterU (wiF b) a k).set k ((iterU (wiF b) a k).getD k 0 ^^^ b.getD k 0) := rfl
      obtain ⟨x, hx⟩ : ∃ x, x = (iterU (wiF b) a k).getD k 0 := ⟨_, rfl⟩
      obtain ⟨y, hy⟩ : ∃ y, y = b.getD k 0 := ⟨_, rfl⟩
      rw [← hx, ← hy] at hset he
      rw [← hx] at hcj
      rw [← hy] at hci
      rw [← he] at hset
      have hxy := xor_u8 x y
      have HSET := Lib.hid hset
      clear hset HSS hcell hx hy he
      go_wp2_with fail
      go_region
      go_wp2
      go_roundw
      case rel => exact ⟨k + 1, by omega, by go_num, HSET.out.dr, (HBB.out.other (by omega)).dr, (HRR.out.other (by omega)).dr, grownBy_d1 (grownBy_old HGG.out (grownBy_setCell _ _ _ _) (by omega))⟩
      case measure => simp [intOf]; omega
    · obtain rfl : k = 16 := by omega
      clear hcell hfree
      have hs := HSS.out
      rw [wi_end ha hb] at hs
      have HS2 := Lib.hid hs
      clear hs HSS
      go_wp2_with (first | (refine wpList_load_row rfl 24 _ rfl w.heap.size rfl 24 (cellsB (xorL a b)) (0, 0) _ HS2.out Try.underlying24 rfl (by rw [size_block, cellsB_size, xorL_len ha hb]) ?_) | (refine wpList_store_row rfl 24 _ _ rfl (w.heap.size + 1 + 1) (cellsB (xorL a b)) rfl rfl 24 _ HRR.out (by rw [size_block, cellsB_size, xorL_len ha hb]) (by rw [cellsB_size, cellsB_size, xorL_len ha hb]; rfl) (cellsB_one _) ?_))
      refine bodyPost_ret (v := .agg (cellsB (xorL a b))) (results_cell_row rfl _ _ (w.heap.size + 1 + 1) 24 (cellsB (xorL a b)) (0, 0) _ rfl (setRow_heap _ _ _ _ _ _ HRR.out) Try.underlying24 rfl (by rw [size_block, cellsB_size, xorL_len ha hb])) rfl ⟨rfl, ?_⟩
      exact grownBy_old HGG.out (grownBy_setRow _ _ _) (by omega)

theorem ax8_eq (p : UInt8) : ax8' p = ax8 p := rfl
theorem ax8_add (a b : UInt8) : ax8' (a ^^^ b) = ax8' a ^^^ ax8' b := by
  apply UInt8.toNat_inj.1
  rw [UInt8.toNat_xor, ax8_nat, ax8_nat, ax8_nat, UInt8.toNat_xor]
  exact ax_xor _ _ a.toNat_lt b.toNat_lt
theorem two_am (p : UInt8) : am 2 p = ax8' p := by
  have := all256 (p := fun p => am 2 p == ax8' p) (by decide +kernel) p
  simpa using this
theorem three_am (p : UInt8) : am 3 p = ax8' p ^^^ p := by
  have := all256 (p := fun p => am 3 p == ax8' p ^^^ p) (by decide +kernel) p
  simpa using this
theorem xxl (x r : UInt8) : x ^^^ (x ^^^ r) = r := by rw [← UInt8.xor_assoc, UInt8.xor_self, UInt8.zero_xor]
theorem xlc (x y r : UInt8) : x ^^^ (y ^^^ r) = y ^^^ (x ^^^ r) := by rw [← UInt8.xor_assoc, UInt8.xor_comm x y, UInt8.xor_assoc]
def quF (s : List UInt8) (c r : Nat) (o : List UInt8) : List UInt8 := o.set (r * 4 + c) ((s.getD (r * 4 + c) 0 ^^^ (((s.getD c 0 ^^^ s.getD (4 + c) 0) ^^^ s.getD (8 + c) 0) ^^^ s.getD (12 + c) 0)) ^^^ ax8' (s.getD (r * 4 + c) 0 ^^^ s.getD ((r + 1) % 4 * 4 + c) 0))
theorem quF_len (s : List UInt8) : ∀ c r o, (quF s c r o).length = o.length := fun c r o => by simp [quF]
set_option maxHeartbeats 4000000 in
theorem qu_end {s : List UInt8} (h : s.length = 16) : iter2 (quF s) z16 4 = mixL [2, 3, 1, 1] s := by
  obtain ⟨x0, x1, x2, x3, x4, x5, x6, x7, x8, x9, x10, x11, x12, x13, x14, x15, rfl⟩ := ex16 h
  simp only [iter2, iterU, quF, z16, mixL]
  simp only [Nat.zero_mul, Nat.zero_add, Nat.add_zero, Nat.reduceMul, Nat.reduceAdd, Nat.reduceMod, List.getD_cons_zero, List.getD_cons_succ, List.set_cons_zero, List.set_cons_succ]
  simp only [two_am, three_am, am_one_left, ax8_add, UInt8.xor_assoc]
  refine congr (congrArg List.cons ?_) (congr (congrArg List.cons ?_) (congr (congrArg List.cons ?_) (congr (congrArg List.cons ?_) (congr (congrArg List.cons ?_) (congr (congrArg List.cons ?_) (congr (congrArg List.cons ?_) (congr (congrArg List.cons ?_) (congr (congrArg List.cons ?_) (congr (congrArg List.cons ?_) (congr (congrArg List.cons ?_) (congr (congrArg List.cons ?_) (congr (congrArg List.cons ?_) (congr (congrArg List.cons ?_) (congr (congrArg List.cons ?_) (congr (congrArg List.cons ?_) rfl)))))))))))))))
  all_goals simp only [UInt8.xor_assoc, UInt8.xor_comm, xlc, xxl]

set_option maxRecDepth 100000 in
set_option maxHeartbeats 4000000 in
theorem quick_n (s : List UInt8) (hl : s.length = 16) (w : World) : Calls Try.prog 58 #[aggB s] w fun e w' => e = .returned (aggB (mixL [2, 3, 1, 1] s)) ∧ w.grownBy w' none := by
  have hml := mixL_len (f := [2, 3, 1, 1]) rfl hl
  have hend := qu_end hl
  obtain ⟨m, hm⟩ : ∃ m, m = mixL [2, 3, 1, 1] s := ⟨_, rfl⟩
  rw [← hm] at hml hend ⊢
  have HEND := Lib.hid hend
  clear hm hend
  unfold aggB
  obtain ⟨hb, hr, hs, hg⟩ := three w s z16 z16 95 95 95
  have HR := Lib.hid hr
  have HS := Lib.hid hs
  have HG := Lib.hid hg
  have HB := Lib.hid hb
  clear hr hg hs hb
  go_enter Try.func58, Try.ntmps58
  go_wp2_with fail
  go_loopw [7] (fun vi wr => ∃ k : Nat, k ≤ 4 ∧ vi = .int .i64 k ∧ Blk wr w.heap.size 95 s ∧ Blk wr (w.heap.size + 1) 95 z16 ∧ Blk wr (w.heap.size + 1 + 1) 95 (iter2 (quF s) z16 k) ∧ w.grownBy wr none) (fun vi _ => 4 - (intOf vi).toNat)
  case atStart => exact ⟨0, by omega, rfl, HB.out, HR.out, HS.out, HG.out⟩
  case round =>
    obtain ⟨c, hk, rfl, hb, hr, hs, hg⟩ := hrel
    have HBB := Lib.hid hb
    have HRR := Lib.hid hr
    have HGG := Lib.hid hg
    have HSS := Lib.hid hs
    clear hr hg hs hb
    by_cases hlt : c < 4
    · have hc4 : decide ((c : Int) < 4) = true := by simp; omega
      have hcc := HBB.out.cell 16 hl
      have c0 := hcc c (by omega)
      have c1 := hcc (4 + c) (by omega)
      have c2 := hcc (8 + c) (by omega)
      have c3 := hcc (12 + c) (by omega)
      obtain ⟨x0, y0⟩ : ∃ x, x = s.getD c 0 := ⟨_, rfl⟩
      obtain ⟨x1, y1⟩ : ∃ x, x = s.getD (4 + c) 0 := ⟨_, rfl⟩
      obtain ⟨x2, y2⟩ : ∃ x, x = s.getD (8 + c) 0 := ⟨_, rfl⟩
      obtain ⟨x3, y3⟩ : ∃ x, x = s.getD (12 + c) 0 := ⟨_, rfl⟩
      obtain ⟨al, hal⟩ : ∃ x, x = (((s.getD c 0 ^^^ s.getD (4 + c) 0) ^^^ s.getD (8 + c) 0) ^^^ s.getD (12 + c) 0) := ⟨_, rfl⟩
      rw [← y0] at c0
      rw [← y1] at c1
      rw [← y2] at c2
      rw [← y3] at c3
      have hal' := hal
      rw [← y0, ← y1, ← y2, ← y3] at hal'
      obtain ⟨p1, hp1⟩ : ∃ p, p = x0 ^^^ x1 := ⟨_, rfl⟩
      obtain ⟨p2, hp2⟩ : ∃ p, p = p1 ^^^ x2 := ⟨_, rfl⟩
      have e1 := xor_u8 x0 x1
      have e2 := xor_u8 p1 x2
      have e3 := xor_u8 p2 x3
      have e4 : p2 ^^^ x3 = al := by rw [hal', hp2, hp1]
      rw [← hp1] at e1
      rw [← hp2] at e2
      rw [e4] at e3
      clear e4 hp1 hp2
      have HAL := Lib.hid hal
      clear hcc y0 y1 y2 y3 hal hal'
      go_wp2_with fail
      go_region
      clear c0 c1 c2 c3 e1 e2 e3
      go_wp2_with fail
      go_loopw [29] (fun vi wr => ∃ k : Nat, k ≤ 4 ∧ vi = .int .i64 k ∧ Blk wr w.heap.size 95 s ∧ Blk wr (w.heap.size + 1) 95 z16 ∧ Blk wr (w.heap.size + 1 + 1) 95 (iterU (quF s c) (iter2 (quF s) z16 c) k) ∧ w.grownBy wr none) (fun vi _ => 4 - (intOf vi).toNat)
      case atStart => exact ⟨0, by omega, rfl, HBB.out.dr, HRR.out.dr, HSS.out.dr, grownBy_d1 HGG.out⟩
      case round =>
        clear HBB HRR HGG HSS
        obtain ⟨r, hk, rfl, hb, hr, hs, hg⟩ := hrel
        have HBB := Lib.hid hb
        have HRR := Lib.hid hr
        have HGG := Lib.hid hg
        have hlen : (iterU (quF s c) (iter2 (quF s) z16 c) r).length = 16 := (iterU_len (quF_len s c) r).trans (iter2_len (quF_len s) c)
        have hcell := hs.cell 16 hlen
        have hfree := hs.free
        have HSS := Lib.hid hs
        clear hr hg hs hlen hb
        by_cases hlr : r < 4
        · obtain ⟨q, hq⟩ : ∃ q, q = (r + 1) % 4 := ⟨_, rfl⟩
          have ci := HBB.out.cell 16 hl (r * 4 + c) (by omega)
          have cq := HBB.out.cell 16 hl (q * 4 + c) (by omega)
          have hcj := hcell (r * 4 + c) (by omega)
          have hset := HSS.out.set (r * 4 + c) ((s.getD (r * 4 + c) 0 ^^^ al) ^^^ ax8' (s.getD (r * 4 + c) 0 ^^^ s.getD (q * 4 + c) 0))
          have he : iterU (quF s c) (iter2 (quF s) z16 c) (r + 1) = (iterU (quF s c) (iter2 (quF s) z16 c) r).set (r * 4 + c) ((s.getD (r * 4 + c) 0 ^^^ al) ^^^ ax8' (s.getD (r * 4 + c) 0 ^^^ s.getD (q * 4 + c) 0)) := by rw [hq, HAL.out]; rfl
          obtain ⟨x, hx⟩ : ∃ x, x = s.getD (r * 4 + c) 0 := ⟨_, rfl⟩
          obtain ⟨y, hy⟩ : ∃ y, y = s.getD (q * 4 + c) 0 := ⟨_, rfl⟩
          obtain ⟨u0, hu0⟩ : ∃ u0, _ = some u0 := ⟨_, hcj⟩
          rw [← hx, ← hy] at hset he
          rw [← hx] at ci
          rw [← hy] at cq
          rw [← he] at hset
          obtain ⟨v1, hv1⟩ : ∃ p, p = x ^^^ al := ⟨_, rfl⟩
          obtain ⟨v2, hv2⟩ : ∃ p, p = x ^^^ y := ⟨_, rfl⟩
          have e1 := xor_u8 x al
          have e2 := xor_u8 x y
          rw [← hv1] at hset e1
          rw [← hv2] at hset e2
          obtain ⟨v3, hv3⟩ : ∃ p, p = v1 ^^^ ax8' v2 := ⟨_, rfl⟩
          have e3 := xor_u8 v1 (ax8' v2)
          rw [← hv3] at hset e3
          clear hv1 hv2 hv3
          have f1 : IntKind.i64.wrap ((r : Int) + 1) = (r : Int) + 1 := IntWalk.i64_in _ (by omega)
          have f3 : ((r : Int) + 1).tmod 4 = (q : Int) := by rw [Int.tmod_eq_emod_of_nonneg (by omega)]; omega
          have f4 : (q : Int) < 4 := by omega
          have r4 : (r : Int) < 4 := by omega
          have c4 : (c : Int) < 4 := by omega
          have HSET := Lib.hid hset
          have HQ := Lib.hid hq
          clear hset HSS hcell hcj hx hy he hq
          go_wp2_with fail
          go_region_law (first | (go_simp; go_at_call 52; refine (double_u v2 _).mono ?_; rintro e w' ⟨rfl, rfl⟩))
          all_goals trace "WAY"
          all_goals
            go_wp2
            go_roundw
            case rel => exact ⟨r + 1, by omega, by go_num, (HBB.out.other (by omega)).dr, (HRR.out.other (by omega)).dr, HSET.out.dr, grownBy_d1 (grownBy_old HGG.out (grownBy_setCell _ _ _ _) (by omega))⟩
            case measure => simp [intOf]; omega
        · obtain rfl : r = 4 := by omega
          clear hcell hfree
          go_wp2_with fail
          go_roundw
          case rel => exact ⟨c + 1, by omega, by go_num, HBB.out, HRR.out, HSS.out, HGG.out⟩
          case measure => simp [intOf]; omega
    · obtain rfl : c = 4 := by omega
      have hs := HSS.out
      rw [HEND.out] at hs
      have HS2 := Lib.hid hs
      clear hs HSS
      go_wp2_with (first | (refine wpList_load_row rfl 95 _ rfl (w.heap.size + 1 + 1) rfl 95 (cellsB m) (0, 0) _ HS2.out Try.underlying95 rfl (by rw [size_state, cellsB_size, hml]) ?_) | (refine wpList_store_row rfl 95 _ _ rfl (w.heap.size + 1) (cellsB m) rfl rfl 95 _ HRR.out (by rw [size_state, cellsB_size, hml]) (by rw [cellsB_size, cellsB_size, hml]; rfl) (cellsB_one _) ?_))
      refine bodyPost_ret (v := .agg (cellsB m)) (results_cell_row rfl _ _ (w.heap.size + 1) 95 (cellsB m) (0, 0) _ rfl (setRow_heap _ _ _ _ _ _ HRR.out) Try.underlying95 rfl (by rw [size_state, cellsB_size, hml])) rfl ⟨rfl, ?_⟩
      exact grownBy_old HGG.out (grownBy_setRow _ _ _) (by omega)

end Go.Proofs.Ytblgdfamomlklaa
