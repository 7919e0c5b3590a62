/- An array by value: its i-th element; and by address. -/
import Derived.Test.YtfikeilpgnahkaaOwn
namespace Go.Proofs.Ytfikeilpgnahkaa
open Go.RowKit

theorem run_index_arr {P : Program} {t e : TypeId} {n : Nat} {kk : IntKind} (h : P.underlying t = some (.array n e)) (he : P.underlying e = some (.int kk)) (hsz : (P.info? e).map (·.size) = some 1)
    (cs : Array Value) (k : IntKind) (i : Nat) (v : Value) (hi : i < n) (hv : cs[i]? = some v) (w : World) : (Instr.index t (.agg cs) (.int k (i : Int))).run P w = .ok v w := by
  cases hq : P.info? e with
  | none => simp [hq] at hsz
  | some x =>
    have hx : x.size = 1 := by simp [hq] at hsz; exact hsz
    have hni : ¬ n ≤ i := by omega
    simp [Instr.index, run_underlying h, asIntOf, sizeOf, typeInfo, hq, hx, part, isAgg, run_underlying he, hv, hni, Result.andThen]

end Go.Proofs.Ytfikeilpgnahkaa
