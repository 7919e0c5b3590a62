/- Helpers and contracts of the proofs over this seat: ResCell. Each states what a function of the program answers, or is plain Lean; its conditions stand in each statement. -/
import Derived.Test.YtblgdfamomlklaaPtAA
set_option linter.unusedVariables false
/- A result that lies in a cell. -/
namespace Go.Proofs.Ytblgdfamomlklaa
open Go.RowKit

theorem results_cell1 {fn : Func} {p : Tmp} (h : fn.results = #[.cell p 4]) (tmps : Array Value) (w : World) (g : Nat) (v : Value) (hp : tmps.getD p undef = .pointer (some ⟨g, 0, none⟩)) (hr : Row w g 4 #[v]) :
    (results fn tmps).run Try.prog w = .ok v w := by
  have hp' : tmps[p]?.getD undef = .pointer (some ⟨g, 0, none⟩) := by simpa using hp
  have hc := Row.cell hr 0
  simp at hc
  simp [results, h, hp', asAddr, loadVar, isAgg, run_underlying Try.underlying4, hc]
end Go.Proofs.Ytblgdfamomlklaa
