/- impl.GraphView: what a label may see of a graph. -/
import Derived.Test.YtogmbeifbjgphaaKB17
import Derived.Test.YtogmbeifbjgphaaKB2
namespace Go.Proofs.Ytogmbeifbjgphaa.R
open Go.RowKit Go.Proofs.YtogmbeifbjgphaaV.PrintWords Go.Proofs.YtogmbeifbjgphaaV.PrintLast Go.Proofs.YtogmbeifbjgphaaV.PrintMore Go.Proofs.Ytogmbeifbjgphaa.M
set_option linter.unusedVariables false
set_option linter.unusedSimpArgs false
attribute [local go_sem high] eqN eqE
theorem takeE_snoc {l : List Eg} {j : Nat} (h : j < l.length) : l.take (j + 1) = l.take j ++ [eat l j] := by
  rw [List.take_add_one, List.getElem?_eq_getElem h, eat_lt h]
  rfl
end Go.Proofs.Ytogmbeifbjgphaa.R
