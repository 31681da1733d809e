/- impl.GraphView: what a label may see of a graph. -/
import Derived.Test.YtogmbeifbjgphaaGreatKB22
import Derived.Test.YtogmbeifbjgphaaGreatKB2
namespace Go.Proofs.YtogmbeifbjgphaaGreat.R
open Go.RowKit Go.Proofs.YtogmbeifbjgphaaGreatV.PrintWords Go.Proofs.YtogmbeifbjgphaaGreatV.PrintLast Go.Proofs.YtogmbeifbjgphaaGreatV.PrintMore Go.Proofs.YtogmbeifbjgphaaGreat.M
set_option linter.unusedVariables false
set_option linter.unusedSimpArgs false
attribute [local go_sem high] eqN eqE
theorem takeE_snoc {l : List Eg} {j : Nat} (h : j < l.length) : l.take (j + 1) = l.take j ++ [eat l j] := by
 rw [List.take_add_one, List.getElem?_eq_getElem h, eat_lt h]
 rfl
end Go.Proofs.YtogmbeifbjgphaaGreat.R
