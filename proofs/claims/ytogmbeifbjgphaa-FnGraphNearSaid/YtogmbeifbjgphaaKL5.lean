/- The law FnGraphNone, walked. -/
import Derived.Test.YtogmbeifbjgphaaKL2
namespace Go.Proofs.Ytogmbeifbjgphaa.R
open Go.RowKit Go.Proofs.YtogmbeifbjgphaaV.PrintWords Go.Proofs.YtogmbeifbjgphaaV.PrintLast Go.Proofs.YtogmbeifbjgphaaV.PrintMore Go.Proofs.Ytogmbeifbjgphaa.M
set_option linter.unusedVariables false
set_option linter.unusedSimpArgs false
attribute [local go_sem high] eqN eqE
theorem mem_snoc {α : Type} [DecidableEq α] {l : List α} {x y : α} : decide (x ∈ l ++ [y]) = (decide (x ∈ l) || decide (y = x)) := by
  rw [Bool.eq_iff_iff]
  simp only [List.mem_append, List.mem_singleton, Bool.or_eq_true, decide_eq_true_eq]
  exact ⟨fun h => h.imp id Eq.symm, fun h => h.imp id Eq.symm⟩
theorem take_snN {l : List Nd} {j : Nat} (h : j < l.length) : l.take (j + 1) = l.take j ++ [at_ l j] := by
  rw [List.take_add_one, List.getElem?_eq_getElem h, at_lt h]
  rfl
end Go.Proofs.Ytogmbeifbjgphaa.R
