/- A right graph as a graph of places: its nodes in their order. -/
import Derived.Test.YtogmbeifbjgphaaKB2
namespace Go.Proofs.Ytogmbeifbjgphaa.M
set_option linter.unusedVariables false
set_option linter.unusedSimpArgs false
def at_ (ns : List Nd) (i : Nat) : Nd := ns.getD i zN
theorem at_lt {ns : List Nd} {i : Nat} (h : i < ns.length) : at_ ns i = ns[i] := by
  unfold at_
  simp [List.getD_eq_getElem?_getD, h]
theorem at_mem {ns : List Nd} {i : Nat} (h : i < ns.length) : at_ ns i ∈ ns := by
  rw [at_lt h]
  exact List.getElem_mem h
section
variable {ns : List Nd} {es : List Eg}
/-- Nodes and edges of the one are among those of the other. -/
structure Sub (ns : List Nd) (es : List Eg) (ms : List Nd) (fs : List Eg) : Prop where
  n : ∀ x ∈ ns, x ∈ ms
  e : ∀ x ∈ es, x ∈ fs
variable {ms : List Nd} {fs : List Eg}
end
end Go.Proofs.Ytogmbeifbjgphaa.M
