/- The law FnWalkParts, walked. -/
import Derived.Test.YtogmbeifbjgphaaJB30
import Derived.Test.YtogmbeifbjgphaaJB32
import Derived.Test.YtogmbeifbjgphaaJL10
namespace Go.Proofs.Ytogmbeifbjgphaa.R
open Go.RowKit Go.Proofs.YtogmbeifbjgphaaV.PrintWords Go.Proofs.YtogmbeifbjgphaaV.PrintLast Go.Proofs.YtogmbeifbjgphaaV.PrintMore Go.Proofs.Ytogmbeifbjgphaa.M
set_option linter.unusedVariables false
set_option linter.unusedSimpArgs false
attribute [local go_sem high] eqN eqE
theorem walkParts_as (A : Option Addr) (c : Nat) (ns : List Nd) (B : Option Addr) (d : Nat) (es : List Eg) (P : List Int) (w : World) (hr : GR w A c ns B d es) (h : wParts ns es = P) :
    Calls Try.prog 58 #[.agg #[.slice A ns.length c, .slice B es.length d]] w fun e w' => RetI w.heap.size P e w' ∧ Below w.heap.size w w' := by
  subst h
  exact walkParts_calls A c ns B d es w hr
end Go.Proofs.Ytogmbeifbjgphaa.R
