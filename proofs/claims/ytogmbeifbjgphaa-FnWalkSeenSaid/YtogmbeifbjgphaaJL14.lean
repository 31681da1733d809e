/- The law FnWalkThrees, walked. -/
import Derived.Test.YtogmbeifbjgphaaJB33
import Derived.Test.YtogmbeifbjgphaaJL11
namespace Go.Proofs.Ytogmbeifbjgphaa.R
open Go.RowKit Go.Proofs.YtogmbeifbjgphaaV.PrintWords Go.Proofs.YtogmbeifbjgphaaV.PrintLast Go.Proofs.YtogmbeifbjgphaaV.PrintMore Go.Proofs.Ytogmbeifbjgphaa.M
set_option linter.unusedVariables false
set_option linter.unusedSimpArgs false
attribute [local go_sem high] eqN eqE
theorem walkThrees_as (A : Option Addr) (c : Nat) (ns : List Nd) (B : Option Addr) (d : Nat) (es : List Eg) (T : Nat) (w : World) (hr : GR w A c ns B d es) (h : wThrees ns es = T) :
    Calls Try.prog 50 #[.agg #[.slice A ns.length c, .slice B es.length d]] w fun e w' => e = .returned (.int .i64 (T : Int)) ∧ Below w.heap.size w w' := by
  subst h
  exact walkThrees_calls A c ns B d es w hr
theorem sWalkThrees_as (A : Option Addr) (c : Nat) (ns : List Nd) (B : Option Addr) (d : Nat) (es : List Eg) (T : Nat) (w : World) (hr : GR w A c ns B d es) (hl : ns.length ≤ 100 ∧ es.length ≤ 100) (h : wThrees ns es = T) :
    Calls Try.prog 51 #[.agg #[.slice A ns.length c, .slice B es.length d]] w fun e w' => e = .returned (.int .i64 (T : Int)) ∧ Below w.heap.size w w' := by
  subst h
  exact sWalkThrees_calls A c ns B d es w hr hl
end Go.Proofs.Ytogmbeifbjgphaa.R
