/- The law FnWalkThrees, walked. -/
import Derived.Test.YtogmbeifbjgphaaGreatKB32
import Derived.Test.YtogmbeifbjgphaaGreatKB34
import Derived.Test.YtogmbeifbjgphaaGreatKL10
import Derived.Test.YtogmbeifbjgphaaGreatKB33
namespace Go.Proofs.YtogmbeifbjgphaaGreat.R
open Go.RowKit Go.Proofs.YtogmbeifbjgphaaGreatV.PrintWords Go.Proofs.YtogmbeifbjgphaaGreatV.PrintLast Go.Proofs.YtogmbeifbjgphaaGreatV.PrintMore Go.Proofs.YtogmbeifbjgphaaGreat.M
set_option linter.unusedVariables false
set_option linter.unusedSimpArgs false
attribute [local go_sem high] eqN eqE
theorem walkThrees_as (A : Option Addr) (c : Nat) (ns : List Nd) (B : Option Addr) (d : Nat) (es : List Eg) (T : Nat) (w : World) (hr : GR w A c ns B d es) (h : wThrees ns es = T) :
 Calls Tryz.prog 14 #[.agg #[.slice A ns.length c, .slice B es.length d]] w fun e w' => e = .returned (.int .i64 (T : Int)) ∧ Below w.heap.size w w' := by
 subst h
 exact walkThrees_calls A c ns B d es w hr
end Go.Proofs.YtogmbeifbjgphaaGreat.R
