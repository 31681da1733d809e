/- The law FnGraphNear, walked. -/
import Derived.Test.YtogmbeifbjgphaaGreatKB27
import Derived.Test.YtogmbeifbjgphaaGreatKB29
import Derived.Test.YtogmbeifbjgphaaGreatKGV
import Derived.Test.YtogmbeifbjgphaaGreatKL2
namespace Go.Proofs.YtogmbeifbjgphaaGreat.R
open Go.RowKit Go.Proofs.YtogmbeifbjgphaaGreatV.PrintWords Go.Proofs.YtogmbeifbjgphaaGreatV.PrintLast Go.Proofs.YtogmbeifbjgphaaGreatV.PrintMore Go.Proofs.YtogmbeifbjgphaaGreat.M
set_option linter.unusedVariables false
set_option linter.unusedSimpArgs false
attribute [local go_sem high] eqN eqE
theorem near_as (A : Option Addr) (c : Nat) (ns : List Nd) (B : Option Addr) (d : Nat) (es : List Eg) (n : Nd) (N : List Nd) (w : World) (hr : GR w A c ns B d es) (h : nearG ns es n = N) :
 Calls Tryz.prog 20 #[.agg #[.slice A ns.length c, .slice B es.length d], .agg #[.int .i64 n.lab, .int .i64 n.num]] w fun e w' => ∃ A' c', e = .returned (.slice A' N.length c') ∧ kN.C w' A' N.length N ∧ N.length ≤ c' ∧ Below w.heap.size w w' := by
 subst h
 exact near_calls A c ns B d es n w hr
end Go.Proofs.YtogmbeifbjgphaaGreat.R
