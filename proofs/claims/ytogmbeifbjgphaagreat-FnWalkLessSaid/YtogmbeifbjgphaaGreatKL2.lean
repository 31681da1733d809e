/- The law FnGraph, walked. -/
import Derived.Test.YtogmbeifbjgphaaGreatKB27
namespace Go.Proofs.YtogmbeifbjgphaaGreat.R
open Go.RowKit Go.Proofs.YtogmbeifbjgphaaGreatV.PrintWords Go.Proofs.YtogmbeifbjgphaaGreatV.PrintLast Go.Proofs.YtogmbeifbjgphaaGreatV.PrintMore Go.Proofs.YtogmbeifbjgphaaGreat.M
set_option linter.unusedVariables false
set_option linter.unusedSimpArgs false
attribute [local go_sem high] eqN eqE
theorem GR.row {w u : World} {A B : Option Addr} {c d g : Nat} {cs : Array Value} {ns : List Nd} {es : List Eg} (h : GR w A c ns B d es) (e : u = w.setRow g cs) (hA : NotIn g A ns.length) (hB : NotIn g B es.length) : GR u A c ns B d es := by
 rw [e]
 exact h.keep (grown_setRow _ _ _) hA hB
end Go.Proofs.YtogmbeifbjgphaaGreat.R
