/- The reference: WalkParts. -/
import Derived.Test.YtogmbeifbjgphaaKHE
import Derived.Test.YtogmbeifbjgphaaKHM
import Derived.Test.YtogmbeifbjgphaaKB23
namespace Go.Proofs.Ytogmbeifbjgphaa.R
open Go.RowKit Go.Proofs.YtogmbeifbjgphaaV.PrintWords Go.Proofs.YtogmbeifbjgphaaV.PrintLast Go.Proofs.YtogmbeifbjgphaaV.PrintMore Go.Proofs.Ytogmbeifbjgphaa.M
set_option linter.unusedVariables false
set_option linter.unusedSimpArgs false
attribute [local go_sem high] eqN eqE
theorem l3Dist_as (A : Option Addr) (c : Nat) {ns : List Nd} (B : Option Addr) (d : Nat) {es : List Eg} (k : Nat) (x : Nd) (D : List Int) (w : World) (hr : GR w A c ns B d es) (hg : OkG ns es) (hx : at_ ns k = x) (hk : k < ns.length) (h : distL (adjI ns es) ns.length k = D) :
    Calls Try.prog 135 #[.agg #[.slice A ns.length c, .slice B es.length d], .agg #[.int .i64 x.lab, .int .i64 x.num]] w fun e w' => RetI w.heap.size D e w' ∧ Below w.heap.size w w' := by
  subst hx h
  have h1 := l3Dist_calls A c ns B d es (at_ ns k) w hr hg (at_mem hk)
  rwa [idx_at hg hk] at h1
end Go.Proofs.Ytogmbeifbjgphaa.R
