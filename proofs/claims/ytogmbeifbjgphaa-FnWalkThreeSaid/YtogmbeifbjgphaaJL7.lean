/- The law FnGraphSeen, walked. -/
import Derived.Test.YtogmbeifbjgphaaJGV
import Derived.Test.YtogmbeifbjgphaaJL2
namespace Go.Proofs.Ytogmbeifbjgphaa.R
open Go.RowKit Go.Proofs.YtogmbeifbjgphaaV.PrintWords Go.Proofs.YtogmbeifbjgphaaV.PrintLast Go.Proofs.YtogmbeifbjgphaaV.PrintMore Go.Proofs.Ytogmbeifbjgphaa.M
set_option linter.unusedVariables false
set_option linter.unusedSimpArgs false
attribute [local go_sem high] eqN eqE
theorem view_as (A : Option Addr) (c : Nat) (ns : List Nd) (B : Option Addr) (d : Nat) (es : List Eg) (cl : Int) (ms : List Nd) (fs : List Eg) (w : World) (hr : GR w A c ns B d es) (h : viewN ns es cl = ms ∧ viewE ns es cl = fs) :
    Calls Try.prog 39 #[.agg #[.slice A ns.length c, .slice B es.length d], .int .i64 cl] w fun e w' => ∃ A' c' B' d', e = .returned (.agg #[.slice A' ms.length c', .slice B' fs.length d']) ∧ GR w' A' c' ms B' d' fs ∧ Below w.heap.size w w' := by
  obtain ⟨rfl, rfl⟩ := h
  exact view_calls A c ns B d es cl w hr
end Go.Proofs.Ytogmbeifbjgphaa.R
