/- impl.WalkThrees, with slices.Index and Contains. -/
import Derived.Test.YtogmbeifbjgphaaKHE
import Derived.Test.YtogmbeifbjgphaaKB23
namespace Go.Proofs.Ytogmbeifbjgphaa.R
open Go.RowKit Go.Proofs.YtogmbeifbjgphaaV.PrintWords Go.Proofs.YtogmbeifbjgphaaV.PrintLast Go.Proofs.YtogmbeifbjgphaaV.PrintMore Go.Proofs.Ytogmbeifbjgphaa.M
set_option linter.unusedVariables false
set_option linter.unusedSimpArgs false
attribute [local go_sem high] eqN eqE
theorem nearPlaces_ad (A : Option Addr) (c : Nat) (ns : List Nd) (B : Option Addr) (d : Nat) (es : List Eg) (w : World) (hr : GR w A c ns B d es) (hg : OkG ns es) :
    Calls Try.prog 129 #[.agg #[.slice A ns.length c, .slice B es.length d]] w fun e w' => ∃ ad, e = .returned (.slice (some ad) ns.length ns.length) ∧ (Kd.slice 3 (Kd.int .i64)).C w' (some ad) ns.length ((List.range ns.length).map (nearZ (adjI ns es) ns.length)) ∧ Below w.heap.size w w' :=
  (nearPlaces_calls A c ns B d es w hr hg).mono fun e w' ⟨g, h⟩ => ⟨_, h⟩
theorem nearI_few (adj : Nat → Nat → Bool) (n i : Nat) : (nearI adj n i).length ≤ n := Nat.le_trans (List.length_filter_le _ _) (by simp)
end Go.Proofs.Ytogmbeifbjgphaa.R
