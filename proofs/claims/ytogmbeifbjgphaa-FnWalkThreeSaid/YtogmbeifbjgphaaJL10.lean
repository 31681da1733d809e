/- The law FnWalkDist, walked. -/
import Derived.Test.YtogmbeifbjgphaaJB26
import Derived.Test.YtogmbeifbjgphaaJB30
import Derived.Test.YtogmbeifbjgphaaJL9
namespace Go.Proofs.Ytogmbeifbjgphaa.R
open Go.RowKit Go.Proofs.YtogmbeifbjgphaaV.PrintWords Go.Proofs.YtogmbeifbjgphaaV.PrintLast Go.Proofs.YtogmbeifbjgphaaV.PrintMore Go.Proofs.Ytogmbeifbjgphaa.M
set_option linter.unusedVariables false
set_option linter.unusedSimpArgs false
attribute [local go_sem high] eqN eqE
theorem walkDist_as (A : Option Addr) (c : Nat) (ns : List Nd) (B : Option Addr) (d : Nat) (es : List Eg) (n : Nd) (D : List Int) (w : World) (hr : GR w A c ns B d es) (h : wDist ns es n = D) :
    Calls Try.prog 53 #[.agg #[.slice A ns.length c, .slice B es.length d], .agg #[.int .i64 n.lab, .int .i64 n.num]] w fun e w' => RetI w.heap.size D e w' ∧ Below w.heap.size w w' := by
  subst h
  exact walkDist_calls A c ns B d es n w hr
theorem sWalkDist_as (A : Option Addr) (c : Nat) (ns : List Nd) (B : Option Addr) (d : Nat) (es : List Eg) (n : Nd) (D : List Int) (w : World) (hr : GR w A c ns B d es) (hl : ns.length ≤ 100 ∧ es.length ≤ 100) (h : wDist ns es n = D) :
    Calls Try.prog 55 #[.agg #[.slice A ns.length c, .slice B es.length d], .agg #[.int .i64 n.lab, .int .i64 n.num]] w fun e w' => RetI w.heap.size D e w' ∧ Below w.heap.size w w' := by
  subst h
  exact sWalkDist_calls A c ns B d es n w hr hl
theorem wpAt_as (A : Option Addr) (c : Nat) (ns : List Nd) (B : Option Addr) (d : Nat) (es : List Eg) (n : Nd) (k : Nat) (w : World) (hr : GR w A c ns B d es) (hl : ns.length ≤ 100 ∧ es.length ≤ 100) (h : placeI ns n = (k : Int)) :
    Calls Try.prog 56 #[.agg #[.slice A ns.length c, .slice B es.length d], .agg #[.int .i64 n.lab, .int .i64 n.num]] w fun e w' => e = .returned (.int .i64 (k : Int)) ∧ Below w.heap.size w w' := by
  rw [← h]
  exact wpAt_calls A c ns B d es n w hr.cn (by omega)
section
variable {ns : List Nd} {es : List Eg} {n : Nd} {D : List Int}
theorem wd_len (h : wDist ns es n = D) : D.length ≤ ns.length := by
  rw [← h]
  unfold wDist
  split
  · rw [distL_length]
    exact Nat.le_refl _
  · exact Nat.zero_le _
theorem wd_nil (h : wDist ns es n = D) (h1 : ¬ (okG ns es = true ∧ n ∈ ns)) : D = [] := h.symm.trans (if_neg h1)
theorem wd_at (h : wDist ns es n = D) (h1 : okG ns es = true) (h2 : n ∈ ns) : D = distL (adjI ns es) ns.length (idx ns n) := h.symm.trans (if_pos ⟨h1, h2⟩)
end
end Go.Proofs.Ytogmbeifbjgphaa.R
