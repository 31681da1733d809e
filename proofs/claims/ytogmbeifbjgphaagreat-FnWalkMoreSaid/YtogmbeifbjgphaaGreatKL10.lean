/- The law FnWalkDist, walked. -/
import Derived.Test.YtogmbeifbjgphaaGreatKB30
import Derived.Test.YtogmbeifbjgphaaGreatKB32
import Derived.Test.YtogmbeifbjgphaaGreatKL9
namespace Go.Proofs.YtogmbeifbjgphaaGreat.R
open Go.RowKit Go.Proofs.YtogmbeifbjgphaaGreatV.PrintWords Go.Proofs.YtogmbeifbjgphaaGreatV.PrintLast Go.Proofs.YtogmbeifbjgphaaGreatV.PrintMore Go.Proofs.YtogmbeifbjgphaaGreat.M
set_option linter.unusedVariables false
set_option linter.unusedSimpArgs false
attribute [local go_sem high] eqN eqE
theorem walkDist_as (A : Option Addr) (c : Nat) (ns : List Nd) (B : Option Addr) (d : Nat) (es : List Eg) (n : Nd) (D : List Int) (w : World) (hr : GR w A c ns B d es) (h : wDist ns es n = D) :
 Calls Tryz.prog 13 #[.agg #[.slice A ns.length c, .slice B es.length d], .agg #[.int .i64 n.lab, .int .i64 n.num]] w fun e w' => RetI w.heap.size D e w' ∧ Below w.heap.size w w' := by
 subst h
 exact walkDist_calls A c ns B d es n w hr
theorem wpAt_as (A : Option Addr) (c : Nat) (ns : List Nd) (B : Option Addr) (d : Nat) (es : List Eg) (n : Nd) (k : Nat) (w : World) (hr : GR w A c ns B d es) (hl : ns.length ≤ 100 ∧ es.length ≤ 100) (h : placeI ns n = (k : Int)) :
 Calls Tryz.prog 15 #[.agg #[.slice A ns.length c, .slice B es.length d], .agg #[.int .i64 n.lab, .int .i64 n.num]] w fun e w' => e = .returned (.int .i64 (k : Int)) ∧ Below w.heap.size w w' := by
 rw [← h]
 exact wpAt_calls A c ns B d es n w hr.cn (by omega)
theorem wpAt_out (A : Option Addr) (c : Nat) (ns : List Nd) (B : Option Addr) (d : Nat) (es : List Eg) (n : Nd) (w : World) (hr : GR w A c ns B d es) (hl : ns.length ≤ 100 ∧ es.length ≤ 100) (h : placeI ns n = -1) :
 Calls Tryz.prog 15 #[.agg #[.slice A ns.length c, .slice B es.length d], .agg #[.int .i64 n.lab, .int .i64 n.num]] w fun e w' => e = .returned (.int .i64 (-1)) ∧ Below w.heap.size w w' := by
 rw [← h]
 exact wpAt_calls A c ns B d es n w hr.cn (by omega)
section
variable {ns : List Nd} {es : List Eg} {n : Nd} {D : List Int}
theorem wd_at (h : wDist ns es n = D) (h1 : okG ns es = true) (h2 : n ∈ ns) : D = distL (adjI ns es) ns.length (idx ns n) := h.symm.trans (if_pos ⟨h1, h2⟩)
end
end Go.Proofs.YtogmbeifbjgphaaGreat.R
