/- PageSpan of the program returns what the reference's returns, in memory of its own, at all three numbers. No condition. -/
import Derived.Test.YtcobbpghipeoeaaR14
import Derived.Test.YtcobbpghipeoeaaQP
import Derived.Test.YtcobbpghipeoeaaQM
namespace Go.Proofs.Ytcobbpghipeoeaa.Pure
open Go.RowKit Go.Proofs.Ytcobbpghipeoeaa.R Go.Proofs.YtcobbpghipeoeaaV.PrintWords Go.Proofs.YtcobbpghipeoeaaV.PrintLast

theorem FnExactPageSpan : laws_FnExactPageSpan.Pure := by
  intro a f t _ _ _
  have hl := spanP_len a f t
  refine ⟨3000, ?_⟩
  unfold laws_FnExactPageSpan.f
  rw [specSpan_ev a f t _ (by omega), Option.bind_some, implSpan_ev a f t _ (by omega), Option.bind_some, eqPageS_ev _ _ (by omega) _ (by omega), Option.bind_some, if_pos (by simp),
    mark_ev _ 1 (by omega) (by omega) _ (by omega), Option.bind_some]
  simp only
  rw [held_ev 1 _ (by omega) (by omega) _ (by omega), Option.bind_some, if_neg (by omega), if_pos rfl, Option.bind_some, eqPageS_ev _ _ (by omega) _ (by omega), Option.bind_some, if_pos (by simp), Option.bind_some, if_neg (by omega), if_pos rfl]

end Go.Proofs.Ytcobbpghipeoeaa.Pure
