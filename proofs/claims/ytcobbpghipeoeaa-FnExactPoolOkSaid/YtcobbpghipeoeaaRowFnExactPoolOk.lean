/- The law FnExactPoolOk, out of its plain law and its walk, as the statement says it. -/
import Derived.Test.YtcobbpghipeoeaaRows
import Derived.Test.YtcobbpghipeoeaaR18
import Derived.Test.YtcobbpghipeoeaaQE
import Derived.Test.YtcobbpghipeoeaaQX
import Derived.Test.YtcobbpghipeoeaaV
import Derived.WalkKit
import Derived.ProofKit
import Derived.OpenShut
import Derived.ShutString
import Derived.ChangeOld
import Derived.Below
import Derived.SizedLaws
import Derived.Lib.SmallJoins
namespace Go.Proofs.Ytcobbpghipeoeaa.fnExactPoolOk
open Go.ChangeShapes Go.WideShapes Go.ChangeAt Go.RowKit Go.Joins
set_option linter.unusedVariables false
theorem own : ownKnob Try.prog.godebug = none := by kernel_rfl
theorem laidOut : laidOutB Try.prog = true := by kernel_rfl
open Go.Proofs.Ytcobbpghipeoeaa.R in
theorem plain (a : Int) (l : List S23) (hl : l.length ≤ 9223372036854775807) : ∃ k, laws_FnExactPoolOk.f k a l = some true := by
  refine ⟨3000000, ?_⟩
  unfold laws_FnExactPoolOk.f
  rw [szPool_ev a l 1048576 (by omega) (by omega) hl, Option.bind_some]
  by_cases h0 : 1048576 - (l.length : Int) < 0
  · rw [if_pos h0, if_pos (by decide)]
  rw [if_neg h0, if_neg h0, toPool_ev a l (by omega) _ (by omega), Option.bind_some]
  have hl2 : (ofPages l).length ≤ 1048576 := by rw [ofPages_len]; omega
  dsimp only
  rw [specPoolOk_ev _ _ _ (by omega), Option.bind_some, Option.bind_some]
  dsimp only
  rw [poolOk_ev _ _ _ (by omega), Option.bind_some, if_neg (by simp), Option.bind_some]
  dsimp only
  rw [eqPool_ev _ _ _ _ (by omega) _ (by omega), Option.bind_some, if_pos (by simp)]
set_option maxRecDepth 100000 in
theorem lifted (os : Os) (started : os.Started) (H : Type) (enc : TypeId × Value → H) :
    ReturnsInHanded {} Try.checked os 8 .any (Rows.fnExactPoolOkSpec.pre6 enc Try.prog Try.f8 Rows.fnExactPoolOkRow.domain false) (Rows.fnExactPoolOkSpec.post enc Try.prog Try.f8 false true false false) := by
  refine returnsInHanded_of_change_sized (C := Try.checked) own started (by kernel_rfl) Try.func8
    (ChangeSpec.witness6 (enc := enc) (C := Try.checked) false ⟨#[], #[.agg #[.int .i64 0, .slice none 0 0]], []⟩ 8 (by kernel_rfl) (by kernel_rfl) (by kernel_rfl) (by kernel_rfl)) ?_
  intro W base args ds gs before hval0 hW hcnd hsz0 _
  have hval : ∀ (j : Nat) t v, Try.f8.params[j]? = some t → args[j]? = some v → Value.okWide Try.prog W .any base t v := hval0
  have hW' := hW
  obtain ⟨p, q, hA0, hV, rfl, hfz, hnd⟩ := hW
  have hA : DataW.TrodAll enc Try.prog W 0 (fun _ => true) true Try.f8.params.toList args.toList ds p := hA0
  rw [Try.params8] at hA hval
  obtain ⟨v0, vs0, d0, ds0, p0, q0, hargs, rfl, rfl, h0, r0⟩ := trodAll_cons hA
  obtain ⟨rfl, rfl, rfl⟩ := trodAll_nil r0
  obtain rfl : args = #[v0] := by cases args; simp_all
  obtain ⟨rfl, rfl⟩ := trodVars_none hV
  have k0 := h0
  have lt0 : ∀ x ∈ p0, x.block < W.heap.size := by obtain ⟨m, hm⟩ := k0; exact DataW.trod_lt m _ _ _ hm
  obtain ⟨c00, c01, y00, y01, n0, rfl, _, _, t00, t01⟩ := open_agg2 Try.underlying42 (by kernel_rfl) (by kernel_rfl) (hval 0 42 v0 rfl rfl) h0
  obtain ⟨a0, ha0, _, _⟩ := DataW.trod_int (k := .i64) (by kernel_rfl) t00
  simp only [List.cons.injEq, and_true] at ha0
  subst ha0
  obtain ⟨A0, cap0, l0, rfl, hr0, hc0⟩ := R.pages_open (by kernel_rfl) t01
  obtain ⟨k, h⟩ := plain a0 l0 hr0.2.1
  clear hA0 hval0 hsz0
  refine (R.laws_FnExactPoolOk.calls k a0 A0 cap0 l0 true W hr0 hc0 rfl h).mono fun e W' ⟨he, bel⟩ => ?_
  subst he
  exact ⟨_, rfl, _, _, _, [], _, [], hW', trodAll_mk1 (shut_bool Try.underlying4 _), (trodAll_cons_mk (Below.trod laidOut (by kernel_rfl) (of_decide_eq_true (by kernel_rfl)) k0 bel lt0) trodAll_mk0), rfl, bel.frame _, fun h => by cases h⟩
set_option maxHeartbeats 4000000 in
theorem closed : joinedFacts Try.pinned.checked.prog 8 Try.f8 Rows.fnExactPoolOkSpec Rows.fnExactPoolOkRow = true := by
  unfold joinedFacts
  simp only [Bool.and_eq_true]
  repeat' apply And.intro
  all_goals (as_aux_lemma => kernel_rfl)
theorem over : Rows.fnExactPoolOkRow.holds Try.pinned (OpenSpec.ofChange Rows.fnExactPoolOkSpec) :=
  OpenClaim.holds_of_wide 8 Try.f8 rfl rfl rfl rfl rfl rfl rfl ⟨rfl, rfl, rfl, rfl, rfl⟩ rfl rfl rfl rfl rfl (by kernel_rfl) Try.func8 closed
    (of_decide_eq_true (by kernel_rfl)) (by unfold Func.isWrapper; first | (rw [if_pos (by decide +kernel)]; kernel_rfl) | (rw [if_neg (by decide +kernel)]; exact ⟨rfl, rfl⟩))
    (fun os started H enc _ => lifted os started H enc)
theorem proved : Rows.FnExactPoolOkSaid := over
end Go.Proofs.Ytcobbpghipeoeaa.fnExactPoolOk
namespace Go.Proofs.Ytcobbpghipeoeaa
/-- The row, under a short name, for the claim. -/
theorem fnExactPoolOk_holds : Rows.FnExactPoolOkSaid := fnExactPoolOk.proved
end Go.Proofs.Ytcobbpghipeoeaa
