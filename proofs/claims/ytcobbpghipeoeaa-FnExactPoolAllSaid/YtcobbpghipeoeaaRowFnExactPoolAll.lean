/- The law FnExactPoolAll, out of its plain law and its walk, as the statement says it. -/
import Derived.Test.YtcobbpghipeoeaaRows
import Derived.Test.YtcobbpghipeoeaaR29
import Derived.Test.YtcobbpghipeoeaaQE
import Derived.Test.YtcobbpghipeoeaaQX
import Derived.Test.YtcobbpghipeoeaaV
import Derived.WalkKit
import Derived.ProofKit
import Derived.OpenShut
import Derived.ShutString
import Derived.ChangeOld
import Derived.Below
import Derived.SizedLaws
import Derived.Lib.SmallJoins
namespace Go.Proofs.Ytcobbpghipeoeaa.fnExactPoolAll
open Go.ChangeShapes Go.WideShapes Go.ChangeAt Go.RowKit Go.Joins
set_option linter.unusedVariables false
theorem own : ownKnob Try.prog.godebug = none := by kernel_rfl
theorem laidOut : laidOutB Try.prog = true := by kernel_rfl
open Go.Proofs.Ytcobbpghipeoeaa.R Go.Proofs.YtcobbpghipeoeaaV.PrintWords Go.Proofs.YtcobbpghipeoeaaV.PrintLast in
theorem plain (a : Int) (l m : List S23) (hl : l.length ≤ 9223372036854775807) (hm : m.length ≤ 9223372036854775807) : ∃ k, laws_FnExactPoolAll.f k a l m = some true := by
  refine ⟨5000000, ?_⟩
  unfold laws_FnExactPoolAll.f
  rw [szPool_ev a l 1048576 (by omega) (by omega) hl, Option.bind_some]
  by_cases h0 : 1048576 - (l.length : Int) < 0
  · rw [if_pos h0, if_pos (by decide)]
  rw [if_neg h0, if_neg h0, szPageS_ev m _ (by omega) (by omega) hm, Option.bind_some]
  by_cases h1 : 1048576 - (l.length : Int) - (m.length : Int) < 0
  · rw [if_pos h1, if_pos (by decide)]
  have hl2 : (ofPages l).length ≤ 1048576 := by rw [ofPages_len]; omega
  have hm2 : (ofPages m).length ≤ 1048576 := by rw [ofPages_len]; omega
  obtain ⟨r1, r2, r3, hr, hr2⟩ : ∃ r1 r2 r3, impl_PoolAll.f a (ofPages l) (ofPages m) = some (r1, r2, r3) ∧ r2.length ≤ 24 := by
    unfold impl_PoolAll.f
    rw [if_pos (by omega)]
    split
    · rename_i h
      rw [Bool.and_eq_true] at h
      have := poolOk_small (poolOk_all h.1 h.2)
      exact ⟨_, _, _, rfl, by omega⟩
    · exact ⟨_, _, _, rfl, by simp⟩
  rw [if_neg h1, if_neg h1, toPool_ev a l (by omega) _ (by omega), Option.bind_some, toPageS_ev m (by omega) _ (by omega), Option.bind_some]
  dsimp only
  rw [specPoolAll_ev _ _ _ (by omega) _ (by omega), hr, Option.bind_some, Option.bind_some, Option.bind_some]
  dsimp only
  rw [hr, Option.bind_some]
  dsimp only
  rw [eqPool_ev _ _ _ _ (by omega) _ (by omega), Option.bind_some, if_pos (by simp)]
  simp only [laws_FnExactPoolAll.j0]
  rw [if_neg (by simp), toPool_ev a l (by omega) _ (by omega), Option.bind_some]
  dsimp only
  rw [eqPool_ev _ _ _ _ (by omega) _ (by omega), Option.bind_some, if_pos (by simp), toPageS_ev m (by omega) _ (by omega), Option.bind_some, eqPageS_ev _ _ (by omega) _ (by omega), Option.bind_some, if_pos (by simp), markPool_ev _ _ 1 (by omega) (by omega) _ (by omega), Option.bind_some]
  dsimp only
  rw [mark_ev _ _ (by omega) (by omega) _ (by omega), Option.bind_some]
  dsimp only
  rw [if_neg (by omega), eqPool_ev _ _ _ _ (by omega) _ (by omega), Option.bind_some, if_pos (by simp)]
  simp only [laws_FnExactPoolAll.j1]
  rw [if_neg (by simp), markPool_ev _ _ 1 (by omega) (by omega) _ (by omega), Option.bind_some]
  dsimp only
  rw [heldPool_ev _ 1 _ (by omega) (by omega) _ (by omega), Option.bind_some, if_neg (by omega), if_pos rfl, toPool_ev a l (by omega) _ (by omega), Option.bind_some, toPageS_ev m (by omega) _ (by omega), Option.bind_some]
  dsimp only
  rw [hr, Option.bind_some]
  dsimp only
  rw [eqPool_ev _ _ _ _ (by omega) _ (by omega), Option.bind_some, if_pos (by simp)]
  simp only [laws_FnExactPoolAll.j2]
  rw [if_neg (by simp), heldPool_ev _ 1 _ (by omega) (by omega) _ (by omega), Option.bind_some, if_neg (by omega), if_pos rfl]
set_option maxRecDepth 100000 in
theorem lifted (os : Os) (started : os.Started) (H : Type) (enc : TypeId × Value → H) :
    ReturnsInHanded {} Try.checked os 19 .any (Rows.fnExactPoolAllSpec.pre6 enc Try.prog Try.f19 Rows.fnExactPoolAllRow.domain false) (Rows.fnExactPoolAllSpec.post enc Try.prog Try.f19 false true false false) := by
  refine returnsInHanded_of_change_sized (C := Try.checked) own started (by kernel_rfl) Try.func19
    (ChangeSpec.witness6 (enc := enc) (C := Try.checked) false ⟨#[], #[.agg #[.int .i64 0, .slice none 0 0], .slice none 0 0], []⟩ 8 (by kernel_rfl) (by kernel_rfl) (by kernel_rfl) (by kernel_rfl)) ?_
  intro W base args ds gs before hval0 hW hcnd hsz0 _
  have hval : ∀ (j : Nat) t v, Try.f19.params[j]? = some t → args[j]? = some v → Value.okWide Try.prog W .any base t v := hval0
  have hW' := hW
  obtain ⟨p, q, hA0, hV, rfl, hfz, hnd⟩ := hW
  have hA : DataW.TrodAll enc Try.prog W 0 (fun _ => true) true Try.f19.params.toList args.toList ds p := hA0
  rw [Try.params19] at hA hval
  obtain ⟨v0, vs0, d0, ds0, p0, q0, hargs, rfl, rfl, h0, r0⟩ := trodAll_cons hA
  obtain ⟨v1, vs1, d1, ds1, p1, q1, hargs1, rfl, rfl, h1, r1⟩ := trodAll_cons r0
  obtain ⟨rfl, rfl, rfl⟩ := trodAll_nil r1
  obtain rfl : args = #[v0, v1] := by cases args; simp_all
  obtain ⟨rfl, rfl⟩ := trodVars_none hV
  have k0 := h0
  have lt0 : ∀ x ∈ p0, x.block < W.heap.size := by obtain ⟨m, hm⟩ := k0; exact DataW.trod_lt m _ _ _ hm
  have k1 := h1
  have lt1 : ∀ x ∈ p1, x.block < W.heap.size := by obtain ⟨m, hm⟩ := k1; exact DataW.trod_lt m _ _ _ hm
  obtain ⟨c00, c01, y00, y01, n0, rfl, _, _, t00, t01⟩ := open_agg2 Try.underlying42 (by kernel_rfl) (by kernel_rfl) (hval 0 42 v0 rfl rfl) h0
  obtain ⟨a0, ha0, _, _⟩ := DataW.trod_int (k := .i64) (by kernel_rfl) t00
  simp only [List.cons.injEq, and_true] at ha0
  subst ha0
  obtain ⟨A0, cap0, l0, rfl, hr0, hc0⟩ := R.pages_open (by kernel_rfl) t01
  obtain ⟨A1, len1, cap1, rfl⟩ := okWide_slice Try.underlying40 (hval 1 40 v1 rfl rfl)
  obtain ⟨n1, hf1⟩ := h1
  simp only [Value.cells] at hf1
  obtain ⟨B1, dap1, l1, e1, hr1, hc1⟩ := R.pages_open Try.underlying40 hf1
  obtain ⟨k, h⟩ := plain a0 l0 l1 hr0.2.1 hr1.2.1
  clear hA0 hval0 hsz0
  simp only [Value.slice.injEq] at e1
  obtain ⟨rfl, rfl, rfl⟩ := e1
  refine (R.laws_FnExactPoolAll.calls k a0 A0 cap0 l0 _ _ l1 true W hr0 hc0 hr1 hc1 rfl h).mono fun e W' ⟨he, bel⟩ => ?_
  subst he
  exact ⟨_, rfl, _, _, _, [], _, [], hW', trodAll_mk1 (shut_bool Try.underlying4 _), (trodAll_cons_mk (Below.trod laidOut (by kernel_rfl) (of_decide_eq_true (by kernel_rfl)) k0 bel lt0) (trodAll_cons_mk (Below.trod laidOut (by kernel_rfl) (of_decide_eq_true (by kernel_rfl)) k1 bel lt1) trodAll_mk0)), rfl, bel.frame _, fun h => by cases h⟩
set_option maxHeartbeats 4000000 in
theorem closed : joinedFacts Try.pinned.checked.prog 19 Try.f19 Rows.fnExactPoolAllSpec Rows.fnExactPoolAllRow = true := by
  unfold joinedFacts
  simp only [Bool.and_eq_true]
  repeat' apply And.intro
  all_goals (as_aux_lemma => kernel_rfl)
theorem over : Rows.fnExactPoolAllRow.holds Try.pinned (OpenSpec.ofChange Rows.fnExactPoolAllSpec) :=
  OpenClaim.holds_of_wide 19 Try.f19 rfl rfl rfl rfl rfl rfl rfl ⟨rfl, rfl, rfl, rfl, rfl⟩ rfl rfl rfl rfl rfl (by kernel_rfl) Try.func19 closed
    (of_decide_eq_true (by kernel_rfl)) (by unfold Func.isWrapper; first | (rw [if_pos (by decide +kernel)]; kernel_rfl) | (rw [if_neg (by decide +kernel)]; exact ⟨rfl, rfl⟩))
    (fun os started H enc _ => lifted os started H enc)
theorem proved : Rows.FnExactPoolAllSaid := over
end Go.Proofs.Ytcobbpghipeoeaa.fnExactPoolAll
namespace Go.Proofs.Ytcobbpghipeoeaa
/-- The row, under a short name, for the claim. -/
theorem fnExactPoolAll_holds : Rows.FnExactPoolAllSaid := fnExactPoolAll.proved
end Go.Proofs.Ytcobbpghipeoeaa
