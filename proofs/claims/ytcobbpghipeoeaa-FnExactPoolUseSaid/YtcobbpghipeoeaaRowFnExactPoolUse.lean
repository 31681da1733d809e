/- The law FnExactPoolUse, out of its plain law and its walk, as the statement says it. -/
import Derived.Test.YtcobbpghipeoeaaRows
import Derived.Test.YtcobbpghipeoeaaR26
import Derived.Test.YtcobbpghipeoeaaQE
import Derived.Test.YtcobbpghipeoeaaQX
import Derived.Test.YtcobbpghipeoeaaV
import Derived.WalkKit
import Derived.ProofKit
import Derived.OpenShut
import Derived.ShutString
import Derived.ChangeOld
import Derived.Below
import Derived.SizedLaws
import Derived.Lib.SmallJoins
namespace Go.Proofs.Ytcobbpghipeoeaa.fnExactPoolUse
open Go.ChangeShapes Go.WideShapes Go.ChangeAt Go.RowKit Go.Joins
set_option linter.unusedVariables false
theorem own : ownKnob Try.prog.godebug = none := by kernel_rfl
theorem laidOut : laidOutB Try.prog = true := by kernel_rfl
open Go.Proofs.Ytcobbpghipeoeaa.R Go.Proofs.YtcobbpghipeoeaaV.PrintWords Go.Proofs.YtcobbpghipeoeaaV.PrintLast in
theorem plain (a : Int) (l : List S23) (b c : Int) (hl : l.length ≤ 9223372036854775807) : ∃ k, laws_FnExactPoolUse.f k a l b c = some true := by
  refine ⟨5000000, ?_⟩
  unfold laws_FnExactPoolUse.f
  rw [szPool_ev a l 1048576 (by omega) (by omega) hl, Option.bind_some]
  by_cases h0 : 1048576 - (l.length : Int) < 0
  · rw [if_pos h0, if_pos (by decide)]
  have hl2 : (ofPages l).length ≤ 1048576 := by rw [ofPages_len]; omega
  obtain ⟨r1, r2, r3, hr, hr2⟩ : ∃ r1 r2 r3, impl_PoolUse.f a (ofPages l) b c = some (r1, r2, r3) ∧ r2.length ≤ 24 := by
    unfold impl_PoolUse.f
    split
    · rename_i h
      rw [Bool.and_eq_true] at h
      have := poolOk_small (poolOk_use h.1 h.2)
      exact ⟨_, _, _, rfl, by omega⟩
    · exact ⟨_, _, _, rfl, by simp⟩
  rw [if_neg h0, if_neg h0, toPool_ev a l (by omega) _ (by omega), Option.bind_some]
  unfold laws_toPage.f
  rw [Option.bind_some]
  dsimp only
  rw [specPoolUse_ev _ _ _ _ _ (by omega), hr, Option.bind_some, Option.bind_some, Option.bind_some]
  dsimp only
  rw [hr, Option.bind_some]
  dsimp only
  rw [eqPool_ev _ _ _ _ (by omega) _ (by omega), Option.bind_some, if_pos (by simp)]
  simp only [laws_FnExactPoolUse.j0]
  rw [if_neg (by simp), toPool_ev a l (by omega) _ (by omega), Option.bind_some]
  dsimp only
  rw [eqPool_ev _ _ _ _ (by omega) _ (by omega), Option.bind_some, if_pos (by simp), markPool_ev _ _ 1 (by omega) (by omega) _ (by omega), Option.bind_some]
  dsimp only
  rw [if_neg (by omega), eqPool_ev _ _ _ _ (by omega) _ (by omega), Option.bind_some, if_pos (by simp)]
  simp only [laws_FnExactPoolUse.j1]
  rw [if_neg (by simp), markPool_ev _ _ 1 (by omega) (by omega) _ (by omega), Option.bind_some]
  dsimp only
  rw [heldPool_ev _ 1 _ (by omega) (by omega) _ (by omega), Option.bind_some, if_neg (by omega), if_pos rfl, toPool_ev a l (by omega) _ (by omega), Option.bind_some]
  unfold laws_toPage.f
  rw [Option.bind_some]
  dsimp only
  rw [hr, Option.bind_some]
  dsimp only
  rw [eqPool_ev _ _ _ _ (by omega) _ (by omega), Option.bind_some, if_pos (by simp)]
  simp only [laws_FnExactPoolUse.j2]
  rw [if_neg (by simp), heldPool_ev _ 1 _ (by omega) (by omega) _ (by omega), Option.bind_some, if_neg (by omega), if_pos rfl]
set_option maxRecDepth 100000 in
theorem lifted (os : Os) (started : os.Started) (H : Type) (enc : TypeId × Value → H) :
    ReturnsInHanded {} Try.checked os 16 .any (Rows.fnExactPoolUseSpec.pre6 enc Try.prog Try.f16 Rows.fnExactPoolUseRow.domain false) (Rows.fnExactPoolUseSpec.post enc Try.prog Try.f16 false true false false) := by
  refine returnsInHanded_of_change_sized (C := Try.checked) own started (by kernel_rfl) Try.func16
    (ChangeSpec.witness6 (enc := enc) (C := Try.checked) false ⟨#[], #[.agg #[.int .i64 0, .slice none 0 0], .agg #[.int .i64 0, .int .i64 0]], []⟩ 8 (by kernel_rfl) (by kernel_rfl) (by kernel_rfl) (by kernel_rfl)) ?_
  intro W base args ds gs before hval0 hW hcnd hsz0 _
  have hval : ∀ (j : Nat) t v, Try.f16.params[j]? = some t → args[j]? = some v → Value.okWide Try.prog W .any base t v := hval0
  have hW' := hW
  obtain ⟨p, q, hA0, hV, rfl, hfz, hnd⟩ := hW
  have hA : DataW.TrodAll enc Try.prog W 0 (fun _ => true) true Try.f16.params.toList args.toList ds p := hA0
  rw [Try.params16] at hA hval
  obtain ⟨v0, vs0, d0, ds0, p0, q0, hargs, rfl, rfl, h0, r0⟩ := trodAll_cons hA
  obtain ⟨v1, vs1, d1, ds1, p1, q1, hargs1, rfl, rfl, h1, r1⟩ := trodAll_cons r0
  obtain ⟨rfl, rfl, rfl⟩ := trodAll_nil r1
  obtain rfl : args = #[v0, v1] := by cases args; simp_all
  obtain ⟨rfl, rfl⟩ := trodVars_none hV
  have k0 := h0
  have lt0 : ∀ x ∈ p0, x.block < W.heap.size := by obtain ⟨m, hm⟩ := k0; exact DataW.trod_lt m _ _ _ hm
  have k1 := h1
  have lt1 : ∀ x ∈ p1, x.block < W.heap.size := by obtain ⟨m, hm⟩ := k1; exact DataW.trod_lt m _ _ _ hm
  obtain ⟨c00, c01, y00, y01, n0, rfl, _, _, t00, t01⟩ := open_agg2 Try.underlying42 (by kernel_rfl) (by kernel_rfl) (hval 0 42 v0 rfl rfl) h0
  obtain ⟨a0, ha0, _, _⟩ := DataW.trod_int (k := .i64) (by kernel_rfl) t00
  simp only [List.cons.injEq, and_true] at ha0
  subst ha0
  obtain ⟨A0, cap0, l0, rfl, hr0, hc0⟩ := R.pages_open (by kernel_rfl) t01
  obtain ⟨c10, c11, y10, y11, n1, rfl, _, _, t10, t11⟩ := open_agg2 Try.underlying23 (by kernel_rfl) (by kernel_rfl) (hval 1 23 v1 rfl rfl) h1
  obtain ⟨a1, ha1, _, _⟩ := DataW.trod_int (k := .i64) (by kernel_rfl) t10
  simp only [List.cons.injEq, and_true] at ha1
  subst ha1
  obtain ⟨b1, hb1, _, _⟩ := DataW.trod_int (k := .i64) (by kernel_rfl) t11
  simp only [List.cons.injEq, and_true] at hb1
  subst hb1
  obtain ⟨k, h⟩ := plain a0 l0 a1 b1 hr0.2.1
  clear hA0 hval0 hsz0
  refine (R.laws_FnExactPoolUse.calls k a0 A0 cap0 l0 a1 b1 true W hr0 hc0 rfl h).mono fun e W' ⟨he, bel⟩ => ?_
  subst he
  exact ⟨_, rfl, _, _, _, [], _, [], hW', trodAll_mk1 (shut_bool Try.underlying4 _), (trodAll_cons_mk (Below.trod laidOut (by kernel_rfl) (of_decide_eq_true (by kernel_rfl)) k0 bel lt0) (trodAll_cons_mk (Below.trod laidOut (by kernel_rfl) (of_decide_eq_true (by kernel_rfl)) k1 bel lt1) trodAll_mk0)), rfl, bel.frame _, fun h => by cases h⟩
set_option maxHeartbeats 4000000 in
theorem closed : joinedFacts Try.pinned.checked.prog 16 Try.f16 Rows.fnExactPoolUseSpec Rows.fnExactPoolUseRow = true := by
  unfold joinedFacts
  simp only [Bool.and_eq_true]
  repeat' apply And.intro
  all_goals (as_aux_lemma => kernel_rfl)
theorem over : Rows.fnExactPoolUseRow.holds Try.pinned (OpenSpec.ofChange Rows.fnExactPoolUseSpec) :=
  OpenClaim.holds_of_wide 16 Try.f16 rfl rfl rfl rfl rfl rfl rfl ⟨rfl, rfl, rfl, rfl, rfl⟩ rfl rfl rfl rfl rfl (by kernel_rfl) Try.func16 closed
    (of_decide_eq_true (by kernel_rfl)) (by unfold Func.isWrapper; first | (rw [if_pos (by decide +kernel)]; kernel_rfl) | (rw [if_neg (by decide +kernel)]; exact ⟨rfl, rfl⟩))
    (fun os started H enc _ => lifted os started H enc)
theorem proved : Rows.FnExactPoolUseSaid := over
end Go.Proofs.Ytcobbpghipeoeaa.fnExactPoolUse
namespace Go.Proofs.Ytcobbpghipeoeaa
/-- The row, under a short name, for the claim. -/
theorem fnExactPoolUse_holds : Rows.FnExactPoolUseSaid := fnExactPoolUse.proved
end Go.Proofs.Ytcobbpghipeoeaa
