/- Contracts of Go functions, printed by a program (the kit's print.py under reprint.py) and shortened (post.py): each call comes to what the plain function of its name tells. Where that tells nothing, nothing is said. -/
import Derived.Test.YtcobbpghipeoeaaR0
import Derived.Test.YtcobbpghipeoeaaR2
import Derived.Test.YtcobbpghipeoeaaR3
namespace Go.Proofs.Ytcobbpghipeoeaa.R
open Go.RowKit Go.Proofs.YtcobbpghipeoeaaV.PrintWords Go.Proofs.YtcobbpghipeoeaaV.PrintLast Go.Proofs.YtcobbpghipeoeaaV.PrintMore
attribute [local go_sem] max2_int min2_int max_two min_two max_three min_three max_four min_four   -- for this text's walks alone
set_option linter.unusedVariables false
set_option linter.unusedSimpArgs false
theorem z14_0 {P : Prop} (h : P := by (try simp only [List.map_toArray, List.map_cons, List.map_nil]); first | done | rfl | (simp only [List.length_drop, List.length_take]; rfl)) : P := h
theorem z14_1 {P : Prop} (h : P := by repeat (first | (with_reducible first | exact HB.out | apply below_alloc | apply pw_below_drewN | apply below_drew1) | exact HB.out)) : P := h

/-! ### laws_FnExactPageSpan: function 4 -/
def laws_FnExactPageSpan.f (k : Nat) (a0 : Int) (a1 : Int) (a2 : Int) : Option (Bool) := (spec_PageSpan.f k a0 a1 a2).bind fun t135 => ((impl_PageSpan.f k a0 a1 a2).bind fun t138 => ((laws_eqPageS.f k t138 t135).bind fun t141 => (if t141 = true then ((laws_markPageS.f k t138 1).bind fun bt142 => ((laws_heldPageS.f k bt142.2 1).bind fun t144 => (if t144 < 0 then (some false) else (if t144 = bt142.1 then ((impl_PageSpan.f k a0 a1 a2).bind fun t145 => ((laws_eqPageS.f k t145 t135).bind fun t148 => (if t148 = true then ((laws_heldPageS.f k bt142.2 1).bind fun t149 => (if t149 < 0 then (some false) else (if t149 = bt142.1 then (some true) else (some false)))) else (some false)))) else (some false))))) else (some false))))
theorem laws_FnExactPageSpan.mono : ∀ a0 a1 a2 k, LeO (laws_FnExactPageSpan.f k a0 a1 a2) (laws_FnExactPageSpan.f (k + 1) a0 a1 a2) := by
 intro a0 a1 a2 k
 unfold laws_FnExactPageSpan.f
 repeat' first
   | (with_reducible exact impl_PageSpan.mono _ _ _ _)
   | (with_reducible exact laws_eqPageS.mono _ _ _)
   | (with_reducible exact laws_heldPageS.mono _ _ _)
   | (with_reducible exact laws_markPageS.mono _ _ _)
   | (with_reducible exact spec_PageSpan.mono _ _ _ _)
   | (with_reducible exact LeO.refl _)
   | (with_reducible exact LeO.none _)
   | (with_reducible refine LeO.ite ?_ ?_)
   | (with_reducible refine LeO.bind ?_ (fun _ => ?_))
   | exact impl_PageSpan.mono _ _ _ _
   | exact laws_eqPageS.mono _ _ _
   | exact laws_heldPageS.mono _ _ _
   | exact laws_markPageS.mono _ _ _
   | exact spec_PageSpan.mono _ _ _ _
   | exact LeO.none _
   | refine LeO.ite ?_ ?_
   | refine LeO.bind ?_ (fun _ => ?_)
set_option maxHeartbeats 8000000 in
set_option maxRecDepth 100000 in
theorem laws_FnExactPageSpan.calls (k : Nat) (a0 : Int) (a1 : Int) (a2 : Int) (r : Bool) (w : World) (hT : r = true) (h : laws_FnExactPageSpan.f k a0 a1 a2 = some r) :
  Calls Try.prog 4 #[.int .i64 a0, .int .i64 a1, .int .i64 a2] w fun e w' => e = .returned (.bool r) ∧ Below w.heap.size w w' := by
 have HB := Aside0.mk (Below.refl w.heap.size w)
 have H : ((spec_PageSpan.f k a0 a1 a2).bind fun t135 => ((impl_PageSpan.f k a0 a1 a2).bind fun t138 => ((laws_eqPageS.f k t138 t135).bind fun t141 => (if t141 = true then ((laws_markPageS.f k t138 1).bind fun bt142 => ((laws_heldPageS.f k bt142.2 1).bind fun t144 => (if t144 < 0 then (some false) else (if t144 = bt142.1 then ((impl_PageSpan.f k a0 a1 a2).bind fun t145 => ((laws_eqPageS.f k t145 t135).bind fun t148 => (if t148 = true then ((laws_heldPageS.f k bt142.2 1).bind fun t149 => (if t149 < 0 then (some false) else (if t149 = bt142.1 then (some true) else (some false)))) else (some false)))) else (some false))))) else (some false))))) = some r := h
 clear h
 replace H := Option.bind_eq_some_iff.mp H
 obtain ⟨t135, A40, H⟩ := H
 replace H : ((impl_PageSpan.f k a0 a1 a2).bind fun t138 => ((laws_eqPageS.f k t138 t135).bind fun t141 => (if t141 = true then ((laws_markPageS.f k t138 1).bind fun bt142 => ((laws_heldPageS.f k bt142.2 1).bind fun t144 => (if t144 < 0 then (some false) else (if t144 = bt142.1 then ((impl_PageSpan.f k a0 a1 a2).bind fun t145 => ((laws_eqPageS.f k t145 t135).bind fun t148 => (if t148 = true then ((laws_heldPageS.f k bt142.2 1).bind fun t149 => (if t149 < 0 then (some false) else (if t149 = bt142.1 then (some true) else (some false)))) else (some false)))) else (some false))))) else (some false)))) = some r := H
 have A4 := Aside0.mk A40
 clear A40
 replace H := Option.bind_eq_some_iff.mp H
 obtain ⟨t138, A50, H⟩ := H
 replace H : ((laws_eqPageS.f k t138 t135).bind fun t141 => (if t141 = true then ((laws_markPageS.f k t138 1).bind fun bt142 => ((laws_heldPageS.f k bt142.2 1).bind fun t144 => (if t144 < 0 then (some false) else (if t144 = bt142.1 then ((impl_PageSpan.f k a0 a1 a2).bind fun t145 => ((laws_eqPageS.f k t145 t135).bind fun t148 => (if t148 = true then ((laws_heldPageS.f k bt142.2 1).bind fun t149 => (if t149 < 0 then (some false) else (if t149 = bt142.1 then (some true) else (some false)))) else (some false)))) else (some false))))) else (some false))) = some r := H
 have A5 := Aside0.mk A50
 clear A50
 replace H := Option.bind_eq_some_iff.mp H
 obtain ⟨t141, A60, H⟩ := H
 replace H : (if t141 = true then ((laws_markPageS.f k t138 1).bind fun bt142 => ((laws_heldPageS.f k bt142.2 1).bind fun t144 => (if t144 < 0 then (some false) else (if t144 = bt142.1 then ((impl_PageSpan.f k a0 a1 a2).bind fun t145 => ((laws_eqPageS.f k t145 t135).bind fun t148 => (if t148 = true then ((laws_heldPageS.f k bt142.2 1).bind fun t149 => (if t149 < 0 then (some false) else (if t149 = bt142.1 then (some true) else (some false)))) else (some false)))) else (some false))))) else (some false)) = some r := H
 have A6 := Aside0.mk A60
 clear A60
 by_cases c7 : t141 = true
 ·subst c7
  have H1 : ((laws_markPageS.f k t138 1).bind fun bt142 => ((laws_heldPageS.f k bt142.2 1).bind fun t144 => (if t144 < 0 then (some false) else (if t144 = bt142.1 then ((impl_PageSpan.f k a0 a1 a2).bind fun t145 => ((laws_eqPageS.f k t145 t135).bind fun t148 => (if t148 = true then ((laws_heldPageS.f k bt142.2 1).bind fun t149 => (if t149 < 0 then (some false) else (if t149 = bt142.1 then (some true) else (some false)))) else (some false)))) else (some false))))) = some r := by rw [if_pos rfl] at H; exact H
  clear H
  have H := H1
  clear H1
  replace H := Option.bind_eq_some_iff.mp H
  obtain ⟨⟨t142, t143⟩, A80, H⟩ := H
  replace H : ((laws_heldPageS.f k t143 1).bind fun t144 => (if t144 < 0 then (some false) else (if t144 = t142 then ((impl_PageSpan.f k a0 a1 a2).bind fun t145 => ((laws_eqPageS.f k t145 t135).bind fun t148 => (if t148 = true then ((laws_heldPageS.f k t143 1).bind fun t149 => (if t149 < 0 then (some false) else (if t149 = t142 then (some true) else (some false)))) else (some false)))) else (some false)))) = some r := H
  have A8 := Aside0.mk A80
  clear A80
  replace H := Option.bind_eq_some_iff.mp H
  obtain ⟨t144, A90, H⟩ := H
  replace H : (if t144 < 0 then (some false) else (if t144 = t142 then ((impl_PageSpan.f k a0 a1 a2).bind fun t145 => ((laws_eqPageS.f k t145 t135).bind fun t148 => (if t148 = true then ((laws_heldPageS.f k t143 1).bind fun t149 => (if t149 < 0 then (some false) else (if t149 = t142 then (some true) else (some false)))) else (some false)))) else (some false))) = some r := H
  have A9 := Aside0.mk A90
  clear A90
  by_cases c10 : t144 < 0
  ·rw [if_pos c10] at H
   have c10b0 : decide (t144 < 0) = true := decide_eq_true c10
   clear c10
   exact absurd ((Option.some.inj H).trans hT) (by simp)
  ·rw [if_neg c10] at H
   have c10b0 : decide (t144 < 0) = false := decide_eq_false c10
   clear c10
   by_cases c11 : t144 = t142
   ·rw [if_pos c11] at H
    have c11b0 : (t144 == t142) = true := beq_iff_eq.mpr c11
    have c11b1 : (t144 != t142) = false := bne_eq_false_iff_eq.mpr c11
    clear c11
    replace H := Option.bind_eq_some_iff.mp H
    obtain ⟨t145, A120, H⟩ := H
    replace H : ((laws_eqPageS.f k t145 t135).bind fun t148 => (if t148 = true then ((laws_heldPageS.f k t143 1).bind fun t149 => (if t149 < 0 then (some false) else (if t149 = t142 then (some true) else (some false)))) else (some false))) = some r := H
    have A12 := Aside0.mk A120
    clear A120
    replace H := Option.bind_eq_some_iff.mp H
    obtain ⟨t148, A130, H⟩ := H
    replace H : (if t148 = true then ((laws_heldPageS.f k t143 1).bind fun t149 => (if t149 < 0 then (some false) else (if t149 = t142 then (some true) else (some false)))) else (some false)) = some r := H
    have A13 := Aside0.mk A130
    clear A130
    by_cases c14 : t148 = true
    ·subst c14
     have H1 : ((laws_heldPageS.f k t143 1).bind fun t149 => (if t149 < 0 then (some false) else (if t149 = t142 then (some true) else (some false)))) = some r := by rw [if_pos rfl] at H; exact H
     clear H
     have H := H1
     clear H1
     replace H := Option.bind_eq_some_iff.mp H
     obtain ⟨t149, A150, H⟩ := H
     replace H : (if t149 < 0 then (some false) else (if t149 = t142 then (some true) else (some false))) = some r := H
     have A15 := Aside0.mk A150
     clear A150
     by_cases c16 : t149 < 0
     ·rw [if_pos c16] at H
      have c16b0 : decide (t149 < 0) = true := decide_eq_true c16
      clear c16
      exact absurd ((Option.some.inj H).trans hT) (by simp)
     ·rw [if_neg c16] at H
      have c16b0 : decide (t149 < 0) = false := decide_eq_false c16
      clear c16
      by_cases c17 : t149 = t142
      ·rw [if_pos c17] at H
       have c17b0 : (t149 == t142) = true := beq_iff_eq.mpr c17
       have c17b1 : (t149 != t142) = false := bne_eq_false_iff_eq.mpr c17
       clear c17
       obtain rfl := Option.some.inj H
       go_enter Try.func4, Try.ntmps4
       go_wp2_with (first | ((with_reducible refine gate_callee (f := 23) rfl ?_); refine goesL_ (some 15) rfl rfl Try.func23 (by kernel_rfl) rfl #[.int .i64 a0, .int .i64 a1, .int .i64 a2] rfl (z14_0) ?_; (with_reducible refine (spec_PageSpan.calls k a0 a1 a2 t135 _ A4.out).mono ?_); rintro e w18 ⟨v136, rfl, ho0, hb⟩; refine ⟨_, rfl, ?_⟩; have n0_ := Aside0.mk (Kd.R_lower ho0 (below_size (z14_1))); have n1_ := Aside0.mk (below_step (z14_1) hb); clear HB; have HO137 := n0_; have HB := n1_; clear n0_ n1_; (try clear hb); (try clear hb2); (try clear hk); (try clear hi); (try clear ho0)) | ((with_reducible refine gate_callee (f := 24) rfl ?_); refine goesL_ (some 19) rfl rfl Try.func24 (by kernel_rfl) rfl #[.int .i64 a0, .int .i64 a1, .int .i64 a2] rfl (z14_0) ?_; (with_reducible refine (impl_PageSpan.calls k a0 a1 a2 t138 _ A5.out).mono ?_); rintro e w19 ⟨v139, rfl, ho0, hb⟩; refine ⟨_, rfl, ?_⟩; have n0_ := Aside0.mk (Kd.R_elder' (by (with_reducible repeat (first | apply Kd.R_alloc | apply Kd.R_drewN | apply Kd.R_drew)); exact HO137.out) (Kd.R_base ho0) hb); have n1_ := Aside0.mk (Kd.R_lower (Kd.R_new' ho0 (Kd.R_lt (by (with_reducible repeat (first | apply Kd.R_alloc | apply Kd.R_drewN | apply Kd.R_drew)); exact HO137.out))) (below_size (z14_1))); have n2_ := Aside0.mk (below_step (z14_1) hb); clear HO137; clear HB; have HO137 := n0_; have HO140 := n1_; have HB := n2_; clear n0_ n1_ n2_; (try clear hb); (try clear hb2); (try clear hk); (try clear hi); (try clear ho0); obtain ⟨Ao20, co20, eo20⟩ := Kd.R_slice HO140.out; subst eo20; obtain ⟨Ao21, co21, eo21⟩ := Kd.R_slice HO137.out; subst eo21) | ((with_reducible refine gate_callee (f := 25) rfl ?_); refine goesL_ (some 22) rfl rfl Try.func25 (by kernel_rfl) rfl #[.slice Ao20 t138.length co20, .slice Ao21 t135.length co21] rfl (z14_0) ?_; (with_reducible refine (laws_eqPageS.calls k _ _ t138 _ _ t135 true _ ?side1 ?side2 ?side3 ?side4 A6.out).mono ?_); (case side1 => repeat (first | exact (Kd.R_reads' HO140.out).2.2 | (with_reducible refine Kd.C_alloc ?_ _) | (with_reducible refine Kd.C_drewN ?_ _) | (with_reducible refine Kd.C_drew ?_))); (case side2 => exact (Kd.R_reads' HO140.out).2.1); (case side3 => repeat (first | exact (Kd.R_reads' HO137.out).2.2 | (with_reducible refine Kd.C_alloc ?_ _) | (with_reducible refine Kd.C_drewN ?_ _) | (with_reducible refine Kd.C_drew ?_))); (case side4 => exact (Kd.R_reads' HO137.out).2.1); rintro e w22 ⟨rfl, hb⟩; refine ⟨_, rfl, ?_⟩; have n0_ := Aside0.mk (Kd.R_below (by (with_reducible repeat (first | apply Kd.R_alloc | apply Kd.R_drewN | apply Kd.R_drew)); exact HO137.out) hb); have n1_ := Aside0.mk (Kd.R_below (by (with_reducible repeat (first | apply Kd.R_alloc | apply Kd.R_drewN | apply Kd.R_drew)); exact HO140.out) hb); have n2_ := Aside0.mk (below_step (z14_1) hb); clear HO137; clear HO140; clear HB; have HO137 := n0_; have HO140 := n1_; have HB := n2_; clear n0_ n1_ n2_; (try clear hb); (try clear hb2); (try clear hk); (try clear hi)) | ((with_reducible refine gate_callee (f := 26) rfl ?_); refine goesL_ (some 26) rfl rfl Try.func26 (by kernel_rfl) rfl #[.slice Ao20 t138.length co20, .int .i64 1] rfl (z14_0) ?_; (with_reducible refine (laws_markPageS.calls k (fun k_ => some k_ = (.slice Ao20 t138.length co20 : Value).ownBlock) (.slice Ao20 t138.length co20) t138 1 t142 t143 w _ ?side1 ?side2 A8.out).mono ?_); (case side1 => repeat (first | (with_reducible first | exact HB.out | apply below_alloc | apply pw_below_drewN | apply below_drew1) | exact HB.out)); (case side2 => exact Kd.R_tight rfl HO140.out); rintro e w23 ⟨rfl, hy0, hb, hkp⟩; refine ⟨_, rfl, ?_⟩; have n0_ := Aside0.mk (Kd.R_mono (ok' := fun k_ => some k_ ≠ (.slice Ao20 t138.length co20 : Value).ownBlock) (Kd.R_keptB (HO137.out) hkp (fun k_ hk_ hs_ => (hk_.2) hs_)) (fun k_ hk_ => hk_.1.2)); have n1_ := Aside0.mk (Kd.R_reok rfl hy0 (fun k_ e_ => HO140.out.1 k_ e_)); have n2_ := Aside0.mk (hb); clear HO137; clear HO140; clear HB; have HO137 := n0_; have HO140 := n1_; have HB := n2_; clear n0_ n1_ n2_; (try clear hb); (try clear hkp); (try clear hy0)) | ((with_reducible refine gate_callee (f := 27) rfl ?_); refine goesL_ (some 29) rfl rfl Try.func27 (by kernel_rfl) rfl #[.slice Ao20 t143.length co20, .int .i64 1] rfl (by (try simp only [List.map_toArray, List.map_cons, List.map_nil]); first | done | (rw [show t143.length = t138.length from (Kd.R_reads' HO140.out).1.symm] <;> rfl) | rfl | (simp only [List.length_drop, List.length_take]; rfl)) ?_; (with_reducible refine (laws_heldPageS.calls k _ _ t143 1 t144 _ ?side1 ?side2 A9.out).mono ?_); (case side1 => repeat (first | exact (Kd.R_reads' HO140.out).2.2 | (with_reducible refine Kd.C_alloc ?_ _) | (with_reducible refine Kd.C_drewN ?_ _) | (with_reducible refine Kd.C_drew ?_))); (case side2 => rw [show t143.length = t138.length from (Kd.R_reads' HO140.out).1.symm]; exact (Kd.R_reads' HO140.out).2.1); rintro e w' ⟨rfl, ⟨nd, rfl⟩⟩; refine ⟨_, rfl, ?_⟩) | ((with_reducible refine gate_callee (f := 24) rfl ?_); refine goesL_ (some 38) rfl rfl Try.func24 (by kernel_rfl) rfl #[.int .i64 a0, .int .i64 a1, .int .i64 a2] rfl (z14_0) ?_; (with_reducible refine (impl_PageSpan.calls k a0 a1 a2 t145 _ A12.out).mono ?_); rintro e w24 ⟨v146, rfl, ho0, hb⟩; refine ⟨_, rfl, ?_⟩; have n0_ := Aside0.mk (Kd.R_elder' (by (with_reducible repeat (first | apply Kd.R_alloc | apply Kd.R_drewN | apply Kd.R_drew)); exact HO137.out) (Kd.R_base ho0) hb); have n1_ := Aside0.mk (Kd.R_elder' (by (with_reducible repeat (first | apply Kd.R_alloc | apply Kd.R_drewN | apply Kd.R_drew)); exact HO140.out) (Kd.R_base ho0) hb); have n2_ := Aside0.mk (Kd.R_lower (Kd.R_new' (Kd.R_new' ho0 (Kd.R_lt (by (with_reducible repeat (first | apply Kd.R_alloc | apply Kd.R_drewN | apply Kd.R_drew)); exact HO137.out))) (Kd.R_lt (by (with_reducible repeat (first | apply Kd.R_alloc | apply Kd.R_drewN | apply Kd.R_drew)); exact HO140.out))) (below_size (z14_1))); have n3_ := Aside0.mk (below_step (z14_1) hb); clear HO137; clear HO140; clear HB; have HO137 := n0_; have HO140 := n1_; have HO147 := n2_; have HB := n3_; clear n0_ n1_ n2_ n3_; (try clear hb); (try clear hb2); (try clear hk); (try clear hi); (try clear ho0); obtain ⟨Ao25, co25, eo25⟩ := Kd.R_slice HO147.out; subst eo25) | ((with_reducible refine gate_callee (f := 25) rfl ?_); refine goesL_ (some 41) rfl rfl Try.func25 (by kernel_rfl) rfl #[.slice Ao25 t145.length co25, .slice Ao21 t135.length co21] rfl (z14_0) ?_; (with_reducible refine (laws_eqPageS.calls k _ _ t145 _ _ t135 true _ ?side1 ?side2 ?side3 ?side4 A13.out).mono ?_); (case side1 => repeat (first | exact (Kd.R_reads' HO147.out).2.2 | (with_reducible refine Kd.C_alloc ?_ _) | (with_reducible refine Kd.C_drewN ?_ _) | (with_reducible refine Kd.C_drew ?_))); (case side2 => exact (Kd.R_reads' HO147.out).2.1); (case side3 => repeat (first | exact (Kd.R_reads' HO137.out).2.2 | (with_reducible refine Kd.C_alloc ?_ _) | (with_reducible refine Kd.C_drewN ?_ _) | (with_reducible refine Kd.C_drew ?_))); (case side4 => exact (Kd.R_reads' HO137.out).2.1); rintro e w26 ⟨rfl, hb⟩; refine ⟨_, rfl, ?_⟩; have n0_ := Aside0.mk (Kd.R_below (by (with_reducible repeat (first | apply Kd.R_alloc | apply Kd.R_drewN | apply Kd.R_drew)); exact HO137.out) hb); have n1_ := Aside0.mk (Kd.R_below (by (with_reducible repeat (first | apply Kd.R_alloc | apply Kd.R_drewN | apply Kd.R_drew)); exact HO140.out) hb); have n2_ := Aside0.mk (Kd.R_below (by (with_reducible repeat (first | apply Kd.R_alloc | apply Kd.R_drewN | apply Kd.R_drew)); exact HO147.out) hb); have n3_ := Aside0.mk (below_step (z14_1) hb); clear HO137; clear HO140; clear HO147; clear HB; have HO137 := n0_; have HO140 := n1_; have HO147 := n2_; have HB := n3_; clear n0_ n1_ n2_ n3_; (try clear hb); (try clear hb2); (try clear hk); (try clear hi)) | ((with_reducible refine gate_callee (f := 27) rfl ?_); refine goesL_ (some 45) rfl rfl Try.func27 (by kernel_rfl) rfl #[.slice Ao20 t143.length co20, .int .i64 1] rfl (by (try simp only [List.map_toArray, List.map_cons, List.map_nil]); first | done | (rw [show t143.length = t138.length from (Kd.R_reads' HO140.out).1.symm] <;> rfl) | rfl | (simp only [List.length_drop, List.length_take]; rfl)) ?_; (with_reducible refine (laws_heldPageS.calls k _ _ t143 1 t149 _ ?side1 ?side2 A15.out).mono ?_); (case side1 => repeat (first | exact (Kd.R_reads' HO140.out).2.2 | (with_reducible refine Kd.C_alloc ?_ _) | (with_reducible refine Kd.C_drewN ?_ _) | (with_reducible refine Kd.C_drew ?_))); (case side2 => rw [show t143.length = t138.length from (Kd.R_reads' HO140.out).1.symm]; exact (Kd.R_reads' HO140.out).2.1); rintro e w' ⟨rfl, ⟨nd, rfl⟩⟩; refine ⟨_, rfl, ?_⟩))
       go_ret
       exact ⟨by first | rfl | (simp [errW_none, errW_some] <;> rfl) | (simp [*, errW_none, errW_some] <;> rfl), by repeat (first | (with_reducible first | exact HB.out | apply below_alloc | apply pw_below_drewN | apply below_drew1) | exact HB.out)⟩
      ·rw [if_neg c17] at H
       have c17b0 : (t149 == t142) = false := beq_eq_false_iff_ne.mpr c17
       have c17b1 : (t149 != t142) = true := bne_iff_ne.mpr c17
       exact absurd ((Option.some.inj H).trans hT) (by simp)
    ·replace c14 := Bool.eq_false_iff.mpr c14
     subst c14
     have H1 : (some false) = some r := by rw [if_neg (show ¬ (false = true) by decide)] at H; exact H
     clear H
     have H := H1
     clear H1
     exact absurd ((Option.some.inj H).trans hT) (by simp)
   ·rw [if_neg c11] at H
    have c11b0 : (t144 == t142) = false := beq_eq_false_iff_ne.mpr c11
    have c11b1 : (t144 != t142) = true := bne_iff_ne.mpr c11
    exact absurd ((Option.some.inj H).trans hT) (by simp)
 ·replace c7 := Bool.eq_false_iff.mpr c7
  subst c7
  have H1 : (some false) = some r := by rw [if_neg (show ¬ (false = true) by decide)] at H; exact H
  clear H
  have H := H1
  clear H1
  exact absurd ((Option.some.inj H).trans hT) (by simp)

/-- THE ONE PURE STATEMENT of laws_FnExactPageSpan: yours. -/
def laws_FnExactPageSpan.Pure : Prop := ∀ (a0 : Int) (a1 : Int) (a2 : Int), (Lit.int .i64 a0).wf = true → (Lit.int .i64 a1).wf = true → (Lit.int .i64 a2).wf = true → ∃ k, laws_FnExactPageSpan.f k a0 a1 a2 = some true
theorem laws_FnExactPageSpan.walk (P : laws_FnExactPageSpan.Pure) (a0 : Int) (a1 : Int) (a2 : Int) (w : World) (w0 : (Lit.int .i64 a0).wf = true) (w1 : (Lit.int .i64 a1).wf = true) (w2 : (Lit.int .i64 a2).wf = true) :
  Calls Try.prog 4 #[.int .i64 a0, .int .i64 a1, .int .i64 a2] w fun e w' => e = .returned (.bool true) ∧ Below w.heap.size w w' := by
 obtain ⟨k, h⟩ := P a0 a1 a2 w0 w1 w2
 refine (laws_FnExactPageSpan.calls k a0 a1 a2 true w rfl h).mono ?_
 rintro e w' ⟨rfl, hd⟩
 exact ⟨rfl, hd⟩

end Go.Proofs.Ytcobbpghipeoeaa.R
