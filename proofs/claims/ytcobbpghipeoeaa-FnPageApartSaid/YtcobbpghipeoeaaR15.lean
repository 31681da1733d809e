/- Contracts of Go functions, printed by a program (the kit's print.py under reprint.py) and shortened (post.py): each call comes to what the plain function of its name tells. Where that tells nothing, nothing is said. -/
import Derived.Test.YtcobbpghipeoeaaR0
import Derived.Test.YtcobbpghipeoeaaR1
import Derived.Test.YtcobbpghipeoeaaR2
import Derived.Test.YtcobbpghipeoeaaR4
namespace Go.Proofs.Ytcobbpghipeoeaa.R
open Go.RowKit Go.Proofs.YtcobbpghipeoeaaV.PrintWords Go.Proofs.YtcobbpghipeoeaaV.PrintLast Go.Proofs.YtcobbpghipeoeaaV.PrintMore
attribute [local go_sem] max2_int min2_int max_two min_two max_three min_three max_four min_four   -- for this text's walks alone
set_option linter.unusedVariables false
set_option linter.unusedSimpArgs false
theorem z15_0 {P : Prop} (h : P := by repeat (first | (with_reducible first | exact HB.out | apply below_alloc | apply pw_below_drewN | apply below_drew1) | exact HB.out)) : P := h
theorem z15_1 {P : Prop} (h : P := by first | (with_reducible assumption) | assumption) : P := h
theorem z15_2 {P : Prop} (h : P := by first | rfl | (simp; done) | (simp [*]; done)) : P := h

attribute [local go_sem high] eqA25
/-! ### laws_FnPageApart: function 5 -/
mutual
def laws_FnPageApart.j0 : Nat → List Int → List Int → Bool → Option (Bool)
 | 0, _, _, _ => none
 | k + 1, x0, x1, x21 => if x21 = true then (some true) else ((spec_DrawPageSpan.f k x0).bind fun bt185 => ((impl_PageSpan.f k bt185.1 bt185.2.1 bt185.2.2).bind fun t188 => ((spec_PageSpan.f k bt185.1 bt185.2.1 bt185.2.2).bind fun t191 => ((laws_wpPages.f k t188 t191).bind fun t194 => (if t194 = true then (if (t188.length : Int) = 0 then (laws_FnPageApart.j1 k x1 bt185.1 bt185.2.1 bt185.2.2 t188 true) else (laws_FnPageApart.j1 k x1 bt185.1 bt185.2.1 bt185.2.2 t188 (decide ((wrap64 (bt185.2.2 + (x1.length : Int))) > 8000)))) else (laws_FnPageApart.j1 k x1 bt185.1 bt185.2.1 bt185.2.2 t188 true))))))
def laws_FnPageApart.j1 : Nat → List Int → Int → Int → Int → List (S25) → Bool → Option (Bool)
 | 0, _, _, _, _, _, _ => none
 | k + 1, x1, x5, x6, x7, x8, x50 => if x50 = true then ((spec_PageSpan.f k x5 x6 x7).bind fun t195 => ((laws_wpPages.f k x8 t195).bind fun t198 => (some t198))) else ((impl_PageSpan.f k x5 x7 (wrap64 ((wrap64 (x7 + 1)) + ((x1.length : Int) % 20)))).bind fun t199 => ((impl_PageSpan.f k x5 x6 (wrap64 (x7 + ((x1.length : Int) % 20)))).bind fun t202 => (laws_FnPageApart.l0 k x7 x8 t199 t202 0 0)))
def laws_FnPageApart.l0 : Nat → Int → List (S25) → List (S25) → List (S25) → Int → Int → Option (Bool)
 | 0, _, _, _, _, _, _ => none
 | k + 1, x7, x8, x9, x10, x11, x12 => if x12 < (x8.length : Int) then (laws_FnPageApart.l1 k x7 x8 x9 x10 x11 x12 0) else (if x11 ≤ 1 then (if (Int.tmod x7 8) = 0 then (if ((x11 == 1) == false) = true then (if (x10.length : Int) ≥ (x8.length : Int) then (if 0 ≤ (x8.length : Int) then (if (x8.length : Int) ≤ (x10.length : Int) then ((laws_wpPages.f k (x10.take ((x8.length : Int) : Int).toNat) x8).bind fun t209 => (some t209)) else (none)) else (none)) else (some false)) else (some false)) else (if ((x11 == 1) == (decide ((x9.length : Int) > 0))) = true then (if (x10.length : Int) ≥ (x8.length : Int) then (if 0 ≤ (x8.length : Int) then (if (x8.length : Int) ≤ (x10.length : Int) then ((laws_wpPages.f k (x10.take ((x8.length : Int) : Int).toNat) x8).bind fun t214 => (some t214)) else (none)) else (none)) else (some false)) else (some false))) else (some false))
def laws_FnPageApart.l1 : Nat → Int → List (S25) → List (S25) → List (S25) → Int → Int → Int → Option (Bool)
 | 0, _, _, _, _, _, _, _ => none
 | k + 1, x7, x8, x9, x10, x11, x12, x13 => if x13 < (x9.length : Int) then (if 0 ≤ x12 then (if x12 < (x8.length : Int) then (if 0 ≤ x13 then (if (((rd_T25 x8 x12).f0) == ((rd_T25 x9 x13).f0) && (((rd_T25 x8 x12).f1) == ((rd_T25 x9 x13).f1))) = true then (laws_FnPageApart.l1 k x7 x8 x9 x10 (wrap64 (x11 + 1)) x12 (wrap64 (x13 + 1))) else (laws_FnPageApart.l1 k x7 x8 x9 x10 x11 x12 (wrap64 (x13 + 1)))) else (none)) else (none)) else (none)) else (laws_FnPageApart.l0 k x7 x8 x9 x10 x11 (wrap64 (x12 + 1)))
end
def laws_FnPageApart.f (k : Nat) (l0 : List Int) (l1 : List Int) : Option (Bool) := if (l0.length : Int) > 1048576 then (laws_FnPageApart.j0 k l0 l1 true) else (laws_FnPageApart.j0 k l0 l1 (decide ((l1.length : Int) > 1048576)))
theorem laws_FnPageApart.mono_l : ∀ k, (∀ y0 y1 y2, LeO (laws_FnPageApart.j0 k y0 y1 y2) (laws_FnPageApart.j0 (k + 1) y0 y1 y2)) ∧ (∀ y0 y1 y2 y3 y4 y5, LeO (laws_FnPageApart.j1 k y0 y1 y2 y3 y4 y5) (laws_FnPageApart.j1 (k + 1) y0 y1 y2 y3 y4 y5)) ∧ (∀ y0 y1 y2 y3 y4 y5, LeO (laws_FnPageApart.l0 k y0 y1 y2 y3 y4 y5) (laws_FnPageApart.l0 (k + 1) y0 y1 y2 y3 y4 y5)) ∧ (∀ y0 y1 y2 y3 y4 y5 y6, LeO (laws_FnPageApart.l1 k y0 y1 y2 y3 y4 y5 y6) (laws_FnPageApart.l1 (k + 1) y0 y1 y2 y3 y4 y5 y6))
 | 0 => ⟨fun _ _ _ r h => by simp [laws_FnPageApart.j0] at h, fun _ _ _ _ _ _ r h => by simp [laws_FnPageApart.j1] at h, fun _ _ _ _ _ _ r h => by simp [laws_FnPageApart.l0] at h, fun _ _ _ _ _ _ _ r h => by simp [laws_FnPageApart.l1] at h⟩
 | k + 1 => by
  obtain ⟨ih0, ih1, ih2, ih3⟩ := laws_FnPageApart.mono_l k
  refine ⟨?_, ?_, ?_, ?_⟩
  ·intro y0 y1 y2
   unfold laws_FnPageApart.j0
   repeat' first
   | (with_reducible exact ih0 _ _ _)
   | (with_reducible exact ih1 _ _ _ _ _ _)
   | (with_reducible exact ih2 _ _ _ _ _ _)
   | (with_reducible exact ih3 _ _ _ _ _ _ _)
   | (with_reducible exact impl_PageSpan.mono _ _ _ _)
   | (with_reducible exact laws_wpPages.mono _ _ _)
   | (with_reducible exact spec_DrawPageSpan.mono _ _)
   | (with_reducible exact spec_PageSpan.mono _ _ _ _)
   | (with_reducible exact LeO.refl _)
   | (with_reducible exact LeO.none _)
   | (with_reducible refine LeO.ite ?_ ?_)
   | (with_reducible refine LeO.bind ?_ (fun _ => ?_))
   | exact ih0 _ _ _
   | exact ih1 _ _ _ _ _ _
   | exact ih2 _ _ _ _ _ _
   | exact ih3 _ _ _ _ _ _ _
   | exact impl_PageSpan.mono _ _ _ _
   | exact laws_wpPages.mono _ _ _
   | exact spec_DrawPageSpan.mono _ _
   | exact spec_PageSpan.mono _ _ _ _
   | exact LeO.none _
   | refine LeO.ite ?_ ?_
   | refine LeO.bind ?_ (fun _ => ?_)
  ·intro y0 y1 y2 y3 y4 y5
   unfold laws_FnPageApart.j1
   repeat' first
   | (with_reducible exact ih0 _ _ _)
   | (with_reducible exact ih1 _ _ _ _ _ _)
   | (with_reducible exact ih2 _ _ _ _ _ _)
   | (with_reducible exact ih3 _ _ _ _ _ _ _)
   | (with_reducible exact impl_PageSpan.mono _ _ _ _)
   | (with_reducible exact laws_wpPages.mono _ _ _)
   | (with_reducible exact spec_DrawPageSpan.mono _ _)
   | (with_reducible exact spec_PageSpan.mono _ _ _ _)
   | (with_reducible exact LeO.refl _)
   | (with_reducible exact LeO.none _)
   | (with_reducible refine LeO.ite ?_ ?_)
   | (with_reducible refine LeO.bind ?_ (fun _ => ?_))
   | exact ih0 _ _ _
   | exact ih1 _ _ _ _ _ _
   | exact ih2 _ _ _ _ _ _
   | exact ih3 _ _ _ _ _ _ _
   | exact impl_PageSpan.mono _ _ _ _
   | exact laws_wpPages.mono _ _ _
   | exact spec_DrawPageSpan.mono _ _
   | exact spec_PageSpan.mono _ _ _ _
   | exact LeO.none _
   | refine LeO.ite ?_ ?_
   | refine LeO.bind ?_ (fun _ => ?_)
  ·intro y0 y1 y2 y3 y4 y5
   unfold laws_FnPageApart.l0
   repeat' first
   | (with_reducible exact ih0 _ _ _)
   | (with_reducible exact ih1 _ _ _ _ _ _)
   | (with_reducible exact ih2 _ _ _ _ _ _)
   | (with_reducible exact ih3 _ _ _ _ _ _ _)
   | (with_reducible exact impl_PageSpan.mono _ _ _ _)
   | (with_reducible exact laws_wpPages.mono _ _ _)
   | (with_reducible exact spec_DrawPageSpan.mono _ _)
   | (with_reducible exact spec_PageSpan.mono _ _ _ _)
   | (with_reducible exact LeO.refl _)
   | (with_reducible exact LeO.none _)
   | (with_reducible refine LeO.ite ?_ ?_)
   | (with_reducible refine LeO.bind ?_ (fun _ => ?_))
   | exact ih0 _ _ _
   | exact ih1 _ _ _ _ _ _
   | exact ih2 _ _ _ _ _ _
   | exact ih3 _ _ _ _ _ _ _
   | exact impl_PageSpan.mono _ _ _ _
   | exact laws_wpPages.mono _ _ _
   | exact spec_DrawPageSpan.mono _ _
   | exact spec_PageSpan.mono _ _ _ _
   | exact LeO.none _
   | refine LeO.ite ?_ ?_
   | refine LeO.bind ?_ (fun _ => ?_)
  ·intro y0 y1 y2 y3 y4 y5 y6
   unfold laws_FnPageApart.l1
   repeat' first
   | (with_reducible exact ih0 _ _ _)
   | (with_reducible exact ih1 _ _ _ _ _ _)
   | (with_reducible exact ih2 _ _ _ _ _ _)
   | (with_reducible exact ih3 _ _ _ _ _ _ _)
   | (with_reducible exact impl_PageSpan.mono _ _ _ _)
   | (with_reducible exact laws_wpPages.mono _ _ _)
   | (with_reducible exact spec_DrawPageSpan.mono _ _)
   | (with_reducible exact spec_PageSpan.mono _ _ _ _)
   | (with_reducible exact LeO.refl _)
   | (with_reducible exact LeO.none _)
   | (with_reducible refine LeO.ite ?_ ?_)
   | (with_reducible refine LeO.bind ?_ (fun _ => ?_))
   | exact ih0 _ _ _
   | exact ih1 _ _ _ _ _ _
   | exact ih2 _ _ _ _ _ _
   | exact ih3 _ _ _ _ _ _ _
   | exact impl_PageSpan.mono _ _ _ _
   | exact laws_wpPages.mono _ _ _
   | exact spec_DrawPageSpan.mono _ _
   | exact spec_PageSpan.mono _ _ _ _
   | exact LeO.none _
   | refine LeO.ite ?_ ?_
   | refine LeO.bind ?_ (fun _ => ?_)
theorem laws_FnPageApart.mono : ∀ a0 a1 k, LeO (laws_FnPageApart.f k a0 a1) (laws_FnPageApart.f (k + 1) a0 a1) := by
 intro a0 a1 k
 obtain ⟨ih0, ih1, ih2, ih3⟩ := laws_FnPageApart.mono_l k
 unfold laws_FnPageApart.f
 repeat' first
   | (with_reducible exact ih0 _ _ _)
   | (with_reducible exact ih1 _ _ _ _ _ _)
   | (with_reducible exact ih2 _ _ _ _ _ _)
   | (with_reducible exact ih3 _ _ _ _ _ _ _)
   | (with_reducible exact impl_PageSpan.mono _ _ _ _)
   | (with_reducible exact laws_wpPages.mono _ _ _)
   | (with_reducible exact spec_DrawPageSpan.mono _ _)
   | (with_reducible exact spec_PageSpan.mono _ _ _ _)
   | (with_reducible exact LeO.refl _)
   | (with_reducible exact LeO.none _)
   | (with_reducible refine LeO.ite ?_ ?_)
   | (with_reducible refine LeO.bind ?_ (fun _ => ?_))
   | exact ih0 _ _ _
   | exact ih1 _ _ _ _ _ _
   | exact ih2 _ _ _ _ _ _
   | exact ih3 _ _ _ _ _ _ _
   | exact impl_PageSpan.mono _ _ _ _
   | exact laws_wpPages.mono _ _ _
   | exact spec_DrawPageSpan.mono _ _
   | exact spec_PageSpan.mono _ _ _ _
   | exact LeO.none _
   | refine LeO.ite ?_ ?_
   | refine LeO.bind ?_ (fun _ => ?_)
set_option maxHeartbeats 8000000 in
set_option maxRecDepth 100000 in
theorem laws_FnPageApart.calls (k : Nat) (A0 : Option Addr) (c0 : Nat) (l0 : List Int) (A1 : Option Addr) (c1 : Nat) (l1 : List Int) (r : Bool) (w : World) (hr0 : Kd.C (Kd.int .u8) w A0 l0.length l0) (hc0 : l0.length ≤ c0) (hr1 : Kd.C (Kd.int .u8) w A1 l1.length l1) (hc1 : l1.length ≤ c1) (hT : r = true) (h : laws_FnPageApart.f k l0 l1 = some r) :
  Calls Try.prog 5 #[.slice A0 l0.length c0, .slice A1 l1.length c1] w fun e w' => e = .returned (.bool r) ∧ Below w.heap.size w w' := by
 have hu25 := Try.underlying25
 have HR0 := Aside0.mk hr0
 have HC0 := Aside0.mk hc0
 clear hr0 hc0
 have HR1 := Aside0.mk hr1
 have HC1 := Aside0.mk hc1
 clear hr1 hc1
 have HB := Aside0.mk (Below.refl w.heap.size w)
 have H : (if (l0.length : Int) > 1048576 then (laws_FnPageApart.j0 k l0 l1 true) else (laws_FnPageApart.j0 k l0 l1 (decide ((l1.length : Int) > 1048576)))) = some r := h
 clear h
 have HC3 := Aside0.mk H
 clear H
 go_enter Try.func5, Try.ntmps5
 go_upto_region 1 with (fail)
 repeat (go_quiet (fail); go_upto_region 1 with (fail))
 go_cut [21] (fun v21 wc => ∃ (kq : Nat) (x21_2 : Bool), v21 = .bool x21_2 ∧ Aside0 (laws_FnPageApart.j0 kq l0 l1 x21_2 = some r) ∧ Aside0 (kq ≤ k) ∧ Aside0 (Below w.heap.size w wc))
 case first =>
  have H := HC3.out
  clear HC3
  by_cases c4 : (l0.length : Int) > 1048576
  ·rw [if_pos c4] at H
   have c4b0 : decide (1048576 < (l0.length : Int)) = true := decide_eq_true c4
   have c4b1 : decide (1048576 < l0.length) = true := decide_eq_true (by omega)
   clear c4
   (first | rw [c4b0] | (simp only [i64_w, i32_w]; rw [c4b0]) | skip)
   have H' := Aside0.mk H
   clear H
   go_wp2
   repeat (go_quiet (fail); try go_wp2)
   go_meet
   case rel => exact ⟨_, (true), (z15_2), H', ⟨by first | omega | exact Nat.le_refl _⟩, ⟨by repeat (first | (with_reducible first | exact HB.out | apply below_alloc | apply pw_below_drewN | apply below_drew1) | exact HB.out)⟩⟩
  ·rw [if_neg c4] at H
   have c4b0 : decide (1048576 < (l0.length : Int)) = false := decide_eq_false c4
   have c4b1 : decide (1048576 < l0.length) = false := decide_eq_false (by omega)
   clear c4
   (first | rw [c4b0] | (simp only [i64_w, i32_w]; rw [c4b0]) | skip)
   have H' := Aside0.mk H
   clear H
   go_wp2
   repeat (go_quiet (fail); try go_wp2)
   go_meet
   case rel => exact ⟨_, (decide ((l1.length : Int) > 1048576)), (z15_2), H', ⟨by first | omega | exact Nat.le_refl _⟩, ⟨by repeat (first | (with_reducible first | exact HB.out | apply below_alloc | apply pw_below_drewN | apply below_drew1) | exact HB.out)⟩⟩
 case rest =>
  clear HC3
  try clear c1
  try clear p2
  try clear c4
  try clear c4b0
  try clear c4b1
  obtain ⟨kq, x21_2, rfl, HA, HJ2, HB⟩ := hcut
  cases kq with
  | zero => exact absurd HA.out (by simp [laws_FnPageApart.j0])
  | succ kj2 =>
   have H := HA.out
   clear HA
   simp only [laws_FnPageApart.j0] at H
   by_cases c5 : x21_2 = true
   ·subst c5
    have H1 : (some true) = some r := by rw [if_pos rfl] at H; exact H
    clear H
    have H := H1
    clear H1
    obtain rfl := Option.some.inj H
    go_wp2
    repeat (go_quiet (fail); try go_wp2)
    go_ret
    exact ⟨by first | rfl | (simp [errW_none, errW_some] <;> rfl) | (simp [*, errW_none, errW_some] <;> rfl), by repeat (first | (with_reducible first | exact HB.out | apply below_alloc | apply pw_below_drewN | apply below_drew1) | exact HB.out)⟩
   ·replace c5 := Bool.eq_false_iff.mpr c5
    subst c5
    have H1 : ((spec_DrawPageSpan.f kj2 l0).bind fun bt185 => ((impl_PageSpan.f kj2 bt185.1 bt185.2.1 bt185.2.2).bind fun t188 => ((spec_PageSpan.f kj2 bt185.1 bt185.2.1 bt185.2.2).bind fun t191 => ((laws_wpPages.f kj2 t188 t191).bind fun t194 => (if t194 = true then (if (t188.length : Int) = 0 then (laws_FnPageApart.j1 kj2 l1 bt185.1 bt185.2.1 bt185.2.2 t188 true) else (laws_FnPageApart.j1 kj2 l1 bt185.1 bt185.2.1 bt185.2.2 t188 (decide ((wrap64 (bt185.2.2 + (l1.length : Int))) > 8000)))) else (laws_FnPageApart.j1 kj2 l1 bt185.1 bt185.2.1 bt185.2.2 t188 true)))))) = some r := by rw [if_neg (show ¬ (false = true) by decide)] at H; exact H
    clear H
    have H := H1
    clear H1
    replace H := Option.bind_eq_some_iff.mp H
    obtain ⟨⟨t185, t186, t187⟩, A60, H⟩ := H
    replace H : ((impl_PageSpan.f kj2 t185 t186 t187).bind fun t188 => ((spec_PageSpan.f kj2 t185 t186 t187).bind fun t191 => ((laws_wpPages.f kj2 t188 t191).bind fun t194 => (if t194 = true then (if (t188.length : Int) = 0 then (laws_FnPageApart.j1 kj2 l1 t185 t186 t187 t188 true) else (laws_FnPageApart.j1 kj2 l1 t185 t186 t187 t188 (decide ((wrap64 (t187 + (l1.length : Int))) > 8000)))) else (laws_FnPageApart.j1 kj2 l1 t185 t186 t187 t188 true))))) = some r := H
    have A6 := Aside0.mk A60
    clear A60
    replace H := Option.bind_eq_some_iff.mp H
    obtain ⟨t188, A70, H⟩ := H
    replace H : ((spec_PageSpan.f kj2 t185 t186 t187).bind fun t191 => ((laws_wpPages.f kj2 t188 t191).bind fun t194 => (if t194 = true then (if (t188.length : Int) = 0 then (laws_FnPageApart.j1 kj2 l1 t185 t186 t187 t188 true) else (laws_FnPageApart.j1 kj2 l1 t185 t186 t187 t188 (decide ((wrap64 (t187 + (l1.length : Int))) > 8000)))) else (laws_FnPageApart.j1 kj2 l1 t185 t186 t187 t188 true)))) = some r := H
    have A7 := Aside0.mk A70
    clear A70
    have HC8 := Aside0.mk H
    clear H
    go_upto_region 5 with (first | (go_at_call 28; (with_reducible refine (spec_DrawPageSpan.calls kj2 _ _ l0 t185 t186 t187 _ ?side1 ?side2 A6.out).mono ?_); (case side1 => repeat (first | exact (Kd.C_below HR0.out HB.out) | (with_reducible refine Kd.C_alloc ?_ _) | (with_reducible refine Kd.C_drewN ?_ _) | (with_reducible refine Kd.C_drew ?_))); (case side2 => exact HC0.out); rintro e w9 ⟨rfl, hb⟩; have n0_ := Aside0.mk (below_step (z15_0) hb); clear HB; have HB := n0_; clear n0_; (try clear hb); (try clear hb2); (try clear hk); (try clear hi)) | (go_at_call 24; (with_reducible refine (impl_PageSpan.calls kj2 t185 t186 t187 t188 _ A7.out).mono ?_); rintro e w10 ⟨v189, rfl, ho0, hb⟩; have n0_ := Aside0.mk (Kd.R_lower ho0 (below_size (z15_0))); have n1_ := Aside0.mk (below_step (z15_0) hb); clear HB; have HO190 := n0_; have HB := n1_; clear n0_ n1_; (try clear hb); (try clear hb2); (try clear hk); (try clear hi); (try clear ho0)))
    repeat (go_quiet (fail); try go_wp2)
    (try simp only [Act.put, List.setIfInBounds_toArray, List.set_cons_zero, List.set_cons_succ])
    go_cut [50] (fun v50 wc => ∃ (kq : Nat) (x50_7 : Bool), v50 = .bool x50_7 ∧ Aside0 (laws_FnPageApart.j1 kq l1 t185 t186 t187 t188 x50_7 = some r) ∧ Aside0 (kq ≤ kj2) ∧ Aside0 (Kd.R k25 25 wc w.heap.size (fun _ => True) v189 t188) ∧ Aside0 (Below w.heap.size w wc))
    case first =>
     have H := HC8.out
     clear HC8
     replace H := Option.bind_eq_some_iff.mp H
     obtain ⟨t191, A110, H⟩ := H
     replace H : ((laws_wpPages.f kj2 t188 t191).bind fun t194 => (if t194 = true then (if (t188.length : Int) = 0 then (laws_FnPageApart.j1 kj2 l1 t185 t186 t187 t188 true) else (laws_FnPageApart.j1 kj2 l1 t185 t186 t187 t188 (decide ((wrap64 (t187 + (l1.length : Int))) > 8000)))) else (laws_FnPageApart.j1 kj2 l1 t185 t186 t187 t188 true))) = some r := H
     have A11 := Aside0.mk A110
     clear A110
     replace H := Option.bind_eq_some_iff.mp H
     obtain ⟨t194, A120, H⟩ := H
     replace H : (if t194 = true then (if (t188.length : Int) = 0 then (laws_FnPageApart.j1 kj2 l1 t185 t186 t187 t188 true) else (laws_FnPageApart.j1 kj2 l1 t185 t186 t187 t188 (decide ((wrap64 (t187 + (l1.length : Int))) > 8000)))) else (laws_FnPageApart.j1 kj2 l1 t185 t186 t187 t188 true)) = some r := H
     have A12 := Aside0.mk A120
     clear A120
     by_cases c13 : t194 = true
     ·subst c13
      have H1 : (if (t188.length : Int) = 0 then (laws_FnPageApart.j1 kj2 l1 t185 t186 t187 t188 true) else (laws_FnPageApart.j1 kj2 l1 t185 t186 t187 t188 (decide ((wrap64 (t187 + (l1.length : Int))) > 8000)))) = some r := by rw [if_pos rfl] at H; exact H
      clear H
      have H := H1
      clear H1
      by_cases c14 : (t188.length : Int) = 0
      ·rw [if_pos c14] at H
       have c14b0 : ((t188.length : Int) == 0) = true := beq_iff_eq.mpr c14
       have c14b1 : ((t188.length : Int) != 0) = false := bne_eq_false_iff_eq.mpr c14
       clear c14
       (first | rw [c14b0] | (simp only [i64_w, i32_w]; rw [c14b0]) | skip)
       have H' := Aside0.mk H
       clear H
       go_wp2_with (first | (go_at_call 23; (with_reducible refine (spec_PageSpan.calls kj2 t185 t186 t187 t191 _ A11.out).mono ?_); rintro e w15 ⟨v192, rfl, ho0, hb⟩; have n0_ := Aside0.mk (Kd.R_elder' (by (with_reducible repeat (first | apply Kd.R_alloc | apply Kd.R_drewN | apply Kd.R_drew)); exact HO190.out) (Kd.R_base ho0) hb); have n1_ := Aside0.mk (Kd.R_lower (Kd.R_new' ho0 (Kd.R_lt (by (with_reducible repeat (first | apply Kd.R_alloc | apply Kd.R_drewN | apply Kd.R_drew)); exact HO190.out))) (below_size (z15_0))); have n2_ := Aside0.mk (below_step (z15_0) hb); clear HO190; clear HB; have HO190 := n0_; have HO193 := n1_; have HB := n2_; clear n0_ n1_ n2_; (try clear hb); (try clear hb2); (try clear hk); (try clear hi); (try clear ho0); obtain ⟨Ao16, co16, eo16⟩ := Kd.R_slice HO190.out; subst eo16; obtain ⟨Ao17, co17, eo17⟩ := Kd.R_slice HO193.out; subst eo17) | (go_at_call 29; (with_reducible refine (laws_wpPages.calls kj2 _ _ t188 _ _ t191 true _ ?side1 ?side2 ?side3 ?side4 A12.out).mono ?_); (case side1 => repeat (first | exact (Kd.R_reads' HO190.out).2.2 | (with_reducible refine Kd.C_alloc ?_ _) | (with_reducible refine Kd.C_drewN ?_ _) | (with_reducible refine Kd.C_drew ?_))); (case side2 => exact (Kd.R_reads' HO190.out).2.1); (case side3 => repeat (first | exact (Kd.R_reads' HO193.out).2.2 | (with_reducible refine Kd.C_alloc ?_ _) | (with_reducible refine Kd.C_drewN ?_ _) | (with_reducible refine Kd.C_drew ?_))); (case side4 => exact (Kd.R_reads' HO193.out).2.1); rintro e w' ⟨rfl, ⟨nd, rfl⟩⟩; (try first | exact ⟨rfl, _, World.drewN_drewN _ _ _⟩ | exact ⟨rfl, _, Eq.trans (World.drewN_drewN _ _ _) (congrArg (World.drewN _) (Nat.add_assoc _ _ _))⟩)))
       repeat (go_quiet (fail); try go_wp2)
       go_meet
       case rel => exact ⟨_, (true), (z15_2), H', ⟨by have := HJ2.out; first | omega | exact Nat.le_refl _⟩, ⟨by (with_reducible repeat (first | apply Kd.R_alloc | apply Kd.R_drewN | apply Kd.R_drew)); exact Kd.R_mono HO190.out (fun _ hk => trivial)⟩, ⟨by repeat (first | (with_reducible first | exact HB.out | apply below_alloc | apply pw_below_drewN | apply below_drew1) | exact HB.out)⟩⟩
      ·rw [if_neg c14] at H
       have c14b0 : ((t188.length : Int) == 0) = false := beq_eq_false_iff_ne.mpr c14
       have c14b1 : ((t188.length : Int) != 0) = true := bne_iff_ne.mpr c14
       have c14b2 : ¬ (t188 = []) := fun h_ => c14 (by rw [h_]; rfl)
       (first | rw [c14b0] | (simp only [i64_w, i32_w]; rw [c14b0]) | skip)
       have H' := Aside0.mk H
       clear H
       go_wp2_with (first | (go_at_call 23; (with_reducible refine (spec_PageSpan.calls kj2 t185 t186 t187 t191 _ A11.out).mono ?_); rintro e w18 ⟨v192, rfl, ho0, hb⟩; have n0_ := Aside0.mk (Kd.R_elder' (by (with_reducible repeat (first | apply Kd.R_alloc | apply Kd.R_drewN | apply Kd.R_drew)); exact HO190.out) (Kd.R_base ho0) hb); have n1_ := Aside0.mk (Kd.R_lower (Kd.R_new' ho0 (Kd.R_lt (by (with_reducible repeat (first | apply Kd.R_alloc | apply Kd.R_drewN | apply Kd.R_drew)); exact HO190.out))) (below_size (z15_0))); have n2_ := Aside0.mk (below_step (z15_0) hb); clear HO190; clear HB; have HO190 := n0_; have HO193 := n1_; have HB := n2_; clear n0_ n1_ n2_; (try clear hb); (try clear hb2); (try clear hk); (try clear hi); (try clear ho0); obtain ⟨Ao19, co19, eo19⟩ := Kd.R_slice HO190.out; subst eo19; obtain ⟨Ao20, co20, eo20⟩ := Kd.R_slice HO193.out; subst eo20) | (go_at_call 29; (with_reducible refine (laws_wpPages.calls kj2 _ _ t188 _ _ t191 true _ ?side1 ?side2 ?side3 ?side4 A12.out).mono ?_); (case side1 => repeat (first | exact (Kd.R_reads' HO190.out).2.2 | (with_reducible refine Kd.C_alloc ?_ _) | (with_reducible refine Kd.C_drewN ?_ _) | (with_reducible refine Kd.C_drew ?_))); (case side2 => exact (Kd.R_reads' HO190.out).2.1); (case side3 => repeat (first | exact (Kd.R_reads' HO193.out).2.2 | (with_reducible refine Kd.C_alloc ?_ _) | (with_reducible refine Kd.C_drewN ?_ _) | (with_reducible refine Kd.C_drew ?_))); (case side4 => exact (Kd.R_reads' HO193.out).2.1); rintro e w' ⟨rfl, ⟨nd, rfl⟩⟩; (try first | exact ⟨rfl, _, World.drewN_drewN _ _ _⟩ | exact ⟨rfl, _, Eq.trans (World.drewN_drewN _ _ _) (congrArg (World.drewN _) (Nat.add_assoc _ _ _))⟩)))
       repeat (go_quiet (fail); try go_wp2)
       go_meet
       case rel => exact ⟨_, (decide ((wrap64 (t187 + (l1.length : Int))) > 8000)), (z15_2), H', ⟨by have := HJ2.out; first | omega | exact Nat.le_refl _⟩, ⟨by (with_reducible repeat (first | apply Kd.R_alloc | apply Kd.R_drewN | apply Kd.R_drew)); exact Kd.R_mono HO190.out (fun _ hk => trivial)⟩, ⟨by repeat (first | (with_reducible first | exact HB.out | apply below_alloc | apply pw_below_drewN | apply below_drew1) | exact HB.out)⟩⟩
     ·replace c13 := Bool.eq_false_iff.mpr c13
      subst c13
      have H1 : (laws_FnPageApart.j1 kj2 l1 t185 t186 t187 t188 true) = some r := by rw [if_neg (show ¬ (false = true) by decide)] at H; exact H
      clear H
      have H := H1
      clear H1
      have H' := Aside0.mk H
      clear H
      go_wp2_with (first | (go_at_call 23; (with_reducible refine (spec_PageSpan.calls kj2 t185 t186 t187 t191 _ A11.out).mono ?_); rintro e w21 ⟨v192, rfl, ho0, hb⟩; have n0_ := Aside0.mk (Kd.R_elder' (by (with_reducible repeat (first | apply Kd.R_alloc | apply Kd.R_drewN | apply Kd.R_drew)); exact HO190.out) (Kd.R_base ho0) hb); have n1_ := Aside0.mk (Kd.R_lower (Kd.R_new' ho0 (Kd.R_lt (by (with_reducible repeat (first | apply Kd.R_alloc | apply Kd.R_drewN | apply Kd.R_drew)); exact HO190.out))) (below_size (z15_0))); have n2_ := Aside0.mk (below_step (z15_0) hb); clear HO190; clear HB; have HO190 := n0_; have HO193 := n1_; have HB := n2_; clear n0_ n1_ n2_; (try clear hb); (try clear hb2); (try clear hk); (try clear hi); (try clear ho0); obtain ⟨Ao22, co22, eo22⟩ := Kd.R_slice HO190.out; subst eo22; obtain ⟨Ao23, co23, eo23⟩ := Kd.R_slice HO193.out; subst eo23) | (go_at_call 29; (with_reducible refine (laws_wpPages.calls kj2 _ _ t188 _ _ t191 false _ ?side1 ?side2 ?side3 ?side4 A12.out).mono ?_); (case side1 => repeat (first | exact (Kd.R_reads' HO190.out).2.2 | (with_reducible refine Kd.C_alloc ?_ _) | (with_reducible refine Kd.C_drewN ?_ _) | (with_reducible refine Kd.C_drew ?_))); (case side2 => exact (Kd.R_reads' HO190.out).2.1); (case side3 => repeat (first | exact (Kd.R_reads' HO193.out).2.2 | (with_reducible refine Kd.C_alloc ?_ _) | (with_reducible refine Kd.C_drewN ?_ _) | (with_reducible refine Kd.C_drew ?_))); (case side4 => exact (Kd.R_reads' HO193.out).2.1); rintro e w' ⟨rfl, ⟨nd, rfl⟩⟩; (try first | exact ⟨rfl, _, World.drewN_drewN _ _ _⟩ | exact ⟨rfl, _, Eq.trans (World.drewN_drewN _ _ _) (congrArg (World.drewN _) (Nat.add_assoc _ _ _))⟩)))
      repeat (go_quiet (fail); try go_wp2)
      go_meet
      case rel => exact ⟨_, (true), (z15_2), H', ⟨by have := HJ2.out; first | omega | exact Nat.le_refl _⟩, ⟨by (with_reducible repeat (first | apply Kd.R_alloc | apply Kd.R_drewN | apply Kd.R_drew)); exact Kd.R_mono HO190.out (fun _ hk => trivial)⟩, ⟨by repeat (first | (with_reducible first | exact HB.out | apply below_alloc | apply pw_below_drewN | apply below_drew1) | exact HB.out)⟩⟩
    case rest =>
     clear HC8
     try clear c1
     try clear p2
     try clear c4
     try clear c4b0
     try clear c4b1
     try clear c5
     try clear p6
     try clear c13
     try clear c14
     try clear c14b0
     try clear c14b1
     try clear c14b2
     try clear p2
     obtain ⟨kq, x50_7, rfl, HA, HJ7, HO_8, HB⟩ := hcut
     cases kq with
     | zero => exact absurd HA.out (by simp [laws_FnPageApart.j1])
     | succ kj7 =>
      have H := HA.out
      clear HA
      simp only [laws_FnPageApart.j1] at H
      by_cases c24 : x50_7 = true
      ·subst c24
       have H1 : ((spec_PageSpan.f kj7 t185 t186 t187).bind fun t195 => ((laws_wpPages.f kj7 t188 t195).bind fun t198 => (some t198))) = some r := by rw [if_pos rfl] at H; exact H
       clear H
       have H := H1
       clear H1
       replace H := Option.bind_eq_some_iff.mp H
       obtain ⟨t195, A250, H⟩ := H
       replace H : ((laws_wpPages.f kj7 t188 t195).bind fun t198 => (some t198)) = some r := H
       have A25 := Aside0.mk A250
       clear A250
       replace H := Option.bind_eq_some_iff.mp H
       obtain ⟨t198, A260, H⟩ := H
       replace H : (some t198) = some r := H
       have A26 := Aside0.mk A260
       clear A260
       obtain rfl := Option.some.inj H
       go_wp2_with (first | (go_at_call 23; (with_reducible refine (spec_PageSpan.calls kj7 t185 t186 t187 t195 _ A25.out).mono ?_); rintro e w27 ⟨v196, rfl, ho0, hb⟩; have n0_ := Aside0.mk (Kd.R_elder' (by (with_reducible repeat (first | apply Kd.R_alloc | apply Kd.R_drewN | apply Kd.R_drew)); exact HO_8.out) (Kd.R_base ho0) hb); have n1_ := Aside0.mk (Kd.R_lower (Kd.R_new' ho0 (Kd.R_lt (by (with_reducible repeat (first | apply Kd.R_alloc | apply Kd.R_drewN | apply Kd.R_drew)); exact HO_8.out))) (below_size (z15_0))); have n2_ := Aside0.mk (below_step (z15_0) hb); clear HO_8; clear HB; have HO_8 := n0_; have HO197 := n1_; have HB := n2_; clear n0_ n1_ n2_; (try clear hb); (try clear hb2); (try clear hk); (try clear hi); (try clear ho0); obtain ⟨Ao28, co28, eo28⟩ := Kd.R_slice HO_8.out; subst eo28; obtain ⟨Ao29, co29, eo29⟩ := Kd.R_slice HO197.out; subst eo29) | (go_at_call 29; (with_reducible refine (laws_wpPages.calls kj7 _ _ t188 _ _ t195 t198 _ ?side1 ?side2 ?side3 ?side4 A26.out).mono ?_); (case side1 => repeat (first | exact (Kd.R_reads' HO_8.out).2.2 | (with_reducible refine Kd.C_alloc ?_ _) | (with_reducible refine Kd.C_drewN ?_ _) | (with_reducible refine Kd.C_drew ?_))); (case side2 => exact (Kd.R_reads' HO_8.out).2.1); (case side3 => repeat (first | exact (Kd.R_reads' HO197.out).2.2 | (with_reducible refine Kd.C_alloc ?_ _) | (with_reducible refine Kd.C_drewN ?_ _) | (with_reducible refine Kd.C_drew ?_))); (case side4 => exact (Kd.R_reads' HO197.out).2.1); rintro e w' ⟨rfl, ⟨nd, rfl⟩⟩; (try first | exact ⟨rfl, _, World.drewN_drewN _ _ _⟩ | exact ⟨rfl, _, Eq.trans (World.drewN_drewN _ _ _) (congrArg (World.drewN _) (Nat.add_assoc _ _ _))⟩)))
       repeat (go_quiet (fail); try go_wp2)
       go_ret
       exact ⟨by first | rfl | (simp [errW_none, errW_some] <;> rfl) | (simp [*, errW_none, errW_some] <;> rfl), by repeat (first | (with_reducible first | exact HB.out | apply below_alloc | apply pw_below_drewN | apply below_drew1) | exact HB.out)⟩
      ·replace c24 := Bool.eq_false_iff.mpr c24
       subst c24
       have H1 : ((impl_PageSpan.f kj7 t185 t187 (wrap64 ((wrap64 (t187 + 1)) + ((l1.length : Int) % 20)))).bind fun t199 => ((impl_PageSpan.f kj7 t185 t186 (wrap64 (t187 + ((l1.length : Int) % 20)))).bind fun t202 => (laws_FnPageApart.l0 kj7 t187 t188 t199 t202 0 0))) = some r := by rw [if_neg (show ¬ (false = true) by decide)] at H; exact H
       clear H
       have H := H1
       clear H1
       replace H := Option.bind_eq_some_iff.mp H
       obtain ⟨t199, A300, H⟩ := H
       replace H : ((impl_PageSpan.f kj7 t185 t186 (wrap64 (t187 + ((l1.length : Int) % 20)))).bind fun t202 => (laws_FnPageApart.l0 kj7 t187 t188 t199 t202 0 0)) = some r := H
       have A30 := Aside0.mk A300
       clear A300
       replace H := Option.bind_eq_some_iff.mp H
       obtain ⟨t202, A310, H⟩ := H
       replace H : (laws_FnPageApart.l0 kj7 t187 t188 t199 t202 0 0) = some r := H
       have A31 := Aside0.mk A310
       clear A310
       have H' := Aside0.mk H
       clear H
       go_wp2_with (first | (go_at_call 24; (with_reducible refine (impl_PageSpan.calls kj7 t185 t187 (wrap64 ((wrap64 (t187 + 1)) + ((l1.length : Int) % 20))) t199 _ A30.out).mono ?_); rintro e w32 ⟨v200, rfl, ho0, hb⟩; have n0_ := Aside0.mk (Kd.R_elder' (by (with_reducible repeat (first | apply Kd.R_alloc | apply Kd.R_drewN | apply Kd.R_drew)); exact HO_8.out) (Kd.R_base ho0) hb); have n1_ := Aside0.mk (Kd.R_lower (Kd.R_new' ho0 (Kd.R_lt (by (with_reducible repeat (first | apply Kd.R_alloc | apply Kd.R_drewN | apply Kd.R_drew)); exact HO_8.out))) (below_size (z15_0))); have n2_ := Aside0.mk (below_step (z15_0) hb); clear HO_8; clear HB; have HO_8 := n0_; have HO201 := n1_; have HB := n2_; clear n0_ n1_ n2_; (try clear hb); (try clear hb2); (try clear hk); (try clear hi); (try clear ho0)) | (go_at_call 24; (with_reducible refine (impl_PageSpan.calls kj7 t185 t186 (wrap64 (t187 + ((l1.length : Int) % 20))) t202 _ A31.out).mono ?_); rintro e w33 ⟨v203, rfl, ho0, hb⟩; have n0_ := Aside0.mk (Kd.R_elder' (by (with_reducible repeat (first | apply Kd.R_alloc | apply Kd.R_drewN | apply Kd.R_drew)); exact HO_8.out) (Kd.R_base ho0) hb); have n1_ := Aside0.mk (Kd.R_elder' (by (with_reducible repeat (first | apply Kd.R_alloc | apply Kd.R_drewN | apply Kd.R_drew)); exact HO201.out) (Kd.R_base ho0) hb); have n2_ := Aside0.mk (Kd.R_lower (Kd.R_new' (Kd.R_new' ho0 (Kd.R_lt (by (with_reducible repeat (first | apply Kd.R_alloc | apply Kd.R_drewN | apply Kd.R_drew)); exact HO_8.out))) (Kd.R_lt (by (with_reducible repeat (first | apply Kd.R_alloc | apply Kd.R_drewN | apply Kd.R_drew)); exact HO201.out))) (below_size (z15_0))); have n3_ := Aside0.mk (below_step (z15_0) hb); clear HO_8; clear HO201; clear HB; have HO_8 := n0_; have HO201 := n1_; have HO204 := n2_; have HB := n3_; clear n0_ n1_ n2_ n3_; (try clear hb); (try clear hb2); (try clear hk); (try clear hi); (try clear ho0)))
       repeat (go_quiet (fail); try go_wp2)
       go_loopg [11, 12] kj7 (fun kq v11 v12 w' => ∃ (x11_3 : Int) (x12_3 : Int), v11 = .int .i64 x11_3 ∧ v12 = .int .i64 x12_3 ∧ Aside0 (laws_FnPageApart.l0 kq t187 t188 t199 t202 x11_3 x12_3 = some r) ∧ Aside0 (kq ≤ kj7) ∧ Aside0 (Kd.R k25 25 w' w.heap.size (fun k_ => some k_ ≠ (v200 : Value).ownBlock ∧ some k_ ≠ (v203 : Value).ownBlock) v189 t188) ∧ Aside0 (Kd.R k25 25 w' w.heap.size (fun k_ => some k_ ≠ (v189 : Value).ownBlock ∧ some k_ ≠ (v203 : Value).ownBlock) v200 t199) ∧ Aside0 (Kd.R k25 25 w' w.heap.size (fun k_ => some k_ ≠ (v189 : Value).ownBlock ∧ some k_ ≠ (v200 : Value).ownBlock) v203 t202) ∧ Aside0 (Below w.heap.size w w'))
       case atStart => exact ⟨(0), (0), (z15_2), (z15_2), H', ⟨Nat.le_refl _⟩, ⟨by (with_reducible repeat (first | apply Kd.R_alloc | apply Kd.R_drewN | apply Kd.R_drew)); exact Kd.R_mono HO_8.out (fun _ hk => ⟨hk.1.2, hk.2⟩)⟩, ⟨by (with_reducible repeat (first | apply Kd.R_alloc | apply Kd.R_drewN | apply Kd.R_drew)); exact Kd.R_mono HO201.out (fun _ hk => ⟨hk.1.2, hk.2⟩)⟩, ⟨by (with_reducible repeat (first | apply Kd.R_alloc | apply Kd.R_drewN | apply Kd.R_drew)); exact Kd.R_mono HO204.out (fun _ hk => ⟨hk.1.2, hk.2⟩)⟩, ⟨by repeat (first | (with_reducible first | exact HB.out | apply below_alloc | apply pw_below_drewN | apply below_drew1) | exact HB.out)⟩⟩
       case round =>
        clear H'
        try clear c1
        try clear c2
        try clear p2
        try clear c4
        try clear c4b0
        try clear c4b1
        try clear c5
        try clear p6
        try clear c13
        try clear c14
        try clear c14b0
        try clear c14b1
        try clear c14b2
        try clear c24
        try clear p2
        try clear p6
        obtain ⟨x11_3, x12_3, rfl, rfl, HA, HK3, HO_8, HO_9, HO_10, HB⟩ := hrel
        cases gk with
        | zero => exact absurd HA.out (by simp [laws_FnPageApart.l0])
        | succ k3 =>
         have H := HA.out
         clear HA
         simp only [laws_FnPageApart.l0] at H
         by_cases c34 : x12_3 < (t188.length : Int)
         ·rw [if_pos c34] at H
          have c34b0 : decide (x12_3 < (t188.length : Int)) = true := decide_eq_true c34
          clear c34
          have H' := Aside0.mk H
          clear H
          obtain ⟨Ao35, co35, eo35⟩ := Kd.R_slice HO_8.out
          subst eo35
          go_wp2
          repeat (go_quiet (fail); try go_wp2)
          go_loopg [11, 13] k3 (fun kq v11 v13 w' => ∃ (x11_4 : Int) (x13_4 : Int), v11 = .int .i64 x11_4 ∧ v13 = .int .i64 x13_4 ∧ Aside0 (laws_FnPageApart.l1 kq t187 t188 t199 t202 x11_4 x12_3 x13_4 = some r) ∧ Aside0 (kq ≤ k3) ∧ Aside0 (Kd.R k25 25 w' w.heap.size (fun k_ => some k_ ≠ (v200 : Value).ownBlock ∧ some k_ ≠ (v203 : Value).ownBlock) (.slice Ao35 t188.length co35) t188) ∧ Aside0 (Kd.R k25 25 w' w.heap.size (fun k_ => some k_ ≠ ((.slice Ao35 t188.length co35) : Value).ownBlock ∧ some k_ ≠ (v203 : Value).ownBlock) v200 t199) ∧ Aside0 (Kd.R k25 25 w' w.heap.size (fun k_ => some k_ ≠ ((.slice Ao35 t188.length co35) : Value).ownBlock ∧ some k_ ≠ (v200 : Value).ownBlock) v203 t202) ∧ Aside0 (Below w.heap.size w w'))
          case atStart => exact ⟨(x11_3), (0), (z15_2), (z15_2), H', ⟨Nat.le_refl _⟩, ⟨by (with_reducible repeat (first | apply Kd.R_alloc | apply Kd.R_drewN | apply Kd.R_drew)); exact HO_8.out⟩, ⟨by (with_reducible repeat (first | apply Kd.R_alloc | apply Kd.R_drewN | apply Kd.R_drew)); exact HO_9.out⟩, ⟨by (with_reducible repeat (first | apply Kd.R_alloc | apply Kd.R_drewN | apply Kd.R_drew)); exact HO_10.out⟩, ⟨by repeat (first | (with_reducible first | exact HB.out | apply below_alloc | apply pw_below_drewN | apply below_drew1) | exact HB.out)⟩⟩
          case round =>
           clear H'
           try clear c1
           try clear c2
           try clear p2
           try clear c3
           try clear c4
           try clear c4b0
           try clear c4b1
           try clear c5
           try clear p6
           try clear c13
           try clear c14
           try clear c14b0
           try clear c14b1
           try clear c14b2
           try clear c24
           try clear c34
           try clear c34b0
           try clear p2
           try clear p6
           obtain ⟨x11_4, x13_4, rfl, rfl, HA, HK4, HO_8, HO_9, HO_10, HB⟩ := hrel
           cases gk with
           | zero => exact absurd HA.out (by simp [laws_FnPageApart.l1])
           | succ k4 =>
            have H := HA.out
            clear HA
            simp only [laws_FnPageApart.l1] at H
            by_cases c36 : x13_4 < (t199.length : Int)
            ·rw [if_pos c36] at H
             have c36b0 : decide (x13_4 < (t199.length : Int)) = true := decide_eq_true c36
             clear c36
             by_cases c37 : 0 ≤ x12_3
             ·rw [if_pos c37] at H
              have c37b0 : decide (0 ≤ x12_3) = true := decide_eq_true c37
              clear c37
              by_cases c38 : x12_3 < (t188.length : Int)
              ·rw [if_pos c38] at H
               have c38b0 : decide (x12_3 < (t188.length : Int)) = true := decide_eq_true c38
               clear c38
               by_cases c39 : 0 ≤ x13_4
               ·rw [if_pos c39] at H
                have c39b0 : decide (0 ≤ x13_4) = true := decide_eq_true c39
                clear c39
                by_cases c40 : (((rd_T25 t188 x12_3).f0) == ((rd_T25 t199 x13_4).f0) && (((rd_T25 t188 x12_3).f1) == ((rd_T25 t199 x13_4).f1))) = true
                ·rw [if_pos c40] at H
                 have c40b0 : (((rd_T25 t188 x12_3).f0) == ((rd_T25 t199 x13_4).f0) && (((rd_T25 t188 x12_3).f1) == ((rd_T25 t199 x13_4).f1))) = true := c40
                 (try (have c40b1 : decide (((rd_T25 t188 x12_3).f0) = ((rd_T25 t199 x13_4).f0) && (((rd_T25 t188 x12_3).f1) == ((rd_T25 t199 x13_4).f1))) = true := by simpa using c40))
                 (try (have c40b2 : (((rd_T25 t188 x12_3).f0) == ((rd_T25 t199 x13_4).f0) && (((rd_T25 t188 x12_3).f1) == ((rd_T25 t199 x13_4).f1))) = true := by simpa using c40))
                 clear c40
                 have H' := Aside0.mk H
                 clear H
                 obtain ⟨Ao41, co41, eo41⟩ := Kd.R_slice HO_9.out
                 subst eo41
                 have p215 : 0 ≤ (x12_3 : Int) := of_decide_eq_true (z15_1)
                 have q215 : x12_3 < (t188.length : Int) := of_decide_eq_true (z15_1)
                 obtain ⟨ad215, e215, hx215_0, hx215_1⟩ := at_T25 (Kd.R_reads' HO_8.out).2.2 x12_3 p215 q215
                 cases e215
                 replace p215 := eq_true p215
                 replace q215 := eq_true q215
                 have p216 : 0 ≤ (x13_4 : Int) := of_decide_eq_true (z15_1)
                 have q216 : x13_4 < (t199.length : Int) := of_decide_eq_true (z15_1)
                 obtain ⟨ad216, e216, hx216_0, hx216_1⟩ := at_T25 (Kd.R_reads' HO_9.out).2.2 x13_4 p216 q216
                 cases e216
                 replace p216 := eq_true p216
                 replace q216 := eq_true q216
                 go_wp2
                 repeat (go_quiet (fail); try go_wp2)
                 go_roundg k4
                 case measure => have := HJ2.out; have := HJ7.out; have := HK3.out; have := HK4.out; omega
                 case rel => exact ⟨(wrap64 (x11_4 + 1)), (wrap64 (x13_4 + 1)), (z15_2), (z15_2), H', ⟨by have := HJ2.out; have := HJ7.out; have := HK3.out; have := HK4.out; omega⟩, ⟨by (with_reducible repeat (first | apply Kd.R_alloc | apply Kd.R_drewN | apply Kd.R_drew)); exact HO_8.out⟩, ⟨by (with_reducible repeat (first | apply Kd.R_alloc | apply Kd.R_drewN | apply Kd.R_drew)); exact HO_9.out⟩, ⟨by (with_reducible repeat (first | apply Kd.R_alloc | apply Kd.R_drewN | apply Kd.R_drew)); exact HO_10.out⟩, ⟨by repeat (first | (with_reducible first | exact HB.out | apply below_alloc | apply pw_below_drewN | apply below_drew1) | exact HB.out)⟩⟩
                ·rw [if_neg c40] at H
                 have c40b0 : (((rd_T25 t188 x12_3).f0) == ((rd_T25 t199 x13_4).f0) && (((rd_T25 t188 x12_3).f1) == ((rd_T25 t199 x13_4).f1))) = false := by simpa using c40
                 (try (have c40b1 : decide (((rd_T25 t188 x12_3).f0) = ((rd_T25 t199 x13_4).f0) && (((rd_T25 t188 x12_3).f1) == ((rd_T25 t199 x13_4).f1))) = false := by simpa using c40))
                 (try (have c40b2 : (((rd_T25 t188 x12_3).f0) == ((rd_T25 t199 x13_4).f0) && (((rd_T25 t188 x12_3).f1) == ((rd_T25 t199 x13_4).f1))) = false := by simpa using c40))
                 (try (have c40b3 : ¬ (((rd_T25 t188 x12_3).f0) = ((rd_T25 t199 x13_4).f0) && (((rd_T25 t188 x12_3).f1) == ((rd_T25 t199 x13_4).f1))) := by simpa using c40))
                 clear c40
                 have H' := Aside0.mk H
                 clear H
                 obtain ⟨Ao42, co42, eo42⟩ := Kd.R_slice HO_9.out
                 subst eo42
                 have p215 : 0 ≤ (x12_3 : Int) := of_decide_eq_true (z15_1)
                 have q215 : x12_3 < (t188.length : Int) := of_decide_eq_true (z15_1)
                 obtain ⟨ad215, e215, hx215_0, hx215_1⟩ := at_T25 (Kd.R_reads' HO_8.out).2.2 x12_3 p215 q215
                 cases e215
                 replace p215 := eq_true p215
                 replace q215 := eq_true q215
                 have p216 : 0 ≤ (x13_4 : Int) := of_decide_eq_true (z15_1)
                 have q216 : x13_4 < (t199.length : Int) := of_decide_eq_true (z15_1)
                 obtain ⟨ad216, e216, hx216_0, hx216_1⟩ := at_T25 (Kd.R_reads' HO_9.out).2.2 x13_4 p216 q216
                 cases e216
                 replace p216 := eq_true p216
                 replace q216 := eq_true q216
                 go_wp2
                 repeat (go_quiet (fail); try go_wp2)
                 go_roundg k4
                 case measure => have := HJ2.out; have := HJ7.out; have := HK3.out; have := HK4.out; omega
                 case rel => exact ⟨(x11_4), (wrap64 (x13_4 + 1)), (z15_2), (z15_2), H', ⟨by have := HJ2.out; have := HJ7.out; have := HK3.out; have := HK4.out; omega⟩, ⟨by (with_reducible repeat (first | apply Kd.R_alloc | apply Kd.R_drewN | apply Kd.R_drew)); exact HO_8.out⟩, ⟨by (with_reducible repeat (first | apply Kd.R_alloc | apply Kd.R_drewN | apply Kd.R_drew)); exact HO_9.out⟩, ⟨by (with_reducible repeat (first | apply Kd.R_alloc | apply Kd.R_drewN | apply Kd.R_drew)); exact HO_10.out⟩, ⟨by repeat (first | (with_reducible first | exact HB.out | apply below_alloc | apply pw_below_drewN | apply below_drew1) | exact HB.out)⟩⟩
               ·rw [if_neg c39] at H
                exact absurd H (by simp)
              ·rw [if_neg c38] at H
               exact absurd H (by simp)
             ·rw [if_neg c37] at H
              exact absurd H (by simp)
            ·rw [if_neg c36] at H
             have c36b0 : decide (x13_4 < (t199.length : Int)) = false := decide_eq_false c36
             clear c36
             have H' := Aside0.mk H
             clear H
             obtain ⟨Ao43, co43, eo43⟩ := Kd.R_slice HO_9.out
             subst eo43
             go_wp2
             repeat (go_quiet (fail); try go_wp2)
             go_roundg k4
             case measure => have := HJ2.out; have := HJ7.out; have := HK3.out; have := HK4.out; omega
             case rel => exact ⟨(x11_4), (wrap64 (x12_3 + 1)), (z15_2), (z15_2), H', ⟨by have := HJ2.out; have := HJ7.out; have := HK3.out; have := HK4.out; omega⟩, ⟨by (with_reducible repeat (first | apply Kd.R_alloc | apply Kd.R_drewN | apply Kd.R_drew)); exact HO_8.out⟩, ⟨by (with_reducible repeat (first | apply Kd.R_alloc | apply Kd.R_drewN | apply Kd.R_drew)); exact HO_9.out⟩, ⟨by (with_reducible repeat (first | apply Kd.R_alloc | apply Kd.R_drewN | apply Kd.R_drew)); exact HO_10.out⟩, ⟨by repeat (first | (with_reducible first | exact HB.out | apply below_alloc | apply pw_below_drewN | apply below_drew1) | exact HB.out)⟩⟩
         ·rw [if_neg c34] at H
          have c34b0 : decide (x12_3 < (t188.length : Int)) = false := decide_eq_false c34
          clear c34
          by_cases c44 : x11_3 ≤ 1
          ·rw [if_pos c44] at H
           have c44b0 : decide (x11_3 ≤ 1) = true := decide_eq_true c44
           clear c44
           by_cases c45 : (Int.tmod t187 8) = 0
           ·rw [if_pos c45] at H
            have c45b0 : ((Int.tmod t187 8) == 0) = true := beq_iff_eq.mpr c45
            have c45b1 : ((Int.tmod t187 8) != 0) = false := bne_eq_false_iff_eq.mpr c45
            clear c45
            by_cases c46 : ((x11_3 == 1) == false) = true
            ·rw [if_pos c46] at H
             have c46b0 : ((x11_3 == 1) == false) = true := c46
             (try (have c46b1 : decide ((x11_3 == 1) = false) = true := by simpa using c46))
             (try (have c46b2 : ((x11_3 == 1) == false) = true := by simpa using c46))
             clear c46
             by_cases c47 : (t202.length : Int) ≥ (t188.length : Int)
             ·rw [if_pos c47] at H
              have c47b0 : decide ((t188.length : Int) ≤ (t202.length : Int)) = true := decide_eq_true c47
              have c47b1 : decide (t188.length ≤ t202.length) = true := decide_eq_true (Int.ofNat_le.mp c47)
              clear c47
              by_cases c48 : 0 ≤ (t188.length : Int)
              ·rw [if_pos c48] at H
               have c48b0 := eq_true c48
               have c48b1 : decide (0 ≤ (t188.length : Int)) = true := decide_eq_true c48
               clear c48
               by_cases c49 : (t188.length : Int) ≤ (t202.length : Int)
               ·rw [if_pos c49] at H
                have c49b0 := eq_true c49
                have c49b1 : decide ((t188.length : Int) ≤ (t202.length : Int)) = true := decide_eq_true c49
                clear c49
                obtain ⟨y205, hy205⟩ : ∃ y_ : List (S25), y_ = (t202.take ((t188.length : Int) : Int).toNat) := ⟨_, rfl⟩
                replace H : ((laws_wpPages.f k3 y205 t188).bind fun t209 => (some t209)) = some r := by first | (rw [hy205]; with_reducible exact H) | (have H2_ := (Option.bind_some _ _).symm.trans H; rw [hy205]; with_reducible exact H2_) | (have H2_ := (Option.bind_some _ _).symm.trans H; with_reducible exact H2_) | with_reducible exact H | (rw [hy205]; exact H) | exact H
                have Ny205 := Aside0.mk hy205
                clear hy205
                replace H := Option.bind_eq_some_iff.mp H
                obtain ⟨t209, A500, H⟩ := H
                replace H : (some t209) = some r := H
                have A50 := Aside0.mk A500
                clear A500
                obtain rfl := Option.some.inj H
                obtain ⟨Ao51, co51, eo51⟩ := Kd.R_slice HO_8.out
                subst eo51
                obtain ⟨Ao52, co52, eo52⟩ := Kd.R_slice HO_10.out
                subst eo52
                have q53 : ((t188.length : Int) : Int) ≤ ((t202.length : Int) : Int) := of_decide_eq_true (z15_1)
                obtain ⟨i053, hi053, _, hsz53, _⟩ := info_parts info25
                have hroom53 : t202.length ≤ co52 := (Kd.R_reads' HO_10.out).2.1
                have hC53 : Kd.C k25 _ Ao52 t202.length t202 := (Kd.R_reads' HO_10.out).2.2
                have hcut53 := cut_to (P := Try.prog) 28 25 .i64 Try.underlying28 hi053 Ao52 t202.length co52 (t188.length : Int) (of_decide_eq_true (z15_1)) q53 hroom53
                have hr53 := Kd.C_take (m := ((t188.length : Int) : Int).toNat) hC53 (by omega)
                have hy53 : y205.length = ((t188.length : Int) : Int).toNat := (by rw [Ny205.out, List.length_take]; omega)
                rw [← Ny205.out] at hr53
                rw [← hy53] at hcut53
                have HR208 := Aside0.mk hr53
                have HC208 := Aside0.mk (show y205.length ≤ co52 from by omega)
                clear hr53 hC53 hroom53 hi053 hsz53
                have KY53 := Aside0.mk hy53
                clear hy53
                have KL53 := Aside0.mk (show ((t188.length : Int) : Int).toNat ≤ t202.length from by omega)
                replace q53 := eq_true q53
                go_wp2_with (first | (go_at_call 29; (with_reducible refine (laws_wpPages.calls k3 _ _ y205 _ _ t188 t209 _ ?side1 ?side2 ?side3 ?side4 A50.out).mono ?_); (case side1 => repeat (first | exact (by repeat (first | (with_reducible exact HR208.out) | (with_reducible refine Kd.C_alloc ?_ _) | (with_reducible refine Kd.C_drewN ?_ _) | (with_reducible refine Kd.C_drew ?_) | exact HR208.out)) | (with_reducible refine Kd.C_alloc ?_ _) | (with_reducible refine Kd.C_drewN ?_ _) | (with_reducible refine Kd.C_drew ?_))); (case side2 => exact HC208.out); (case side3 => repeat (first | exact (Kd.R_reads' HO_8.out).2.2 | (with_reducible refine Kd.C_alloc ?_ _) | (with_reducible refine Kd.C_drewN ?_ _) | (with_reducible refine Kd.C_drew ?_))); (case side4 => exact (Kd.R_reads' HO_8.out).2.1); rintro e w' ⟨rfl, ⟨nd, rfl⟩⟩; (try first | exact ⟨rfl, _, World.drewN_drewN _ _ _⟩ | exact ⟨rfl, _, Eq.trans (World.drewN_drewN _ _ _) (congrArg (World.drewN _) (Nat.add_assoc _ _ _))⟩)))
                repeat (go_quiet (fail); try go_wp2)
                go_ret
                exact ⟨by first | rfl | (simp [errW_none, errW_some] <;> rfl) | (simp [*, errW_none, errW_some] <;> rfl), by repeat (first | (with_reducible first | exact HB.out | apply below_alloc | apply pw_below_drewN | apply below_drew1) | exact HB.out)⟩
               ·rw [if_neg c49] at H
                exact absurd H (by simp)
              ·rw [if_neg c48] at H
               exact absurd H (by simp)
             ·rw [if_neg c47] at H
              have c47b0 : decide ((t188.length : Int) ≤ (t202.length : Int)) = false := decide_eq_false c47
              have c47b1 : decide (t188.length ≤ t202.length) = false := decide_eq_false (fun h => c47 (Int.ofNat_le.mpr h))
              clear c47
              exact absurd ((Option.some.inj H).trans hT) (by simp)
            ·rw [if_neg c46] at H
             have c46b0 : ((x11_3 == 1) == false) = false := by simpa using c46
             (try (have c46b1 : decide ((x11_3 == 1) = false) = false := by simpa using c46))
             (try (have c46b2 : ((x11_3 == 1) == false) = false := by simpa using c46))
             (try (have c46b3 : ¬ ((x11_3 == 1) = false) := by simpa using c46))
             clear c46
             exact absurd ((Option.some.inj H).trans hT) (by simp)
           ·rw [if_neg c45] at H
            have c45b0 : ((Int.tmod t187 8) == 0) = false := beq_eq_false_iff_ne.mpr c45
            have c45b1 : ((Int.tmod t187 8) != 0) = true := bne_iff_ne.mpr c45
            by_cases c54 : ((x11_3 == 1) == (decide ((t199.length : Int) > 0))) = true
            ·rw [if_pos c54] at H
             have c54b0 : ((x11_3 == 1) == (decide ((t199.length : Int) > 0))) = true := c54
             have c54z0 : ((x11_3 == 1) == (decide (0 < t199.length))) = true := by have z_ := c54b0; rw [show (decide ((t199.length : Int) > 0)) = decide (0 < t199.length) from by simp] at z_; exact z_
             (try (have c54b1 : decide ((x11_3 == 1) = (decide ((t199.length : Int) > 0))) = true := by simpa using c54))
             (try (have c54b2 : ((x11_3 == 1) == (decide ((t199.length : Int) > 0))) = true := by simpa using c54))
             clear c54
             by_cases c55 : (t202.length : Int) ≥ (t188.length : Int)
             ·rw [if_pos c55] at H
              have c55b0 : decide ((t188.length : Int) ≤ (t202.length : Int)) = true := decide_eq_true c55
              have c55b1 : decide (t188.length ≤ t202.length) = true := decide_eq_true (Int.ofNat_le.mp c55)
              clear c55
              by_cases c56 : 0 ≤ (t188.length : Int)
              ·rw [if_pos c56] at H
               have c56b0 := eq_true c56
               have c56b1 : decide (0 ≤ (t188.length : Int)) = true := decide_eq_true c56
               clear c56
               by_cases c57 : (t188.length : Int) ≤ (t202.length : Int)
               ·rw [if_pos c57] at H
                have c57b0 := eq_true c57
                have c57b1 : decide ((t188.length : Int) ≤ (t202.length : Int)) = true := decide_eq_true c57
                clear c57
                obtain ⟨y210, hy210⟩ : ∃ y_ : List (S25), y_ = (t202.take ((t188.length : Int) : Int).toNat) := ⟨_, rfl⟩
                replace H : ((laws_wpPages.f k3 y210 t188).bind fun t214 => (some t214)) = some r := by first | (rw [hy210]; with_reducible exact H) | (have H2_ := (Option.bind_some _ _).symm.trans H; rw [hy210]; with_reducible exact H2_) | (have H2_ := (Option.bind_some _ _).symm.trans H; with_reducible exact H2_) | with_reducible exact H | (rw [hy210]; exact H) | exact H
                have Ny210 := Aside0.mk hy210
                clear hy210
                replace H := Option.bind_eq_some_iff.mp H
                obtain ⟨t214, A580, H⟩ := H
                replace H : (some t214) = some r := H
                have A58 := Aside0.mk A580
                clear A580
                obtain rfl := Option.some.inj H
                obtain ⟨Ao59, co59, eo59⟩ := Kd.R_slice HO_8.out
                subst eo59
                obtain ⟨Ao60, co60, eo60⟩ := Kd.R_slice HO_9.out
                subst eo60
                obtain ⟨Ao61, co61, eo61⟩ := Kd.R_slice HO_10.out
                subst eo61
                have q62 : ((t188.length : Int) : Int) ≤ ((t202.length : Int) : Int) := of_decide_eq_true (z15_1)
                obtain ⟨i062, hi062, _, hsz62, _⟩ := info_parts info25
                have hroom62 : t202.length ≤ co61 := (Kd.R_reads' HO_10.out).2.1
                have hC62 : Kd.C k25 _ Ao61 t202.length t202 := (Kd.R_reads' HO_10.out).2.2
                have hcut62 := cut_to (P := Try.prog) 28 25 .i64 Try.underlying28 hi062 Ao61 t202.length co61 (t188.length : Int) (of_decide_eq_true (z15_1)) q62 hroom62
                have hr62 := Kd.C_take (m := ((t188.length : Int) : Int).toNat) hC62 (by omega)
                have hy62 : y210.length = ((t188.length : Int) : Int).toNat := (by rw [Ny210.out, List.length_take]; omega)
                rw [← Ny210.out] at hr62
                rw [← hy62] at hcut62
                have HR213 := Aside0.mk hr62
                have HC213 := Aside0.mk (show y210.length ≤ co61 from by omega)
                clear hr62 hC62 hroom62 hi062 hsz62
                have KY62 := Aside0.mk hy62
                clear hy62
                have KL62 := Aside0.mk (show ((t188.length : Int) : Int).toNat ≤ t202.length from by omega)
                replace q62 := eq_true q62
                go_wp2_with (first | (go_at_call 29; (with_reducible refine (laws_wpPages.calls k3 _ _ y210 _ _ t188 t214 _ ?side1 ?side2 ?side3 ?side4 A58.out).mono ?_); (case side1 => repeat (first | exact (by repeat (first | (with_reducible exact HR213.out) | (with_reducible refine Kd.C_alloc ?_ _) | (with_reducible refine Kd.C_drewN ?_ _) | (with_reducible refine Kd.C_drew ?_) | exact HR213.out)) | (with_reducible refine Kd.C_alloc ?_ _) | (with_reducible refine Kd.C_drewN ?_ _) | (with_reducible refine Kd.C_drew ?_))); (case side2 => exact HC213.out); (case side3 => repeat (first | exact (Kd.R_reads' HO_8.out).2.2 | (with_reducible refine Kd.C_alloc ?_ _) | (with_reducible refine Kd.C_drewN ?_ _) | (with_reducible refine Kd.C_drew ?_))); (case side4 => exact (Kd.R_reads' HO_8.out).2.1); rintro e w' ⟨rfl, ⟨nd, rfl⟩⟩; (try first | exact ⟨rfl, _, World.drewN_drewN _ _ _⟩ | exact ⟨rfl, _, Eq.trans (World.drewN_drewN _ _ _) (congrArg (World.drewN _) (Nat.add_assoc _ _ _))⟩)))
                repeat (go_quiet (fail); try go_wp2)
                go_ret
                exact ⟨by first | rfl | (simp [errW_none, errW_some] <;> rfl) | (simp [*, errW_none, errW_some] <;> rfl), by repeat (first | (with_reducible first | exact HB.out | apply below_alloc | apply pw_below_drewN | apply below_drew1) | exact HB.out)⟩
               ·rw [if_neg c57] at H
                exact absurd H (by simp)
              ·rw [if_neg c56] at H
               exact absurd H (by simp)
             ·rw [if_neg c55] at H
              have c55b0 : decide ((t188.length : Int) ≤ (t202.length : Int)) = false := decide_eq_false c55
              have c55b1 : decide (t188.length ≤ t202.length) = false := decide_eq_false (fun h => c55 (Int.ofNat_le.mpr h))
              clear c55
              exact absurd ((Option.some.inj H).trans hT) (by simp)
            ·rw [if_neg c54] at H
             have c54b0 : ((x11_3 == 1) == (decide ((t199.length : Int) > 0))) = false := by simpa using c54
             have c54z0 : ((x11_3 == 1) == (decide (0 < t199.length))) = false := by have z_ := c54b0; rw [show (decide ((t199.length : Int) > 0)) = decide (0 < t199.length) from by simp] at z_; exact z_
             (try (have c54b1 : decide ((x11_3 == 1) = (decide ((t199.length : Int) > 0))) = false := by simpa using c54))
             (try (have c54b2 : ((x11_3 == 1) == (decide ((t199.length : Int) > 0))) = false := by simpa using c54))
             (try (have c54b3 : ¬ ((x11_3 == 1) = (decide ((t199.length : Int) > 0))) := by simpa using c54))
             clear c54
             exact absurd ((Option.some.inj H).trans hT) (by simp)
          ·rw [if_neg c44] at H
           have c44b0 : decide (x11_3 ≤ 1) = false := decide_eq_false c44
           clear c44
           exact absurd ((Option.some.inj H).trans hT) (by simp)

/-- THE ONE PURE STATEMENT of laws_FnPageApart: yours. -/
def laws_FnPageApart.Pure : Prop := ∀ (l0 : List Int) (l1 : List Int), l0.length ≤ maxLen → l0.length * 1 ≤ 140737488351232 → (∀ x ∈ l0, (Lit.int .u8 x).wf = true) → l1.length ≤ maxLen → l1.length * 1 ≤ 140737488351232 → (∀ x ∈ l1, (Lit.int .u8 x).wf = true) → ∃ k, laws_FnPageApart.f k l0 l1 = some true
theorem laws_FnPageApart.walk (P : laws_FnPageApart.Pure) (a0 : Option Addr) (len0 cap0 : Nat) (z0 : List Int) (a1 : Option Addr) (len1 cap1 : Nat) (z1 : List Int) (w : World) (w0 : (a0 = none ∧ len0 = 0 ∧ cap0 = 0 ∧ z0 = []) ∨ ∃ x, a0 = some x ∧ len0 ≤ cap0 ∧ cap0 ≤ maxLen ∧ z0.length = cap0 ∧ (∀ i, i < z0.length → w.cell? (x.add i) = some (.int .u8 (z0.getD i 0))) ∧ ∀ n ∈ z0, (Lit.int .u8 n).wf = true) (y0 : len0 * 1 ≤ 140737488351232) (w1 : (a1 = none ∧ len1 = 0 ∧ cap1 = 0 ∧ z1 = []) ∨ ∃ x, a1 = some x ∧ len1 ≤ cap1 ∧ cap1 ≤ maxLen ∧ z1.length = cap1 ∧ (∀ i, i < z1.length → w.cell? (x.add i) = some (.int .u8 (z1.getD i 0))) ∧ ∀ n ∈ z1, (Lit.int .u8 n).wf = true) (y1 : len1 * 1 ≤ 140737488351232) :
  Calls Try.prog 5 #[.slice a0 len0 cap0, .slice a1 len1 cap1] w fun e w' => e = .returned (.bool true) ∧ Below w.heap.size w w' := by
 obtain ⟨l0, rfl, hr0, hm0, hw0, hc0⟩ := ReadsInt.ofRowC w0
 obtain ⟨l1, rfl, hr1, hm1, hw1, hc1⟩ := ReadsInt.ofRowC w1
 obtain ⟨k, h⟩ := P l0 l1 hm0 y0 hw0 hm1 y1 hw1
 refine (laws_FnPageApart.calls k _ _ l0 _ _ l1 true w (Kd.C_of_reads (d := (0 : Int)) (h1 := fun _ => rfl) hr0) hc0 (Kd.C_of_reads (d := (0 : Int)) (h1 := fun _ => rfl) hr1) hc1 rfl h).mono ?_
 rintro e w' ⟨rfl, hd⟩
 exact ⟨rfl, hd⟩

end Go.Proofs.Ytcobbpghipeoeaa.R
