/- Contracts of Go functions, printed by a program (the kit's print.py under reprint.py) and shortened (post.py): each call comes to what the plain function of its name tells. Where that tells nothing, nothing is said. -/
import Derived.Test.YtcobbpghipeoeaaR0
import Derived.Test.YtcobbpghipeoeaaR1
import Derived.Test.YtcobbpghipeoeaaR2
import Derived.Test.YtcobbpghipeoeaaR6
import Derived.Test.YtcobbpghipeoeaaR12
import Derived.Test.YtcobbpghipeoeaaGB
namespace Go.Proofs.Ytcobbpghipeoeaa.R
open Go.RowKit Go.Proofs.YtcobbpghipeoeaaV.PrintWords Go.Proofs.YtcobbpghipeoeaaV.PrintLast Go.Proofs.YtcobbpghipeoeaaV.PrintMore
attribute [local go_sem] max2_int min2_int max_two min_two max_three min_three max_four min_four   -- for this text's walks alone
set_option linter.unusedVariables false
set_option linter.unusedSimpArgs false
theorem z20_0 {P : Prop} (h : P := by (with_reducible repeat (first | refine blk_drewN ?_ _ | refine blk_drew ?_ | refine blk_alloc ?_ _)); refine blk_far ?_ NB520_533.out _; (with_reducible repeat (first | refine blk_drewN ?_ _ | refine blk_drew ?_ | refine blk_alloc ?_ _)); refine blk_far ?_ NB520_533.out _; (with_reducible repeat (first | refine blk_drewN ?_ _ | refine blk_drew ?_ | refine blk_alloc ?_ _)); exact BK520.out) : P := h
theorem z20_1 {P : Prop} (h : P := by (with_reducible repeat (first | refine blk_drewN ?_ _ | refine blk_drew ?_ | refine blk_alloc ?_ _)); refine blk_far ?_ NB521_533.out _; (with_reducible repeat (first | refine blk_drewN ?_ _ | refine blk_drew ?_ | refine blk_alloc ?_ _)); refine blk_far ?_ NB521_533.out _; (with_reducible repeat (first | refine blk_drewN ?_ _ | refine blk_drew ?_ | refine blk_alloc ?_ _)); exact BK521.out) : P := h
theorem z20_2 {P : Prop} (h : P := by (with_reducible repeat (first | refine blk_drewN ?_ _ | refine blk_drew ?_ | refine blk_alloc ?_ _)); refine blk_far ?_ NB527_533.out _; (with_reducible repeat (first | refine blk_drewN ?_ _ | refine blk_drew ?_ | refine blk_alloc ?_ _)); refine blk_far ?_ NB527_533.out _; (with_reducible repeat (first | refine blk_drewN ?_ _ | refine blk_drew ?_ | refine blk_alloc ?_ _)); exact BK527.out) : P := h
theorem z20_3 {P : Prop} (h : P := by repeat (first | (with_reducible first | exact HB.out | apply below_alloc | apply pw_below_drewN | apply below_drew1 | refine below_set ?_ GE520.out | refine below_set ?_ GE521.out | refine below_set ?_ GE527.out | refine below_set ?_ GE533.out) | exact HB.out)) : P := h
theorem z20_4 {P : Prop} (h : P := by repeat (first | (with_reducible first | exact HB.out | apply below_alloc | apply pw_below_drewN | apply below_drew1 | refine below_set ?_ GE520.out | refine below_set ?_ GE521.out | refine below_set ?_ GE527.out) | exact HB.out)) : P := h
theorem z20_5 {P : Prop} (h : P := by repeat (first | (with_reducible first | exact HB.out | apply below_alloc | apply pw_below_drewN | apply below_drew1 | refine below_set ?_ GE520.out | refine below_set ?_ GE521.out) | exact HB.out)) : P := h
theorem z20_6 {P : Prop} (h : P := by repeat (first | (with_reducible first | exact HB.out | apply below_alloc | apply pw_below_drewN | apply below_drew1 | refine below_set ?_ GE520.out) | exact HB.out)) : P := h
theorem z20_7 {P : Prop} (h : P := by repeat (first | (with_reducible first | exact HB.out | apply below_alloc | apply pw_below_drewN | apply below_drew1) | exact HB.out)) : P := h
theorem z20_8 {P : Prop} (h : P := by (with_reducible repeat (first | refine blk_drewN ?_ _ | refine blk_drew ?_ | refine blk_alloc ?_ _)); exact BK520.out) : P := h
theorem z20_9 {P : Prop} (h : P := by (with_reducible repeat (first | refine blk_drewN ?_ _ | refine blk_drew ?_ | refine blk_alloc ?_ _)); exact BK521.out) : P := h
theorem z20_10 {P : Prop} (h : P := by (with_reducible repeat (first | refine blk_drewN ?_ _ | refine blk_drew ?_ | refine blk_alloc ?_ _)); exact BK527.out) : P := h
theorem z20_11 {P : Prop} (h : P := by first | (with_reducible assumption) | assumption) : P := h
theorem z20_12 {P : Prop} (h : P := by first | rfl | (simp; done) | (simp [*]; done)) : P := h

attribute [local go_sem high] eqA25
/-! ### laws_FnPoolHit: function 10 -/
mutual
def laws_FnPoolHit.j0 : Nat → Bool → Bool → Bool → Int → List (S25) → Int → Int → Int → List (S25) → Option (Bool)
 | 0, _, _, _, _, _, _, _, _, _ => none
 | k + 1, x6, x8, x50, x521000, x521001, x522000, x522001, x528000, x528001 => if x50 = true then (some (x6 == x8)) else (laws_FnPoolHit.l0 k x6 false 0 x521000 x521001 x522000 x522001 x528000 x528001)
def laws_FnPoolHit.l0 : Nat → Bool → Bool → Int → Int → List (S25) → Int → Int → Int → List (S25) → Option (Bool)
 | 0, _, _, _, _, _, _, _, _, _ => none
 | k + 1, x6, x9, x10, x521000, x521001, x522000, x522001, x528000, x528001 => if x10 < (x521001.length : Int) then (if x9 = true then (laws_FnPoolHit.l0 k x6 true (wrap64 (x10 + 1)) x521000 x521001 x522000 x522001 x528000 x528001) else (if 0 ≤ x10 then (laws_FnPoolHit.l0 k x6 (((rd_T25 x521001 x10).f0) == x522000 && (((rd_T25 x521001 x10).f1) == x522001)) (wrap64 (x10 + 1)) x521000 x521001 x522000 x522001 x528000 x528001) else (none))) else (if x6 = true then (if x9 = true then (some ((x528001.length : Int) == (x521001.length : Int))) else (some false)) else (if (x521001.length : Int) < x521000 then (if x9 = true then (some false) else (some ((x528001.length : Int) == (wrap64 ((x521001.length : Int) + 1))))) else (laws_FnPoolHit.l1 k x9 (x521001.length : Int) 0 x521000 x521001 x528000 x528001)))
def laws_FnPoolHit.l1 : Nat → Bool → Int → Int → Int → List (S25) → Int → List (S25) → Option (Bool)
 | 0, _, _, _, _, _, _, _ => none
 | k + 1, x9, x11, x12, x521000, x521001, x528000, x528001 => if x12 < (x528001.length : Int) then (if 0 ≤ x12 then (if 0 ≤ (wrap64 (x11 - 1)) then (if (wrap64 (x11 - 1)) < (x521001.length : Int) then (if (((rd_T25 x528001 x12).f0) == ((rd_T25 x521001 (wrap64 (x11 - 1))).f0) && (((rd_T25 x528001 x12).f1) == ((rd_T25 x521001 (wrap64 (x11 - 1))).f1))) = true then (some false) else (laws_FnPoolHit.l1 k x9 x11 (wrap64 (x12 + 1)) x521000 x521001 x528000 x528001)) else (none)) else (none)) else (none)) else (if x9 = true then (some false) else (some ((x528001.length : Int) == x11)))
end
def laws_FnPoolHit.f (k : Nat) (l0 : List Int) : Option (Bool) := if (l0.length : Int) > 1048576 then (some true) else ((spec_DrawPoolUse.f k l0).bind fun bt514 => ((impl_PoolUse.f bt514.1 bt514.2.1 bt514.2.2.1 bt514.2.2.2).bind fun bt522 => ((spec_PoolUse.f k bt514.1 bt514.2.1 bt514.2.2.1 bt514.2.2.2).bind fun bt528 => (if (bt522.2.2 != bt528.2.2) = true then (laws_FnPoolHit.j0 k bt522.2.2 bt528.2.2 true bt514.1 bt514.2.1 bt514.2.2.1 bt514.2.2.2 bt522.1 bt522.2.1) else ((spec_PoolOk.f k bt514.1 bt514.2.1).bind fun t534 => (if t534 = true then ((impl_PageOk.f bt514.2.2.1 bt514.2.2.2).bind fun t535 => (if t535 = true then (laws_FnPoolHit.j0 k bt522.2.2 bt528.2.2 (bt514.1 == 0) bt514.1 bt514.2.1 bt514.2.2.1 bt514.2.2.2 bt522.1 bt522.2.1) else (laws_FnPoolHit.j0 k bt522.2.2 bt528.2.2 true bt514.1 bt514.2.1 bt514.2.2.1 bt514.2.2.2 bt522.1 bt522.2.1))) else (laws_FnPoolHit.j0 k bt522.2.2 bt528.2.2 true bt514.1 bt514.2.1 bt514.2.2.1 bt514.2.2.2 bt522.1 bt522.2.1)))))))
theorem laws_FnPoolHit.mono_l : ∀ k, (∀ y0 y1 y2 y3 y4 y5 y6 y7 y8, LeO (laws_FnPoolHit.j0 k y0 y1 y2 y3 y4 y5 y6 y7 y8) (laws_FnPoolHit.j0 (k + 1) y0 y1 y2 y3 y4 y5 y6 y7 y8)) ∧ (∀ y0 y1 y2 y3 y4 y5 y6 y7 y8, LeO (laws_FnPoolHit.l0 k y0 y1 y2 y3 y4 y5 y6 y7 y8) (laws_FnPoolHit.l0 (k + 1) y0 y1 y2 y3 y4 y5 y6 y7 y8)) ∧ (∀ y0 y1 y2 y3 y4 y5 y6, LeO (laws_FnPoolHit.l1 k y0 y1 y2 y3 y4 y5 y6) (laws_FnPoolHit.l1 (k + 1) y0 y1 y2 y3 y4 y5 y6))
 | 0 => ⟨fun _ _ _ _ _ _ _ _ _ r h => by simp [laws_FnPoolHit.j0] at h, fun _ _ _ _ _ _ _ _ _ r h => by simp [laws_FnPoolHit.l0] at h, fun _ _ _ _ _ _ _ r h => by simp [laws_FnPoolHit.l1] at h⟩
 | k + 1 => by
  obtain ⟨ih0, ih1, ih2⟩ := laws_FnPoolHit.mono_l k
  refine ⟨?_, ?_, ?_⟩
  ·intro y0 y1 y2 y3 y4 y5 y6 y7 y8
   unfold laws_FnPoolHit.j0
   repeat' first
   | (with_reducible exact ih0 _ _ _ _ _ _ _ _ _)
   | (with_reducible exact ih1 _ _ _ _ _ _ _ _ _)
   | (with_reducible exact ih2 _ _ _ _ _ _ _)
   | (with_reducible exact spec_DrawPoolUse.mono _ _)
   | (with_reducible exact spec_PoolOk.mono _ _ _)
   | (with_reducible exact spec_PoolUse.mono _ _ _ _ _)
   | (with_reducible exact LeO.refl _)
   | (with_reducible exact LeO.none _)
   | (with_reducible refine LeO.ite ?_ ?_)
   | (with_reducible refine LeO.bind ?_ (fun _ => ?_))
   | exact ih0 _ _ _ _ _ _ _ _ _
   | exact ih1 _ _ _ _ _ _ _ _ _
   | exact ih2 _ _ _ _ _ _ _
   | exact spec_DrawPoolUse.mono _ _
   | exact spec_PoolOk.mono _ _ _
   | exact spec_PoolUse.mono _ _ _ _ _
   | exact LeO.none _
   | refine LeO.ite ?_ ?_
   | refine LeO.bind ?_ (fun _ => ?_)
  ·intro y0 y1 y2 y3 y4 y5 y6 y7 y8
   unfold laws_FnPoolHit.l0
   repeat' first
   | (with_reducible exact ih0 _ _ _ _ _ _ _ _ _)
   | (with_reducible exact ih1 _ _ _ _ _ _ _ _ _)
   | (with_reducible exact ih2 _ _ _ _ _ _ _)
   | (with_reducible exact spec_DrawPoolUse.mono _ _)
   | (with_reducible exact spec_PoolOk.mono _ _ _)
   | (with_reducible exact spec_PoolUse.mono _ _ _ _ _)
   | (with_reducible exact LeO.refl _)
   | (with_reducible exact LeO.none _)
   | (with_reducible refine LeO.ite ?_ ?_)
   | (with_reducible refine LeO.bind ?_ (fun _ => ?_))
   | exact ih0 _ _ _ _ _ _ _ _ _
   | exact ih1 _ _ _ _ _ _ _ _ _
   | exact ih2 _ _ _ _ _ _ _
   | exact spec_DrawPoolUse.mono _ _
   | exact spec_PoolOk.mono _ _ _
   | exact spec_PoolUse.mono _ _ _ _ _
   | exact LeO.none _
   | refine LeO.ite ?_ ?_
   | refine LeO.bind ?_ (fun _ => ?_)
  ·intro y0 y1 y2 y3 y4 y5 y6
   unfold laws_FnPoolHit.l1
   repeat' first
   | (with_reducible exact ih0 _ _ _ _ _ _ _ _ _)
   | (with_reducible exact ih1 _ _ _ _ _ _ _ _ _)
   | (with_reducible exact ih2 _ _ _ _ _ _ _)
   | (with_reducible exact spec_DrawPoolUse.mono _ _)
   | (with_reducible exact spec_PoolOk.mono _ _ _)
   | (with_reducible exact spec_PoolUse.mono _ _ _ _ _)
   | (with_reducible exact LeO.refl _)
   | (with_reducible exact LeO.none _)
   | (with_reducible refine LeO.ite ?_ ?_)
   | (with_reducible refine LeO.bind ?_ (fun _ => ?_))
   | exact ih0 _ _ _ _ _ _ _ _ _
   | exact ih1 _ _ _ _ _ _ _ _ _
   | exact ih2 _ _ _ _ _ _ _
   | exact spec_DrawPoolUse.mono _ _
   | exact spec_PoolOk.mono _ _ _
   | exact spec_PoolUse.mono _ _ _ _ _
   | exact LeO.none _
   | refine LeO.ite ?_ ?_
   | refine LeO.bind ?_ (fun _ => ?_)
theorem laws_FnPoolHit.mono : ∀ a0 k, LeO (laws_FnPoolHit.f k a0) (laws_FnPoolHit.f (k + 1) a0) := by
 intro a0 k
 obtain ⟨ih0, ih1, ih2⟩ := laws_FnPoolHit.mono_l k
 unfold laws_FnPoolHit.f
 repeat' first
   | (with_reducible exact ih0 _ _ _ _ _ _ _ _ _)
   | (with_reducible exact ih1 _ _ _ _ _ _ _ _ _)
   | (with_reducible exact ih2 _ _ _ _ _ _ _)
   | (with_reducible exact spec_DrawPoolUse.mono _ _)
   | (with_reducible exact spec_PoolOk.mono _ _ _)
   | (with_reducible exact spec_PoolUse.mono _ _ _ _ _)
   | (with_reducible exact LeO.refl _)
   | (with_reducible exact LeO.none _)
   | (with_reducible refine LeO.ite ?_ ?_)
   | (with_reducible refine LeO.bind ?_ (fun _ => ?_))
   | exact ih0 _ _ _ _ _ _ _ _ _
   | exact ih1 _ _ _ _ _ _ _ _ _
   | exact ih2 _ _ _ _ _ _ _
   | exact spec_DrawPoolUse.mono _ _
   | exact spec_PoolOk.mono _ _ _
   | exact spec_PoolUse.mono _ _ _ _ _
   | exact LeO.none _
   | refine LeO.ite ?_ ?_
   | refine LeO.bind ?_ (fun _ => ?_)
set_option maxHeartbeats 8000000 in
set_option maxRecDepth 100000 in
theorem laws_FnPoolHit.calls (k : Nat) (A0 : Option Addr) (c0 : Nat) (l0 : List Int) (r : Bool) (w : World) (hr0 : Kd.C (Kd.int .u8) w A0 l0.length l0) (hc0 : l0.length ≤ c0) (hT : r = true) (h : laws_FnPoolHit.f k l0 = some r) :
  Calls Try.prog 10 #[.slice A0 l0.length c0] w fun e w' => e = .returned (.bool r) ∧ Below w.heap.size w w' := by
 have hu46 := Try.underlying46
 have hu25 := Try.underlying25
 have HR0 := Aside0.mk hr0
 have HC0 := Aside0.mk hc0
 clear hr0 hc0
 have HB := Aside0.mk (Below.refl w.heap.size w)
 have H : (if (l0.length : Int) > 1048576 then (some true) else ((spec_DrawPoolUse.f k l0).bind fun bt514 => ((impl_PoolUse.f bt514.1 bt514.2.1 bt514.2.2.1 bt514.2.2.2).bind fun bt522 => ((spec_PoolUse.f k bt514.1 bt514.2.1 bt514.2.2.1 bt514.2.2.2).bind fun bt528 => (if (bt522.2.2 != bt528.2.2) = true then (laws_FnPoolHit.j0 k bt522.2.2 bt528.2.2 true bt514.1 bt514.2.1 bt514.2.2.1 bt514.2.2.2 bt522.1 bt522.2.1) else ((spec_PoolOk.f k bt514.1 bt514.2.1).bind fun t534 => (if t534 = true then ((impl_PageOk.f bt514.2.2.1 bt514.2.2.2).bind fun t535 => (if t535 = true then (laws_FnPoolHit.j0 k bt522.2.2 bt528.2.2 (bt514.1 == 0) bt514.1 bt514.2.1 bt514.2.2.1 bt514.2.2.2 bt522.1 bt522.2.1) else (laws_FnPoolHit.j0 k bt522.2.2 bt528.2.2 true bt514.1 bt514.2.1 bt514.2.2.1 bt514.2.2.2 bt522.1 bt522.2.1))) else (laws_FnPoolHit.j0 k bt522.2.2 bt528.2.2 true bt514.1 bt514.2.1 bt514.2.2.1 bt514.2.2.2 bt522.1 bt522.2.1)))))))) = some r := h
 clear h
 by_cases c2 : (l0.length : Int) > 1048576
 ·rw [if_pos c2] at H
  have c2b0 : decide (1048576 < (l0.length : Int)) = true := decide_eq_true c2
  have c2b1 : decide (1048576 < l0.length) = true := decide_eq_true (by omega)
  clear c2
  obtain rfl := Option.some.inj H
  go_enter Try.func10, Try.ntmps10
  go_wp2
  repeat (go_quiet (fail); try go_wp2)
  go_ret
  exact ⟨by first | rfl | (simp [errW_none, errW_some] <;> rfl) | (simp [*, errW_none, errW_some] <;> rfl), by repeat (first | (with_reducible first | exact HB.out | apply below_alloc | apply pw_below_drewN | apply below_drew1) | exact HB.out)⟩
 ·rw [if_neg c2] at H
  have c2b0 : decide (1048576 < (l0.length : Int)) = false := decide_eq_false c2
  have c2b1 : decide (1048576 < l0.length) = false := decide_eq_false (by omega)
  clear c2
  replace H := Option.bind_eq_some_iff.mp H
  obtain ⟨⟨t514, t515, t518, t519⟩, A30, H⟩ := H
  replace H : ((impl_PoolUse.f t514 t515 t518 t519).bind fun bt522 => ((spec_PoolUse.f k t514 t515 t518 t519).bind fun bt528 => (if (bt522.2.2 != bt528.2.2) = true then (laws_FnPoolHit.j0 k bt522.2.2 bt528.2.2 true t514 t515 t518 t519 bt522.1 bt522.2.1) else ((spec_PoolOk.f k t514 t515).bind fun t534 => (if t534 = true then ((impl_PageOk.f t518 t519).bind fun t535 => (if t535 = true then (laws_FnPoolHit.j0 k bt522.2.2 bt528.2.2 (t514 == 0) t514 t515 t518 t519 bt522.1 bt522.2.1) else (laws_FnPoolHit.j0 k bt522.2.2 bt528.2.2 true t514 t515 t518 t519 bt522.1 bt522.2.1))) else (laws_FnPoolHit.j0 k bt522.2.2 bt528.2.2 true t514 t515 t518 t519 bt522.1 bt522.2.1)))))) = some r := H
  have A3 := Aside0.mk A30
  clear A30
  replace H := Option.bind_eq_some_iff.mp H
  obtain ⟨⟨t522, t523, t526⟩, A40, H⟩ := H
  replace H : ((spec_PoolUse.f k t514 t515 t518 t519).bind fun bt528 => (if (t526 != bt528.2.2) = true then (laws_FnPoolHit.j0 k t526 bt528.2.2 true t514 t515 t518 t519 t522 t523) else ((spec_PoolOk.f k t514 t515).bind fun t534 => (if t534 = true then ((impl_PageOk.f t518 t519).bind fun t535 => (if t535 = true then (laws_FnPoolHit.j0 k t526 bt528.2.2 (t514 == 0) t514 t515 t518 t519 t522 t523) else (laws_FnPoolHit.j0 k t526 bt528.2.2 true t514 t515 t518 t519 t522 t523))) else (laws_FnPoolHit.j0 k t526 bt528.2.2 true t514 t515 t518 t519 t522 t523))))) = some r := H
  have A4 := Aside0.mk A40
  clear A40
  replace H := Option.bind_eq_some_iff.mp H
  obtain ⟨⟨t528, t529, t532⟩, A50, H⟩ := H
  replace H : (if (t526 != t532) = true then (laws_FnPoolHit.j0 k t526 t532 true t514 t515 t518 t519 t522 t523) else ((spec_PoolOk.f k t514 t515).bind fun t534 => (if t534 = true then ((impl_PageOk.f t518 t519).bind fun t535 => (if t535 = true then (laws_FnPoolHit.j0 k t526 t532 (t514 == 0) t514 t515 t518 t519 t522 t523) else (laws_FnPoolHit.j0 k t526 t532 true t514 t515 t518 t519 t522 t523))) else (laws_FnPoolHit.j0 k t526 t532 true t514 t515 t518 t519 t522 t523)))) = some r := H
  have A5 := Aside0.mk A50
  clear A50
  have HC6 := Aside0.mk H
  clear H
  go_enter Try.func10, Try.ntmps10
  go_upto_region 6 with (first | (go_at_call 41; (with_reducible refine (spec_DrawPoolUse.calls k _ _ l0 t514 t515 t518 t519 _ ?side1 ?side2 A3.out).mono ?_); (case side1 => repeat (first | exact HR0.out | (with_reducible refine Kd.C_alloc ?_ _) | (with_reducible refine Kd.C_drewN ?_ _) | (with_reducible refine Kd.C_drew ?_))); (case side2 => exact HC0.out); rintro e w7 ⟨v516, rfl, ho0, hb⟩; have n0_ := Aside0.mk (Kd.R_lower ho0 (below_size (z20_7))); have n1_ := Aside0.mk (below_step (z20_7) hb); clear HB; have HO517 := n0_; have HB := n1_; clear n0_ n1_; (try clear hb); (try clear hb2); (try clear hk); (try clear hi); (try clear ho0)) | ((with_reducible refine gate_dst (N := 3) rfl ?_); (try (refine gate_guard (by rfl) ?_; dsimp only)); refine box_event ?hg (N := 3) ?hd (cs := #[.int .i64 0, .slice none 0 0]) (t := 46) ?hr ?_; (case hd => rfl); (case hg => rfl); (case hr => first | (go_simp; done) | (go_simp; rfl)); intro gb520 hg w8 hbox hb; have n0_ := Aside0.mk (Kd.R_below (by (with_reducible repeat (first | apply Kd.R_alloc | apply Kd.R_drewN | apply Kd.R_drew)); exact HO517.out) hb); have n1_ := Aside0.mk (below_step (z20_7) hb); have n2_ := Aside0.mk (hbox); have n3_ := Aside0.mk ((by rw [hg]; exact (below_size (z20_7)) : w.heap.size ≤ gb520)); have n4_ := Aside0.mk ((by rw [hg]; exact (below_size (z20_7)) : w.heap.size ≤ gb520)); clear HO517; clear HB; have HO517 := n0_; have HB := n1_; have BK520 := n2_; have GW520 := n3_; have GE520 := n4_; clear n0_ n1_ n2_ n3_ n4_; clear hb hbox hg) | ((with_reducible refine gate_dst (N := 4) rfl ?_); (try (refine gate_guard (by rfl) ?_; dsimp only)); refine box_event ?hg (N := 4) ?hd (cs := #[.int .i64 0, .int .i64 0]) (t := 25) ?hr ?_; (case hd => rfl); (case hg => rfl); (case hr => first | (go_simp; done) | (go_simp; rfl)); intro gb521 hg w9 hbox hb; have n0_ := Aside0.mk (Kd.R_below (Kd.R_elderB (by (with_reducible repeat (first | apply Kd.R_alloc | apply Kd.R_drewN | apply Kd.R_drew)); exact HO517.out) gb521 (Nat.le_of_eq hg.symm)) hb); have n1_ := Aside0.mk (blk_below (g := gb520) (o := .cells #[.int .i64 0, .slice none 0 0] 46 (0, 0)) (z20_8) hb); have n2_ := Aside0.mk (below_step (z20_6) hb); have n3_ := Aside0.mk (hbox); have n4_ := Aside0.mk ((by rw [hg]; exact (below_size (z20_6)) : w.heap.size ≤ gb521)); have n5_ := Aside0.mk ((by rw [hg]; exact (below_size (z20_6)) : w.heap.size ≤ gb521)); have n6_ := Aside0.mk ((by rw [hg]; exact Nat.ne_of_lt (blk_lt (g := gb520) (o := .cells #[.int .i64 0, .slice none 0 0] 46 (0, 0)) (z20_8)) : gb520 ≠ gb521)); have n7_ := Aside0.mk ((by rw [hg]; exact Nat.ne_of_gt (blk_lt (g := gb520) (o := .cells #[.int .i64 0, .slice none 0 0] 46 (0, 0)) (z20_8)) : gb521 ≠ gb520)); clear HO517; clear BK520; clear HB; have HO517 := n0_; have BK520 := n1_; have HB := n2_; have BK521 := n3_; have GW521 := n4_; have GE521 := n5_; have NB520_521 := n6_; have NB521_520 := n7_; clear n0_ n1_ n2_ n3_ n4_ n5_ n6_ n7_; clear hb hbox hg; have hnb10 := NB520_521.out; have hnc10 := NB521_520.out; have hcz11_0 : w9.cell? ⟨gb520, 0, none⟩ = some (.int .i64 0) := (blk_cell BK520.out 0).trans rfl; have hcz11_1 : w9.cell? ⟨gb520, 1, none⟩ = some (.slice none 0 0) := (blk_cell BK520.out 1).trans rfl; have hfz11_0 := blk_frozen BK520.out 0; have hfz11_1 := blk_frozen BK520.out 1; obtain ⟨Ao12, co12, eo12⟩ := Kd.R_slice HO517.out; subst eo12; have hcz13_0 : w9.cell? ⟨gb521, 0, none⟩ = some (.int .i64 0) := (blk_cell BK521.out 0).trans rfl; have hcz13_1 : w9.cell? ⟨gb521, 1, none⟩ = some (.int .i64 0) := (blk_cell BK521.out 1).trans rfl; have hfz13_0 := blk_frozen BK521.out 0; have hfz13_1 := blk_frozen BK521.out 1) | (go_at_call 42; (with_reducible refine (impl_PoolUse.calls t514 _ _ t515 t518 t519 t522 t523 t526 _ ?side1 ?side2 A4.out).mono ?_); (case side1 => refine (Kd.R_reads' (e := 25) (base := w.heap.size) (ok := fun k_ => (True ∧ k_ ≠ gb521)) (n := t515.length) (c := co12) ?_).2.2; exact (by (with_reducible repeat (first | apply Kd.R_alloc | apply Kd.R_drewN | apply Kd.R_drew)); exact (Kd.R_mono (Kd.R_mono (Kd.R_far (p := ⟨gb521, 1, none⟩) (Kd.R_far (p := ⟨gb521, 0, none⟩) (Kd.R_far (p := ⟨gb520, 1, none⟩) (Kd.R_far (p := ⟨gb520, 0, none⟩) (Kd.R_mono (Kd.R_types HO517.out BK520.out (by decide)) (fun k_ hk => (⟨hk, hk.1.2⟩ : _ ∧ k_ ≠ gb521))) (fun _ hk => hk.1.2) (.int .i64 t514)) (fun _ hk => hk.1.2) (.slice Ao12 t515.length co12)) (fun _ hk => hk.2) (.int .i64 t518)) (fun _ hk => hk.2) (.int .i64 t519)) (fun _ h_ => h_.1)) (fun _ h_ => h_.1)))); (case side2 => exact (Kd.R_reads' HO517.out).2.1); rintro e w14 ⟨v524, rfl, ho0, hb⟩; have n0_ := Aside0.mk (Kd.R_elder' (by (with_reducible repeat (first | apply Kd.R_alloc | apply Kd.R_drewN | apply Kd.R_drew)); exact (Kd.R_mono (Kd.R_mono (Kd.R_far (p := ⟨gb521, 1, none⟩) (Kd.R_far (p := ⟨gb521, 0, none⟩) (Kd.R_far (p := ⟨gb520, 1, none⟩) (Kd.R_far (p := ⟨gb520, 0, none⟩) (Kd.R_mono (Kd.R_types HO517.out BK520.out (by decide)) (fun k_ hk => (⟨hk, hk.1.2⟩ : _ ∧ k_ ≠ gb521))) (fun _ hk => hk.1.2) (.int .i64 t514)) (fun _ hk => hk.1.2) (.slice Ao12 t515.length co12)) (fun _ hk => hk.2) (.int .i64 t518)) (fun _ hk => hk.2) (.int .i64 t519)) (fun _ h_ => h_.1)) (fun _ h_ => h_.1))) (Kd.R_base ho0) hb); have n1_ := Aside0.mk (Kd.R_lower (Kd.R_newB (Kd.R_new' ho0 (Kd.R_lt (by (with_reducible repeat (first | apply Kd.R_alloc | apply Kd.R_drewN | apply Kd.R_drew)); exact (Kd.R_mono (Kd.R_mono (Kd.R_far (p := ⟨gb521, 1, none⟩) (Kd.R_far (p := ⟨gb521, 0, none⟩) (Kd.R_far (p := ⟨gb520, 1, none⟩) (Kd.R_far (p := ⟨gb520, 0, none⟩) (Kd.R_mono (Kd.R_types HO517.out BK520.out (by decide)) (fun k_ hk => (⟨hk, hk.1.2⟩ : _ ∧ k_ ≠ gb521))) (fun _ hk => hk.1.2) (.int .i64 t514)) (fun _ hk => hk.1.2) (.slice Ao12 t515.length co12)) (fun _ hk => hk.2) (.int .i64 t518)) (fun _ hk => hk.2) (.int .i64 t519)) (fun _ h_ => h_.1)) (fun _ h_ => h_.1))))) (g := gb521) (o := .cells #[.int .i64 t518, .int .i64 t519] 25 (0, 0)) (by (with_reducible repeat (first | refine blk_drewN ?_ _ | refine blk_drew ?_ | refine blk_alloc ?_ _)); refine blk_put (cs := #[.int .i64 t518, .int .i64 0]) ?_ 1 _ rfl; (with_reducible repeat (first | refine blk_drewN ?_ _ | refine blk_drew ?_ | refine blk_alloc ?_ _)); refine blk_put (cs := #[.int .i64 0, .int .i64 0]) ?_ 0 _ rfl; (with_reducible repeat (first | refine blk_drewN ?_ _ | refine blk_drew ?_ | refine blk_alloc ?_ _)); refine blk_far ?_ NB521_520.out _; (with_reducible repeat (first | refine blk_drewN ?_ _ | refine blk_drew ?_ | refine blk_alloc ?_ _)); refine blk_far ?_ NB521_520.out _; (with_reducible repeat (first | refine blk_drewN ?_ _ | refine blk_drew ?_ | refine blk_alloc ?_ _)); exact BK521.out)) (below_size (z20_5))); have n2_ := Aside0.mk (blk_below (g := gb520) (o := .cells #[.int .i64 t514, .slice Ao12 t515.length co12] 46 (0, 0)) (by (with_reducible repeat (first | refine blk_drewN ?_ _ | refine blk_drew ?_ | refine blk_alloc ?_ _)); refine blk_far ?_ NB520_521.out _; (with_reducible repeat (first | refine blk_drewN ?_ _ | refine blk_drew ?_ | refine blk_alloc ?_ _)); refine blk_far ?_ NB520_521.out _; (with_reducible repeat (first | refine blk_drewN ?_ _ | refine blk_drew ?_ | refine blk_alloc ?_ _)); refine blk_put (cs := #[.int .i64 t514, .slice none 0 0]) ?_ 1 _ rfl; (with_reducible repeat (first | refine blk_drewN ?_ _ | refine blk_drew ?_ | refine blk_alloc ?_ _)); refine blk_put (cs := #[.int .i64 0, .slice none 0 0]) ?_ 0 _ rfl; (with_reducible repeat (first | refine blk_drewN ?_ _ | refine blk_drew ?_ | refine blk_alloc ?_ _)); exact BK520.out) hb); have n3_ := Aside0.mk (blk_below (g := gb521) (o := .cells #[.int .i64 t518, .int .i64 t519] 25 (0, 0)) (by (with_reducible repeat (first | refine blk_drewN ?_ _ | refine blk_drew ?_ | refine blk_alloc ?_ _)); refine blk_put (cs := #[.int .i64 t518, .int .i64 0]) ?_ 1 _ rfl; (with_reducible repeat (first | refine blk_drewN ?_ _ | refine blk_drew ?_ | refine blk_alloc ?_ _)); refine blk_put (cs := #[.int .i64 0, .int .i64 0]) ?_ 0 _ rfl; (with_reducible repeat (first | refine blk_drewN ?_ _ | refine blk_drew ?_ | refine blk_alloc ?_ _)); refine blk_far ?_ NB521_520.out _; (with_reducible repeat (first | refine blk_drewN ?_ _ | refine blk_drew ?_ | refine blk_alloc ?_ _)); refine blk_far ?_ NB521_520.out _; (with_reducible repeat (first | refine blk_drewN ?_ _ | refine blk_drew ?_ | refine blk_alloc ?_ _)); exact BK521.out) hb); have n4_ := Aside0.mk (below_step (z20_5) hb); clear HO517; clear BK520; clear BK521; clear HB; have HO517 := n0_; have HO525 := n1_; have BK520 := n2_; have BK521 := n3_; have HB := n4_; clear n0_ n1_ n2_ n3_ n4_; (try clear hb); (try clear hb2); (try clear hk); (try clear hi); (try clear ho0)) | ((with_reducible refine gate_dst (N := 5) rfl ?_); (try (refine gate_guard (by rfl) ?_; dsimp only)); refine box_event ?hg (N := 5) ?hd (cs := #[.int .i64 0, .slice none 0 0]) (t := 46) ?hr ?_; (case hd => rfl); (case hg => rfl); (case hr => first | (go_simp; done) | (go_simp; rfl)); intro gb527 hg w15 hbox hb; have n0_ := Aside0.mk (Kd.R_below (by (with_reducible repeat (first | apply Kd.R_alloc | apply Kd.R_drewN | apply Kd.R_drew)); exact HO517.out) hb); have n1_ := Aside0.mk (Kd.R_below (by (with_reducible repeat (first | apply Kd.R_alloc | apply Kd.R_drewN | apply Kd.R_drew)); exact HO525.out) hb); have n2_ := Aside0.mk (blk_below (g := gb520) (o := .cells #[.int .i64 t514, .slice Ao12 t515.length co12] 46 (0, 0)) (z20_8) hb); have n3_ := Aside0.mk (blk_below (g := gb521) (o := .cells #[.int .i64 t518, .int .i64 t519] 25 (0, 0)) (z20_9) hb); have n4_ := Aside0.mk (below_step (z20_5) hb); have n5_ := Aside0.mk (hbox); have n6_ := Aside0.mk ((by rw [hg]; exact (below_size (z20_5)) : w.heap.size ≤ gb527)); have n7_ := Aside0.mk ((by rw [hg]; exact (below_size (z20_5)) : w.heap.size ≤ gb527)); have n8_ := Aside0.mk ((by rw [hg]; exact Nat.ne_of_lt (blk_lt (g := gb520) (o := .cells #[.int .i64 t514, .slice Ao12 t515.length co12] 46 (0, 0)) (z20_8)) : gb520 ≠ gb527)); have n9_ := Aside0.mk ((by rw [hg]; exact Nat.ne_of_gt (blk_lt (g := gb520) (o := .cells #[.int .i64 t514, .slice Ao12 t515.length co12] 46 (0, 0)) (z20_8)) : gb527 ≠ gb520)); have n10_ := Aside0.mk ((by rw [hg]; exact Nat.ne_of_lt (blk_lt (g := gb521) (o := .cells #[.int .i64 t518, .int .i64 t519] 25 (0, 0)) (z20_9)) : gb521 ≠ gb527)); have n11_ := Aside0.mk ((by rw [hg]; exact Nat.ne_of_gt (blk_lt (g := gb521) (o := .cells #[.int .i64 t518, .int .i64 t519] 25 (0, 0)) (z20_9)) : gb527 ≠ gb521)); clear HO517; clear HO525; clear BK520; clear BK521; clear HB; have HO517 := n0_; have HO525 := n1_; have BK520 := n2_; have BK521 := n3_; have HB := n4_; have BK527 := n5_; have GW527 := n6_; have GE527 := n7_; have NB520_527 := n8_; have NB527_520 := n9_; have NB521_527 := n10_; have NB527_521 := n11_; clear n0_ n1_ n2_ n3_ n4_ n5_ n6_ n7_ n8_ n9_ n10_ n11_; clear hb hbox hg; have hnb16 := NB527_520.out; have hnc16 := NB520_527.out; have hnb17 := NB527_521.out; have hnc17 := NB521_527.out; have hcz18_0 : w15.cell? ⟨gb527, 0, none⟩ = some (.int .i64 0) := (blk_cell BK527.out 0).trans rfl; have hcz18_1 : w15.cell? ⟨gb527, 1, none⟩ = some (.slice none 0 0) := (blk_cell BK527.out 1).trans rfl; have hfz18_0 := blk_frozen BK527.out 0; have hfz18_1 := blk_frozen BK527.out 1; obtain ⟨Ao19, co19, eo19⟩ := Kd.R_slice HO525.out; subst eo19; have hcz20_0 : w15.cell? ⟨gb520, 0, none⟩ = some (.int .i64 t514) := (blk_cell BK520.out 0).trans rfl; have hcz20_1 : w15.cell? ⟨gb520, 1, none⟩ = some (.slice Ao12 t515.length co12) := (blk_cell BK520.out 1).trans rfl; have hfz20_0 := blk_frozen BK520.out 0; have hfz20_1 := blk_frozen BK520.out 1; have hcz21_0 : w15.cell? ⟨gb521, 0, none⟩ = some (.int .i64 t518) := (blk_cell BK521.out 0).trans rfl; have hcz21_1 : w15.cell? ⟨gb521, 1, none⟩ = some (.int .i64 t519) := (blk_cell BK521.out 1).trans rfl; have hfz21_0 := blk_frozen BK521.out 0; have hfz21_1 := blk_frozen BK521.out 1) | (go_at_call 43; (with_reducible refine (spec_PoolUse.calls k t514 _ _ t515 t518 t519 t528 t529 t532 _ ?side1 ?side2 A5.out).mono ?_); (case side1 => refine (Kd.R_reads' (e := 25) (base := w.heap.size) (ok := fun k_ => ((True ∧ k_ ≠ gb521) ∧ some k_ ≠ (.slice Ao19 t523.length co19 : Value).ownBlock)) (n := t515.length) (c := co12) ?_).2.2; exact (by (with_reducible repeat (first | apply Kd.R_alloc | apply Kd.R_drewN | apply Kd.R_drew)); exact (Kd.R_mono (Kd.R_far (p := ⟨gb527, 1, none⟩) (Kd.R_far (p := ⟨gb527, 0, none⟩) (Kd.R_types HO517.out BK527.out (by decide)) (fun _ hk => hk.2) (.int .i64 t522)) (fun _ hk => hk.2) (.slice Ao19 t523.length co19)) (fun _ h_ => h_.1)))); (case side2 => exact (Kd.R_reads' HO517.out).2.1); rintro e w22 ⟨v530, rfl, ho0, hb⟩; have n0_ := Aside0.mk (Kd.R_elder' (by (with_reducible repeat (first | apply Kd.R_alloc | apply Kd.R_drewN | apply Kd.R_drew)); exact (Kd.R_mono (Kd.R_far (p := ⟨gb527, 1, none⟩) (Kd.R_far (p := ⟨gb527, 0, none⟩) (Kd.R_types HO517.out BK527.out (by decide)) (fun _ hk => hk.2) (.int .i64 t522)) (fun _ hk => hk.2) (.slice Ao19 t523.length co19)) (fun _ h_ => h_.1))) (Kd.R_base ho0) hb); have n1_ := Aside0.mk (Kd.R_elder' (by (with_reducible repeat (first | apply Kd.R_alloc | apply Kd.R_drewN | apply Kd.R_drew)); exact (Kd.R_mono (Kd.R_far (p := ⟨gb527, 1, none⟩) (Kd.R_far (p := ⟨gb527, 0, none⟩) (Kd.R_types HO525.out BK527.out (by decide)) (fun _ hk => hk.2) (.int .i64 t522)) (fun _ hk => hk.2) (.slice Ao19 t523.length co19)) (fun _ h_ => h_.1))) (Kd.R_base ho0) hb); have n2_ := Aside0.mk (Kd.R_lower (Kd.R_newB (Kd.R_new' (Kd.R_new' ho0 (Kd.R_lt (by (with_reducible repeat (first | apply Kd.R_alloc | apply Kd.R_drewN | apply Kd.R_drew)); exact (Kd.R_mono (Kd.R_far (p := ⟨gb527, 1, none⟩) (Kd.R_far (p := ⟨gb527, 0, none⟩) (Kd.R_types HO517.out BK527.out (by decide)) (fun _ hk => hk.2) (.int .i64 t522)) (fun _ hk => hk.2) (.slice Ao19 t523.length co19)) (fun _ h_ => h_.1))))) (Kd.R_lt (by (with_reducible repeat (first | apply Kd.R_alloc | apply Kd.R_drewN | apply Kd.R_drew)); exact (Kd.R_mono (Kd.R_far (p := ⟨gb527, 1, none⟩) (Kd.R_far (p := ⟨gb527, 0, none⟩) (Kd.R_types HO525.out BK527.out (by decide)) (fun _ hk => hk.2) (.int .i64 t522)) (fun _ hk => hk.2) (.slice Ao19 t523.length co19)) (fun _ h_ => h_.1))))) (g := gb521) (o := .cells #[.int .i64 t518, .int .i64 t519] 25 (0, 0)) (by (with_reducible repeat (first | refine blk_drewN ?_ _ | refine blk_drew ?_ | refine blk_alloc ?_ _)); refine blk_far ?_ NB521_527.out _; (with_reducible repeat (first | refine blk_drewN ?_ _ | refine blk_drew ?_ | refine blk_alloc ?_ _)); refine blk_far ?_ NB521_527.out _; (with_reducible repeat (first | refine blk_drewN ?_ _ | refine blk_drew ?_ | refine blk_alloc ?_ _)); exact BK521.out)) (below_size (z20_4))); have n3_ := Aside0.mk (blk_below (g := gb520) (o := .cells #[.int .i64 t514, .slice Ao12 t515.length co12] 46 (0, 0)) (by (with_reducible repeat (first | refine blk_drewN ?_ _ | refine blk_drew ?_ | refine blk_alloc ?_ _)); refine blk_far ?_ NB520_527.out _; (with_reducible repeat (first | refine blk_drewN ?_ _ | refine blk_drew ?_ | refine blk_alloc ?_ _)); refine blk_far ?_ NB520_527.out _; (with_reducible repeat (first | refine blk_drewN ?_ _ | refine blk_drew ?_ | refine blk_alloc ?_ _)); exact BK520.out) hb); have n4_ := Aside0.mk (blk_below (g := gb521) (o := .cells #[.int .i64 t518, .int .i64 t519] 25 (0, 0)) (by (with_reducible repeat (first | refine blk_drewN ?_ _ | refine blk_drew ?_ | refine blk_alloc ?_ _)); refine blk_far ?_ NB521_527.out _; (with_reducible repeat (first | refine blk_drewN ?_ _ | refine blk_drew ?_ | refine blk_alloc ?_ _)); refine blk_far ?_ NB521_527.out _; (with_reducible repeat (first | refine blk_drewN ?_ _ | refine blk_drew ?_ | refine blk_alloc ?_ _)); exact BK521.out) hb); have n5_ := Aside0.mk (blk_below (g := gb527) (o := .cells #[.int .i64 t522, .slice Ao19 t523.length co19] 46 (0, 0)) (by (with_reducible repeat (first | refine blk_drewN ?_ _ | refine blk_drew ?_ | refine blk_alloc ?_ _)); refine blk_put (cs := #[.int .i64 t522, .slice none 0 0]) ?_ 1 _ rfl; (with_reducible repeat (first | refine blk_drewN ?_ _ | refine blk_drew ?_ | refine blk_alloc ?_ _)); refine blk_put (cs := #[.int .i64 0, .slice none 0 0]) ?_ 0 _ rfl; (with_reducible repeat (first | refine blk_drewN ?_ _ | refine blk_drew ?_ | refine blk_alloc ?_ _)); exact BK527.out) hb); have n6_ := Aside0.mk (below_step (z20_4) hb); clear HO517; clear HO525; clear BK520; clear BK521; clear BK527; clear HB; have HO517 := n0_; have HO525 := n1_; have HO531 := n2_; have BK520 := n3_; have BK521 := n4_; have BK527 := n5_; have HB := n6_; clear n0_ n1_ n2_ n3_ n4_ n5_ n6_; (try clear hb); (try clear hb2); (try clear hk); (try clear hi); (try clear ho0)) | ((with_reducible refine gate_dst (N := 7) rfl ?_); (try (refine gate_guard (by rfl) ?_; dsimp only)); refine box_event ?hg (N := 7) ?hd (cs := #[.int .i64 0, .slice none 0 0]) (t := 46) ?hr ?_; (case hd => rfl); (case hg => rfl); (case hr => first | (go_simp; done) | (go_simp; rfl)); intro gb533 hg w23 hbox hb; have n0_ := Aside0.mk (Kd.R_below (by (with_reducible repeat (first | apply Kd.R_alloc | apply Kd.R_drewN | apply Kd.R_drew)); exact HO517.out) hb); have n1_ := Aside0.mk (Kd.R_below (by (with_reducible repeat (first | apply Kd.R_alloc | apply Kd.R_drewN | apply Kd.R_drew)); exact HO525.out) hb); have n2_ := Aside0.mk (Kd.R_below (by (with_reducible repeat (first | apply Kd.R_alloc | apply Kd.R_drewN | apply Kd.R_drew)); exact HO531.out) hb); have n3_ := Aside0.mk (blk_below (g := gb520) (o := .cells #[.int .i64 t514, .slice Ao12 t515.length co12] 46 (0, 0)) (z20_8) hb); have n4_ := Aside0.mk (blk_below (g := gb521) (o := .cells #[.int .i64 t518, .int .i64 t519] 25 (0, 0)) (z20_9) hb); have n5_ := Aside0.mk (blk_below (g := gb527) (o := .cells #[.int .i64 t522, .slice Ao19 t523.length co19] 46 (0, 0)) (z20_10) hb); have n6_ := Aside0.mk (below_step (z20_4) hb); have n7_ := Aside0.mk (hbox); have n8_ := Aside0.mk ((by rw [hg]; exact (below_size (z20_4)) : w.heap.size ≤ gb533)); have n9_ := Aside0.mk ((by rw [hg]; exact (below_size (z20_4)) : w.heap.size ≤ gb533)); have n10_ := Aside0.mk ((by rw [hg]; exact Nat.ne_of_lt (blk_lt (g := gb520) (o := .cells #[.int .i64 t514, .slice Ao12 t515.length co12] 46 (0, 0)) (z20_8)) : gb520 ≠ gb533)); have n11_ := Aside0.mk ((by rw [hg]; exact Nat.ne_of_gt (blk_lt (g := gb520) (o := .cells #[.int .i64 t514, .slice Ao12 t515.length co12] 46 (0, 0)) (z20_8)) : gb533 ≠ gb520)); have n12_ := Aside0.mk ((by rw [hg]; exact Nat.ne_of_lt (blk_lt (g := gb521) (o := .cells #[.int .i64 t518, .int .i64 t519] 25 (0, 0)) (z20_9)) : gb521 ≠ gb533)); have n13_ := Aside0.mk ((by rw [hg]; exact Nat.ne_of_gt (blk_lt (g := gb521) (o := .cells #[.int .i64 t518, .int .i64 t519] 25 (0, 0)) (z20_9)) : gb533 ≠ gb521)); have n14_ := Aside0.mk ((by rw [hg]; exact Nat.ne_of_lt (blk_lt (g := gb527) (o := .cells #[.int .i64 t522, .slice Ao19 t523.length co19] 46 (0, 0)) (z20_10)) : gb527 ≠ gb533)); have n15_ := Aside0.mk ((by rw [hg]; exact Nat.ne_of_gt (blk_lt (g := gb527) (o := .cells #[.int .i64 t522, .slice Ao19 t523.length co19] 46 (0, 0)) (z20_10)) : gb533 ≠ gb527)); clear HO517; clear HO525; clear HO531; clear BK520; clear BK521; clear BK527; clear HB; have HO517 := n0_; have HO525 := n1_; have HO531 := n2_; have BK520 := n3_; have BK521 := n4_; have BK527 := n5_; have HB := n6_; have BK533 := n7_; have GW533 := n8_; have GE533 := n9_; have NB520_533 := n10_; have NB533_520 := n11_; have NB521_533 := n12_; have NB533_521 := n13_; have NB527_533 := n14_; have NB533_527 := n15_; clear n0_ n1_ n2_ n3_ n4_ n5_ n6_ n7_ n8_ n9_ n10_ n11_ n12_ n13_ n14_ n15_; clear hb hbox hg; have hnb24 := NB533_520.out; have hnc24 := NB520_533.out; have hnb25 := NB533_521.out; have hnc25 := NB521_533.out; have hnb26 := NB533_527.out; have hnc26 := NB527_533.out; have hcz27_0 : w23.cell? ⟨gb533, 0, none⟩ = some (.int .i64 0) := (blk_cell BK533.out 0).trans rfl; have hcz27_1 : w23.cell? ⟨gb533, 1, none⟩ = some (.slice none 0 0) := (blk_cell BK533.out 1).trans rfl; have hfz27_0 := blk_frozen BK533.out 0; have hfz27_1 := blk_frozen BK533.out 1; obtain ⟨Ao28, co28, eo28⟩ := Kd.R_slice HO531.out; subst eo28))
  repeat (go_quiet (fail); try go_wp2)
  (try simp only [Act.put, List.setIfInBounds_toArray, List.set_cons_zero, List.set_cons_succ])
  go_cut [50] (fun v50 wc => ∃ (kq : Nat) (x50_5 : Bool), v50 = .bool x50_5 ∧ Aside0 (laws_FnPoolHit.j0 kq t526 t532 x50_5 t514 t515 t518 t519 t522 t523 = some r) ∧ Aside0 (kq ≤ k) ∧ Aside0 (Kd.R k25 25 wc w.heap.size (fun k_ => some k_ ≠ ((.slice Ao19 t523.length co19) : Value).ownBlock ∧ some k_ ≠ ((.slice Ao28 t529.length co28) : Value).ownBlock ∧ k_ ≠ gb521) (.slice Ao12 t515.length co12) t515) ∧ Aside0 (Kd.R k25 25 wc w.heap.size (fun k_ => some k_ ≠ ((.slice Ao12 t515.length co12) : Value).ownBlock ∧ some k_ ≠ ((.slice Ao28 t529.length co28) : Value).ownBlock ∧ k_ ≠ gb521) (.slice Ao19 t523.length co19) t523) ∧ Aside0 (Kd.R k25 25 wc w.heap.size (fun k_ => some k_ ≠ ((.slice Ao12 t515.length co12) : Value).ownBlock ∧ some k_ ≠ ((.slice Ao19 t523.length co19) : Value).ownBlock ∧ k_ ≠ gb521) (.slice Ao28 t529.length co28) t529) ∧ Aside0 (wc.heap[gb520]? = some (.cells #[.int .i64 t514, (.slice Ao12 t515.length co12)] 46 (0, 0))) ∧ Aside0 (wc.heap[gb521]? = some (.cells #[.int .i64 t518, .int .i64 t519] 25 (0, 0))) ∧ Aside0 (wc.heap[gb527]? = some (.cells #[.int .i64 t522, (.slice Ao19 t523.length co19)] 46 (0, 0))) ∧ Aside0 (wc.heap[gb533]? = some (.cells #[.int .i64 t528, (.slice Ao28 t529.length co28)] 46 (0, 0))) ∧ Aside0 (Below w.heap.size w wc))
  case first =>
   have H := HC6.out
   clear HC6
   by_cases c29 : (t526 != t532) = true
   ·rw [if_pos c29] at H
    have c29b0 : (t526 != t532) = true := c29
    (try (have c29b1 : decide (t526 = t532) = false := by simpa using c29))
    (try (have c29b2 : (t526 == t532) = false := by simpa using c29))
    (try (have c29b3 : ¬ (t526 = t532) := by simpa using c29))
    clear c29
    (first | rw [c29b0] | (simp only [i64_w, i32_w]; rw [c29b0]) | skip)
    have H' := Aside0.mk H
    clear H
    go_wp2
    repeat (go_quiet (fail); try go_wp2)
    go_meet
    case rel => exact ⟨_, (true), (z20_12), H', ⟨by first | omega | exact Nat.le_refl _⟩, ⟨by (with_reducible repeat (first | apply Kd.R_alloc | apply Kd.R_drewN | apply Kd.R_drew)); exact Kd.R_mono (Kd.R_far (p := ⟨gb533, 1, none⟩) (Kd.R_far (p := ⟨gb533, 0, none⟩) (Kd.R_types HO517.out BK533.out (by decide)) (fun _ hk => hk.2) (.int .i64 t528)) (fun _ hk => hk.2) (.slice Ao28 t529.length co28)) (fun _ hk => ⟨hk.1.1.2, ⟨hk.1.2, hk.1.1.1.2⟩⟩)⟩, ⟨by (with_reducible repeat (first | apply Kd.R_alloc | apply Kd.R_drewN | apply Kd.R_drew)); exact Kd.R_mono (Kd.R_far (p := ⟨gb533, 1, none⟩) (Kd.R_far (p := ⟨gb533, 0, none⟩) (Kd.R_types HO525.out BK533.out (by decide)) (fun _ hk => hk.2) (.int .i64 t528)) (fun _ hk => hk.2) (.slice Ao28 t529.length co28)) (fun _ hk => ⟨hk.1.1.1.2, ⟨hk.1.2, hk.1.1.2⟩⟩)⟩, ⟨by (with_reducible repeat (first | apply Kd.R_alloc | apply Kd.R_drewN | apply Kd.R_drew)); exact Kd.R_mono (Kd.R_far (p := ⟨gb533, 1, none⟩) (Kd.R_far (p := ⟨gb533, 0, none⟩) (Kd.R_types HO531.out BK533.out (by decide)) (fun _ hk => hk.2) (.int .i64 t528)) (fun _ hk => hk.2) (.slice Ao28 t529.length co28)) (fun _ hk => ⟨hk.1.1.1.2, ⟨hk.1.1.2, hk.1.2⟩⟩)⟩, ⟨by (with_reducible repeat (first | refine blk_drewN ?_ _ | refine blk_drew ?_ | refine blk_alloc ?_ _)); refine blk_far ?_ NB520_533.out _; (with_reducible repeat (first | refine blk_drewN ?_ _ | refine blk_drew ?_ | refine blk_alloc ?_ _)); refine blk_far ?_ NB520_533.out _; (with_reducible repeat (first | refine blk_drewN ?_ _ | refine blk_drew ?_ | refine blk_alloc ?_ _)); exact BK520.out⟩, ⟨by (with_reducible repeat (first | refine blk_drewN ?_ _ | refine blk_drew ?_ | refine blk_alloc ?_ _)); refine blk_far ?_ NB521_533.out _; (with_reducible repeat (first | refine blk_drewN ?_ _ | refine blk_drew ?_ | refine blk_alloc ?_ _)); refine blk_far ?_ NB521_533.out _; (with_reducible repeat (first | refine blk_drewN ?_ _ | refine blk_drew ?_ | refine blk_alloc ?_ _)); exact BK521.out⟩, ⟨by (with_reducible repeat (first | refine blk_drewN ?_ _ | refine blk_drew ?_ | refine blk_alloc ?_ _)); refine blk_far ?_ NB527_533.out _; (with_reducible repeat (first | refine blk_drewN ?_ _ | refine blk_drew ?_ | refine blk_alloc ?_ _)); refine blk_far ?_ NB527_533.out _; (with_reducible repeat (first | refine blk_drewN ?_ _ | refine blk_drew ?_ | refine blk_alloc ?_ _)); exact BK527.out⟩, ⟨by (with_reducible repeat (first | refine blk_drewN ?_ _ | refine blk_drew ?_ | refine blk_alloc ?_ _)); refine blk_put (cs := #[.int .i64 t528, .slice none 0 0]) ?_ 1 _ rfl; (with_reducible repeat (first | refine blk_drewN ?_ _ | refine blk_drew ?_ | refine blk_alloc ?_ _)); refine blk_put (cs := #[.int .i64 0, .slice none 0 0]) ?_ 0 _ rfl; (with_reducible repeat (first | refine blk_drewN ?_ _ | refine blk_drew ?_ | refine blk_alloc ?_ _)); exact BK533.out⟩, ⟨by repeat (first | (with_reducible first | exact HB.out | apply below_alloc | apply pw_below_drewN | apply below_drew1 | refine below_set ?_ GE520.out | refine below_set ?_ GE521.out | refine below_set ?_ GE527.out | refine below_set ?_ GE533.out) | exact HB.out)⟩⟩
   ·rw [if_neg c29] at H
    have c29b0 : (t526 != t532) = false := by simpa using c29
    (try (have c29b1 : decide (t526 = t532) = true := by simpa using c29))
    (try (have c29b2 : (t526 == t532) = true := by simpa using c29))
    clear c29
    (first | rw [c29b0] | (simp only [i64_w, i32_w]; rw [c29b0]) | skip)
    replace H := Option.bind_eq_some_iff.mp H
    obtain ⟨t534, A300, H⟩ := H
    replace H : (if t534 = true then ((impl_PageOk.f t518 t519).bind fun t535 => (if t535 = true then (laws_FnPoolHit.j0 k t526 t532 (t514 == 0) t514 t515 t518 t519 t522 t523) else (laws_FnPoolHit.j0 k t526 t532 true t514 t515 t518 t519 t522 t523))) else (laws_FnPoolHit.j0 k t526 t532 true t514 t515 t518 t519 t522 t523)) = some r := H
    have A30 := Aside0.mk A300
    clear A300
    by_cases c31 : t534 = true
    ·subst c31
     have H1 : ((impl_PageOk.f t518 t519).bind fun t535 => (if t535 = true then (laws_FnPoolHit.j0 k t526 t532 (t514 == 0) t514 t515 t518 t519 t522 t523) else (laws_FnPoolHit.j0 k t526 t532 true t514 t515 t518 t519 t522 t523))) = some r := by rw [if_pos rfl] at H; exact H
     clear H
     have H := H1
     clear H1
     replace H := Option.bind_eq_some_iff.mp H
     obtain ⟨t535, A320, H⟩ := H
     replace H : (if t535 = true then (laws_FnPoolHit.j0 k t526 t532 (t514 == 0) t514 t515 t518 t519 t522 t523) else (laws_FnPoolHit.j0 k t526 t532 true t514 t515 t518 t519 t522 t523)) = some r := H
     have A32 := Aside0.mk A320
     clear A320
     by_cases c33 : t535 = true
     ·subst c33
      have H1 : (laws_FnPoolHit.j0 k t526 t532 (t514 == 0) t514 t515 t518 t519 t522 t523) = some r := by rw [if_pos rfl] at H; exact H
      clear H
      have H := H1
      clear H1
      have H' := Aside0.mk H
      clear H
      have hnb34 := NB520_521.out
      have hnc34 := NB521_520.out
      have hnb35 := NB520_527.out
      have hnc35 := NB527_520.out
      have hnb36 := NB520_533.out
      have hnc36 := NB533_520.out
      have hcz37_0 : w23.cell? ⟨gb520, 0, none⟩ = some (.int .i64 t514) := (blk_cell BK520.out 0).trans rfl
      have hcz37_1 : w23.cell? ⟨gb520, 1, none⟩ = some (.slice Ao12 t515.length co12) := (blk_cell BK520.out 1).trans rfl
      have hfz37_0 := blk_frozen BK520.out 0
      have hfz37_1 := blk_frozen BK520.out 1
      go_wp2_with (first | (go_at_call 37; (with_reducible refine (spec_PoolOk.calls k t514 _ _ t515 true _ ?side1 ?side2 A30.out).mono ?_); (case side1 => refine (Kd.R_reads' (e := 25) (base := w.heap.size) (ok := fun k_ => (((True ∧ k_ ≠ gb521) ∧ some k_ ≠ (.slice Ao19 t523.length co19 : Value).ownBlock) ∧ some k_ ≠ (.slice Ao28 t529.length co28 : Value).ownBlock)) (n := t515.length) (c := co12) ?_).2.2; exact (by (with_reducible repeat (first | apply Kd.R_alloc | apply Kd.R_drewN | apply Kd.R_drew)); exact (Kd.R_mono (Kd.R_far (p := ⟨gb533, 1, none⟩) (Kd.R_far (p := ⟨gb533, 0, none⟩) (Kd.R_types HO517.out BK533.out (by decide)) (fun _ hk => hk.2) (.int .i64 t528)) (fun _ hk => hk.2) (.slice Ao28 t529.length co28)) (fun _ h_ => h_.1)))); (case side2 => exact (Kd.R_reads' HO517.out).2.1); rintro e w38 ⟨rfl, hb⟩; have n0_ := Aside0.mk (Kd.R_below (by (with_reducible repeat (first | apply Kd.R_alloc | apply Kd.R_drewN | apply Kd.R_drew)); exact (Kd.R_mono (Kd.R_far (p := ⟨gb533, 1, none⟩) (Kd.R_far (p := ⟨gb533, 0, none⟩) (Kd.R_types HO517.out BK533.out (by decide)) (fun _ hk => hk.2) (.int .i64 t528)) (fun _ hk => hk.2) (.slice Ao28 t529.length co28)) (fun _ h_ => h_.1))) hb); have n1_ := Aside0.mk (Kd.R_below (by (with_reducible repeat (first | apply Kd.R_alloc | apply Kd.R_drewN | apply Kd.R_drew)); exact (Kd.R_mono (Kd.R_far (p := ⟨gb533, 1, none⟩) (Kd.R_far (p := ⟨gb533, 0, none⟩) (Kd.R_types HO525.out BK533.out (by decide)) (fun _ hk => hk.2) (.int .i64 t528)) (fun _ hk => hk.2) (.slice Ao28 t529.length co28)) (fun _ h_ => h_.1))) hb); have n2_ := Aside0.mk (Kd.R_below (by (with_reducible repeat (first | apply Kd.R_alloc | apply Kd.R_drewN | apply Kd.R_drew)); exact (Kd.R_mono (Kd.R_far (p := ⟨gb533, 1, none⟩) (Kd.R_far (p := ⟨gb533, 0, none⟩) (Kd.R_types HO531.out BK533.out (by decide)) (fun _ hk => hk.2) (.int .i64 t528)) (fun _ hk => hk.2) (.slice Ao28 t529.length co28)) (fun _ h_ => h_.1))) hb); have n3_ := Aside0.mk (blk_below (g := gb520) (o := .cells #[.int .i64 t514, .slice Ao12 t515.length co12] 46 (0, 0)) (z20_0) hb); have n4_ := Aside0.mk (blk_below (g := gb521) (o := .cells #[.int .i64 t518, .int .i64 t519] 25 (0, 0)) (z20_1) hb); have n5_ := Aside0.mk (blk_below (g := gb527) (o := .cells #[.int .i64 t522, .slice Ao19 t523.length co19] 46 (0, 0)) (z20_2) hb); have n6_ := Aside0.mk (blk_below (g := gb533) (o := .cells #[.int .i64 t528, .slice Ao28 t529.length co28] 46 (0, 0)) (by (with_reducible repeat (first | refine blk_drewN ?_ _ | refine blk_drew ?_ | refine blk_alloc ?_ _)); refine blk_put (cs := #[.int .i64 t528, .slice none 0 0]) ?_ 1 _ rfl; (with_reducible repeat (first | refine blk_drewN ?_ _ | refine blk_drew ?_ | refine blk_alloc ?_ _)); refine blk_put (cs := #[.int .i64 0, .slice none 0 0]) ?_ 0 _ rfl; (with_reducible repeat (first | refine blk_drewN ?_ _ | refine blk_drew ?_ | refine blk_alloc ?_ _)); exact BK533.out) hb); have n7_ := Aside0.mk (below_step (z20_3) hb); clear HO517; clear HO525; clear HO531; clear BK520; clear BK521; clear BK527; clear BK533; clear HB; have HO517 := n0_; have HO525 := n1_; have HO531 := n2_; have BK520 := n3_; have BK521 := n4_; have BK527 := n5_; have BK533 := n6_; have HB := n7_; clear n0_ n1_ n2_ n3_ n4_ n5_ n6_ n7_; (try clear hb); (try clear hb2); (try clear hk); (try clear hi); have hnb39 := NB521_527.out; have hnc39 := NB527_521.out; have hnb40 := NB521_533.out; have hnc40 := NB533_521.out; have hcz41_0 : w38.cell? ⟨gb521, 0, none⟩ = some (.int .i64 t518) := (blk_cell BK521.out 0).trans rfl; have hcz41_1 : w38.cell? ⟨gb521, 1, none⟩ = some (.int .i64 t519) := (blk_cell BK521.out 1).trans rfl; have hfz41_0 := blk_frozen BK521.out 0; have hfz41_1 := blk_frozen BK521.out 1) | (go_at_call 22; (with_reducible refine (impl_PageOk.calls t518 t519 true _ A32.out).mono ?_); rintro e w42 ⟨rfl, hb⟩; have n0_ := Aside0.mk (Kd.R_below (by (with_reducible repeat (first | apply Kd.R_alloc | apply Kd.R_drewN | apply Kd.R_drew)); exact HO517.out) hb); have n1_ := Aside0.mk (Kd.R_below (by (with_reducible repeat (first | apply Kd.R_alloc | apply Kd.R_drewN | apply Kd.R_drew)); exact HO525.out) hb); have n2_ := Aside0.mk (Kd.R_below (by (with_reducible repeat (first | apply Kd.R_alloc | apply Kd.R_drewN | apply Kd.R_drew)); exact HO531.out) hb); have n3_ := Aside0.mk (blk_below (g := gb520) (o := .cells #[.int .i64 t514, .slice Ao12 t515.length co12] 46 (0, 0)) (z20_8) hb); have n4_ := Aside0.mk (blk_below (g := gb521) (o := .cells #[.int .i64 t518, .int .i64 t519] 25 (0, 0)) (z20_9) hb); have n5_ := Aside0.mk (blk_below (g := gb527) (o := .cells #[.int .i64 t522, .slice Ao19 t523.length co19] 46 (0, 0)) (z20_10) hb); have n6_ := Aside0.mk (blk_below (g := gb533) (o := .cells #[.int .i64 t528, .slice Ao28 t529.length co28] 46 (0, 0)) (by (with_reducible repeat (first | refine blk_drewN ?_ _ | refine blk_drew ?_ | refine blk_alloc ?_ _)); exact BK533.out) hb); have n7_ := Aside0.mk (below_step (z20_3) hb); clear HO517; clear HO525; clear HO531; clear BK520; clear BK521; clear BK527; clear BK533; clear HB; have HO517 := n0_; have HO525 := n1_; have HO531 := n2_; have BK520 := n3_; have BK521 := n4_; have BK527 := n5_; have BK533 := n6_; have HB := n7_; clear n0_ n1_ n2_ n3_ n4_ n5_ n6_ n7_; (try clear hb); (try clear hb2); (try clear hk); (try clear hi); have hcz43_0 : w42.cell? ⟨gb520, 0, none⟩ = some (.int .i64 t514) := (blk_cell BK520.out 0).trans rfl; have hcz43_1 : w42.cell? ⟨gb520, 1, none⟩ = some (.slice Ao12 t515.length co12) := (blk_cell BK520.out 1).trans rfl; have hfz43_0 := blk_frozen BK520.out 0; have hfz43_1 := blk_frozen BK520.out 1))
      repeat (go_quiet (fail); try go_wp2)
      go_meet
      case rel => exact ⟨_, ((t514 == 0)), (z20_12), H', ⟨by first | omega | exact Nat.le_refl _⟩, ⟨by (with_reducible repeat (first | apply Kd.R_alloc | apply Kd.R_drewN | apply Kd.R_drew)); exact Kd.R_mono HO517.out (fun _ hk => ⟨hk.1.2, ⟨hk.2, hk.1.1.2⟩⟩)⟩, ⟨by (with_reducible repeat (first | apply Kd.R_alloc | apply Kd.R_drewN | apply Kd.R_drew)); exact Kd.R_mono HO525.out (fun _ hk => ⟨hk.1.1.2, ⟨hk.2, hk.1.2⟩⟩)⟩, ⟨by (with_reducible repeat (first | apply Kd.R_alloc | apply Kd.R_drewN | apply Kd.R_drew)); exact Kd.R_mono HO531.out (fun _ hk => ⟨hk.1.1.2, ⟨hk.1.2, hk.2⟩⟩)⟩, ⟨by (with_reducible repeat (first | refine blk_drewN ?_ _ | refine blk_drew ?_ | refine blk_alloc ?_ _)); exact BK520.out⟩, ⟨by (with_reducible repeat (first | refine blk_drewN ?_ _ | refine blk_drew ?_ | refine blk_alloc ?_ _)); exact BK521.out⟩, ⟨by (with_reducible repeat (first | refine blk_drewN ?_ _ | refine blk_drew ?_ | refine blk_alloc ?_ _)); exact BK527.out⟩, ⟨by (with_reducible repeat (first | refine blk_drewN ?_ _ | refine blk_drew ?_ | refine blk_alloc ?_ _)); exact BK533.out⟩, ⟨by repeat (first | (with_reducible first | exact HB.out | apply below_alloc | apply pw_below_drewN | apply below_drew1 | refine below_set ?_ GE520.out | refine below_set ?_ GE521.out | refine below_set ?_ GE527.out | refine below_set ?_ GE533.out) | exact HB.out)⟩⟩
     ·replace c33 := Bool.eq_false_iff.mpr c33
      subst c33
      have H1 : (laws_FnPoolHit.j0 k t526 t532 true t514 t515 t518 t519 t522 t523) = some r := by rw [if_neg (show ¬ (false = true) by decide)] at H; exact H
      clear H
      have H := H1
      clear H1
      have H' := Aside0.mk H
      clear H
      have hnb44 := NB520_521.out
      have hnc44 := NB521_520.out
      have hnb45 := NB520_527.out
      have hnc45 := NB527_520.out
      have hnb46 := NB520_533.out
      have hnc46 := NB533_520.out
      have hcz47_0 : w23.cell? ⟨gb520, 0, none⟩ = some (.int .i64 t514) := (blk_cell BK520.out 0).trans rfl
      have hcz47_1 : w23.cell? ⟨gb520, 1, none⟩ = some (.slice Ao12 t515.length co12) := (blk_cell BK520.out 1).trans rfl
      have hfz47_0 := blk_frozen BK520.out 0
      have hfz47_1 := blk_frozen BK520.out 1
      go_wp2_with (first | (go_at_call 37; (with_reducible refine (spec_PoolOk.calls k t514 _ _ t515 true _ ?side1 ?side2 A30.out).mono ?_); (case side1 => refine (Kd.R_reads' (e := 25) (base := w.heap.size) (ok := fun k_ => (((True ∧ k_ ≠ gb521) ∧ some k_ ≠ (.slice Ao19 t523.length co19 : Value).ownBlock) ∧ some k_ ≠ (.slice Ao28 t529.length co28 : Value).ownBlock)) (n := t515.length) (c := co12) ?_).2.2; exact (by (with_reducible repeat (first | apply Kd.R_alloc | apply Kd.R_drewN | apply Kd.R_drew)); exact (Kd.R_mono (Kd.R_far (p := ⟨gb533, 1, none⟩) (Kd.R_far (p := ⟨gb533, 0, none⟩) (Kd.R_types HO517.out BK533.out (by decide)) (fun _ hk => hk.2) (.int .i64 t528)) (fun _ hk => hk.2) (.slice Ao28 t529.length co28)) (fun _ h_ => h_.1)))); (case side2 => exact (Kd.R_reads' HO517.out).2.1); rintro e w48 ⟨rfl, hb⟩; have n0_ := Aside0.mk (Kd.R_below (by (with_reducible repeat (first | apply Kd.R_alloc | apply Kd.R_drewN | apply Kd.R_drew)); exact (Kd.R_mono (Kd.R_far (p := ⟨gb533, 1, none⟩) (Kd.R_far (p := ⟨gb533, 0, none⟩) (Kd.R_types HO517.out BK533.out (by decide)) (fun _ hk => hk.2) (.int .i64 t528)) (fun _ hk => hk.2) (.slice Ao28 t529.length co28)) (fun _ h_ => h_.1))) hb); have n1_ := Aside0.mk (Kd.R_below (by (with_reducible repeat (first | apply Kd.R_alloc | apply Kd.R_drewN | apply Kd.R_drew)); exact (Kd.R_mono (Kd.R_far (p := ⟨gb533, 1, none⟩) (Kd.R_far (p := ⟨gb533, 0, none⟩) (Kd.R_types HO525.out BK533.out (by decide)) (fun _ hk => hk.2) (.int .i64 t528)) (fun _ hk => hk.2) (.slice Ao28 t529.length co28)) (fun _ h_ => h_.1))) hb); have n2_ := Aside0.mk (Kd.R_below (by (with_reducible repeat (first | apply Kd.R_alloc | apply Kd.R_drewN | apply Kd.R_drew)); exact (Kd.R_mono (Kd.R_far (p := ⟨gb533, 1, none⟩) (Kd.R_far (p := ⟨gb533, 0, none⟩) (Kd.R_types HO531.out BK533.out (by decide)) (fun _ hk => hk.2) (.int .i64 t528)) (fun _ hk => hk.2) (.slice Ao28 t529.length co28)) (fun _ h_ => h_.1))) hb); have n3_ := Aside0.mk (blk_below (g := gb520) (o := .cells #[.int .i64 t514, .slice Ao12 t515.length co12] 46 (0, 0)) (z20_0) hb); have n4_ := Aside0.mk (blk_below (g := gb521) (o := .cells #[.int .i64 t518, .int .i64 t519] 25 (0, 0)) (z20_1) hb); have n5_ := Aside0.mk (blk_below (g := gb527) (o := .cells #[.int .i64 t522, .slice Ao19 t523.length co19] 46 (0, 0)) (z20_2) hb); have n6_ := Aside0.mk (blk_below (g := gb533) (o := .cells #[.int .i64 t528, .slice Ao28 t529.length co28] 46 (0, 0)) (by (with_reducible repeat (first | refine blk_drewN ?_ _ | refine blk_drew ?_ | refine blk_alloc ?_ _)); refine blk_put (cs := #[.int .i64 t528, .slice none 0 0]) ?_ 1 _ rfl; (with_reducible repeat (first | refine blk_drewN ?_ _ | refine blk_drew ?_ | refine blk_alloc ?_ _)); refine blk_put (cs := #[.int .i64 0, .slice none 0 0]) ?_ 0 _ rfl; (with_reducible repeat (first | refine blk_drewN ?_ _ | refine blk_drew ?_ | refine blk_alloc ?_ _)); exact BK533.out) hb); have n7_ := Aside0.mk (below_step (z20_3) hb); clear HO517; clear HO525; clear HO531; clear BK520; clear BK521; clear BK527; clear BK533; clear HB; have HO517 := n0_; have HO525 := n1_; have HO531 := n2_; have BK520 := n3_; have BK521 := n4_; have BK527 := n5_; have BK533 := n6_; have HB := n7_; clear n0_ n1_ n2_ n3_ n4_ n5_ n6_ n7_; (try clear hb); (try clear hb2); (try clear hk); (try clear hi); have hnb49 := NB521_527.out; have hnc49 := NB527_521.out; have hnb50 := NB521_533.out; have hnc50 := NB533_521.out; have hcz51_0 : w48.cell? ⟨gb521, 0, none⟩ = some (.int .i64 t518) := (blk_cell BK521.out 0).trans rfl; have hcz51_1 : w48.cell? ⟨gb521, 1, none⟩ = some (.int .i64 t519) := (blk_cell BK521.out 1).trans rfl; have hfz51_0 := blk_frozen BK521.out 0; have hfz51_1 := blk_frozen BK521.out 1) | (go_at_call 22; (with_reducible refine (impl_PageOk.calls t518 t519 false _ A32.out).mono ?_); rintro e w52 ⟨rfl, hb⟩; have n0_ := Aside0.mk (Kd.R_below (by (with_reducible repeat (first | apply Kd.R_alloc | apply Kd.R_drewN | apply Kd.R_drew)); exact HO517.out) hb); have n1_ := Aside0.mk (Kd.R_below (by (with_reducible repeat (first | apply Kd.R_alloc | apply Kd.R_drewN | apply Kd.R_drew)); exact HO525.out) hb); have n2_ := Aside0.mk (Kd.R_below (by (with_reducible repeat (first | apply Kd.R_alloc | apply Kd.R_drewN | apply Kd.R_drew)); exact HO531.out) hb); have n3_ := Aside0.mk (blk_below (g := gb520) (o := .cells #[.int .i64 t514, .slice Ao12 t515.length co12] 46 (0, 0)) (z20_8) hb); have n4_ := Aside0.mk (blk_below (g := gb521) (o := .cells #[.int .i64 t518, .int .i64 t519] 25 (0, 0)) (z20_9) hb); have n5_ := Aside0.mk (blk_below (g := gb527) (o := .cells #[.int .i64 t522, .slice Ao19 t523.length co19] 46 (0, 0)) (z20_10) hb); have n6_ := Aside0.mk (blk_below (g := gb533) (o := .cells #[.int .i64 t528, .slice Ao28 t529.length co28] 46 (0, 0)) (by (with_reducible repeat (first | refine blk_drewN ?_ _ | refine blk_drew ?_ | refine blk_alloc ?_ _)); exact BK533.out) hb); have n7_ := Aside0.mk (below_step (z20_3) hb); clear HO517; clear HO525; clear HO531; clear BK520; clear BK521; clear BK527; clear BK533; clear HB; have HO517 := n0_; have HO525 := n1_; have HO531 := n2_; have BK520 := n3_; have BK521 := n4_; have BK527 := n5_; have BK533 := n6_; have HB := n7_; clear n0_ n1_ n2_ n3_ n4_ n5_ n6_ n7_; (try clear hb); (try clear hb2); (try clear hk); (try clear hi)))
      repeat (go_quiet (fail); try go_wp2)
      go_meet
      case rel => exact ⟨_, (true), (z20_12), H', ⟨by first | omega | exact Nat.le_refl _⟩, ⟨by (with_reducible repeat (first | apply Kd.R_alloc | apply Kd.R_drewN | apply Kd.R_drew)); exact Kd.R_mono HO517.out (fun _ hk => ⟨hk.1.2, ⟨hk.2, hk.1.1.2⟩⟩)⟩, ⟨by (with_reducible repeat (first | apply Kd.R_alloc | apply Kd.R_drewN | apply Kd.R_drew)); exact Kd.R_mono HO525.out (fun _ hk => ⟨hk.1.1.2, ⟨hk.2, hk.1.2⟩⟩)⟩, ⟨by (with_reducible repeat (first | apply Kd.R_alloc | apply Kd.R_drewN | apply Kd.R_drew)); exact Kd.R_mono HO531.out (fun _ hk => ⟨hk.1.1.2, ⟨hk.1.2, hk.2⟩⟩)⟩, ⟨by (with_reducible repeat (first | refine blk_drewN ?_ _ | refine blk_drew ?_ | refine blk_alloc ?_ _)); exact BK520.out⟩, ⟨by (with_reducible repeat (first | refine blk_drewN ?_ _ | refine blk_drew ?_ | refine blk_alloc ?_ _)); exact BK521.out⟩, ⟨by (with_reducible repeat (first | refine blk_drewN ?_ _ | refine blk_drew ?_ | refine blk_alloc ?_ _)); exact BK527.out⟩, ⟨by (with_reducible repeat (first | refine blk_drewN ?_ _ | refine blk_drew ?_ | refine blk_alloc ?_ _)); exact BK533.out⟩, ⟨by repeat (first | (with_reducible first | exact HB.out | apply below_alloc | apply pw_below_drewN | apply below_drew1 | refine below_set ?_ GE520.out | refine below_set ?_ GE521.out | refine below_set ?_ GE527.out | refine below_set ?_ GE533.out) | exact HB.out)⟩⟩
    ·replace c31 := Bool.eq_false_iff.mpr c31
     subst c31
     have H1 : (laws_FnPoolHit.j0 k t526 t532 true t514 t515 t518 t519 t522 t523) = some r := by rw [if_neg (show ¬ (false = true) by decide)] at H; exact H
     clear H
     have H := H1
     clear H1
     have H' := Aside0.mk H
     clear H
     have hnb53 := NB520_521.out
     have hnc53 := NB521_520.out
     have hnb54 := NB520_527.out
     have hnc54 := NB527_520.out
     have hnb55 := NB520_533.out
     have hnc55 := NB533_520.out
     have hcz56_0 : w23.cell? ⟨gb520, 0, none⟩ = some (.int .i64 t514) := (blk_cell BK520.out 0).trans rfl
     have hcz56_1 : w23.cell? ⟨gb520, 1, none⟩ = some (.slice Ao12 t515.length co12) := (blk_cell BK520.out 1).trans rfl
     have hfz56_0 := blk_frozen BK520.out 0
     have hfz56_1 := blk_frozen BK520.out 1
     go_wp2_with (first | (go_at_call 37; (with_reducible refine (spec_PoolOk.calls k t514 _ _ t515 false _ ?side1 ?side2 A30.out).mono ?_); (case side1 => refine (Kd.R_reads' (e := 25) (base := w.heap.size) (ok := fun k_ => (((True ∧ k_ ≠ gb521) ∧ some k_ ≠ (.slice Ao19 t523.length co19 : Value).ownBlock) ∧ some k_ ≠ (.slice Ao28 t529.length co28 : Value).ownBlock)) (n := t515.length) (c := co12) ?_).2.2; exact (by (with_reducible repeat (first | apply Kd.R_alloc | apply Kd.R_drewN | apply Kd.R_drew)); exact (Kd.R_mono (Kd.R_far (p := ⟨gb533, 1, none⟩) (Kd.R_far (p := ⟨gb533, 0, none⟩) (Kd.R_types HO517.out BK533.out (by decide)) (fun _ hk => hk.2) (.int .i64 t528)) (fun _ hk => hk.2) (.slice Ao28 t529.length co28)) (fun _ h_ => h_.1)))); (case side2 => exact (Kd.R_reads' HO517.out).2.1); rintro e w57 ⟨rfl, hb⟩; have n0_ := Aside0.mk (Kd.R_below (by (with_reducible repeat (first | apply Kd.R_alloc | apply Kd.R_drewN | apply Kd.R_drew)); exact (Kd.R_mono (Kd.R_far (p := ⟨gb533, 1, none⟩) (Kd.R_far (p := ⟨gb533, 0, none⟩) (Kd.R_types HO517.out BK533.out (by decide)) (fun _ hk => hk.2) (.int .i64 t528)) (fun _ hk => hk.2) (.slice Ao28 t529.length co28)) (fun _ h_ => h_.1))) hb); have n1_ := Aside0.mk (Kd.R_below (by (with_reducible repeat (first | apply Kd.R_alloc | apply Kd.R_drewN | apply Kd.R_drew)); exact (Kd.R_mono (Kd.R_far (p := ⟨gb533, 1, none⟩) (Kd.R_far (p := ⟨gb533, 0, none⟩) (Kd.R_types HO525.out BK533.out (by decide)) (fun _ hk => hk.2) (.int .i64 t528)) (fun _ hk => hk.2) (.slice Ao28 t529.length co28)) (fun _ h_ => h_.1))) hb); have n2_ := Aside0.mk (Kd.R_below (by (with_reducible repeat (first | apply Kd.R_alloc | apply Kd.R_drewN | apply Kd.R_drew)); exact (Kd.R_mono (Kd.R_far (p := ⟨gb533, 1, none⟩) (Kd.R_far (p := ⟨gb533, 0, none⟩) (Kd.R_types HO531.out BK533.out (by decide)) (fun _ hk => hk.2) (.int .i64 t528)) (fun _ hk => hk.2) (.slice Ao28 t529.length co28)) (fun _ h_ => h_.1))) hb); have n3_ := Aside0.mk (blk_below (g := gb520) (o := .cells #[.int .i64 t514, .slice Ao12 t515.length co12] 46 (0, 0)) (z20_0) hb); have n4_ := Aside0.mk (blk_below (g := gb521) (o := .cells #[.int .i64 t518, .int .i64 t519] 25 (0, 0)) (z20_1) hb); have n5_ := Aside0.mk (blk_below (g := gb527) (o := .cells #[.int .i64 t522, .slice Ao19 t523.length co19] 46 (0, 0)) (z20_2) hb); have n6_ := Aside0.mk (blk_below (g := gb533) (o := .cells #[.int .i64 t528, .slice Ao28 t529.length co28] 46 (0, 0)) (by (with_reducible repeat (first | refine blk_drewN ?_ _ | refine blk_drew ?_ | refine blk_alloc ?_ _)); refine blk_put (cs := #[.int .i64 t528, .slice none 0 0]) ?_ 1 _ rfl; (with_reducible repeat (first | refine blk_drewN ?_ _ | refine blk_drew ?_ | refine blk_alloc ?_ _)); refine blk_put (cs := #[.int .i64 0, .slice none 0 0]) ?_ 0 _ rfl; (with_reducible repeat (first | refine blk_drewN ?_ _ | refine blk_drew ?_ | refine blk_alloc ?_ _)); exact BK533.out) hb); have n7_ := Aside0.mk (below_step (z20_3) hb); clear HO517; clear HO525; clear HO531; clear BK520; clear BK521; clear BK527; clear BK533; clear HB; have HO517 := n0_; have HO525 := n1_; have HO531 := n2_; have BK520 := n3_; have BK521 := n4_; have BK527 := n5_; have BK533 := n6_; have HB := n7_; clear n0_ n1_ n2_ n3_ n4_ n5_ n6_ n7_; (try clear hb); (try clear hb2); (try clear hk); (try clear hi)))
     repeat (go_quiet (fail); try go_wp2)
     go_meet
     case rel => exact ⟨_, (true), (z20_12), H', ⟨by first | omega | exact Nat.le_refl _⟩, ⟨by (with_reducible repeat (first | apply Kd.R_alloc | apply Kd.R_drewN | apply Kd.R_drew)); exact Kd.R_mono HO517.out (fun _ hk => ⟨hk.1.2, ⟨hk.2, hk.1.1.2⟩⟩)⟩, ⟨by (with_reducible repeat (first | apply Kd.R_alloc | apply Kd.R_drewN | apply Kd.R_drew)); exact Kd.R_mono HO525.out (fun _ hk => ⟨hk.1.1.2, ⟨hk.2, hk.1.2⟩⟩)⟩, ⟨by (with_reducible repeat (first | apply Kd.R_alloc | apply Kd.R_drewN | apply Kd.R_drew)); exact Kd.R_mono HO531.out (fun _ hk => ⟨hk.1.1.2, ⟨hk.1.2, hk.2⟩⟩)⟩, ⟨by (with_reducible repeat (first | refine blk_drewN ?_ _ | refine blk_drew ?_ | refine blk_alloc ?_ _)); exact BK520.out⟩, ⟨by (with_reducible repeat (first | refine blk_drewN ?_ _ | refine blk_drew ?_ | refine blk_alloc ?_ _)); exact BK521.out⟩, ⟨by (with_reducible repeat (first | refine blk_drewN ?_ _ | refine blk_drew ?_ | refine blk_alloc ?_ _)); exact BK527.out⟩, ⟨by (with_reducible repeat (first | refine blk_drewN ?_ _ | refine blk_drew ?_ | refine blk_alloc ?_ _)); exact BK533.out⟩, ⟨by repeat (first | (with_reducible first | exact HB.out | apply below_alloc | apply pw_below_drewN | apply below_drew1 | refine below_set ?_ GE520.out | refine below_set ?_ GE521.out | refine below_set ?_ GE527.out | refine below_set ?_ GE533.out) | exact HB.out)⟩⟩
  case rest =>
   clear HC6
   try clear c1
   try clear c2
   try clear c2b0
   try clear c2b1
   try clear p2
   try clear c3
   try clear c4
   try clear c5
   try clear c10
   try clear c16
   try clear c17
   try clear c24
   try clear c25
   try clear c26
   try clear c29
   try clear c29b0
   try clear c29b1
   try clear c29b2
   try clear c31
   try clear c33
   try clear c34
   try clear c35
   try clear c36
   try clear c39
   try clear c40
   try clear c44
   try clear c45
   try clear c46
   try clear c49
   try clear c50
   try clear c53
   try clear c54
   try clear c55
   try clear hcz11_0
   try clear hcz11_1
   try clear hcz13_0
   try clear hcz13_1
   try clear hcz18_0
   try clear hcz18_1
   try clear hcz20_0
   try clear hcz20_1
   try clear hcz21_0
   try clear hcz21_1
   try clear hcz27_0
   try clear hcz27_1
   try clear hcz37_0
   try clear hcz37_1
   try clear hcz41_0
   try clear hcz41_1
   try clear hcz43_0
   try clear hcz43_1
   try clear hcz47_0
   try clear hcz47_1
   try clear hcz51_0
   try clear hcz51_1
   try clear hcz56_0
   try clear hcz56_1
   try clear hfz11_0
   try clear hfz11_1
   try clear hfz13_0
   try clear hfz13_1
   try clear hfz18_0
   try clear hfz18_1
   try clear hfz20_0
   try clear hfz20_1
   try clear hfz21_0
   try clear hfz21_1
   try clear hfz27_0
   try clear hfz27_1
   try clear hfz37_0
   try clear hfz37_1
   try clear hfz41_0
   try clear hfz41_1
   try clear hfz43_0
   try clear hfz43_1
   try clear hfz47_0
   try clear hfz47_1
   try clear hfz51_0
   try clear hfz51_1
   try clear hfz56_0
   try clear hfz56_1
   obtain ⟨kq, x50_5, rfl, HA, HJ5, HO_521001, HO_528001, HO_534001, BK520, BK521, BK527, BK533, HB⟩ := hcut
   cases kq with
   | zero => exact absurd HA.out (by simp [laws_FnPoolHit.j0])
   | succ kj5 =>
    have H := HA.out
    clear HA
    simp only [laws_FnPoolHit.j0] at H
    by_cases c58 : x50_5 = true
    ·subst c58
     have H1 : (some (t526 == t532)) = some r := by rw [if_pos rfl] at H; exact H
     clear H
     have H := H1
     clear H1
     obtain rfl := Option.some.inj H
     go_wp2
     repeat (go_quiet (fail); try go_wp2)
     go_ret
     exact ⟨by first | rfl | (simp [errW_none, errW_some] <;> rfl) | (simp [*, errW_none, errW_some] <;> rfl), by repeat (first | (with_reducible first | exact HB.out | apply below_alloc | apply pw_below_drewN | apply below_drew1 | refine below_set ?_ GE520.out | refine below_set ?_ GE521.out | refine below_set ?_ GE527.out | refine below_set ?_ GE533.out) | exact HB.out)⟩
    ·replace c58 := Bool.eq_false_iff.mpr c58
     subst c58
     have H1 : (laws_FnPoolHit.l0 kj5 t526 false 0 t514 t515 t518 t519 t522 t523) = some r := by rw [if_neg (show ¬ (false = true) by decide)] at H; exact H
     clear H
     have H := H1
     clear H1
     have H' := Aside0.mk H
     clear H
     go_wp2
     repeat (go_quiet (fail); try go_wp2)
     go_loopg [9, 10] kj5 (fun kq v9 v10 w' => ∃ (x9_2 : Bool) (x10_2 : Int), v9 = .bool x9_2 ∧ v10 = .int .i64 x10_2 ∧ Aside0 (laws_FnPoolHit.l0 kq t526 x9_2 x10_2 t514 t515 t518 t519 t522 t523 = some r) ∧ Aside0 (kq ≤ kj5) ∧ Aside0 (Kd.R k25 25 w' w.heap.size (fun k_ => some k_ ≠ ((.slice Ao19 t523.length co19) : Value).ownBlock ∧ some k_ ≠ ((.slice Ao28 t529.length co28) : Value).ownBlock ∧ k_ ≠ gb521) (.slice Ao12 t515.length co12) t515) ∧ Aside0 (Kd.R k25 25 w' w.heap.size (fun k_ => some k_ ≠ ((.slice Ao12 t515.length co12) : Value).ownBlock ∧ some k_ ≠ ((.slice Ao28 t529.length co28) : Value).ownBlock ∧ k_ ≠ gb521) (.slice Ao19 t523.length co19) t523) ∧ Aside0 (Kd.R k25 25 w' w.heap.size (fun k_ => some k_ ≠ ((.slice Ao12 t515.length co12) : Value).ownBlock ∧ some k_ ≠ ((.slice Ao19 t523.length co19) : Value).ownBlock ∧ k_ ≠ gb521) (.slice Ao28 t529.length co28) t529) ∧ Aside0 (w'.heap[gb520]? = some (.cells #[.int .i64 t514, (.slice Ao12 t515.length co12)] 46 (0, 0))) ∧ Aside0 (w'.heap[gb521]? = some (.cells #[.int .i64 t518, .int .i64 t519] 25 (0, 0))) ∧ Aside0 (w'.heap[gb527]? = some (.cells #[.int .i64 t522, (.slice Ao19 t523.length co19)] 46 (0, 0))) ∧ Aside0 (w'.heap[gb533]? = some (.cells #[.int .i64 t528, (.slice Ao28 t529.length co28)] 46 (0, 0))) ∧ Aside0 (Below w.heap.size w w'))
     case atStart => exact ⟨(false), (0), (z20_12), (z20_12), H', ⟨Nat.le_refl _⟩, ⟨by (with_reducible repeat (first | apply Kd.R_alloc | apply Kd.R_drewN | apply Kd.R_drew)); exact HO_521001.out⟩, ⟨by (with_reducible repeat (first | apply Kd.R_alloc | apply Kd.R_drewN | apply Kd.R_drew)); exact HO_528001.out⟩, ⟨by (with_reducible repeat (first | apply Kd.R_alloc | apply Kd.R_drewN | apply Kd.R_drew)); exact HO_534001.out⟩, ⟨by (with_reducible repeat (first | refine blk_drewN ?_ _ | refine blk_drew ?_ | refine blk_alloc ?_ _)); exact BK520.out⟩, ⟨by (with_reducible repeat (first | refine blk_drewN ?_ _ | refine blk_drew ?_ | refine blk_alloc ?_ _)); exact BK521.out⟩, ⟨by (with_reducible repeat (first | refine blk_drewN ?_ _ | refine blk_drew ?_ | refine blk_alloc ?_ _)); exact BK527.out⟩, ⟨by (with_reducible repeat (first | refine blk_drewN ?_ _ | refine blk_drew ?_ | refine blk_alloc ?_ _)); exact BK533.out⟩, ⟨by repeat (first | (with_reducible first | exact HB.out | apply below_alloc | apply pw_below_drewN | apply below_drew1 | refine below_set ?_ GE520.out | refine below_set ?_ GE521.out | refine below_set ?_ GE527.out | refine below_set ?_ GE533.out) | exact HB.out)⟩⟩
     case round =>
      clear H'
      try clear c1
      try clear c2
      try clear c2b0
      try clear c2b1
      try clear p2
      try clear c3
      try clear c4
      try clear c5
      try clear c10
      try clear c16
      try clear c17
      try clear c24
      try clear c25
      try clear c26
      try clear c29
      try clear c29b0
      try clear c29b1
      try clear c29b2
      try clear c31
      try clear c33
      try clear c34
      try clear c35
      try clear c36
      try clear c39
      try clear c40
      try clear c44
      try clear c45
      try clear c46
      try clear c49
      try clear c50
      try clear c53
      try clear c54
      try clear c55
      try clear c58
      try clear hcz11_0
      try clear hcz11_1
      try clear hcz13_0
      try clear hcz13_1
      try clear hcz18_0
      try clear hcz18_1
      try clear hcz20_0
      try clear hcz20_1
      try clear hcz21_0
      try clear hcz21_1
      try clear hcz27_0
      try clear hcz27_1
      try clear hcz37_0
      try clear hcz37_1
      try clear hcz41_0
      try clear hcz41_1
      try clear hcz43_0
      try clear hcz43_1
      try clear hcz47_0
      try clear hcz47_1
      try clear hcz51_0
      try clear hcz51_1
      try clear hcz56_0
      try clear hcz56_1
      try clear hfz11_0
      try clear hfz11_1
      try clear hfz13_0
      try clear hfz13_1
      try clear hfz18_0
      try clear hfz18_1
      try clear hfz20_0
      try clear hfz20_1
      try clear hfz21_0
      try clear hfz21_1
      try clear hfz27_0
      try clear hfz27_1
      try clear hfz37_0
      try clear hfz37_1
      try clear hfz41_0
      try clear hfz41_1
      try clear hfz43_0
      try clear hfz43_1
      try clear hfz47_0
      try clear hfz47_1
      try clear hfz51_0
      try clear hfz51_1
      try clear hfz56_0
      try clear hfz56_1
      try clear p2
      obtain ⟨x9_2, x10_2, rfl, rfl, HA, HK2, HO_521001, HO_528001, HO_534001, BK520, BK521, BK527, BK533, HB⟩ := hrel
      cases gk with
      | zero => exact absurd HA.out (by simp [laws_FnPoolHit.l0])
      | succ k2 =>
       have H := HA.out
       clear HA
       simp only [laws_FnPoolHit.l0] at H
       by_cases c59 : x10_2 < (t515.length : Int)
       ·rw [if_pos c59] at H
        have c59b0 : decide (x10_2 < (t515.length : Int)) = true := decide_eq_true c59
        clear c59
        by_cases c60 : x9_2 = true
        ·subst c60
         have H1 : (laws_FnPoolHit.l0 k2 t526 true (wrap64 (x10_2 + 1)) t514 t515 t518 t519 t522 t523) = some r := by rw [if_pos rfl] at H; exact H
         clear H
         have H := H1
         clear H1
         have H' := Aside0.mk H
         clear H
         have hnb61 := NB520_521.out
         have hnc61 := NB521_520.out
         have hnb62 := NB520_527.out
         have hnc62 := NB527_520.out
         have hnb63 := NB520_533.out
         have hnc63 := NB533_520.out
         have hcz64_0 : wr.cell? ⟨gb520, 0, none⟩ = some (.int .i64 t514) := (blk_cell BK520.out 0).trans rfl
         have hcz64_1 : wr.cell? ⟨gb520, 1, none⟩ = some (.slice Ao12 t515.length co12) := (blk_cell BK520.out 1).trans rfl
         have hfz64_0 := blk_frozen BK520.out 0
         have hfz64_1 := blk_frozen BK520.out 1
         go_wp2
         repeat (go_quiet (fail); try go_wp2)
         go_roundg k2
         case measure => have := HJ5.out; have := HK2.out; omega
         case rel => exact ⟨(true), (wrap64 (x10_2 + 1)), (z20_12), (z20_12), H', ⟨by have := HJ5.out; have := HK2.out; omega⟩, ⟨by (with_reducible repeat (first | apply Kd.R_alloc | apply Kd.R_drewN | apply Kd.R_drew)); exact HO_521001.out⟩, ⟨by (with_reducible repeat (first | apply Kd.R_alloc | apply Kd.R_drewN | apply Kd.R_drew)); exact HO_528001.out⟩, ⟨by (with_reducible repeat (first | apply Kd.R_alloc | apply Kd.R_drewN | apply Kd.R_drew)); exact HO_534001.out⟩, ⟨by (with_reducible repeat (first | refine blk_drewN ?_ _ | refine blk_drew ?_ | refine blk_alloc ?_ _)); exact BK520.out⟩, ⟨by (with_reducible repeat (first | refine blk_drewN ?_ _ | refine blk_drew ?_ | refine blk_alloc ?_ _)); exact BK521.out⟩, ⟨by (with_reducible repeat (first | refine blk_drewN ?_ _ | refine blk_drew ?_ | refine blk_alloc ?_ _)); exact BK527.out⟩, ⟨by (with_reducible repeat (first | refine blk_drewN ?_ _ | refine blk_drew ?_ | refine blk_alloc ?_ _)); exact BK533.out⟩, ⟨by repeat (first | (with_reducible first | exact HB.out | apply below_alloc | apply pw_below_drewN | apply below_drew1 | refine below_set ?_ GE520.out | refine below_set ?_ GE521.out | refine below_set ?_ GE527.out | refine below_set ?_ GE533.out) | exact HB.out)⟩⟩
        ·replace c60 := Bool.eq_false_iff.mpr c60
         subst c60
         have H1 : (if 0 ≤ x10_2 then (laws_FnPoolHit.l0 k2 t526 (((rd_T25 t515 x10_2).f0) == t518 && (((rd_T25 t515 x10_2).f1) == t519)) (wrap64 (x10_2 + 1)) t514 t515 t518 t519 t522 t523) else (none)) = some r := by rw [if_neg (show ¬ (false = true) by decide)] at H; exact H
         clear H
         have H := H1
         clear H1
         by_cases c65 : 0 ≤ x10_2
         ·rw [if_pos c65] at H
          have c65b0 : decide (0 ≤ x10_2) = true := decide_eq_true c65
          clear c65
          have H' := Aside0.mk H
          clear H
          have hnb66 := NB520_521.out
          have hnc66 := NB521_520.out
          have hnb67 := NB520_527.out
          have hnc67 := NB527_520.out
          have hnb68 := NB520_533.out
          have hnc68 := NB533_520.out
          have hcz69_0 : wr.cell? ⟨gb520, 0, none⟩ = some (.int .i64 t514) := (blk_cell BK520.out 0).trans rfl
          have hcz69_1 : wr.cell? ⟨gb520, 1, none⟩ = some (.slice Ao12 t515.length co12) := (blk_cell BK520.out 1).trans rfl
          have hfz69_0 := blk_frozen BK520.out 0
          have hfz69_1 := blk_frozen BK520.out 1
          have p536 : 0 ≤ (x10_2 : Int) := of_decide_eq_true (z20_11)
          have q536 : x10_2 < (t515.length : Int) := of_decide_eq_true (z20_11)
          obtain ⟨ad536, e536, hx536_0, hx536_1⟩ := at_T25 (Kd.R_reads' HO_521001.out).2.2 x10_2 p536 q536
          cases e536
          replace p536 := eq_true p536
          replace q536 := eq_true q536
          have hnb70 := NB521_527.out
          have hnc70 := NB527_521.out
          have hnb71 := NB521_533.out
          have hnc71 := NB533_521.out
          have hcz72_0 : wr.cell? ⟨gb521, 0, none⟩ = some (.int .i64 t518) := (blk_cell BK521.out 0).trans rfl
          have hcz72_1 : wr.cell? ⟨gb521, 1, none⟩ = some (.int .i64 t519) := (blk_cell BK521.out 1).trans rfl
          have hfz72_0 := blk_frozen BK521.out 0
          have hfz72_1 := blk_frozen BK521.out 1
          go_wp2
          repeat (go_quiet (fail); try go_wp2)
          go_roundg k2
          case measure => have := HJ5.out; have := HK2.out; omega
          case rel => exact ⟨((((rd_T25 t515 x10_2).f0) == t518 && (((rd_T25 t515 x10_2).f1) == t519))), (wrap64 (x10_2 + 1)), (z20_12), (z20_12), H', ⟨by have := HJ5.out; have := HK2.out; omega⟩, ⟨by (with_reducible repeat (first | apply Kd.R_alloc | apply Kd.R_drewN | apply Kd.R_drew)); exact HO_521001.out⟩, ⟨by (with_reducible repeat (first | apply Kd.R_alloc | apply Kd.R_drewN | apply Kd.R_drew)); exact HO_528001.out⟩, ⟨by (with_reducible repeat (first | apply Kd.R_alloc | apply Kd.R_drewN | apply Kd.R_drew)); exact HO_534001.out⟩, ⟨by (with_reducible repeat (first | refine blk_drewN ?_ _ | refine blk_drew ?_ | refine blk_alloc ?_ _)); exact BK520.out⟩, ⟨by (with_reducible repeat (first | refine blk_drewN ?_ _ | refine blk_drew ?_ | refine blk_alloc ?_ _)); exact BK521.out⟩, ⟨by (with_reducible repeat (first | refine blk_drewN ?_ _ | refine blk_drew ?_ | refine blk_alloc ?_ _)); exact BK527.out⟩, ⟨by (with_reducible repeat (first | refine blk_drewN ?_ _ | refine blk_drew ?_ | refine blk_alloc ?_ _)); exact BK533.out⟩, ⟨by repeat (first | (with_reducible first | exact HB.out | apply below_alloc | apply pw_below_drewN | apply below_drew1 | refine below_set ?_ GE520.out | refine below_set ?_ GE521.out | refine below_set ?_ GE527.out | refine below_set ?_ GE533.out) | exact HB.out)⟩⟩
         ·rw [if_neg c65] at H
          exact absurd H (by simp)
       ·rw [if_neg c59] at H
        have c59b0 : decide (x10_2 < (t515.length : Int)) = false := decide_eq_false c59
        clear c59
        by_cases c73 : t526 = true
        ·subst c73
         have H1 : (if x9_2 = true then (some ((t523.length : Int) == (t515.length : Int))) else (some false)) = some r := by rw [if_pos rfl] at H; exact H
         clear H
         have H := H1
         clear H1
         by_cases c74 : x9_2 = true
         ·subst c74
          have H1 : (some ((t523.length : Int) == (t515.length : Int))) = some r := by rw [if_pos rfl] at H; exact H
          clear H
          have H := H1
          clear H1
          obtain rfl := Option.some.inj H
          have hnb75 := NB520_521.out
          have hnc75 := NB521_520.out
          have hnb76 := NB520_527.out
          have hnc76 := NB527_520.out
          have hnb77 := NB520_533.out
          have hnc77 := NB533_520.out
          have hcz78_0 : wr.cell? ⟨gb520, 0, none⟩ = some (.int .i64 t514) := (blk_cell BK520.out 0).trans rfl
          have hcz78_1 : wr.cell? ⟨gb520, 1, none⟩ = some (.slice Ao12 t515.length co12) := (blk_cell BK520.out 1).trans rfl
          have hfz78_0 := blk_frozen BK520.out 0
          have hfz78_1 := blk_frozen BK520.out 1
          have hnb79 := NB527_521.out
          have hnc79 := NB521_527.out
          have hnb80 := NB527_533.out
          have hnc80 := NB533_527.out
          have hcz81_0 : wr.cell? ⟨gb527, 0, none⟩ = some (.int .i64 t522) := (blk_cell BK527.out 0).trans rfl
          have hcz81_1 : wr.cell? ⟨gb527, 1, none⟩ = some (.slice Ao19 t523.length co19) := (blk_cell BK527.out 1).trans rfl
          have hfz81_0 := blk_frozen BK527.out 0
          have hfz81_1 := blk_frozen BK527.out 1
          go_wp2
          repeat (go_quiet (fail); try go_wp2)
          go_ret
          exact ⟨by first | rfl | (simp [errW_none, errW_some] <;> rfl) | (simp [*, errW_none, errW_some] <;> rfl), by repeat (first | (with_reducible first | exact HB.out | apply below_alloc | apply pw_below_drewN | apply below_drew1 | refine below_set ?_ GE520.out | refine below_set ?_ GE521.out | refine below_set ?_ GE527.out | refine below_set ?_ GE533.out) | exact HB.out)⟩
         ·replace c74 := Bool.eq_false_iff.mpr c74
          subst c74
          have H1 : (some false) = some r := by rw [if_neg (show ¬ (false = true) by decide)] at H; exact H
          clear H
          have H := H1
          clear H1
          exact absurd ((Option.some.inj H).trans hT) (by simp)
        ·replace c73 := Bool.eq_false_iff.mpr c73
         subst c73
         have H1 : (if (t515.length : Int) < t514 then (if x9_2 = true then (some false) else (some ((t523.length : Int) == (wrap64 ((t515.length : Int) + 1))))) else (laws_FnPoolHit.l1 k2 x9_2 (t515.length : Int) 0 t514 t515 t522 t523)) = some r := by rw [if_neg (show ¬ (false = true) by decide)] at H; exact H
         clear H
         have H := H1
         clear H1
         by_cases c82 : (t515.length : Int) < t514
         ·rw [if_pos c82] at H
          have c82b0 : decide ((t515.length : Int) < t514) = true := decide_eq_true c82
          clear c82
          by_cases c83 : x9_2 = true
          ·subst c83
           have H1 : (some false) = some r := by rw [if_pos rfl] at H; exact H
           clear H
           have H := H1
           clear H1
           exact absurd ((Option.some.inj H).trans hT) (by simp)
          ·replace c83 := Bool.eq_false_iff.mpr c83
           subst c83
           have H1 : (some ((t523.length : Int) == (wrap64 ((t515.length : Int) + 1)))) = some r := by rw [if_neg (show ¬ (false = true) by decide)] at H; exact H
           clear H
           have H := H1
           clear H1
           obtain rfl := Option.some.inj H
           have hnb84 := NB520_521.out
           have hnc84 := NB521_520.out
           have hnb85 := NB520_527.out
           have hnc85 := NB527_520.out
           have hnb86 := NB520_533.out
           have hnc86 := NB533_520.out
           have hcz87_0 : wr.cell? ⟨gb520, 0, none⟩ = some (.int .i64 t514) := (blk_cell BK520.out 0).trans rfl
           have hcz87_1 : wr.cell? ⟨gb520, 1, none⟩ = some (.slice Ao12 t515.length co12) := (blk_cell BK520.out 1).trans rfl
           have hfz87_0 := blk_frozen BK520.out 0
           have hfz87_1 := blk_frozen BK520.out 1
           have hnb88 := NB527_521.out
           have hnc88 := NB521_527.out
           have hnb89 := NB527_533.out
           have hnc89 := NB533_527.out
           have hcz90_0 : wr.cell? ⟨gb527, 0, none⟩ = some (.int .i64 t522) := (blk_cell BK527.out 0).trans rfl
           have hcz90_1 : wr.cell? ⟨gb527, 1, none⟩ = some (.slice Ao19 t523.length co19) := (blk_cell BK527.out 1).trans rfl
           have hfz90_0 := blk_frozen BK527.out 0
           have hfz90_1 := blk_frozen BK527.out 1
           go_wp2
           repeat (go_quiet (fail); try go_wp2)
           go_ret
           exact ⟨by first | rfl | (simp [errW_none, errW_some] <;> rfl) | (simp [*, errW_none, errW_some] <;> rfl), by repeat (first | (with_reducible first | exact HB.out | apply below_alloc | apply pw_below_drewN | apply below_drew1 | refine below_set ?_ GE520.out | refine below_set ?_ GE521.out | refine below_set ?_ GE527.out | refine below_set ?_ GE533.out) | exact HB.out)⟩
         ·rw [if_neg c82] at H
          have c82b0 : decide ((t515.length : Int) < t514) = false := decide_eq_false c82
          clear c82
          have H' := Aside0.mk H
          clear H
          have hnb91 := NB520_521.out
          have hnc91 := NB521_520.out
          have hnb92 := NB520_527.out
          have hnc92 := NB527_520.out
          have hnb93 := NB520_533.out
          have hnc93 := NB533_520.out
          have hcz94_0 : wr.cell? ⟨gb520, 0, none⟩ = some (.int .i64 t514) := (blk_cell BK520.out 0).trans rfl
          have hcz94_1 : wr.cell? ⟨gb520, 1, none⟩ = some (.slice Ao12 t515.length co12) := (blk_cell BK520.out 1).trans rfl
          have hfz94_0 := blk_frozen BK520.out 0
          have hfz94_1 := blk_frozen BK520.out 1
          go_wp2
          repeat (go_quiet (fail); try go_wp2)
          go_loopg [12] k2 (fun kq v12 w' => ∃ (x12_3 : Int), v12 = .int .i64 x12_3 ∧ Aside0 (laws_FnPoolHit.l1 kq x9_2 (t515.length : Int) x12_3 t514 t515 t522 t523 = some r) ∧ Aside0 (kq ≤ k2) ∧ Aside0 (Kd.R k25 25 w' w.heap.size (fun k_ => some k_ ≠ ((.slice Ao19 t523.length co19) : Value).ownBlock ∧ some k_ ≠ ((.slice Ao28 t529.length co28) : Value).ownBlock ∧ k_ ≠ gb521) (.slice Ao12 t515.length co12) t515) ∧ Aside0 (Kd.R k25 25 w' w.heap.size (fun k_ => some k_ ≠ ((.slice Ao12 t515.length co12) : Value).ownBlock ∧ some k_ ≠ ((.slice Ao28 t529.length co28) : Value).ownBlock ∧ k_ ≠ gb521) (.slice Ao19 t523.length co19) t523) ∧ Aside0 (Kd.R k25 25 w' w.heap.size (fun k_ => some k_ ≠ ((.slice Ao12 t515.length co12) : Value).ownBlock ∧ some k_ ≠ ((.slice Ao19 t523.length co19) : Value).ownBlock ∧ k_ ≠ gb521) (.slice Ao28 t529.length co28) t529) ∧ Aside0 (w'.heap[gb520]? = some (.cells #[.int .i64 t514, (.slice Ao12 t515.length co12)] 46 (0, 0))) ∧ Aside0 (w'.heap[gb521]? = some (.cells #[.int .i64 t518, .int .i64 t519] 25 (0, 0))) ∧ Aside0 (w'.heap[gb527]? = some (.cells #[.int .i64 t522, (.slice Ao19 t523.length co19)] 46 (0, 0))) ∧ Aside0 (w'.heap[gb533]? = some (.cells #[.int .i64 t528, (.slice Ao28 t529.length co28)] 46 (0, 0))) ∧ Aside0 (Below w.heap.size w w'))
          case atStart => exact ⟨(0), (z20_12), H', ⟨Nat.le_refl _⟩, ⟨by (with_reducible repeat (first | apply Kd.R_alloc | apply Kd.R_drewN | apply Kd.R_drew)); exact HO_521001.out⟩, ⟨by (with_reducible repeat (first | apply Kd.R_alloc | apply Kd.R_drewN | apply Kd.R_drew)); exact HO_528001.out⟩, ⟨by (with_reducible repeat (first | apply Kd.R_alloc | apply Kd.R_drewN | apply Kd.R_drew)); exact HO_534001.out⟩, ⟨by (with_reducible repeat (first | refine blk_drewN ?_ _ | refine blk_drew ?_ | refine blk_alloc ?_ _)); exact BK520.out⟩, ⟨by (with_reducible repeat (first | refine blk_drewN ?_ _ | refine blk_drew ?_ | refine blk_alloc ?_ _)); exact BK521.out⟩, ⟨by (with_reducible repeat (first | refine blk_drewN ?_ _ | refine blk_drew ?_ | refine blk_alloc ?_ _)); exact BK527.out⟩, ⟨by (with_reducible repeat (first | refine blk_drewN ?_ _ | refine blk_drew ?_ | refine blk_alloc ?_ _)); exact BK533.out⟩, ⟨by repeat (first | (with_reducible first | exact HB.out | apply below_alloc | apply pw_below_drewN | apply below_drew1 | refine below_set ?_ GE520.out | refine below_set ?_ GE521.out | refine below_set ?_ GE527.out | refine below_set ?_ GE533.out) | exact HB.out)⟩⟩
          case round =>
           clear H'
           try clear c1
           try clear c2
           try clear c2b0
           try clear c2b1
           try clear p2
           try clear c3
           try clear c4
           try clear c5
           try clear p5
           try clear q5
           try clear hx5
           try clear c6
           try clear p6
           try clear c7
           try clear c8
           try clear c9
           try clear c10
           try clear c16
           try clear c17
           try clear c24
           try clear c25
           try clear c26
           try clear c29
           try clear c29b0
           try clear c29b1
           try clear c29b2
           try clear c31
           try clear c33
           try clear c34
           try clear c35
           try clear c36
           try clear c39
           try clear c40
           try clear c44
           try clear c45
           try clear c46
           try clear c49
           try clear c50
           try clear c53
           try clear p53
           try clear q53
           try clear hx53
           try clear c54
           try clear c55
           try clear c58
           try clear c59
           try clear c59b0
           try clear c60
           try clear c61
           try clear c62
           try clear c63
           try clear p64
           try clear c65
           try clear c65b0
           try clear c66
           try clear c67
           try clear c68
           try clear c70
           try clear c71
           try clear c73
           try clear c74
           try clear c75
           try clear c76
           try clear c77
           try clear c79
           try clear c80
           try clear c82
           try clear c82b0
           try clear c83
           try clear c84
           try clear c85
           try clear c86
           try clear c88
           try clear c89
           try clear c91
           try clear c92
           try clear c93
           try clear hcz11_0
           try clear hcz11_1
           try clear hcz13_0
           try clear hcz13_1
           try clear hcz18_0
           try clear hcz18_1
           try clear hcz20_0
           try clear hcz20_1
           try clear hcz21_0
           try clear hcz21_1
           try clear hcz27_0
           try clear hcz27_1
           try clear hcz37_0
           try clear hcz37_1
           try clear hcz41_0
           try clear hcz41_1
           try clear hcz43_0
           try clear hcz43_1
           try clear hcz47_0
           try clear hcz47_1
           try clear hcz51_0
           try clear hcz51_1
           try clear hcz56_0
           try clear hcz56_1
           try clear hcz64_0
           try clear hcz64_1
           try clear hcz69_0
           try clear hcz69_1
           try clear hcz72_0
           try clear hcz72_1
           try clear hcz78_0
           try clear hcz78_1
           try clear hcz81_0
           try clear hcz81_1
           try clear hcz87_0
           try clear hcz87_1
           try clear hcz90_0
           try clear hcz90_1
           try clear hcz94_0
           try clear hcz94_1
           try clear hfz11_0
           try clear hfz11_1
           try clear hfz13_0
           try clear hfz13_1
           try clear hfz18_0
           try clear hfz18_1
           try clear hfz20_0
           try clear hfz20_1
           try clear hfz21_0
           try clear hfz21_1
           try clear hfz27_0
           try clear hfz27_1
           try clear hfz37_0
           try clear hfz37_1
           try clear hfz41_0
           try clear hfz41_1
           try clear hfz43_0
           try clear hfz43_1
           try clear hfz47_0
           try clear hfz47_1
           try clear hfz51_0
           try clear hfz51_1
           try clear hfz56_0
           try clear hfz56_1
           try clear hfz64_0
           try clear hfz64_1
           try clear hfz69_0
           try clear hfz69_1
           try clear hfz72_0
           try clear hfz72_1
           try clear hfz78_0
           try clear hfz78_1
           try clear hfz81_0
           try clear hfz81_1
           try clear hfz87_0
           try clear hfz87_1
           try clear hfz90_0
           try clear hfz90_1
           try clear hfz94_0
           try clear hfz94_1
           try clear hx536_0
           try clear hx536_1
           try clear p2
           try clear p536
           try clear q536
           obtain ⟨x12_3, rfl, HA, HK3, HO_521001, HO_528001, HO_534001, BK520, BK521, BK527, BK533, HB⟩ := hrel
           cases gk with
           | zero => exact absurd HA.out (by simp [laws_FnPoolHit.l1])
           | succ k3 =>
            have H := HA.out
            clear HA
            simp only [laws_FnPoolHit.l1] at H
            by_cases c95 : x12_3 < (t523.length : Int)
            ·rw [if_pos c95] at H
             have c95b0 : decide (x12_3 < (t523.length : Int)) = true := decide_eq_true c95
             clear c95
             by_cases c96 : 0 ≤ x12_3
             ·rw [if_pos c96] at H
              have c96b0 : decide (0 ≤ x12_3) = true := decide_eq_true c96
              clear c96
              obtain ⟨ji97, hji97⟩ : ∃ j_ : Int, (wrap64 ((t515.length : Int) - 1)) = j_ := ⟨_, rfl⟩
              replace H : (if 0 ≤ (ji97) then (if (ji97) < (t515.length : Int) then (if (((rd_T25 t523 x12_3).f0) == ((rd_T25 t515 (ji97)).f0) && (((rd_T25 t523 x12_3).f1) == ((rd_T25 t515 (ji97)).f1))) = true then (some false) else (laws_FnPoolHit.l1 k3 x9_2 (t515.length : Int) (wrap64 (x12_3 + 1)) t514 t515 t522 t523)) else (none)) else (none)) = some r := by first | (rw [hji97] at H; exact H) | (simp only [hji97] at H ⊢; exact H)
              have hji97w : (IntKind.i64.wrap ((t515.length : Int) - 1)) = ji97 := (i64_w _).trans hji97
              by_cases c98 : 0 ≤ (ji97)
              ·rw [if_pos c98] at H
               have c98b0 : decide (0 ≤ (ji97)) = true := decide_eq_true c98
               clear c98
               by_cases c99 : (ji97) < (t515.length : Int)
               ·rw [if_pos c99] at H
                have c99b0 : decide ((ji97) < (t515.length : Int)) = true := decide_eq_true c99
                clear c99
                by_cases c100 : (((rd_T25 t523 x12_3).f0) == ((rd_T25 t515 (ji97)).f0) && (((rd_T25 t523 x12_3).f1) == ((rd_T25 t515 (ji97)).f1))) = true
                ·rw [if_pos c100] at H
                 have c100b0 : (((rd_T25 t523 x12_3).f0) == ((rd_T25 t515 (ji97)).f0) && (((rd_T25 t523 x12_3).f1) == ((rd_T25 t515 (ji97)).f1))) = true := c100
                 (try (have c100b1 : decide (((rd_T25 t523 x12_3).f0) = ((rd_T25 t515 (ji97)).f0) && (((rd_T25 t523 x12_3).f1) == ((rd_T25 t515 (ji97)).f1))) = true := by simpa using c100))
                 (try (have c100b2 : (((rd_T25 t523 x12_3).f0) == ((rd_T25 t515 (ji97)).f0) && (((rd_T25 t523 x12_3).f1) == ((rd_T25 t515 (ji97)).f1))) = true := by simpa using c100))
                 clear c100
                 exact absurd ((Option.some.inj H).trans hT) (by simp)
                ·rw [if_neg c100] at H
                 have c100b0 : (((rd_T25 t523 x12_3).f0) == ((rd_T25 t515 (ji97)).f0) && (((rd_T25 t523 x12_3).f1) == ((rd_T25 t515 (ji97)).f1))) = false := by simpa using c100
                 (try (have c100b1 : decide (((rd_T25 t523 x12_3).f0) = ((rd_T25 t515 (ji97)).f0) && (((rd_T25 t523 x12_3).f1) == ((rd_T25 t515 (ji97)).f1))) = false := by simpa using c100))
                 (try (have c100b2 : (((rd_T25 t523 x12_3).f0) == ((rd_T25 t515 (ji97)).f0) && (((rd_T25 t523 x12_3).f1) == ((rd_T25 t515 (ji97)).f1))) = false := by simpa using c100))
                 (try (have c100b3 : ¬ (((rd_T25 t523 x12_3).f0) = ((rd_T25 t515 (ji97)).f0) && (((rd_T25 t523 x12_3).f1) == ((rd_T25 t515 (ji97)).f1))) := by simpa using c100))
                 clear c100
                 have H' := Aside0.mk H
                 clear H
                 have hnb101 := NB527_520.out
                 have hnc101 := NB520_527.out
                 have hnb102 := NB527_521.out
                 have hnc102 := NB521_527.out
                 have hnb103 := NB527_533.out
                 have hnc103 := NB533_527.out
                 have hcz104_0 : wr.cell? ⟨gb527, 0, none⟩ = some (.int .i64 t522) := (blk_cell BK527.out 0).trans rfl
                 have hcz104_1 : wr.cell? ⟨gb527, 1, none⟩ = some (.slice Ao19 t523.length co19) := (blk_cell BK527.out 1).trans rfl
                 have hfz104_0 := blk_frozen BK527.out 0
                 have hfz104_1 := blk_frozen BK527.out 1
                 have p537 : 0 ≤ (x12_3 : Int) := of_decide_eq_true (z20_11)
                 have q537 : x12_3 < (t523.length : Int) := of_decide_eq_true (z20_11)
                 obtain ⟨ad537, e537, hx537_0, hx537_1⟩ := at_T25 (Kd.R_reads' HO_528001.out).2.2 x12_3 p537 q537
                 cases e537
                 replace p537 := eq_true p537
                 replace q537 := eq_true q537
                 have hnb105 := NB520_521.out
                 have hnc105 := NB521_520.out
                 have hnb106 := NB520_533.out
                 have hnc106 := NB533_520.out
                 have hcz107_0 : wr.cell? ⟨gb520, 0, none⟩ = some (.int .i64 t514) := (blk_cell BK520.out 0).trans rfl
                 have hcz107_1 : wr.cell? ⟨gb520, 1, none⟩ = some (.slice Ao12 t515.length co12) := (blk_cell BK520.out 1).trans rfl
                 have hfz107_0 := blk_frozen BK520.out 0
                 have hfz107_1 := blk_frozen BK520.out 1
                 have p538 : 0 ≤ ((ji97) : Int) := of_decide_eq_true (z20_11)
                 have q538 : (ji97) < (t515.length : Int) := of_decide_eq_true (z20_11)
                 obtain ⟨ad538, e538, hx538_0, hx538_1⟩ := at_T25 (Kd.R_reads' HO_521001.out).2.2 (ji97) p538 q538
                 cases e538
                 replace p538 := eq_true p538
                 replace q538 := eq_true q538
                 go_wp2
                 repeat (go_quiet (fail); try go_wp2)
                 go_roundg k3
                 case measure => have := HJ5.out; have := HK2.out; have := HK3.out; omega
                 case rel => exact ⟨(wrap64 (x12_3 + 1)), (z20_12), H', ⟨by have := HJ5.out; have := HK2.out; have := HK3.out; omega⟩, ⟨by (with_reducible repeat (first | apply Kd.R_alloc | apply Kd.R_drewN | apply Kd.R_drew)); exact HO_521001.out⟩, ⟨by (with_reducible repeat (first | apply Kd.R_alloc | apply Kd.R_drewN | apply Kd.R_drew)); exact HO_528001.out⟩, ⟨by (with_reducible repeat (first | apply Kd.R_alloc | apply Kd.R_drewN | apply Kd.R_drew)); exact HO_534001.out⟩, ⟨by (with_reducible repeat (first | refine blk_drewN ?_ _ | refine blk_drew ?_ | refine blk_alloc ?_ _)); exact BK520.out⟩, ⟨by (with_reducible repeat (first | refine blk_drewN ?_ _ | refine blk_drew ?_ | refine blk_alloc ?_ _)); exact BK521.out⟩, ⟨by (with_reducible repeat (first | refine blk_drewN ?_ _ | refine blk_drew ?_ | refine blk_alloc ?_ _)); exact BK527.out⟩, ⟨by (with_reducible repeat (first | refine blk_drewN ?_ _ | refine blk_drew ?_ | refine blk_alloc ?_ _)); exact BK533.out⟩, ⟨by repeat (first | (with_reducible first | exact HB.out | apply below_alloc | apply pw_below_drewN | apply below_drew1 | refine below_set ?_ GE520.out | refine below_set ?_ GE521.out | refine below_set ?_ GE527.out | refine below_set ?_ GE533.out) | exact HB.out)⟩⟩
               ·rw [if_neg c99] at H
                exact absurd H (by simp)
              ·rw [if_neg c98] at H
               exact absurd H (by simp)
             ·rw [if_neg c96] at H
              exact absurd H (by simp)
            ·rw [if_neg c95] at H
             have c95b0 : decide (x12_3 < (t523.length : Int)) = false := decide_eq_false c95
             clear c95
             by_cases c108 : x9_2 = true
             ·subst c108
              have H1 : (some false) = some r := by rw [if_pos rfl] at H; exact H
              clear H
              have H := H1
              clear H1
              exact absurd ((Option.some.inj H).trans hT) (by simp)
             ·replace c108 := Bool.eq_false_iff.mpr c108
              subst c108
              have H1 : (some ((t523.length : Int) == (t515.length : Int))) = some r := by rw [if_neg (show ¬ (false = true) by decide)] at H; exact H
              clear H
              have H := H1
              clear H1
              obtain rfl := Option.some.inj H
              have hnb109 := NB527_520.out
              have hnc109 := NB520_527.out
              have hnb110 := NB527_521.out
              have hnc110 := NB521_527.out
              have hnb111 := NB527_533.out
              have hnc111 := NB533_527.out
              have hcz112_0 : wr.cell? ⟨gb527, 0, none⟩ = some (.int .i64 t522) := (blk_cell BK527.out 0).trans rfl
              have hcz112_1 : wr.cell? ⟨gb527, 1, none⟩ = some (.slice Ao19 t523.length co19) := (blk_cell BK527.out 1).trans rfl
              have hfz112_0 := blk_frozen BK527.out 0
              have hfz112_1 := blk_frozen BK527.out 1
              go_wp2
              repeat (go_quiet (fail); try go_wp2)
              go_ret
              exact ⟨by first | rfl | (simp [errW_none, errW_some] <;> rfl) | (simp [*, errW_none, errW_some] <;> rfl), by repeat (first | (with_reducible first | exact HB.out | apply below_alloc | apply pw_below_drewN | apply below_drew1 | refine below_set ?_ GE520.out | refine below_set ?_ GE521.out | refine below_set ?_ GE527.out | refine below_set ?_ GE533.out) | exact HB.out)⟩

/-- THE ONE PURE STATEMENT of laws_FnPoolHit: yours. -/
def laws_FnPoolHit.Pure : Prop := ∀ (l0 : List Int), l0.length ≤ maxLen → l0.length * 1 ≤ 140737488351232 → (∀ x ∈ l0, (Lit.int .u8 x).wf = true) → ∃ k, laws_FnPoolHit.f k l0 = some true
theorem laws_FnPoolHit.walk (P : laws_FnPoolHit.Pure) (a0 : Option Addr) (len0 cap0 : Nat) (z0 : List Int) (w : World) (w0 : (a0 = none ∧ len0 = 0 ∧ cap0 = 0 ∧ z0 = []) ∨ ∃ x, a0 = some x ∧ len0 ≤ cap0 ∧ cap0 ≤ maxLen ∧ z0.length = cap0 ∧ (∀ i, i < z0.length → w.cell? (x.add i) = some (.int .u8 (z0.getD i 0))) ∧ ∀ n ∈ z0, (Lit.int .u8 n).wf = true) (y0 : len0 * 1 ≤ 140737488351232) :
  Calls Try.prog 10 #[.slice a0 len0 cap0] w fun e w' => e = .returned (.bool true) ∧ Below w.heap.size w w' := by
 obtain ⟨l0, rfl, hr0, hm0, hw0, hc0⟩ := ReadsInt.ofRowC w0
 obtain ⟨k, h⟩ := P l0 hm0 y0 hw0
 refine (laws_FnPoolHit.calls k _ _ l0 true w (Kd.C_of_reads (d := (0 : Int)) (h1 := fun _ => rfl) hr0) hc0 rfl h).mono ?_
 rintro e w' ⟨rfl, hd⟩
 exact ⟨rfl, hd⟩

end Go.Proofs.Ytcobbpghipeoeaa.R
