/- Contracts of Go functions, printed by a program (the kit's print.py under reprint.py) and shortened (post.py): each call comes to what the plain function of its name tells. Where that tells nothing, nothing is said. -/
import Derived.Test.YtcobbpghipeoeaaR0
import Derived.Test.YtcobbpghipeoeaaR1
import Derived.Test.YtcobbpghipeoeaaR5
import Derived.Test.YtcobbpghipeoeaaR6
import Derived.Test.YtcobbpghipeoeaaR12
import Derived.Test.YtcobbpghipeoeaaGC
namespace Go.Proofs.Ytcobbpghipeoeaa.R
open Go.RowKit Go.Proofs.YtcobbpghipeoeaaV.PrintWords Go.Proofs.YtcobbpghipeoeaaV.PrintLast Go.Proofs.YtcobbpghipeoeaaV.PrintMore
attribute [local go_sem] max2_int min2_int max_two min_two max_three min_three max_four min_four   -- for this text's walks alone
set_option linter.unusedVariables false
set_option linter.unusedSimpArgs false
theorem z25_0 {P : Prop} (h : P := by (with_reducible repeat (first | refine blk_drewN ?_ _ | refine blk_drew ?_ | refine blk_alloc ?_ _)); refine blk_far ?_ NB729_741.out _; (with_reducible repeat (first | refine blk_drewN ?_ _ | refine blk_drew ?_ | refine blk_alloc ?_ _)); refine blk_far ?_ NB729_741.out _; (with_reducible repeat (first | refine blk_drewN ?_ _ | refine blk_drew ?_ | refine blk_alloc ?_ _)); exact BK729.out) : P := h
theorem z25_1 {P : Prop} (h : P := by (with_reducible repeat (first | refine blk_drewN ?_ _ | refine blk_drew ?_ | refine blk_alloc ?_ _)); refine blk_far ?_ NB735_741.out _; (with_reducible repeat (first | refine blk_drewN ?_ _ | refine blk_drew ?_ | refine blk_alloc ?_ _)); refine blk_far ?_ NB735_741.out _; (with_reducible repeat (first | refine blk_drewN ?_ _ | refine blk_drew ?_ | refine blk_alloc ?_ _)); exact BK735.out) : P := h
theorem z25_2 {P : Prop} (h : P := by repeat (first | (with_reducible first | exact HB.out | apply below_alloc | apply pw_below_drewN | apply below_drew1 | refine below_set ?_ GE729.out | refine below_set ?_ GE735.out | refine below_set ?_ GE741.out) | exact HB.out)) : P := h
theorem z25_3 {P : Prop} (h : P := by repeat (first | (with_reducible first | exact HB.out | apply below_alloc | apply pw_below_drewN | apply below_drew1 | refine below_set ?_ GE729.out | refine below_set ?_ GE735.out) | exact HB.out)) : P := h
theorem z25_4 {P : Prop} (h : P := by repeat (first | (with_reducible first | exact HB.out | apply below_alloc | apply pw_below_drewN | apply below_drew1 | refine below_set ?_ GE729.out) | exact HB.out)) : P := h
theorem z25_5 {P : Prop} (h : P := by repeat (first | (with_reducible first | exact HB.out | apply below_alloc | apply pw_below_drewN | apply below_drew1) | exact HB.out)) : P := h
theorem z25_6 {P : Prop} (h : P := by (with_reducible repeat (first | refine blk_drewN ?_ _ | refine blk_drew ?_ | refine blk_alloc ?_ _)); exact BK729.out) : P := h
theorem z25_7 {P : Prop} (h : P := by (with_reducible repeat (first | refine blk_drewN ?_ _ | refine blk_drew ?_ | refine blk_alloc ?_ _)); exact BK735.out) : P := h
theorem z25_8 {P : Prop} (h : P := by (with_reducible repeat (first | refine blk_drewN ?_ _ | refine blk_drew ?_ | refine blk_alloc ?_ _)); exact BK741.out) : P := h
theorem z25_9 {P : Prop} (h : P := by first | rfl | (simp; done) | (simp [*]; done)) : P := h

attribute [local go_sem high] eqA25
/-! ### laws_FnPoolTwice: function 15 -/
mutual
def laws_FnPoolTwice.j0 : Nat → List (S25) → Int → Int → Bool → Int → List (S25) → Int → List (S25) → Int → List (S25) → Option (Bool)
 | 0, _, _, _, _, _, _, _, _, _, _ => none
 | k + 1, x4, x6, x8, x55, x730000, x730001, x736000, x736001, x742000, x742001 => if x55 = true then (if x6 = x8 then ((impl_PoolSame.f k x736000 x736001 x742000 x742001).bind fun t744 => (some t744)) else (some false)) else (laws_FnPoolTwice.l0 k x4 0 0 x730000 x730001 x736000 x736001)
def laws_FnPoolTwice.l0 : Nat → List (S25) → Int → Int → Int → List (S25) → Int → List (S25) → Option (Bool)
 | 0, _, _, _, _, _, _, _ => none
 | k + 1, x4, x9, x10, x730000, x730001, x736000, x736001 => if x10 < (x4.length : Int) then (laws_FnPoolTwice.l1 k x4 x9 x10 false 0 x730000 x730001 x736000 x736001) else ((impl_PoolAll.f x736000 x736001 x4).bind fun bt745 => (if x9 > x730000 then (some true) else (if bt745.2.2 = 0 then ((impl_PoolSame.f k bt745.1 bt745.2.1 x736000 x736001).bind fun t751 => (some t751)) else (some false))))
def laws_FnPoolTwice.l1 : Nat → List (S25) → Int → Int → Bool → Int → Int → List (S25) → Int → List (S25) → Option (Bool)
 | 0, _, _, _, _, _, _, _, _, _ => none
 | k + 1, x4, x9, x10, x11, x12, x730000, x730001, x736000, x736001 => if x12 < x10 then (if x11 = true then (laws_FnPoolTwice.l1 k x4 x9 x10 true (wrap64 (x12 + 1)) x730000 x730001 x736000 x736001) else (if 0 ≤ x12 then (if x12 < (x4.length : Int) then (if 0 ≤ x10 then (if x10 < (x4.length : Int) then (laws_FnPoolTwice.l1 k x4 x9 x10 (((rd_T25 x4 x12).f0) == ((rd_T25 x4 x10).f0) && (((rd_T25 x4 x12).f1) == ((rd_T25 x4 x10).f1))) (wrap64 (x12 + 1)) x730000 x730001 x736000 x736001) else (none)) else (none)) else (none)) else (none))) else (if x11 = true then (laws_FnPoolTwice.l0 k x4 x9 (wrap64 (x10 + 1)) x730000 x730001 x736000 x736001) else (laws_FnPoolTwice.l0 k x4 (wrap64 (x9 + 1)) (wrap64 (x10 + 1)) x730000 x730001 x736000 x736001))
end
def laws_FnPoolTwice.f (k : Nat) (l0 : List Int) : Option (Bool) := if (l0.length : Int) > 1048576 then (some true) else ((spec_DrawPoolAll.f k l0).bind fun bt722 => ((impl_PoolAll.f bt722.1 bt722.2.1 bt722.2.2).bind fun bt730 => ((spec_PoolAll.f k bt722.1 bt722.2.1 bt722.2.2).bind fun bt736 => (if bt730.2.2 = bt736.2.2 then ((impl_PoolSame.f k bt730.1 bt730.2.1 bt736.1 bt736.2.1).bind fun t742 => (if t742 = true then ((spec_PoolOk.f k bt722.1 bt722.2.1).bind fun t743 => (if t743 = true then (laws_FnPoolTwice.j0 k bt722.2.2 bt730.2.2 bt736.2.2 (bt730.1 != bt722.1) bt722.1 bt722.2.1 bt730.1 bt730.2.1 bt736.1 bt736.2.1) else (laws_FnPoolTwice.j0 k bt722.2.2 bt730.2.2 bt736.2.2 true bt722.1 bt722.2.1 bt730.1 bt730.2.1 bt736.1 bt736.2.1))) else (laws_FnPoolTwice.j0 k bt722.2.2 bt730.2.2 bt736.2.2 true bt722.1 bt722.2.1 bt730.1 bt730.2.1 bt736.1 bt736.2.1))) else (laws_FnPoolTwice.j0 k bt722.2.2 bt730.2.2 bt736.2.2 true bt722.1 bt722.2.1 bt730.1 bt730.2.1 bt736.1 bt736.2.1)))))
theorem laws_FnPoolTwice.mono_l : ∀ k, (∀ y0 y1 y2 y3 y4 y5 y6 y7 y8 y9, LeO (laws_FnPoolTwice.j0 k y0 y1 y2 y3 y4 y5 y6 y7 y8 y9) (laws_FnPoolTwice.j0 (k + 1) y0 y1 y2 y3 y4 y5 y6 y7 y8 y9)) ∧ (∀ y0 y1 y2 y3 y4 y5 y6, LeO (laws_FnPoolTwice.l0 k y0 y1 y2 y3 y4 y5 y6) (laws_FnPoolTwice.l0 (k + 1) y0 y1 y2 y3 y4 y5 y6)) ∧ (∀ y0 y1 y2 y3 y4 y5 y6 y7 y8, LeO (laws_FnPoolTwice.l1 k y0 y1 y2 y3 y4 y5 y6 y7 y8) (laws_FnPoolTwice.l1 (k + 1) y0 y1 y2 y3 y4 y5 y6 y7 y8))
 | 0 => ⟨fun _ _ _ _ _ _ _ _ _ _ r h => by simp [laws_FnPoolTwice.j0] at h, fun _ _ _ _ _ _ _ r h => by simp [laws_FnPoolTwice.l0] at h, fun _ _ _ _ _ _ _ _ _ r h => by simp [laws_FnPoolTwice.l1] at h⟩
 | k + 1 => by
  obtain ⟨ih0, ih1, ih2⟩ := laws_FnPoolTwice.mono_l k
  refine ⟨?_, ?_, ?_⟩
  ·intro y0 y1 y2 y3 y4 y5 y6 y7 y8 y9
   unfold laws_FnPoolTwice.j0
   repeat' first
   | (with_reducible exact ih0 _ _ _ _ _ _ _ _ _ _)
   | (with_reducible exact ih1 _ _ _ _ _ _ _)
   | (with_reducible exact ih2 _ _ _ _ _ _ _ _ _)
   | (with_reducible exact impl_PoolSame.mono _ _ _ _ _)
   | (with_reducible exact spec_DrawPoolAll.mono _ _)
   | (with_reducible exact spec_PoolAll.mono _ _ _ _)
   | (with_reducible exact spec_PoolOk.mono _ _ _)
   | (with_reducible exact LeO.refl _)
   | (with_reducible exact LeO.none _)
   | (with_reducible refine LeO.ite ?_ ?_)
   | (with_reducible refine LeO.bind ?_ (fun _ => ?_))
   | exact ih0 _ _ _ _ _ _ _ _ _ _
   | exact ih1 _ _ _ _ _ _ _
   | exact ih2 _ _ _ _ _ _ _ _ _
   | exact impl_PoolSame.mono _ _ _ _ _
   | exact spec_DrawPoolAll.mono _ _
   | exact spec_PoolAll.mono _ _ _ _
   | exact spec_PoolOk.mono _ _ _
   | exact LeO.none _
   | refine LeO.ite ?_ ?_
   | refine LeO.bind ?_ (fun _ => ?_)
  ·intro y0 y1 y2 y3 y4 y5 y6
   unfold laws_FnPoolTwice.l0
   repeat' first
   | (with_reducible exact ih0 _ _ _ _ _ _ _ _ _ _)
   | (with_reducible exact ih1 _ _ _ _ _ _ _)
   | (with_reducible exact ih2 _ _ _ _ _ _ _ _ _)
   | (with_reducible exact impl_PoolSame.mono _ _ _ _ _)
   | (with_reducible exact spec_DrawPoolAll.mono _ _)
   | (with_reducible exact spec_PoolAll.mono _ _ _ _)
   | (with_reducible exact spec_PoolOk.mono _ _ _)
   | (with_reducible exact LeO.refl _)
   | (with_reducible exact LeO.none _)
   | (with_reducible refine LeO.ite ?_ ?_)
   | (with_reducible refine LeO.bind ?_ (fun _ => ?_))
   | exact ih0 _ _ _ _ _ _ _ _ _ _
   | exact ih1 _ _ _ _ _ _ _
   | exact ih2 _ _ _ _ _ _ _ _ _
   | exact impl_PoolSame.mono _ _ _ _ _
   | exact spec_DrawPoolAll.mono _ _
   | exact spec_PoolAll.mono _ _ _ _
   | exact spec_PoolOk.mono _ _ _
   | exact LeO.none _
   | refine LeO.ite ?_ ?_
   | refine LeO.bind ?_ (fun _ => ?_)
  ·intro y0 y1 y2 y3 y4 y5 y6 y7 y8
   unfold laws_FnPoolTwice.l1
   repeat' first
   | (with_reducible exact ih0 _ _ _ _ _ _ _ _ _ _)
   | (with_reducible exact ih1 _ _ _ _ _ _ _)
   | (with_reducible exact ih2 _ _ _ _ _ _ _ _ _)
   | (with_reducible exact impl_PoolSame.mono _ _ _ _ _)
   | (with_reducible exact spec_DrawPoolAll.mono _ _)
   | (with_reducible exact spec_PoolAll.mono _ _ _ _)
   | (with_reducible exact spec_PoolOk.mono _ _ _)
   | (with_reducible exact LeO.refl _)
   | (with_reducible exact LeO.none _)
   | (with_reducible refine LeO.ite ?_ ?_)
   | (with_reducible refine LeO.bind ?_ (fun _ => ?_))
   | exact ih0 _ _ _ _ _ _ _ _ _ _
   | exact ih1 _ _ _ _ _ _ _
   | exact ih2 _ _ _ _ _ _ _ _ _
   | exact impl_PoolSame.mono _ _ _ _ _
   | exact spec_DrawPoolAll.mono _ _
   | exact spec_PoolAll.mono _ _ _ _
   | exact spec_PoolOk.mono _ _ _
   | exact LeO.none _
   | refine LeO.ite ?_ ?_
   | refine LeO.bind ?_ (fun _ => ?_)
theorem laws_FnPoolTwice.mono : ∀ a0 k, LeO (laws_FnPoolTwice.f k a0) (laws_FnPoolTwice.f (k + 1) a0) := by
 intro a0 k
 obtain ⟨ih0, ih1, ih2⟩ := laws_FnPoolTwice.mono_l k
 unfold laws_FnPoolTwice.f
 repeat' first
   | (with_reducible exact ih0 _ _ _ _ _ _ _ _ _ _)
   | (with_reducible exact ih1 _ _ _ _ _ _ _)
   | (with_reducible exact ih2 _ _ _ _ _ _ _ _ _)
   | (with_reducible exact impl_PoolSame.mono _ _ _ _ _)
   | (with_reducible exact spec_DrawPoolAll.mono _ _)
   | (with_reducible exact spec_PoolAll.mono _ _ _ _)
   | (with_reducible exact spec_PoolOk.mono _ _ _)
   | (with_reducible exact LeO.refl _)
   | (with_reducible exact LeO.none _)
   | (with_reducible refine LeO.ite ?_ ?_)
   | (with_reducible refine LeO.bind ?_ (fun _ => ?_))
   | exact ih0 _ _ _ _ _ _ _ _ _ _
   | exact ih1 _ _ _ _ _ _ _
   | exact ih2 _ _ _ _ _ _ _ _ _
   | exact impl_PoolSame.mono _ _ _ _ _
   | exact spec_DrawPoolAll.mono _ _
   | exact spec_PoolAll.mono _ _ _ _
   | exact spec_PoolOk.mono _ _ _
   | exact LeO.none _
   | refine LeO.ite ?_ ?_
   | refine LeO.bind ?_ (fun _ => ?_)
set_option maxHeartbeats 8000000 in
set_option maxRecDepth 100000 in
theorem laws_FnPoolTwice.calls (k : Nat) (A0 : Option Addr) (c0 : Nat) (l0 : List Int) (r : Bool) (w : World) (hr0 : Kd.C (Kd.int .u8) w A0 l0.length l0) (hc0 : l0.length ≤ c0) (hT : r = true) (h : laws_FnPoolTwice.f k l0 = some r) :
  Calls Try.prog 15 #[.slice A0 l0.length c0] w fun e w' => e = .returned (.bool r) ∧ Below w.heap.size w w' := by
 have hu46 := Try.underlying46
 have hu25 := Try.underlying25
 have HR0 := Aside0.mk hr0
 have HC0 := Aside0.mk hc0
 clear hr0 hc0
 have HB := Aside0.mk (Below.refl w.heap.size w)
 have H : (if (l0.length : Int) > 1048576 then (some true) else ((spec_DrawPoolAll.f k l0).bind fun bt722 => ((impl_PoolAll.f bt722.1 bt722.2.1 bt722.2.2).bind fun bt730 => ((spec_PoolAll.f k bt722.1 bt722.2.1 bt722.2.2).bind fun bt736 => (if bt730.2.2 = bt736.2.2 then ((impl_PoolSame.f k bt730.1 bt730.2.1 bt736.1 bt736.2.1).bind fun t742 => (if t742 = true then ((spec_PoolOk.f k bt722.1 bt722.2.1).bind fun t743 => (if t743 = true then (laws_FnPoolTwice.j0 k bt722.2.2 bt730.2.2 bt736.2.2 (bt730.1 != bt722.1) bt722.1 bt722.2.1 bt730.1 bt730.2.1 bt736.1 bt736.2.1) else (laws_FnPoolTwice.j0 k bt722.2.2 bt730.2.2 bt736.2.2 true bt722.1 bt722.2.1 bt730.1 bt730.2.1 bt736.1 bt736.2.1))) else (laws_FnPoolTwice.j0 k bt722.2.2 bt730.2.2 bt736.2.2 true bt722.1 bt722.2.1 bt730.1 bt730.2.1 bt736.1 bt736.2.1))) else (laws_FnPoolTwice.j0 k bt722.2.2 bt730.2.2 bt736.2.2 true bt722.1 bt722.2.1 bt730.1 bt730.2.1 bt736.1 bt736.2.1)))))) = some r := h
 clear h
 by_cases c2 : (l0.length : Int) > 1048576
 ·rw [if_pos c2] at H
  have c2b0 : decide (1048576 < (l0.length : Int)) = true := decide_eq_true c2
  have c2b1 : decide (1048576 < l0.length) = true := decide_eq_true (by omega)
  clear c2
  obtain rfl := Option.some.inj H
  go_enter Try.func15, Try.ntmps15
  go_wp2
  repeat (go_quiet (fail); try go_wp2)
  go_ret
  exact ⟨by first | rfl | (simp [errW_none, errW_some] <;> rfl) | (simp [*, errW_none, errW_some] <;> rfl), by repeat (first | (with_reducible first | exact HB.out | apply below_alloc | apply pw_below_drewN | apply below_drew1) | exact HB.out)⟩
 ·rw [if_neg c2] at H
  have c2b0 : decide (1048576 < (l0.length : Int)) = false := decide_eq_false c2
  have c2b1 : decide (1048576 < l0.length) = false := decide_eq_false (by omega)
  clear c2
  replace H := Option.bind_eq_some_iff.mp H
  obtain ⟨⟨t722, t723, t726⟩, A30, H⟩ := H
  replace H : ((impl_PoolAll.f t722 t723 t726).bind fun bt730 => ((spec_PoolAll.f k t722 t723 t726).bind fun bt736 => (if bt730.2.2 = bt736.2.2 then ((impl_PoolSame.f k bt730.1 bt730.2.1 bt736.1 bt736.2.1).bind fun t742 => (if t742 = true then ((spec_PoolOk.f k t722 t723).bind fun t743 => (if t743 = true then (laws_FnPoolTwice.j0 k t726 bt730.2.2 bt736.2.2 (bt730.1 != t722) t722 t723 bt730.1 bt730.2.1 bt736.1 bt736.2.1) else (laws_FnPoolTwice.j0 k t726 bt730.2.2 bt736.2.2 true t722 t723 bt730.1 bt730.2.1 bt736.1 bt736.2.1))) else (laws_FnPoolTwice.j0 k t726 bt730.2.2 bt736.2.2 true t722 t723 bt730.1 bt730.2.1 bt736.1 bt736.2.1))) else (laws_FnPoolTwice.j0 k t726 bt730.2.2 bt736.2.2 true t722 t723 bt730.1 bt730.2.1 bt736.1 bt736.2.1)))) = some r := H
  have A3 := Aside0.mk A30
  clear A30
  replace H := Option.bind_eq_some_iff.mp H
  obtain ⟨⟨t730, t731, t734⟩, A40, H⟩ := H
  replace H : ((spec_PoolAll.f k t722 t723 t726).bind fun bt736 => (if t734 = bt736.2.2 then ((impl_PoolSame.f k t730 t731 bt736.1 bt736.2.1).bind fun t742 => (if t742 = true then ((spec_PoolOk.f k t722 t723).bind fun t743 => (if t743 = true then (laws_FnPoolTwice.j0 k t726 t734 bt736.2.2 (t730 != t722) t722 t723 t730 t731 bt736.1 bt736.2.1) else (laws_FnPoolTwice.j0 k t726 t734 bt736.2.2 true t722 t723 t730 t731 bt736.1 bt736.2.1))) else (laws_FnPoolTwice.j0 k t726 t734 bt736.2.2 true t722 t723 t730 t731 bt736.1 bt736.2.1))) else (laws_FnPoolTwice.j0 k t726 t734 bt736.2.2 true t722 t723 t730 t731 bt736.1 bt736.2.1))) = some r := H
  have A4 := Aside0.mk A40
  clear A40
  replace H := Option.bind_eq_some_iff.mp H
  obtain ⟨⟨t736, t737, t740⟩, A50, H⟩ := H
  replace H : (if t734 = t740 then ((impl_PoolSame.f k t730 t731 t736 t737).bind fun t742 => (if t742 = true then ((spec_PoolOk.f k t722 t723).bind fun t743 => (if t743 = true then (laws_FnPoolTwice.j0 k t726 t734 t740 (t730 != t722) t722 t723 t730 t731 t736 t737) else (laws_FnPoolTwice.j0 k t726 t734 t740 true t722 t723 t730 t731 t736 t737))) else (laws_FnPoolTwice.j0 k t726 t734 t740 true t722 t723 t730 t731 t736 t737))) else (laws_FnPoolTwice.j0 k t726 t734 t740 true t722 t723 t730 t731 t736 t737)) = some r := H
  have A5 := Aside0.mk A50
  clear A50
  have HC6 := Aside0.mk H
  clear H
  go_enter Try.func15, Try.ntmps15
  go_upto_region 6 with (first | (go_at_call 44; (with_reducible refine (spec_DrawPoolAll.calls k _ _ l0 t722 t723 t726 _ ?side1 ?side2 A3.out).mono ?_); (case side1 => repeat (first | exact HR0.out | (with_reducible refine Kd.C_alloc ?_ _) | (with_reducible refine Kd.C_drewN ?_ _) | (with_reducible refine Kd.C_drew ?_))); (case side2 => exact HC0.out); rintro e w7 ⟨v724, v727, rfl, ho0, ho1, hb⟩; have n0_ := Aside0.mk (Kd.R_lower ho0 (below_size (z25_5))); have n1_ := Aside0.mk (Kd.R_lower ho1 (below_size (z25_5))); have n2_ := Aside0.mk (below_step (z25_5) hb); clear HB; have HO725 := n0_; have HO728 := n1_; have HB := n2_; clear n0_ n1_ n2_; (try clear hb); (try clear hb2); (try clear hk); (try clear hi); (try clear ho0); (try clear ho1)) | ((with_reducible refine gate_dst (N := 3) rfl ?_); refine box_event ?hg (N := 3) ?hd (cs := #[.int .i64 0, .slice none 0 0]) (t := 46) ?hr ?_; (case hd => rfl); (case hg => rfl); (case hr => first | (go_simp; done) | (go_simp; rfl)); intro gb729 hg w8 hbox hb; have n0_ := Aside0.mk (Kd.R_below (by (with_reducible repeat (first | apply Kd.R_alloc | apply Kd.R_drewN | apply Kd.R_drew)); exact HO725.out) hb); have n1_ := Aside0.mk (Kd.R_below (by (with_reducible repeat (first | apply Kd.R_alloc | apply Kd.R_drewN | apply Kd.R_drew)); exact HO728.out) hb); have n2_ := Aside0.mk (below_step (z25_5) hb); have n3_ := Aside0.mk (hbox); have n4_ := Aside0.mk ((by rw [hg]; exact (below_size (z25_5)) : w.heap.size ≤ gb729)); have n5_ := Aside0.mk ((by rw [hg]; exact (below_size (z25_5)) : w.heap.size ≤ gb729)); clear HO725; clear HO728; clear HB; have HO725 := n0_; have HO728 := n1_; have HB := n2_; have BK729 := n3_; have GW729 := n4_; have GE729 := n5_; clear n0_ n1_ n2_ n3_ n4_ n5_; clear hb hbox hg; have hcz9_0 : w8.cell? ⟨gb729, 0, none⟩ = some (.int .i64 0) := (blk_cell BK729.out 0).trans rfl; have hcz9_1 : w8.cell? ⟨gb729, 1, none⟩ = some (.slice none 0 0) := (blk_cell BK729.out 1).trans rfl; have hfz9_0 := blk_frozen BK729.out 0; have hfz9_1 := blk_frozen BK729.out 1; obtain ⟨Ao10, co10, eo10⟩ := Kd.R_slice HO725.out; subst eo10; obtain ⟨Ao11, co11, eo11⟩ := Kd.R_slice HO728.out; subst eo11) | (go_at_call 45; (with_reducible refine (impl_PoolAll.calls t722 _ _ t723 _ _ t726 t730 t731 t734 _ ?side1 ?side2 ?side3 ?side4 A4.out).mono ?_); (case side1 => refine (Kd.R_reads' (e := 25) (base := w.heap.size) (ok := fun k_ => some k_ ≠ (.slice Ao11 t726.length co11 : Value).ownBlock) (n := t723.length) (c := co10) ?_).2.2; exact (by (with_reducible repeat (first | apply Kd.R_alloc | apply Kd.R_drewN | apply Kd.R_drew)); exact (Kd.R_mono (Kd.R_far (p := ⟨gb729, 1, none⟩) (Kd.R_far (p := ⟨gb729, 0, none⟩) (Kd.R_types HO725.out BK729.out (by decide)) (fun _ hk => hk.2) (.int .i64 t722)) (fun _ hk => hk.2) (.slice Ao10 t723.length co10)) (fun _ h_ => h_.1)))); (case side2 => exact (Kd.R_reads' HO725.out).2.1); (case side3 => refine (Kd.R_reads' (e := 25) (base := w.heap.size) (ok := fun k_ => some k_ ≠ (.slice Ao10 t723.length co10 : Value).ownBlock) (n := t726.length) (c := co11) ?_).2.2; exact (by (with_reducible repeat (first | apply Kd.R_alloc | apply Kd.R_drewN | apply Kd.R_drew)); exact (Kd.R_mono (Kd.R_far (p := ⟨gb729, 1, none⟩) (Kd.R_far (p := ⟨gb729, 0, none⟩) (Kd.R_types HO728.out BK729.out (by decide)) (fun _ hk => hk.2) (.int .i64 t722)) (fun _ hk => hk.2) (.slice Ao10 t723.length co10)) (fun _ h_ => h_.1)))); (case side4 => exact (Kd.R_reads' HO728.out).2.1); rintro e w12 ⟨v732, rfl, ho0, hb⟩; have n0_ := Aside0.mk (Kd.R_elder' (by (with_reducible repeat (first | apply Kd.R_alloc | apply Kd.R_drewN | apply Kd.R_drew)); exact (Kd.R_mono (Kd.R_far (p := ⟨gb729, 1, none⟩) (Kd.R_far (p := ⟨gb729, 0, none⟩) (Kd.R_types HO725.out BK729.out (by decide)) (fun _ hk => hk.2) (.int .i64 t722)) (fun _ hk => hk.2) (.slice Ao10 t723.length co10)) (fun _ h_ => h_.1))) (Kd.R_base ho0) hb); have n1_ := Aside0.mk (Kd.R_elder' (by (with_reducible repeat (first | apply Kd.R_alloc | apply Kd.R_drewN | apply Kd.R_drew)); exact (Kd.R_mono (Kd.R_far (p := ⟨gb729, 1, none⟩) (Kd.R_far (p := ⟨gb729, 0, none⟩) (Kd.R_types HO728.out BK729.out (by decide)) (fun _ hk => hk.2) (.int .i64 t722)) (fun _ hk => hk.2) (.slice Ao10 t723.length co10)) (fun _ h_ => h_.1))) (Kd.R_base ho0) hb); have n2_ := Aside0.mk (Kd.R_lower (Kd.R_new' (Kd.R_new' ho0 (Kd.R_lt (by (with_reducible repeat (first | apply Kd.R_alloc | apply Kd.R_drewN | apply Kd.R_drew)); exact (Kd.R_mono (Kd.R_far (p := ⟨gb729, 1, none⟩) (Kd.R_far (p := ⟨gb729, 0, none⟩) (Kd.R_types HO725.out BK729.out (by decide)) (fun _ hk => hk.2) (.int .i64 t722)) (fun _ hk => hk.2) (.slice Ao10 t723.length co10)) (fun _ h_ => h_.1))))) (Kd.R_lt (by (with_reducible repeat (first | apply Kd.R_alloc | apply Kd.R_drewN | apply Kd.R_drew)); exact (Kd.R_mono (Kd.R_far (p := ⟨gb729, 1, none⟩) (Kd.R_far (p := ⟨gb729, 0, none⟩) (Kd.R_types HO728.out BK729.out (by decide)) (fun _ hk => hk.2) (.int .i64 t722)) (fun _ hk => hk.2) (.slice Ao10 t723.length co10)) (fun _ h_ => h_.1))))) (below_size (z25_4))); have n3_ := Aside0.mk (blk_below (g := gb729) (o := .cells #[.int .i64 t722, .slice Ao10 t723.length co10] 46 (0, 0)) (by (with_reducible repeat (first | refine blk_drewN ?_ _ | refine blk_drew ?_ | refine blk_alloc ?_ _)); refine blk_put (cs := #[.int .i64 t722, .slice none 0 0]) ?_ 1 _ rfl; (with_reducible repeat (first | refine blk_drewN ?_ _ | refine blk_drew ?_ | refine blk_alloc ?_ _)); refine blk_put (cs := #[.int .i64 0, .slice none 0 0]) ?_ 0 _ rfl; (with_reducible repeat (first | refine blk_drewN ?_ _ | refine blk_drew ?_ | refine blk_alloc ?_ _)); exact BK729.out) hb); have n4_ := Aside0.mk (below_step (z25_4) hb); clear HO725; clear HO728; clear BK729; clear HB; have HO725 := n0_; have HO728 := n1_; have HO733 := n2_; have BK729 := n3_; have HB := n4_; clear n0_ n1_ n2_ n3_ n4_; (try clear hb); (try clear hb2); (try clear hk); (try clear hi); (try clear ho0)) | ((with_reducible refine gate_dst (N := 5) rfl ?_); refine box_event ?hg (N := 5) ?hd (cs := #[.int .i64 0, .slice none 0 0]) (t := 46) ?hr ?_; (case hd => rfl); (case hg => rfl); (case hr => first | (go_simp; done) | (go_simp; rfl)); intro gb735 hg w13 hbox hb; have n0_ := Aside0.mk (Kd.R_below (by (with_reducible repeat (first | apply Kd.R_alloc | apply Kd.R_drewN | apply Kd.R_drew)); exact HO725.out) hb); have n1_ := Aside0.mk (Kd.R_below (by (with_reducible repeat (first | apply Kd.R_alloc | apply Kd.R_drewN | apply Kd.R_drew)); exact HO728.out) hb); have n2_ := Aside0.mk (Kd.R_below (by (with_reducible repeat (first | apply Kd.R_alloc | apply Kd.R_drewN | apply Kd.R_drew)); exact HO733.out) hb); have n3_ := Aside0.mk (blk_below (g := gb729) (o := .cells #[.int .i64 t722, .slice Ao10 t723.length co10] 46 (0, 0)) (z25_6) hb); have n4_ := Aside0.mk (below_step (z25_4) hb); have n5_ := Aside0.mk (hbox); have n6_ := Aside0.mk ((by rw [hg]; exact (below_size (z25_4)) : w.heap.size ≤ gb735)); have n7_ := Aside0.mk ((by rw [hg]; exact (below_size (z25_4)) : w.heap.size ≤ gb735)); have n8_ := Aside0.mk ((by rw [hg]; exact Nat.ne_of_lt (blk_lt (g := gb729) (o := .cells #[.int .i64 t722, .slice Ao10 t723.length co10] 46 (0, 0)) (z25_6)) : gb729 ≠ gb735)); have n9_ := Aside0.mk ((by rw [hg]; exact Nat.ne_of_gt (blk_lt (g := gb729) (o := .cells #[.int .i64 t722, .slice Ao10 t723.length co10] 46 (0, 0)) (z25_6)) : gb735 ≠ gb729)); clear HO725; clear HO728; clear HO733; clear BK729; clear HB; have HO725 := n0_; have HO728 := n1_; have HO733 := n2_; have BK729 := n3_; have HB := n4_; have BK735 := n5_; have GW735 := n6_; have GE735 := n7_; have NB729_735 := n8_; have NB735_729 := n9_; clear n0_ n1_ n2_ n3_ n4_ n5_ n6_ n7_ n8_ n9_; clear hb hbox hg; have hnb14 := NB735_729.out; have hnc14 := NB729_735.out; have hcz15_0 : w13.cell? ⟨gb735, 0, none⟩ = some (.int .i64 0) := (blk_cell BK735.out 0).trans rfl; have hcz15_1 : w13.cell? ⟨gb735, 1, none⟩ = some (.slice none 0 0) := (blk_cell BK735.out 1).trans rfl; have hfz15_0 := blk_frozen BK735.out 0; have hfz15_1 := blk_frozen BK735.out 1; obtain ⟨Ao16, co16, eo16⟩ := Kd.R_slice HO733.out; subst eo16; have hcz17_0 : w13.cell? ⟨gb729, 0, none⟩ = some (.int .i64 t722) := (blk_cell BK729.out 0).trans rfl; have hcz17_1 : w13.cell? ⟨gb729, 1, none⟩ = some (.slice Ao10 t723.length co10) := (blk_cell BK729.out 1).trans rfl; have hfz17_0 := blk_frozen BK729.out 0; have hfz17_1 := blk_frozen BK729.out 1) | (go_at_call 46; (with_reducible refine (spec_PoolAll.calls k t722 _ _ t723 _ _ t726 t736 t737 t740 _ ?side1 ?side2 ?side3 ?side4 A5.out).mono ?_); (case side1 => refine (Kd.R_reads' (e := 25) (base := w.heap.size) (ok := fun k_ => (some k_ ≠ (.slice Ao11 t726.length co11 : Value).ownBlock ∧ some k_ ≠ (.slice Ao16 t731.length co16 : Value).ownBlock)) (n := t723.length) (c := co10) ?_).2.2; exact (by (with_reducible repeat (first | apply Kd.R_alloc | apply Kd.R_drewN | apply Kd.R_drew)); exact (Kd.R_mono (Kd.R_far (p := ⟨gb735, 1, none⟩) (Kd.R_far (p := ⟨gb735, 0, none⟩) (Kd.R_types HO725.out BK735.out (by decide)) (fun _ hk => hk.2) (.int .i64 t730)) (fun _ hk => hk.2) (.slice Ao16 t731.length co16)) (fun _ h_ => h_.1)))); (case side2 => exact (Kd.R_reads' HO725.out).2.1); (case side3 => refine (Kd.R_reads' (e := 25) (base := w.heap.size) (ok := fun k_ => (some k_ ≠ (.slice Ao10 t723.length co10 : Value).ownBlock ∧ some k_ ≠ (.slice Ao16 t731.length co16 : Value).ownBlock)) (n := t726.length) (c := co11) ?_).2.2; exact (by (with_reducible repeat (first | apply Kd.R_alloc | apply Kd.R_drewN | apply Kd.R_drew)); exact (Kd.R_mono (Kd.R_far (p := ⟨gb735, 1, none⟩) (Kd.R_far (p := ⟨gb735, 0, none⟩) (Kd.R_types HO728.out BK735.out (by decide)) (fun _ hk => hk.2) (.int .i64 t730)) (fun _ hk => hk.2) (.slice Ao16 t731.length co16)) (fun _ h_ => h_.1)))); (case side4 => exact (Kd.R_reads' HO728.out).2.1); rintro e w18 ⟨v738, rfl, ho0, hb⟩; have n0_ := Aside0.mk (Kd.R_elder' (by (with_reducible repeat (first | apply Kd.R_alloc | apply Kd.R_drewN | apply Kd.R_drew)); exact (Kd.R_mono (Kd.R_far (p := ⟨gb735, 1, none⟩) (Kd.R_far (p := ⟨gb735, 0, none⟩) (Kd.R_types HO725.out BK735.out (by decide)) (fun _ hk => hk.2) (.int .i64 t730)) (fun _ hk => hk.2) (.slice Ao16 t731.length co16)) (fun _ h_ => h_.1))) (Kd.R_base ho0) hb); have n1_ := Aside0.mk (Kd.R_elder' (by (with_reducible repeat (first | apply Kd.R_alloc | apply Kd.R_drewN | apply Kd.R_drew)); exact (Kd.R_mono (Kd.R_far (p := ⟨gb735, 1, none⟩) (Kd.R_far (p := ⟨gb735, 0, none⟩) (Kd.R_types HO728.out BK735.out (by decide)) (fun _ hk => hk.2) (.int .i64 t730)) (fun _ hk => hk.2) (.slice Ao16 t731.length co16)) (fun _ h_ => h_.1))) (Kd.R_base ho0) hb); have n2_ := Aside0.mk (Kd.R_elder' (by (with_reducible repeat (first | apply Kd.R_alloc | apply Kd.R_drewN | apply Kd.R_drew)); exact (Kd.R_mono (Kd.R_far (p := ⟨gb735, 1, none⟩) (Kd.R_far (p := ⟨gb735, 0, none⟩) (Kd.R_types HO733.out BK735.out (by decide)) (fun _ hk => hk.2) (.int .i64 t730)) (fun _ hk => hk.2) (.slice Ao16 t731.length co16)) (fun _ h_ => h_.1))) (Kd.R_base ho0) hb); have n3_ := Aside0.mk (Kd.R_lower (Kd.R_new' (Kd.R_new' (Kd.R_new' ho0 (Kd.R_lt (by (with_reducible repeat (first | apply Kd.R_alloc | apply Kd.R_drewN | apply Kd.R_drew)); exact (Kd.R_mono (Kd.R_far (p := ⟨gb735, 1, none⟩) (Kd.R_far (p := ⟨gb735, 0, none⟩) (Kd.R_types HO725.out BK735.out (by decide)) (fun _ hk => hk.2) (.int .i64 t730)) (fun _ hk => hk.2) (.slice Ao16 t731.length co16)) (fun _ h_ => h_.1))))) (Kd.R_lt (by (with_reducible repeat (first | apply Kd.R_alloc | apply Kd.R_drewN | apply Kd.R_drew)); exact (Kd.R_mono (Kd.R_far (p := ⟨gb735, 1, none⟩) (Kd.R_far (p := ⟨gb735, 0, none⟩) (Kd.R_types HO728.out BK735.out (by decide)) (fun _ hk => hk.2) (.int .i64 t730)) (fun _ hk => hk.2) (.slice Ao16 t731.length co16)) (fun _ h_ => h_.1))))) (Kd.R_lt (by (with_reducible repeat (first | apply Kd.R_alloc | apply Kd.R_drewN | apply Kd.R_drew)); exact (Kd.R_mono (Kd.R_far (p := ⟨gb735, 1, none⟩) (Kd.R_far (p := ⟨gb735, 0, none⟩) (Kd.R_types HO733.out BK735.out (by decide)) (fun _ hk => hk.2) (.int .i64 t730)) (fun _ hk => hk.2) (.slice Ao16 t731.length co16)) (fun _ h_ => h_.1))))) (below_size (z25_3))); have n4_ := Aside0.mk (blk_below (g := gb729) (o := .cells #[.int .i64 t722, .slice Ao10 t723.length co10] 46 (0, 0)) (by (with_reducible repeat (first | refine blk_drewN ?_ _ | refine blk_drew ?_ | refine blk_alloc ?_ _)); refine blk_far ?_ NB729_735.out _; (with_reducible repeat (first | refine blk_drewN ?_ _ | refine blk_drew ?_ | refine blk_alloc ?_ _)); refine blk_far ?_ NB729_735.out _; (with_reducible repeat (first | refine blk_drewN ?_ _ | refine blk_drew ?_ | refine blk_alloc ?_ _)); exact BK729.out) hb); have n5_ := Aside0.mk (blk_below (g := gb735) (o := .cells #[.int .i64 t730, .slice Ao16 t731.length co16] 46 (0, 0)) (by (with_reducible repeat (first | refine blk_drewN ?_ _ | refine blk_drew ?_ | refine blk_alloc ?_ _)); refine blk_put (cs := #[.int .i64 t730, .slice none 0 0]) ?_ 1 _ rfl; (with_reducible repeat (first | refine blk_drewN ?_ _ | refine blk_drew ?_ | refine blk_alloc ?_ _)); refine blk_put (cs := #[.int .i64 0, .slice none 0 0]) ?_ 0 _ rfl; (with_reducible repeat (first | refine blk_drewN ?_ _ | refine blk_drew ?_ | refine blk_alloc ?_ _)); exact BK735.out) hb); have n6_ := Aside0.mk (below_step (z25_3) hb); clear HO725; clear HO728; clear HO733; clear BK729; clear BK735; clear HB; have HO725 := n0_; have HO728 := n1_; have HO733 := n2_; have HO739 := n3_; have BK729 := n4_; have BK735 := n5_; have HB := n6_; clear n0_ n1_ n2_ n3_ n4_ n5_ n6_; (try clear hb); (try clear hb2); (try clear hk); (try clear hi); (try clear ho0)) | ((with_reducible refine gate_dst (N := 7) rfl ?_); refine box_event ?hg (N := 7) ?hd (cs := #[.int .i64 0, .slice none 0 0]) (t := 46) ?hr ?_; (case hd => rfl); (case hg => rfl); (case hr => first | (go_simp; done) | (go_simp; rfl)); intro gb741 hg w19 hbox hb; have n0_ := Aside0.mk (Kd.R_below (by (with_reducible repeat (first | apply Kd.R_alloc | apply Kd.R_drewN | apply Kd.R_drew)); exact HO725.out) hb); have n1_ := Aside0.mk (Kd.R_below (by (with_reducible repeat (first | apply Kd.R_alloc | apply Kd.R_drewN | apply Kd.R_drew)); exact HO728.out) hb); have n2_ := Aside0.mk (Kd.R_below (by (with_reducible repeat (first | apply Kd.R_alloc | apply Kd.R_drewN | apply Kd.R_drew)); exact HO733.out) hb); have n3_ := Aside0.mk (Kd.R_below (by (with_reducible repeat (first | apply Kd.R_alloc | apply Kd.R_drewN | apply Kd.R_drew)); exact HO739.out) hb); have n4_ := Aside0.mk (blk_below (g := gb729) (o := .cells #[.int .i64 t722, .slice Ao10 t723.length co10] 46 (0, 0)) (z25_6) hb); have n5_ := Aside0.mk (blk_below (g := gb735) (o := .cells #[.int .i64 t730, .slice Ao16 t731.length co16] 46 (0, 0)) (z25_7) hb); have n6_ := Aside0.mk (below_step (z25_3) hb); have n7_ := Aside0.mk (hbox); have n8_ := Aside0.mk ((by rw [hg]; exact (below_size (z25_3)) : w.heap.size ≤ gb741)); have n9_ := Aside0.mk ((by rw [hg]; exact (below_size (z25_3)) : w.heap.size ≤ gb741)); have n10_ := Aside0.mk ((by rw [hg]; exact Nat.ne_of_lt (blk_lt (g := gb729) (o := .cells #[.int .i64 t722, .slice Ao10 t723.length co10] 46 (0, 0)) (z25_6)) : gb729 ≠ gb741)); have n11_ := Aside0.mk ((by rw [hg]; exact Nat.ne_of_gt (blk_lt (g := gb729) (o := .cells #[.int .i64 t722, .slice Ao10 t723.length co10] 46 (0, 0)) (z25_6)) : gb741 ≠ gb729)); have n12_ := Aside0.mk ((by rw [hg]; exact Nat.ne_of_lt (blk_lt (g := gb735) (o := .cells #[.int .i64 t730, .slice Ao16 t731.length co16] 46 (0, 0)) (z25_7)) : gb735 ≠ gb741)); have n13_ := Aside0.mk ((by rw [hg]; exact Nat.ne_of_gt (blk_lt (g := gb735) (o := .cells #[.int .i64 t730, .slice Ao16 t731.length co16] 46 (0, 0)) (z25_7)) : gb741 ≠ gb735)); clear HO725; clear HO728; clear HO733; clear HO739; clear BK729; clear BK735; clear HB; have HO725 := n0_; have HO728 := n1_; have HO733 := n2_; have HO739 := n3_; have BK729 := n4_; have BK735 := n5_; have HB := n6_; have BK741 := n7_; have GW741 := n8_; have GE741 := n9_; have NB729_741 := n10_; have NB741_729 := n11_; have NB735_741 := n12_; have NB741_735 := n13_; clear n0_ n1_ n2_ n3_ n4_ n5_ n6_ n7_ n8_ n9_ n10_ n11_ n12_ n13_; clear hb hbox hg; have hnb20 := NB741_729.out; have hnc20 := NB729_741.out; have hnb21 := NB741_735.out; have hnc21 := NB735_741.out; have hcz22_0 : w19.cell? ⟨gb741, 0, none⟩ = some (.int .i64 0) := (blk_cell BK741.out 0).trans rfl; have hcz22_1 : w19.cell? ⟨gb741, 1, none⟩ = some (.slice none 0 0) := (blk_cell BK741.out 1).trans rfl; have hfz22_0 := blk_frozen BK741.out 0; have hfz22_1 := blk_frozen BK741.out 1; obtain ⟨Ao23, co23, eo23⟩ := Kd.R_slice HO739.out; subst eo23))
  repeat (go_quiet (fail); try go_wp2)
  (try simp only [Act.put, List.setIfInBounds_toArray, List.set_cons_zero, List.set_cons_succ])
  go_cut [55] (fun v55 wc => ∃ (kq : Nat) (x55_5 : Bool), v55 = .bool x55_5 ∧ Aside0 (laws_FnPoolTwice.j0 kq t726 t734 t740 x55_5 t722 t723 t730 t731 t736 t737 = some r) ∧ Aside0 (kq ≤ k) ∧ Aside0 (Kd.R k25 25 wc w.heap.size (fun k_ => some k_ ≠ ((.slice Ao10 t723.length co10) : Value).ownBlock ∧ some k_ ≠ ((.slice Ao16 t731.length co16) : Value).ownBlock ∧ some k_ ≠ ((.slice Ao23 t737.length co23) : Value).ownBlock) (.slice Ao11 t726.length co11) t726) ∧ Aside0 (Kd.R k25 25 wc w.heap.size (fun k_ => some k_ ≠ ((.slice Ao11 t726.length co11) : Value).ownBlock ∧ some k_ ≠ ((.slice Ao16 t731.length co16) : Value).ownBlock ∧ some k_ ≠ ((.slice Ao23 t737.length co23) : Value).ownBlock) (.slice Ao10 t723.length co10) t723) ∧ Aside0 (Kd.R k25 25 wc w.heap.size (fun k_ => some k_ ≠ ((.slice Ao11 t726.length co11) : Value).ownBlock ∧ some k_ ≠ ((.slice Ao10 t723.length co10) : Value).ownBlock ∧ some k_ ≠ ((.slice Ao23 t737.length co23) : Value).ownBlock) (.slice Ao16 t731.length co16) t731) ∧ Aside0 (Kd.R k25 25 wc w.heap.size (fun k_ => some k_ ≠ ((.slice Ao11 t726.length co11) : Value).ownBlock ∧ some k_ ≠ ((.slice Ao10 t723.length co10) : Value).ownBlock ∧ some k_ ≠ ((.slice Ao16 t731.length co16) : Value).ownBlock) (.slice Ao23 t737.length co23) t737) ∧ Aside0 (wc.heap[gb729]? = some (.cells #[.int .i64 t722, (.slice Ao10 t723.length co10)] 46 (0, 0))) ∧ Aside0 (wc.heap[gb735]? = some (.cells #[.int .i64 t730, (.slice Ao16 t731.length co16)] 46 (0, 0))) ∧ Aside0 (wc.heap[gb741]? = some (.cells #[.int .i64 t736, (.slice Ao23 t737.length co23)] 46 (0, 0))) ∧ Aside0 (Below w.heap.size w wc))
  case first =>
   have H := HC6.out
   clear HC6
   by_cases c24 : t734 = t740
   ·rw [if_pos c24] at H
    have c24b0 : (t734 == t740) = true := beq_iff_eq.mpr c24
    have c24b1 : (t734 != t740) = false := bne_eq_false_iff_eq.mpr c24
    clear c24
    (first | rw [c24b0] | (simp only [i64_w, i32_w]; rw [c24b0]) | skip)
    replace H := Option.bind_eq_some_iff.mp H
    obtain ⟨t742, A250, H⟩ := H
    replace H : (if t742 = true then ((spec_PoolOk.f k t722 t723).bind fun t743 => (if t743 = true then (laws_FnPoolTwice.j0 k t726 t734 t740 (t730 != t722) t722 t723 t730 t731 t736 t737) else (laws_FnPoolTwice.j0 k t726 t734 t740 true t722 t723 t730 t731 t736 t737))) else (laws_FnPoolTwice.j0 k t726 t734 t740 true t722 t723 t730 t731 t736 t737)) = some r := H
    have A25 := Aside0.mk A250
    clear A250
    by_cases c26 : t742 = true
    ·subst c26
     have H1 : ((spec_PoolOk.f k t722 t723).bind fun t743 => (if t743 = true then (laws_FnPoolTwice.j0 k t726 t734 t740 (t730 != t722) t722 t723 t730 t731 t736 t737) else (laws_FnPoolTwice.j0 k t726 t734 t740 true t722 t723 t730 t731 t736 t737))) = some r := by rw [if_pos rfl] at H; exact H
     clear H
     have H := H1
     clear H1
     replace H := Option.bind_eq_some_iff.mp H
     obtain ⟨t743, A270, H⟩ := H
     replace H : (if t743 = true then (laws_FnPoolTwice.j0 k t726 t734 t740 (t730 != t722) t722 t723 t730 t731 t736 t737) else (laws_FnPoolTwice.j0 k t726 t734 t740 true t722 t723 t730 t731 t736 t737)) = some r := H
     have A27 := Aside0.mk A270
     clear A270
     by_cases c28 : t743 = true
     ·subst c28
      have H1 : (laws_FnPoolTwice.j0 k t726 t734 t740 (t730 != t722) t722 t723 t730 t731 t736 t737) = some r := by rw [if_pos rfl] at H; exact H
      clear H
      have H := H1
      clear H1
      have H' := Aside0.mk H
      clear H
      have hnb29 := NB735_729.out
      have hnc29 := NB729_735.out
      have hnb30 := NB735_741.out
      have hnc30 := NB741_735.out
      have hcz31_0 : w19.cell? ⟨gb735, 0, none⟩ = some (.int .i64 t730) := (blk_cell BK735.out 0).trans rfl
      have hcz31_1 : w19.cell? ⟨gb735, 1, none⟩ = some (.slice Ao16 t731.length co16) := (blk_cell BK735.out 1).trans rfl
      have hfz31_0 := blk_frozen BK735.out 0
      have hfz31_1 := blk_frozen BK735.out 1
      have hnb32 := NB741_729.out
      have hnc32 := NB729_741.out
      have hcz33_0 : w19.cell? ⟨gb741, 0, none⟩ = some (.int .i64 0) := (blk_cell BK741.out 0).trans rfl
      have hcz33_1 : w19.cell? ⟨gb741, 1, none⟩ = some (.slice none 0 0) := (blk_cell BK741.out 1).trans rfl
      have hfz33_0 := blk_frozen BK741.out 0
      have hfz33_1 := blk_frozen BK741.out 1
      go_wp2_with (first | (go_at_call 35; (with_reducible refine (impl_PoolSame.calls k t730 _ _ t731 t736 _ _ t737 true _ ?side1 ?side2 ?side3 ?side4 A25.out).mono ?_); (case side1 => refine (Kd.R_reads' (e := 25) (base := w.heap.size) (ok := fun k_ => (((True ∧ some k_ ≠ (.slice Ao10 t723.length co10 : Value).ownBlock) ∧ some k_ ≠ (.slice Ao11 t726.length co11 : Value).ownBlock) ∧ some k_ ≠ (.slice Ao23 t737.length co23 : Value).ownBlock)) (n := t731.length) (c := co16) ?_).2.2; exact (by (with_reducible repeat (first | apply Kd.R_alloc | apply Kd.R_drewN | apply Kd.R_drew)); exact (Kd.R_mono (Kd.R_far (p := ⟨gb741, 1, none⟩) (Kd.R_far (p := ⟨gb741, 0, none⟩) (Kd.R_types HO733.out BK741.out (by decide)) (fun _ hk => hk.2) (.int .i64 t736)) (fun _ hk => hk.2) (.slice Ao23 t737.length co23)) (fun _ h_ => h_.1)))); (case side2 => exact (Kd.R_reads' HO733.out).2.1); (case side3 => refine (Kd.R_reads' (e := 25) (base := w.heap.size) (ok := fun k_ => (((True ∧ some k_ ≠ (.slice Ao10 t723.length co10 : Value).ownBlock) ∧ some k_ ≠ (.slice Ao11 t726.length co11 : Value).ownBlock) ∧ some k_ ≠ (.slice Ao16 t731.length co16 : Value).ownBlock)) (n := t737.length) (c := co23) ?_).2.2; exact (by (with_reducible repeat (first | apply Kd.R_alloc | apply Kd.R_drewN | apply Kd.R_drew)); exact (Kd.R_mono (Kd.R_far (p := ⟨gb741, 1, none⟩) (Kd.R_far (p := ⟨gb741, 0, none⟩) (Kd.R_types HO739.out BK741.out (by decide)) (fun _ hk => hk.2) (.int .i64 t736)) (fun _ hk => hk.2) (.slice Ao23 t737.length co23)) (fun _ h_ => h_.1)))); (case side4 => exact (Kd.R_reads' HO739.out).2.1); rintro e w34 ⟨rfl, hb⟩; have n0_ := Aside0.mk (Kd.R_below (by (with_reducible repeat (first | apply Kd.R_alloc | apply Kd.R_drewN | apply Kd.R_drew)); exact (Kd.R_mono (Kd.R_far (p := ⟨gb741, 1, none⟩) (Kd.R_far (p := ⟨gb741, 0, none⟩) (Kd.R_types HO725.out BK741.out (by decide)) (fun _ hk => hk.2) (.int .i64 t736)) (fun _ hk => hk.2) (.slice Ao23 t737.length co23)) (fun _ h_ => h_.1))) hb); have n1_ := Aside0.mk (Kd.R_below (by (with_reducible repeat (first | apply Kd.R_alloc | apply Kd.R_drewN | apply Kd.R_drew)); exact (Kd.R_mono (Kd.R_far (p := ⟨gb741, 1, none⟩) (Kd.R_far (p := ⟨gb741, 0, none⟩) (Kd.R_types HO728.out BK741.out (by decide)) (fun _ hk => hk.2) (.int .i64 t736)) (fun _ hk => hk.2) (.slice Ao23 t737.length co23)) (fun _ h_ => h_.1))) hb); have n2_ := Aside0.mk (Kd.R_below (by (with_reducible repeat (first | apply Kd.R_alloc | apply Kd.R_drewN | apply Kd.R_drew)); exact (Kd.R_mono (Kd.R_far (p := ⟨gb741, 1, none⟩) (Kd.R_far (p := ⟨gb741, 0, none⟩) (Kd.R_types HO733.out BK741.out (by decide)) (fun _ hk => hk.2) (.int .i64 t736)) (fun _ hk => hk.2) (.slice Ao23 t737.length co23)) (fun _ h_ => h_.1))) hb); have n3_ := Aside0.mk (Kd.R_below (by (with_reducible repeat (first | apply Kd.R_alloc | apply Kd.R_drewN | apply Kd.R_drew)); exact (Kd.R_mono (Kd.R_far (p := ⟨gb741, 1, none⟩) (Kd.R_far (p := ⟨gb741, 0, none⟩) (Kd.R_types HO739.out BK741.out (by decide)) (fun _ hk => hk.2) (.int .i64 t736)) (fun _ hk => hk.2) (.slice Ao23 t737.length co23)) (fun _ h_ => h_.1))) hb); have n4_ := Aside0.mk (blk_below (g := gb729) (o := .cells #[.int .i64 t722, .slice Ao10 t723.length co10] 46 (0, 0)) (z25_0) hb); have n5_ := Aside0.mk (blk_below (g := gb735) (o := .cells #[.int .i64 t730, .slice Ao16 t731.length co16] 46 (0, 0)) (z25_1) hb); have n6_ := Aside0.mk (blk_below (g := gb741) (o := .cells #[.int .i64 t736, .slice Ao23 t737.length co23] 46 (0, 0)) (by (with_reducible repeat (first | refine blk_drewN ?_ _ | refine blk_drew ?_ | refine blk_alloc ?_ _)); refine blk_put (cs := #[.int .i64 t736, .slice none 0 0]) ?_ 1 _ rfl; (with_reducible repeat (first | refine blk_drewN ?_ _ | refine blk_drew ?_ | refine blk_alloc ?_ _)); refine blk_put (cs := #[.int .i64 0, .slice none 0 0]) ?_ 0 _ rfl; (with_reducible repeat (first | refine blk_drewN ?_ _ | refine blk_drew ?_ | refine blk_alloc ?_ _)); exact BK741.out) hb); have n7_ := Aside0.mk (below_step (z25_2) hb); clear HO725; clear HO728; clear HO733; clear HO739; clear BK729; clear BK735; clear BK741; clear HB; have HO725 := n0_; have HO728 := n1_; have HO733 := n2_; have HO739 := n3_; have BK729 := n4_; have BK735 := n5_; have BK741 := n6_; have HB := n7_; clear n0_ n1_ n2_ n3_ n4_ n5_ n6_ n7_; (try clear hb); (try clear hb2); (try clear hk); (try clear hi); have hcz35_0 : w34.cell? ⟨gb729, 0, none⟩ = some (.int .i64 t722) := (blk_cell BK729.out 0).trans rfl; have hcz35_1 : w34.cell? ⟨gb729, 1, none⟩ = some (.slice Ao10 t723.length co10) := (blk_cell BK729.out 1).trans rfl; have hfz35_0 := blk_frozen BK729.out 0; have hfz35_1 := blk_frozen BK729.out 1) | (go_at_call 37; (with_reducible refine (spec_PoolOk.calls k t722 _ _ t723 true _ ?side1 ?side2 A27.out).mono ?_); (case side1 => repeat (first | exact (Kd.R_reads' HO725.out).2.2 | (with_reducible refine Kd.C_alloc ?_ _) | (with_reducible refine Kd.C_drewN ?_ _) | (with_reducible refine Kd.C_drew ?_))); (case side2 => exact (Kd.R_reads' HO725.out).2.1); rintro e w36 ⟨rfl, hb⟩; have n0_ := Aside0.mk (Kd.R_below (by (with_reducible repeat (first | apply Kd.R_alloc | apply Kd.R_drewN | apply Kd.R_drew)); exact HO725.out) hb); have n1_ := Aside0.mk (Kd.R_below (by (with_reducible repeat (first | apply Kd.R_alloc | apply Kd.R_drewN | apply Kd.R_drew)); exact HO728.out) hb); have n2_ := Aside0.mk (Kd.R_below (by (with_reducible repeat (first | apply Kd.R_alloc | apply Kd.R_drewN | apply Kd.R_drew)); exact HO733.out) hb); have n3_ := Aside0.mk (Kd.R_below (by (with_reducible repeat (first | apply Kd.R_alloc | apply Kd.R_drewN | apply Kd.R_drew)); exact HO739.out) hb); have n4_ := Aside0.mk (blk_below (g := gb729) (o := .cells #[.int .i64 t722, .slice Ao10 t723.length co10] 46 (0, 0)) (z25_6) hb); have n5_ := Aside0.mk (blk_below (g := gb735) (o := .cells #[.int .i64 t730, .slice Ao16 t731.length co16] 46 (0, 0)) (z25_7) hb); have n6_ := Aside0.mk (blk_below (g := gb741) (o := .cells #[.int .i64 t736, .slice Ao23 t737.length co23] 46 (0, 0)) (z25_8) hb); have n7_ := Aside0.mk (below_step (z25_2) hb); clear HO725; clear HO728; clear HO733; clear HO739; clear BK729; clear BK735; clear BK741; clear HB; have HO725 := n0_; have HO728 := n1_; have HO733 := n2_; have HO739 := n3_; have BK729 := n4_; have BK735 := n5_; have BK741 := n6_; have HB := n7_; clear n0_ n1_ n2_ n3_ n4_ n5_ n6_ n7_; (try clear hb); (try clear hb2); (try clear hk); (try clear hi); have hcz37_0 : w36.cell? ⟨gb735, 0, none⟩ = some (.int .i64 t730) := (blk_cell BK735.out 0).trans rfl; have hcz37_1 : w36.cell? ⟨gb735, 1, none⟩ = some (.slice Ao16 t731.length co16) := (blk_cell BK735.out 1).trans rfl; have hfz37_0 := blk_frozen BK735.out 0; have hfz37_1 := blk_frozen BK735.out 1; have hcz38_0 : w36.cell? ⟨gb729, 0, none⟩ = some (.int .i64 t722) := (blk_cell BK729.out 0).trans rfl; have hcz38_1 : w36.cell? ⟨gb729, 1, none⟩ = some (.slice Ao10 t723.length co10) := (blk_cell BK729.out 1).trans rfl; have hfz38_0 := blk_frozen BK729.out 0; have hfz38_1 := blk_frozen BK729.out 1))
      repeat (go_quiet (fail); try go_wp2)
      go_meet
      case rel => exact ⟨_, ((t730 != t722)), (z25_9), H', ⟨by first | omega | exact Nat.le_refl _⟩, ⟨by (with_reducible repeat (first | apply Kd.R_alloc | apply Kd.R_drewN | apply Kd.R_drew)); exact Kd.R_mono HO728.out (fun _ hk => ⟨hk.1.1, ⟨hk.1.2, hk.2⟩⟩)⟩, ⟨by (with_reducible repeat (first | apply Kd.R_alloc | apply Kd.R_drewN | apply Kd.R_drew)); exact Kd.R_mono HO725.out (fun _ hk => ⟨hk.1.1, ⟨hk.1.2, hk.2⟩⟩)⟩, ⟨by (with_reducible repeat (first | apply Kd.R_alloc | apply Kd.R_drewN | apply Kd.R_drew)); exact Kd.R_mono HO733.out (fun _ hk => ⟨hk.1.2, ⟨hk.1.1.2, hk.2⟩⟩)⟩, ⟨by (with_reducible repeat (first | apply Kd.R_alloc | apply Kd.R_drewN | apply Kd.R_drew)); exact Kd.R_mono HO739.out (fun _ hk => ⟨hk.1.2, ⟨hk.1.1.2, hk.2⟩⟩)⟩, ⟨by (with_reducible repeat (first | refine blk_drewN ?_ _ | refine blk_drew ?_ | refine blk_alloc ?_ _)); exact BK729.out⟩, ⟨by (with_reducible repeat (first | refine blk_drewN ?_ _ | refine blk_drew ?_ | refine blk_alloc ?_ _)); exact BK735.out⟩, ⟨by (with_reducible repeat (first | refine blk_drewN ?_ _ | refine blk_drew ?_ | refine blk_alloc ?_ _)); exact BK741.out⟩, ⟨by repeat (first | (with_reducible first | exact HB.out | apply below_alloc | apply pw_below_drewN | apply below_drew1 | refine below_set ?_ GE729.out | refine below_set ?_ GE735.out | refine below_set ?_ GE741.out) | exact HB.out)⟩⟩
     ·replace c28 := Bool.eq_false_iff.mpr c28
      subst c28
      have H1 : (laws_FnPoolTwice.j0 k t726 t734 t740 true t722 t723 t730 t731 t736 t737) = some r := by rw [if_neg (show ¬ (false = true) by decide)] at H; exact H
      clear H
      have H := H1
      clear H1
      have H' := Aside0.mk H
      clear H
      have hnb39 := NB735_729.out
      have hnc39 := NB729_735.out
      have hnb40 := NB735_741.out
      have hnc40 := NB741_735.out
      have hcz41_0 : w19.cell? ⟨gb735, 0, none⟩ = some (.int .i64 t730) := (blk_cell BK735.out 0).trans rfl
      have hcz41_1 : w19.cell? ⟨gb735, 1, none⟩ = some (.slice Ao16 t731.length co16) := (blk_cell BK735.out 1).trans rfl
      have hfz41_0 := blk_frozen BK735.out 0
      have hfz41_1 := blk_frozen BK735.out 1
      have hnb42 := NB741_729.out
      have hnc42 := NB729_741.out
      have hcz43_0 : w19.cell? ⟨gb741, 0, none⟩ = some (.int .i64 0) := (blk_cell BK741.out 0).trans rfl
      have hcz43_1 : w19.cell? ⟨gb741, 1, none⟩ = some (.slice none 0 0) := (blk_cell BK741.out 1).trans rfl
      have hfz43_0 := blk_frozen BK741.out 0
      have hfz43_1 := blk_frozen BK741.out 1
      go_wp2_with (first | (go_at_call 35; (with_reducible refine (impl_PoolSame.calls k t730 _ _ t731 t736 _ _ t737 true _ ?side1 ?side2 ?side3 ?side4 A25.out).mono ?_); (case side1 => refine (Kd.R_reads' (e := 25) (base := w.heap.size) (ok := fun k_ => (((True ∧ some k_ ≠ (.slice Ao10 t723.length co10 : Value).ownBlock) ∧ some k_ ≠ (.slice Ao11 t726.length co11 : Value).ownBlock) ∧ some k_ ≠ (.slice Ao23 t737.length co23 : Value).ownBlock)) (n := t731.length) (c := co16) ?_).2.2; exact (by (with_reducible repeat (first | apply Kd.R_alloc | apply Kd.R_drewN | apply Kd.R_drew)); exact (Kd.R_mono (Kd.R_far (p := ⟨gb741, 1, none⟩) (Kd.R_far (p := ⟨gb741, 0, none⟩) (Kd.R_types HO733.out BK741.out (by decide)) (fun _ hk => hk.2) (.int .i64 t736)) (fun _ hk => hk.2) (.slice Ao23 t737.length co23)) (fun _ h_ => h_.1)))); (case side2 => exact (Kd.R_reads' HO733.out).2.1); (case side3 => refine (Kd.R_reads' (e := 25) (base := w.heap.size) (ok := fun k_ => (((True ∧ some k_ ≠ (.slice Ao10 t723.length co10 : Value).ownBlock) ∧ some k_ ≠ (.slice Ao11 t726.length co11 : Value).ownBlock) ∧ some k_ ≠ (.slice Ao16 t731.length co16 : Value).ownBlock)) (n := t737.length) (c := co23) ?_).2.2; exact (by (with_reducible repeat (first | apply Kd.R_alloc | apply Kd.R_drewN | apply Kd.R_drew)); exact (Kd.R_mono (Kd.R_far (p := ⟨gb741, 1, none⟩) (Kd.R_far (p := ⟨gb741, 0, none⟩) (Kd.R_types HO739.out BK741.out (by decide)) (fun _ hk => hk.2) (.int .i64 t736)) (fun _ hk => hk.2) (.slice Ao23 t737.length co23)) (fun _ h_ => h_.1)))); (case side4 => exact (Kd.R_reads' HO739.out).2.1); rintro e w44 ⟨rfl, hb⟩; have n0_ := Aside0.mk (Kd.R_below (by (with_reducible repeat (first | apply Kd.R_alloc | apply Kd.R_drewN | apply Kd.R_drew)); exact (Kd.R_mono (Kd.R_far (p := ⟨gb741, 1, none⟩) (Kd.R_far (p := ⟨gb741, 0, none⟩) (Kd.R_types HO725.out BK741.out (by decide)) (fun _ hk => hk.2) (.int .i64 t736)) (fun _ hk => hk.2) (.slice Ao23 t737.length co23)) (fun _ h_ => h_.1))) hb); have n1_ := Aside0.mk (Kd.R_below (by (with_reducible repeat (first | apply Kd.R_alloc | apply Kd.R_drewN | apply Kd.R_drew)); exact (Kd.R_mono (Kd.R_far (p := ⟨gb741, 1, none⟩) (Kd.R_far (p := ⟨gb741, 0, none⟩) (Kd.R_types HO728.out BK741.out (by decide)) (fun _ hk => hk.2) (.int .i64 t736)) (fun _ hk => hk.2) (.slice Ao23 t737.length co23)) (fun _ h_ => h_.1))) hb); have n2_ := Aside0.mk (Kd.R_below (by (with_reducible repeat (first | apply Kd.R_alloc | apply Kd.R_drewN | apply Kd.R_drew)); exact (Kd.R_mono (Kd.R_far (p := ⟨gb741, 1, none⟩) (Kd.R_far (p := ⟨gb741, 0, none⟩) (Kd.R_types HO733.out BK741.out (by decide)) (fun _ hk => hk.2) (.int .i64 t736)) (fun _ hk => hk.2) (.slice Ao23 t737.length co23)) (fun _ h_ => h_.1))) hb); have n3_ := Aside0.mk (Kd.R_below (by (with_reducible repeat (first | apply Kd.R_alloc | apply Kd.R_drewN | apply Kd.R_drew)); exact (Kd.R_mono (Kd.R_far (p := ⟨gb741, 1, none⟩) (Kd.R_far (p := ⟨gb741, 0, none⟩) (Kd.R_types HO739.out BK741.out (by decide)) (fun _ hk => hk.2) (.int .i64 t736)) (fun _ hk => hk.2) (.slice Ao23 t737.length co23)) (fun _ h_ => h_.1))) hb); have n4_ := Aside0.mk (blk_below (g := gb729) (o := .cells #[.int .i64 t722, .slice Ao10 t723.length co10] 46 (0, 0)) (z25_0) hb); have n5_ := Aside0.mk (blk_below (g := gb735) (o := .cells #[.int .i64 t730, .slice Ao16 t731.length co16] 46 (0, 0)) (z25_1) hb); have n6_ := Aside0.mk (blk_below (g := gb741) (o := .cells #[.int .i64 t736, .slice Ao23 t737.length co23] 46 (0, 0)) (by (with_reducible repeat (first | refine blk_drewN ?_ _ | refine blk_drew ?_ | refine blk_alloc ?_ _)); refine blk_put (cs := #[.int .i64 t736, .slice none 0 0]) ?_ 1 _ rfl; (with_reducible repeat (first | refine blk_drewN ?_ _ | refine blk_drew ?_ | refine blk_alloc ?_ _)); refine blk_put (cs := #[.int .i64 0, .slice none 0 0]) ?_ 0 _ rfl; (with_reducible repeat (first | refine blk_drewN ?_ _ | refine blk_drew ?_ | refine blk_alloc ?_ _)); exact BK741.out) hb); have n7_ := Aside0.mk (below_step (z25_2) hb); clear HO725; clear HO728; clear HO733; clear HO739; clear BK729; clear BK735; clear BK741; clear HB; have HO725 := n0_; have HO728 := n1_; have HO733 := n2_; have HO739 := n3_; have BK729 := n4_; have BK735 := n5_; have BK741 := n6_; have HB := n7_; clear n0_ n1_ n2_ n3_ n4_ n5_ n6_ n7_; (try clear hb); (try clear hb2); (try clear hk); (try clear hi); have hcz45_0 : w44.cell? ⟨gb729, 0, none⟩ = some (.int .i64 t722) := (blk_cell BK729.out 0).trans rfl; have hcz45_1 : w44.cell? ⟨gb729, 1, none⟩ = some (.slice Ao10 t723.length co10) := (blk_cell BK729.out 1).trans rfl; have hfz45_0 := blk_frozen BK729.out 0; have hfz45_1 := blk_frozen BK729.out 1) | (go_at_call 37; (with_reducible refine (spec_PoolOk.calls k t722 _ _ t723 false _ ?side1 ?side2 A27.out).mono ?_); (case side1 => repeat (first | exact (Kd.R_reads' HO725.out).2.2 | (with_reducible refine Kd.C_alloc ?_ _) | (with_reducible refine Kd.C_drewN ?_ _) | (with_reducible refine Kd.C_drew ?_))); (case side2 => exact (Kd.R_reads' HO725.out).2.1); rintro e w46 ⟨rfl, hb⟩; have n0_ := Aside0.mk (Kd.R_below (by (with_reducible repeat (first | apply Kd.R_alloc | apply Kd.R_drewN | apply Kd.R_drew)); exact HO725.out) hb); have n1_ := Aside0.mk (Kd.R_below (by (with_reducible repeat (first | apply Kd.R_alloc | apply Kd.R_drewN | apply Kd.R_drew)); exact HO728.out) hb); have n2_ := Aside0.mk (Kd.R_below (by (with_reducible repeat (first | apply Kd.R_alloc | apply Kd.R_drewN | apply Kd.R_drew)); exact HO733.out) hb); have n3_ := Aside0.mk (Kd.R_below (by (with_reducible repeat (first | apply Kd.R_alloc | apply Kd.R_drewN | apply Kd.R_drew)); exact HO739.out) hb); have n4_ := Aside0.mk (blk_below (g := gb729) (o := .cells #[.int .i64 t722, .slice Ao10 t723.length co10] 46 (0, 0)) (z25_6) hb); have n5_ := Aside0.mk (blk_below (g := gb735) (o := .cells #[.int .i64 t730, .slice Ao16 t731.length co16] 46 (0, 0)) (z25_7) hb); have n6_ := Aside0.mk (blk_below (g := gb741) (o := .cells #[.int .i64 t736, .slice Ao23 t737.length co23] 46 (0, 0)) (z25_8) hb); have n7_ := Aside0.mk (below_step (z25_2) hb); clear HO725; clear HO728; clear HO733; clear HO739; clear BK729; clear BK735; clear BK741; clear HB; have HO725 := n0_; have HO728 := n1_; have HO733 := n2_; have HO739 := n3_; have BK729 := n4_; have BK735 := n5_; have BK741 := n6_; have HB := n7_; clear n0_ n1_ n2_ n3_ n4_ n5_ n6_ n7_; (try clear hb); (try clear hb2); (try clear hk); (try clear hi)))
      repeat (go_quiet (fail); try go_wp2)
      go_meet
      case rel => exact ⟨_, (true), (z25_9), H', ⟨by first | omega | exact Nat.le_refl _⟩, ⟨by (with_reducible repeat (first | apply Kd.R_alloc | apply Kd.R_drewN | apply Kd.R_drew)); exact Kd.R_mono HO728.out (fun _ hk => ⟨hk.1.1, ⟨hk.1.2, hk.2⟩⟩)⟩, ⟨by (with_reducible repeat (first | apply Kd.R_alloc | apply Kd.R_drewN | apply Kd.R_drew)); exact Kd.R_mono HO725.out (fun _ hk => ⟨hk.1.1, ⟨hk.1.2, hk.2⟩⟩)⟩, ⟨by (with_reducible repeat (first | apply Kd.R_alloc | apply Kd.R_drewN | apply Kd.R_drew)); exact Kd.R_mono HO733.out (fun _ hk => ⟨hk.1.2, ⟨hk.1.1.2, hk.2⟩⟩)⟩, ⟨by (with_reducible repeat (first | apply Kd.R_alloc | apply Kd.R_drewN | apply Kd.R_drew)); exact Kd.R_mono HO739.out (fun _ hk => ⟨hk.1.2, ⟨hk.1.1.2, hk.2⟩⟩)⟩, ⟨by (with_reducible repeat (first | refine blk_drewN ?_ _ | refine blk_drew ?_ | refine blk_alloc ?_ _)); exact BK729.out⟩, ⟨by (with_reducible repeat (first | refine blk_drewN ?_ _ | refine blk_drew ?_ | refine blk_alloc ?_ _)); exact BK735.out⟩, ⟨by (with_reducible repeat (first | refine blk_drewN ?_ _ | refine blk_drew ?_ | refine blk_alloc ?_ _)); exact BK741.out⟩, ⟨by repeat (first | (with_reducible first | exact HB.out | apply below_alloc | apply pw_below_drewN | apply below_drew1 | refine below_set ?_ GE729.out | refine below_set ?_ GE735.out | refine below_set ?_ GE741.out) | exact HB.out)⟩⟩
    ·replace c26 := Bool.eq_false_iff.mpr c26
     subst c26
     have H1 : (laws_FnPoolTwice.j0 k t726 t734 t740 true t722 t723 t730 t731 t736 t737) = some r := by rw [if_neg (show ¬ (false = true) by decide)] at H; exact H
     clear H
     have H := H1
     clear H1
     have H' := Aside0.mk H
     clear H
     have hnb47 := NB735_729.out
     have hnc47 := NB729_735.out
     have hnb48 := NB735_741.out
     have hnc48 := NB741_735.out
     have hcz49_0 : w19.cell? ⟨gb735, 0, none⟩ = some (.int .i64 t730) := (blk_cell BK735.out 0).trans rfl
     have hcz49_1 : w19.cell? ⟨gb735, 1, none⟩ = some (.slice Ao16 t731.length co16) := (blk_cell BK735.out 1).trans rfl
     have hfz49_0 := blk_frozen BK735.out 0
     have hfz49_1 := blk_frozen BK735.out 1
     have hnb50 := NB741_729.out
     have hnc50 := NB729_741.out
     have hcz51_0 : w19.cell? ⟨gb741, 0, none⟩ = some (.int .i64 0) := (blk_cell BK741.out 0).trans rfl
     have hcz51_1 : w19.cell? ⟨gb741, 1, none⟩ = some (.slice none 0 0) := (blk_cell BK741.out 1).trans rfl
     have hfz51_0 := blk_frozen BK741.out 0
     have hfz51_1 := blk_frozen BK741.out 1
     go_wp2_with (first | (go_at_call 35; (with_reducible refine (impl_PoolSame.calls k t730 _ _ t731 t736 _ _ t737 false _ ?side1 ?side2 ?side3 ?side4 A25.out).mono ?_); (case side1 => refine (Kd.R_reads' (e := 25) (base := w.heap.size) (ok := fun k_ => (((True ∧ some k_ ≠ (.slice Ao10 t723.length co10 : Value).ownBlock) ∧ some k_ ≠ (.slice Ao11 t726.length co11 : Value).ownBlock) ∧ some k_ ≠ (.slice Ao23 t737.length co23 : Value).ownBlock)) (n := t731.length) (c := co16) ?_).2.2; exact (by (with_reducible repeat (first | apply Kd.R_alloc | apply Kd.R_drewN | apply Kd.R_drew)); exact (Kd.R_mono (Kd.R_far (p := ⟨gb741, 1, none⟩) (Kd.R_far (p := ⟨gb741, 0, none⟩) (Kd.R_types HO733.out BK741.out (by decide)) (fun _ hk => hk.2) (.int .i64 t736)) (fun _ hk => hk.2) (.slice Ao23 t737.length co23)) (fun _ h_ => h_.1)))); (case side2 => exact (Kd.R_reads' HO733.out).2.1); (case side3 => refine (Kd.R_reads' (e := 25) (base := w.heap.size) (ok := fun k_ => (((True ∧ some k_ ≠ (.slice Ao10 t723.length co10 : Value).ownBlock) ∧ some k_ ≠ (.slice Ao11 t726.length co11 : Value).ownBlock) ∧ some k_ ≠ (.slice Ao16 t731.length co16 : Value).ownBlock)) (n := t737.length) (c := co23) ?_).2.2; exact (by (with_reducible repeat (first | apply Kd.R_alloc | apply Kd.R_drewN | apply Kd.R_drew)); exact (Kd.R_mono (Kd.R_far (p := ⟨gb741, 1, none⟩) (Kd.R_far (p := ⟨gb741, 0, none⟩) (Kd.R_types HO739.out BK741.out (by decide)) (fun _ hk => hk.2) (.int .i64 t736)) (fun _ hk => hk.2) (.slice Ao23 t737.length co23)) (fun _ h_ => h_.1)))); (case side4 => exact (Kd.R_reads' HO739.out).2.1); rintro e w52 ⟨rfl, hb⟩; have n0_ := Aside0.mk (Kd.R_below (by (with_reducible repeat (first | apply Kd.R_alloc | apply Kd.R_drewN | apply Kd.R_drew)); exact (Kd.R_mono (Kd.R_far (p := ⟨gb741, 1, none⟩) (Kd.R_far (p := ⟨gb741, 0, none⟩) (Kd.R_types HO725.out BK741.out (by decide)) (fun _ hk => hk.2) (.int .i64 t736)) (fun _ hk => hk.2) (.slice Ao23 t737.length co23)) (fun _ h_ => h_.1))) hb); have n1_ := Aside0.mk (Kd.R_below (by (with_reducible repeat (first | apply Kd.R_alloc | apply Kd.R_drewN | apply Kd.R_drew)); exact (Kd.R_mono (Kd.R_far (p := ⟨gb741, 1, none⟩) (Kd.R_far (p := ⟨gb741, 0, none⟩) (Kd.R_types HO728.out BK741.out (by decide)) (fun _ hk => hk.2) (.int .i64 t736)) (fun _ hk => hk.2) (.slice Ao23 t737.length co23)) (fun _ h_ => h_.1))) hb); have n2_ := Aside0.mk (Kd.R_below (by (with_reducible repeat (first | apply Kd.R_alloc | apply Kd.R_drewN | apply Kd.R_drew)); exact (Kd.R_mono (Kd.R_far (p := ⟨gb741, 1, none⟩) (Kd.R_far (p := ⟨gb741, 0, none⟩) (Kd.R_types HO733.out BK741.out (by decide)) (fun _ hk => hk.2) (.int .i64 t736)) (fun _ hk => hk.2) (.slice Ao23 t737.length co23)) (fun _ h_ => h_.1))) hb); have n3_ := Aside0.mk (Kd.R_below (by (with_reducible repeat (first | apply Kd.R_alloc | apply Kd.R_drewN | apply Kd.R_drew)); exact (Kd.R_mono (Kd.R_far (p := ⟨gb741, 1, none⟩) (Kd.R_far (p := ⟨gb741, 0, none⟩) (Kd.R_types HO739.out BK741.out (by decide)) (fun _ hk => hk.2) (.int .i64 t736)) (fun _ hk => hk.2) (.slice Ao23 t737.length co23)) (fun _ h_ => h_.1))) hb); have n4_ := Aside0.mk (blk_below (g := gb729) (o := .cells #[.int .i64 t722, .slice Ao10 t723.length co10] 46 (0, 0)) (z25_0) hb); have n5_ := Aside0.mk (blk_below (g := gb735) (o := .cells #[.int .i64 t730, .slice Ao16 t731.length co16] 46 (0, 0)) (z25_1) hb); have n6_ := Aside0.mk (blk_below (g := gb741) (o := .cells #[.int .i64 t736, .slice Ao23 t737.length co23] 46 (0, 0)) (by (with_reducible repeat (first | refine blk_drewN ?_ _ | refine blk_drew ?_ | refine blk_alloc ?_ _)); refine blk_put (cs := #[.int .i64 t736, .slice none 0 0]) ?_ 1 _ rfl; (with_reducible repeat (first | refine blk_drewN ?_ _ | refine blk_drew ?_ | refine blk_alloc ?_ _)); refine blk_put (cs := #[.int .i64 0, .slice none 0 0]) ?_ 0 _ rfl; (with_reducible repeat (first | refine blk_drewN ?_ _ | refine blk_drew ?_ | refine blk_alloc ?_ _)); exact BK741.out) hb); have n7_ := Aside0.mk (below_step (z25_2) hb); clear HO725; clear HO728; clear HO733; clear HO739; clear BK729; clear BK735; clear BK741; clear HB; have HO725 := n0_; have HO728 := n1_; have HO733 := n2_; have HO739 := n3_; have BK729 := n4_; have BK735 := n5_; have BK741 := n6_; have HB := n7_; clear n0_ n1_ n2_ n3_ n4_ n5_ n6_ n7_; (try clear hb); (try clear hb2); (try clear hk); (try clear hi)))
     repeat (go_quiet (fail); try go_wp2)
     go_meet
     case rel => exact ⟨_, (true), (z25_9), H', ⟨by first | omega | exact Nat.le_refl _⟩, ⟨by (with_reducible repeat (first | apply Kd.R_alloc | apply Kd.R_drewN | apply Kd.R_drew)); exact Kd.R_mono HO728.out (fun _ hk => ⟨hk.1.1, ⟨hk.1.2, hk.2⟩⟩)⟩, ⟨by (with_reducible repeat (first | apply Kd.R_alloc | apply Kd.R_drewN | apply Kd.R_drew)); exact Kd.R_mono HO725.out (fun _ hk => ⟨hk.1.1, ⟨hk.1.2, hk.2⟩⟩)⟩, ⟨by (with_reducible repeat (first | apply Kd.R_alloc | apply Kd.R_drewN | apply Kd.R_drew)); exact Kd.R_mono HO733.out (fun _ hk => ⟨hk.1.2, ⟨hk.1.1.2, hk.2⟩⟩)⟩, ⟨by (with_reducible repeat (first | apply Kd.R_alloc | apply Kd.R_drewN | apply Kd.R_drew)); exact Kd.R_mono HO739.out (fun _ hk => ⟨hk.1.2, ⟨hk.1.1.2, hk.2⟩⟩)⟩, ⟨by (with_reducible repeat (first | refine blk_drewN ?_ _ | refine blk_drew ?_ | refine blk_alloc ?_ _)); exact BK729.out⟩, ⟨by (with_reducible repeat (first | refine blk_drewN ?_ _ | refine blk_drew ?_ | refine blk_alloc ?_ _)); exact BK735.out⟩, ⟨by (with_reducible repeat (first | refine blk_drewN ?_ _ | refine blk_drew ?_ | refine blk_alloc ?_ _)); exact BK741.out⟩, ⟨by repeat (first | (with_reducible first | exact HB.out | apply below_alloc | apply pw_below_drewN | apply below_drew1 | refine below_set ?_ GE729.out | refine below_set ?_ GE735.out | refine below_set ?_ GE741.out) | exact HB.out)⟩⟩
   ·rw [if_neg c24] at H
    have c24b0 : (t734 == t740) = false := beq_eq_false_iff_ne.mpr c24
    have c24b1 : (t734 != t740) = true := bne_iff_ne.mpr c24
    (first | rw [c24b0] | (simp only [i64_w, i32_w]; rw [c24b0]) | skip)
    have H' := Aside0.mk H
    clear H
    go_wp2
    repeat (go_quiet (fail); try go_wp2)
    go_meet
    case rel => exact ⟨_, (true), (z25_9), H', ⟨by first | omega | exact Nat.le_refl _⟩, ⟨by (with_reducible repeat (first | apply Kd.R_alloc | apply Kd.R_drewN | apply Kd.R_drew)); exact Kd.R_mono (Kd.R_far (p := ⟨gb741, 1, none⟩) (Kd.R_far (p := ⟨gb741, 0, none⟩) (Kd.R_types HO728.out BK741.out (by decide)) (fun _ hk => hk.2) (.int .i64 t736)) (fun _ hk => hk.2) (.slice Ao23 t737.length co23)) (fun _ hk => ⟨hk.1.1.1, ⟨hk.1.1.2, hk.1.2⟩⟩)⟩, ⟨by (with_reducible repeat (first | apply Kd.R_alloc | apply Kd.R_drewN | apply Kd.R_drew)); exact Kd.R_mono (Kd.R_far (p := ⟨gb741, 1, none⟩) (Kd.R_far (p := ⟨gb741, 0, none⟩) (Kd.R_types HO725.out BK741.out (by decide)) (fun _ hk => hk.2) (.int .i64 t736)) (fun _ hk => hk.2) (.slice Ao23 t737.length co23)) (fun _ hk => ⟨hk.1.1.1, ⟨hk.1.1.2, hk.1.2⟩⟩)⟩, ⟨by (with_reducible repeat (first | apply Kd.R_alloc | apply Kd.R_drewN | apply Kd.R_drew)); exact Kd.R_mono (Kd.R_far (p := ⟨gb741, 1, none⟩) (Kd.R_far (p := ⟨gb741, 0, none⟩) (Kd.R_types HO733.out BK741.out (by decide)) (fun _ hk => hk.2) (.int .i64 t736)) (fun _ hk => hk.2) (.slice Ao23 t737.length co23)) (fun _ hk => ⟨hk.1.1.2, ⟨hk.1.1.1.2, hk.1.2⟩⟩)⟩, ⟨by (with_reducible repeat (first | apply Kd.R_alloc | apply Kd.R_drewN | apply Kd.R_drew)); exact Kd.R_mono (Kd.R_far (p := ⟨gb741, 1, none⟩) (Kd.R_far (p := ⟨gb741, 0, none⟩) (Kd.R_types HO739.out BK741.out (by decide)) (fun _ hk => hk.2) (.int .i64 t736)) (fun _ hk => hk.2) (.slice Ao23 t737.length co23)) (fun _ hk => ⟨hk.1.1.2, ⟨hk.1.1.1.2, hk.1.2⟩⟩)⟩, ⟨by (with_reducible repeat (first | refine blk_drewN ?_ _ | refine blk_drew ?_ | refine blk_alloc ?_ _)); refine blk_far ?_ NB729_741.out _; (with_reducible repeat (first | refine blk_drewN ?_ _ | refine blk_drew ?_ | refine blk_alloc ?_ _)); refine blk_far ?_ NB729_741.out _; (with_reducible repeat (first | refine blk_drewN ?_ _ | refine blk_drew ?_ | refine blk_alloc ?_ _)); exact BK729.out⟩, ⟨by (with_reducible repeat (first | refine blk_drewN ?_ _ | refine blk_drew ?_ | refine blk_alloc ?_ _)); refine blk_far ?_ NB735_741.out _; (with_reducible repeat (first | refine blk_drewN ?_ _ | refine blk_drew ?_ | refine blk_alloc ?_ _)); refine blk_far ?_ NB735_741.out _; (with_reducible repeat (first | refine blk_drewN ?_ _ | refine blk_drew ?_ | refine blk_alloc ?_ _)); exact BK735.out⟩, ⟨by (with_reducible repeat (first | refine blk_drewN ?_ _ | refine blk_drew ?_ | refine blk_alloc ?_ _)); refine blk_put (cs := #[.int .i64 t736, .slice none 0 0]) ?_ 1 _ rfl; (with_reducible repeat (first | refine blk_drewN ?_ _ | refine blk_drew ?_ | refine blk_alloc ?_ _)); refine blk_put (cs := #[.int .i64 0, .slice none 0 0]) ?_ 0 _ rfl; (with_reducible repeat (first | refine blk_drewN ?_ _ | refine blk_drew ?_ | refine blk_alloc ?_ _)); exact BK741.out⟩, ⟨by repeat (first | (with_reducible first | exact HB.out | apply below_alloc | apply pw_below_drewN | apply below_drew1 | refine below_set ?_ GE729.out | refine below_set ?_ GE735.out | refine below_set ?_ GE741.out) | exact HB.out)⟩⟩
  case rest =>
   clear HC6
   try clear c1
   try clear c2
   try clear c2b0
   try clear c2b1
   try clear p2
   try clear c3
   try clear c4
   try clear c5
   try clear c14
   try clear c15
   try clear c20
   try clear c21
   try clear c24
   try clear c24b0
   try clear c24b1
   try clear c26
   try clear c28
   try clear c29
   try clear c30
   try clear c32
   try clear c39
   try clear c40
   try clear c42
   try clear c47
   try clear c48
   try clear c50
   try clear hcz15_0
   try clear hcz15_1
   try clear hcz17_0
   try clear hcz17_1
   try clear hcz22_0
   try clear hcz22_1
   try clear hcz31_0
   try clear hcz31_1
   try clear hcz33_0
   try clear hcz33_1
   try clear hcz35_0
   try clear hcz35_1
   try clear hcz37_0
   try clear hcz37_1
   try clear hcz38_0
   try clear hcz38_1
   try clear hcz41_0
   try clear hcz41_1
   try clear hcz43_0
   try clear hcz43_1
   try clear hcz45_0
   try clear hcz45_1
   try clear hcz49_0
   try clear hcz49_1
   try clear hcz51_0
   try clear hcz51_1
   try clear hcz9_0
   try clear hcz9_1
   try clear hfz15_0
   try clear hfz15_1
   try clear hfz17_0
   try clear hfz17_1
   try clear hfz22_0
   try clear hfz22_1
   try clear hfz31_0
   try clear hfz31_1
   try clear hfz33_0
   try clear hfz33_1
   try clear hfz35_0
   try clear hfz35_1
   try clear hfz37_0
   try clear hfz37_1
   try clear hfz38_0
   try clear hfz38_1
   try clear hfz41_0
   try clear hfz41_1
   try clear hfz43_0
   try clear hfz43_1
   try clear hfz45_0
   try clear hfz45_1
   try clear hfz49_0
   try clear hfz49_1
   try clear hfz51_0
   try clear hfz51_1
   try clear hfz9_0
   try clear hfz9_1
   obtain ⟨kq, x55_5, rfl, HA, HJ5, HO_4, HO_730001, HO_736001, HO_742001, BK729, BK735, BK741, HB⟩ := hcut
   cases kq with
   | zero => exact absurd HA.out (by simp [laws_FnPoolTwice.j0])
   | succ kj5 =>
    have H := HA.out
    clear HA
    simp only [laws_FnPoolTwice.j0] at H
    by_cases c53 : x55_5 = true
    ·subst c53
     have H1 : (if t734 = t740 then ((impl_PoolSame.f kj5 t730 t731 t736 t737).bind fun t744 => (some t744)) else (some false)) = some r := by rw [if_pos rfl] at H; exact H
     clear H
     have H := H1
     clear H1
     by_cases c54 : t734 = t740
     ·rw [if_pos c54] at H
      have c54b0 : (t734 == t740) = true := beq_iff_eq.mpr c54
      have c54b1 : (t734 != t740) = false := bne_eq_false_iff_eq.mpr c54
      clear c54
      replace H := Option.bind_eq_some_iff.mp H
      obtain ⟨t744, A550, H⟩ := H
      replace H : (some t744) = some r := H
      have A55 := Aside0.mk A550
      clear A550
      obtain rfl := Option.some.inj H
      have hnb56 := NB735_729.out
      have hnc56 := NB729_735.out
      have hnb57 := NB735_741.out
      have hnc57 := NB741_735.out
      have hcz58_0 : wc.cell? ⟨gb735, 0, none⟩ = some (.int .i64 t730) := (blk_cell BK735.out 0).trans rfl
      have hcz58_1 : wc.cell? ⟨gb735, 1, none⟩ = some (.slice Ao16 t731.length co16) := (blk_cell BK735.out 1).trans rfl
      have hfz58_0 := blk_frozen BK735.out 0
      have hfz58_1 := blk_frozen BK735.out 1
      have hnb59 := NB741_729.out
      have hnc59 := NB729_741.out
      have hcz60_0 : wc.cell? ⟨gb741, 0, none⟩ = some (.int .i64 t736) := (blk_cell BK741.out 0).trans rfl
      have hcz60_1 : wc.cell? ⟨gb741, 1, none⟩ = some (.slice Ao23 t737.length co23) := (blk_cell BK741.out 1).trans rfl
      have hfz60_0 := blk_frozen BK741.out 0
      have hfz60_1 := blk_frozen BK741.out 1
      go_wp2_with (first | (go_at_call 35; (with_reducible refine (impl_PoolSame.calls kj5 t730 _ _ t731 t736 _ _ t737 t744 _ ?side1 ?side2 ?side3 ?side4 A55.out).mono ?_); (case side1 => repeat (first | exact (Kd.R_reads' HO_736001.out).2.2 | (with_reducible refine Kd.C_alloc ?_ _) | (with_reducible refine Kd.C_drewN ?_ _) | (with_reducible refine Kd.C_drew ?_))); (case side2 => exact (Kd.R_reads' HO_736001.out).2.1); (case side3 => repeat (first | exact (Kd.R_reads' HO_742001.out).2.2 | (with_reducible refine Kd.C_alloc ?_ _) | (with_reducible refine Kd.C_drewN ?_ _) | (with_reducible refine Kd.C_drew ?_))); (case side4 => exact (Kd.R_reads' HO_742001.out).2.1); rintro e w61 ⟨rfl, hb⟩; have n0_ := Aside0.mk (Kd.R_below (by (with_reducible repeat (first | apply Kd.R_alloc | apply Kd.R_drewN | apply Kd.R_drew)); exact HO_4.out) hb); have n1_ := Aside0.mk (Kd.R_below (by (with_reducible repeat (first | apply Kd.R_alloc | apply Kd.R_drewN | apply Kd.R_drew)); exact HO_730001.out) hb); have n2_ := Aside0.mk (Kd.R_below (by (with_reducible repeat (first | apply Kd.R_alloc | apply Kd.R_drewN | apply Kd.R_drew)); exact HO_736001.out) hb); have n3_ := Aside0.mk (Kd.R_below (by (with_reducible repeat (first | apply Kd.R_alloc | apply Kd.R_drewN | apply Kd.R_drew)); exact HO_742001.out) hb); have n4_ := Aside0.mk (blk_below (g := gb729) (o := .cells #[.int .i64 t722, .slice Ao10 t723.length co10] 46 (0, 0)) (z25_6) hb); have n5_ := Aside0.mk (blk_below (g := gb735) (o := .cells #[.int .i64 t730, .slice Ao16 t731.length co16] 46 (0, 0)) (z25_7) hb); have n6_ := Aside0.mk (blk_below (g := gb741) (o := .cells #[.int .i64 t736, .slice Ao23 t737.length co23] 46 (0, 0)) (z25_8) hb); have n7_ := Aside0.mk (below_step (z25_2) hb); clear HO_4; clear HO_730001; clear HO_736001; clear HO_742001; clear BK729; clear BK735; clear BK741; clear HB; have HO_4 := n0_; have HO_730001 := n1_; have HO_736001 := n2_; have HO_742001 := n3_; have BK729 := n4_; have BK735 := n5_; have BK741 := n6_; have HB := n7_; clear n0_ n1_ n2_ n3_ n4_ n5_ n6_ n7_; (try clear hb); (try clear hb2); (try clear hk); (try clear hi)))
      repeat (go_quiet (fail); try go_wp2)
      go_ret
      exact ⟨by first | rfl | (simp [errW_none, errW_some] <;> rfl) | (simp [*, errW_none, errW_some] <;> rfl), by repeat (first | (with_reducible first | exact HB.out | apply below_alloc | apply pw_below_drewN | apply below_drew1 | refine below_set ?_ GE729.out | refine below_set ?_ GE735.out | refine below_set ?_ GE741.out) | exact HB.out)⟩
     ·rw [if_neg c54] at H
      have c54b0 : (t734 == t740) = false := beq_eq_false_iff_ne.mpr c54
      have c54b1 : (t734 != t740) = true := bne_iff_ne.mpr c54
      exact absurd ((Option.some.inj H).trans hT) (by simp)
    ·replace c53 := Bool.eq_false_iff.mpr c53
     subst c53
     have H1 : (laws_FnPoolTwice.l0 kj5 t726 0 0 t722 t723 t730 t731) = some r := by rw [if_neg (show ¬ (false = true) by decide)] at H; exact H
     clear H
     have H := H1
     clear H1
     have H' := Aside0.mk H
     clear H
     go_wp2
     repeat (go_quiet (fail); try go_wp2)
     go_loopg [9, 10] kj5 (fun kq v9 v10 w' => ∃ (x9_2 : Int) (x10_2 : Int), v9 = .int .i64 x9_2 ∧ v10 = .int .i64 x10_2 ∧ Aside0 (laws_FnPoolTwice.l0 kq t726 x9_2 x10_2 t722 t723 t730 t731 = some r) ∧ Aside0 (kq ≤ kj5) ∧ Aside0 (Kd.R k25 25 w' w.heap.size (fun k_ => some k_ ≠ ((.slice Ao10 t723.length co10) : Value).ownBlock ∧ some k_ ≠ ((.slice Ao16 t731.length co16) : Value).ownBlock ∧ some k_ ≠ ((.slice Ao23 t737.length co23) : Value).ownBlock) (.slice Ao11 t726.length co11) t726) ∧ Aside0 (Kd.R k25 25 w' w.heap.size (fun k_ => some k_ ≠ ((.slice Ao11 t726.length co11) : Value).ownBlock ∧ some k_ ≠ ((.slice Ao16 t731.length co16) : Value).ownBlock ∧ some k_ ≠ ((.slice Ao23 t737.length co23) : Value).ownBlock) (.slice Ao10 t723.length co10) t723) ∧ Aside0 (Kd.R k25 25 w' w.heap.size (fun k_ => some k_ ≠ ((.slice Ao11 t726.length co11) : Value).ownBlock ∧ some k_ ≠ ((.slice Ao10 t723.length co10) : Value).ownBlock ∧ some k_ ≠ ((.slice Ao23 t737.length co23) : Value).ownBlock) (.slice Ao16 t731.length co16) t731) ∧ Aside0 (Kd.R k25 25 w' w.heap.size (fun k_ => some k_ ≠ ((.slice Ao11 t726.length co11) : Value).ownBlock ∧ some k_ ≠ ((.slice Ao10 t723.length co10) : Value).ownBlock ∧ some k_ ≠ ((.slice Ao16 t731.length co16) : Value).ownBlock) (.slice Ao23 t737.length co23) t737) ∧ Aside0 (w'.heap[gb729]? = some (.cells #[.int .i64 t722, (.slice Ao10 t723.length co10)] 46 (0, 0))) ∧ Aside0 (w'.heap[gb735]? = some (.cells #[.int .i64 t730, (.slice Ao16 t731.length co16)] 46 (0, 0))) ∧ Aside0 (w'.heap[gb741]? = some (.cells #[.int .i64 t736, (.slice Ao23 t737.length co23)] 46 (0, 0))) ∧ Aside0 (Below w.heap.size w w'))
     case atStart => exact ⟨(0), (0), (z25_9), (z25_9), H', ⟨Nat.le_refl _⟩, ⟨by (with_reducible repeat (first | apply Kd.R_alloc | apply Kd.R_drewN | apply Kd.R_drew)); exact HO_4.out⟩, ⟨by (with_reducible repeat (first | apply Kd.R_alloc | apply Kd.R_drewN | apply Kd.R_drew)); exact HO_730001.out⟩, ⟨by (with_reducible repeat (first | apply Kd.R_alloc | apply Kd.R_drewN | apply Kd.R_drew)); exact HO_736001.out⟩, ⟨by (with_reducible repeat (first | apply Kd.R_alloc | apply Kd.R_drewN | apply Kd.R_drew)); exact HO_742001.out⟩, ⟨by (with_reducible repeat (first | refine blk_drewN ?_ _ | refine blk_drew ?_ | refine blk_alloc ?_ _)); exact BK729.out⟩, ⟨by (with_reducible repeat (first | refine blk_drewN ?_ _ | refine blk_drew ?_ | refine blk_alloc ?_ _)); exact BK735.out⟩, ⟨by (with_reducible repeat (first | refine blk_drewN ?_ _ | refine blk_drew ?_ | refine blk_alloc ?_ _)); exact BK741.out⟩, ⟨by repeat (first | (with_reducible first | exact HB.out | apply below_alloc | apply pw_below_drewN | apply below_drew1 | refine below_set ?_ GE729.out | refine below_set ?_ GE735.out | refine below_set ?_ GE741.out) | exact HB.out)⟩⟩
     case round =>
      clear H'
      try clear c1
      try clear c2
      try clear c2b0
      try clear c2b1
      try clear p2
      try clear c3
      try clear c4
      try clear c5
      try clear c14
      try clear c15
      try clear c20
      try clear c21
      try clear c24
      try clear c24b0
      try clear c24b1
      try clear c26
      try clear c28
      try clear c29
      try clear c30
      try clear c32
      try clear c39
      try clear c40
      try clear c42
      try clear c47
      try clear c48
      try clear c50
      try clear c53
      try clear c54
      try clear c54b0
      try clear c54b1
      try clear c56
      try clear c57
      try clear c59
      try clear hcz15_0
      try clear hcz15_1
      try clear hcz17_0
      try clear hcz17_1
      try clear hcz22_0
      try clear hcz22_1
      try clear hcz31_0
      try clear hcz31_1
      try clear hcz33_0
      try clear hcz33_1
      try clear hcz35_0
      try clear hcz35_1
      try clear hcz37_0
      try clear hcz37_1
      try clear hcz38_0
      try clear hcz38_1
      try clear hcz41_0
      try clear hcz41_1
      try clear hcz43_0
      try clear hcz43_1
      try clear hcz45_0
      try clear hcz45_1
      try clear hcz49_0
      try clear hcz49_1
      try clear hcz51_0
      try clear hcz51_1
      try clear hcz58_0
      try clear hcz58_1
      try clear hcz60_0
      try clear hcz60_1
      try clear hcz9_0
      try clear hcz9_1
      try clear hfz15_0
      try clear hfz15_1
      try clear hfz17_0
      try clear hfz17_1
      try clear hfz22_0
      try clear hfz22_1
      try clear hfz31_0
      try clear hfz31_1
      try clear hfz33_0
      try clear hfz33_1
      try clear hfz35_0
      try clear hfz35_1
      try clear hfz37_0
      try clear hfz37_1
      try clear hfz38_0
      try clear hfz38_1
      try clear hfz41_0
      try clear hfz41_1
      try clear hfz43_0
      try clear hfz43_1
      try clear hfz45_0
      try clear hfz45_1
      try clear hfz49_0
      try clear hfz49_1
      try clear hfz51_0
      try clear hfz51_1
      try clear hfz58_0
      try clear hfz58_1
      try clear hfz60_0
      try clear hfz60_1
      try clear hfz9_0
      try clear hfz9_1
      try clear p2
      obtain ⟨x9_2, x10_2, rfl, rfl, HA, HK2, HO_4, HO_730001, HO_736001, HO_742001, BK729, BK735, BK741, HB⟩ := hrel
      cases gk with
      | zero => exact absurd HA.out (by simp [laws_FnPoolTwice.l0])
      | succ k2 =>
       have H := HA.out
       clear HA
       simp only [laws_FnPoolTwice.l0] at H
       by_cases c62 : x10_2 < (t726.length : Int)
       ·rw [if_pos c62] at H
        have c62b0 : decide (x10_2 < (t726.length : Int)) = true := decide_eq_true c62
        clear c62
        have H' := Aside0.mk H
        clear H
        go_wp2
        repeat (go_quiet (fail); try go_wp2)
        go_loopg [11, 12] k2 (fun kq v11 v12 w' => ∃ (x11_3 : Bool) (x12_3 : Int), v11 = .bool x11_3 ∧ v12 = .int .i64 x12_3 ∧ Aside0 (laws_FnPoolTwice.l1 kq t726 x9_2 x10_2 x11_3 x12_3 t722 t723 t730 t731 = some r) ∧ Aside0 (kq ≤ k2) ∧ Aside0 (Kd.R k25 25 w' w.heap.size (fun k_ => some k_ ≠ ((.slice Ao10 t723.length co10) : Value).ownBlock ∧ some k_ ≠ ((.slice Ao16 t731.length co16) : Value).ownBlock ∧ some k_ ≠ ((.slice Ao23 t737.length co23) : Value).ownBlock) (.slice Ao11 t726.length co11) t726) ∧ Aside0 (Kd.R k25 25 w' w.heap.size (fun k_ => some k_ ≠ ((.slice Ao11 t726.length co11) : Value).ownBlock ∧ some k_ ≠ ((.slice Ao16 t731.length co16) : Value).ownBlock ∧ some k_ ≠ ((.slice Ao23 t737.length co23) : Value).ownBlock) (.slice Ao10 t723.length co10) t723) ∧ Aside0 (Kd.R k25 25 w' w.heap.size (fun k_ => some k_ ≠ ((.slice Ao11 t726.length co11) : Value).ownBlock ∧ some k_ ≠ ((.slice Ao10 t723.length co10) : Value).ownBlock ∧ some k_ ≠ ((.slice Ao23 t737.length co23) : Value).ownBlock) (.slice Ao16 t731.length co16) t731) ∧ Aside0 (Kd.R k25 25 w' w.heap.size (fun k_ => some k_ ≠ ((.slice Ao11 t726.length co11) : Value).ownBlock ∧ some k_ ≠ ((.slice Ao10 t723.length co10) : Value).ownBlock ∧ some k_ ≠ ((.slice Ao16 t731.length co16) : Value).ownBlock) (.slice Ao23 t737.length co23) t737) ∧ Aside0 (w'.heap[gb729]? = some (.cells #[.int .i64 t722, (.slice Ao10 t723.length co10)] 46 (0, 0))) ∧ Aside0 (w'.heap[gb735]? = some (.cells #[.int .i64 t730, (.slice Ao16 t731.length co16)] 46 (0, 0))) ∧ Aside0 (w'.heap[gb741]? = some (.cells #[.int .i64 t736, (.slice Ao23 t737.length co23)] 46 (0, 0))) ∧ Aside0 (Below w.heap.size w w'))
        case atStart => exact ⟨(false), (0), (z25_9), (z25_9), H', ⟨Nat.le_refl _⟩, ⟨by (with_reducible repeat (first | apply Kd.R_alloc | apply Kd.R_drewN | apply Kd.R_drew)); exact HO_4.out⟩, ⟨by (with_reducible repeat (first | apply Kd.R_alloc | apply Kd.R_drewN | apply Kd.R_drew)); exact HO_730001.out⟩, ⟨by (with_reducible repeat (first | apply Kd.R_alloc | apply Kd.R_drewN | apply Kd.R_drew)); exact HO_736001.out⟩, ⟨by (with_reducible repeat (first | apply Kd.R_alloc | apply Kd.R_drewN | apply Kd.R_drew)); exact HO_742001.out⟩, ⟨by (with_reducible repeat (first | refine blk_drewN ?_ _ | refine blk_drew ?_ | refine blk_alloc ?_ _)); exact BK729.out⟩, ⟨by (with_reducible repeat (first | refine blk_drewN ?_ _ | refine blk_drew ?_ | refine blk_alloc ?_ _)); exact BK735.out⟩, ⟨by (with_reducible repeat (first | refine blk_drewN ?_ _ | refine blk_drew ?_ | refine blk_alloc ?_ _)); exact BK741.out⟩, ⟨by repeat (first | (with_reducible first | exact HB.out | apply below_alloc | apply pw_below_drewN | apply below_drew1 | refine below_set ?_ GE729.out | refine below_set ?_ GE735.out | refine below_set ?_ GE741.out) | exact HB.out)⟩⟩
        case round =>
         clear H'
         try clear c1
         try clear c2
         try clear c2b0
         try clear c2b1
         try clear p2
         try clear c3
         try clear c4
         try clear c5
         try clear c6
         try clear c14
         try clear c15
         try clear c20
         try clear c21
         try clear c24
         try clear c24b0
         try clear c24b1
         try clear c26
         try clear c28
         try clear c29
         try clear c30
         try clear c32
         try clear c39
         try clear c40
         try clear c42
         try clear c47
         try clear c48
         try clear c50
         try clear c53
         try clear c54
         try clear c54b0
         try clear c54b1
         try clear c56
         try clear c57
         try clear c59
         try clear c62
         try clear c62b0
         try clear hcz15_0
         try clear hcz15_1
         try clear hcz17_0
         try clear hcz17_1
         try clear hcz22_0
         try clear hcz22_1
         try clear hcz31_0
         try clear hcz31_1
         try clear hcz33_0
         try clear hcz33_1
         try clear hcz35_0
         try clear hcz35_1
         try clear hcz37_0
         try clear hcz37_1
         try clear hcz38_0
         try clear hcz38_1
         try clear hcz41_0
         try clear hcz41_1
         try clear hcz43_0
         try clear hcz43_1
         try clear hcz45_0
         try clear hcz45_1
         try clear hcz49_0
         try clear hcz49_1
         try clear hcz51_0
         try clear hcz51_1
         try clear hcz58_0
         try clear hcz58_1
         try clear hcz60_0
         try clear hcz60_1
         try clear hcz9_0
         try clear hcz9_1
         try clear hfz15_0
         try clear hfz15_1
         try clear hfz17_0
         try clear hfz17_1
         try clear hfz22_0
         try clear hfz22_1
         try clear hfz31_0
         try clear hfz31_1
         try clear hfz33_0
         try clear hfz33_1
         try clear hfz35_0
         try clear hfz35_1
         try clear hfz37_0
         try clear hfz37_1
         try clear hfz38_0
         try clear hfz38_1
         try clear hfz41_0
         try clear hfz41_1
         try clear hfz43_0
         try clear hfz43_1
         try clear hfz45_0
         try clear hfz45_1
         try clear hfz49_0
         try clear hfz49_1
         try clear hfz51_0
         try clear hfz51_1
         try clear hfz58_0
         try clear hfz58_1
         try clear hfz60_0
         try clear hfz60_1
         try clear hfz9_0
         try clear hfz9_1
         try clear p2
         obtain ⟨x11_3, x12_3, rfl, rfl, HA, HK3, HO_4, HO_730001, HO_736001, HO_742001, BK729, BK735, BK741, HB⟩ := hrel
         cases gk with
         | zero => exact absurd HA.out (by simp [laws_FnPoolTwice.l1])
         | succ k3 =>
          have H := HA.out
          clear HA
          simp only [laws_FnPoolTwice.l1] at H
          by_cases c63 : x12_3 < x10_2
          ·rw [if_pos c63] at H
           have c63b0 : decide (x12_3 < x10_2) = true := decide_eq_true c63
           clear c63
           by_cases c64 : x11_3 = true
           ·subst c64
            have H1 : (laws_FnPoolTwice.l1 k3 t726 x9_2 x10_2 true (wrap64 (x12_3 + 1)) t722 t723 t730 t731) = some r := by rw [if_pos rfl] at H; exact H
            clear H
            have H := H1
            clear H1
            have H' := Aside0.mk H
            clear H
            go_wp2
            repeat (go_quiet (fail); try go_wp2)
            go_roundg k3
            case measure => have := HJ5.out; have := HK2.out; have := HK3.out; omega
            case rel => exact ⟨(true), (wrap64 (x12_3 + 1)), (z25_9), (z25_9), H', ⟨by have := HJ5.out; have := HK2.out; have := HK3.out; omega⟩, ⟨by (with_reducible repeat (first | apply Kd.R_alloc | apply Kd.R_drewN | apply Kd.R_drew)); exact HO_4.out⟩, ⟨by (with_reducible repeat (first | apply Kd.R_alloc | apply Kd.R_drewN | apply Kd.R_drew)); exact HO_730001.out⟩, ⟨by (with_reducible repeat (first | apply Kd.R_alloc | apply Kd.R_drewN | apply Kd.R_drew)); exact HO_736001.out⟩, ⟨by (with_reducible repeat (first | apply Kd.R_alloc | apply Kd.R_drewN | apply Kd.R_drew)); exact HO_742001.out⟩, ⟨by (with_reducible repeat (first | refine blk_drewN ?_ _ | refine blk_drew ?_ | refine blk_alloc ?_ _)); exact BK729.out⟩, ⟨by (with_reducible repeat (first | refine blk_drewN ?_ _ | refine blk_drew ?_ | refine blk_alloc ?_ _)); exact BK735.out⟩, ⟨by (with_reducible repeat (first | refine blk_drewN ?_ _ | refine blk_drew ?_ | refine blk_alloc ?_ _)); exact BK741.out⟩, ⟨by repeat (first | (with_reducible first | exact HB.out | apply below_alloc | apply pw_below_drewN | apply below_drew1 | refine below_set ?_ GE729.out | refine below_set ?_ GE735.out | refine below_set ?_ GE741.out) | exact HB.out)⟩⟩
           ·replace c64 := Bool.eq_false_iff.mpr c64
            subst c64
            have H1 : (if 0 ≤ x12_3 then (if x12_3 < (t726.length : Int) then (if 0 ≤ x10_2 then (if x10_2 < (t726.length : Int) then (laws_FnPoolTwice.l1 k3 t726 x9_2 x10_2 (((rd_T25 t726 x12_3).f0) == ((rd_T25 t726 x10_2).f0) && (((rd_T25 t726 x12_3).f1) == ((rd_T25 t726 x10_2).f1))) (wrap64 (x12_3 + 1)) t722 t723 t730 t731) else (none)) else (none)) else (none)) else (none)) = some r := by rw [if_neg (show ¬ (false = true) by decide)] at H; exact H
            clear H
            have H := H1
            clear H1
            by_cases c65 : 0 ≤ x12_3
            ·rw [if_pos c65] at H
             have c65b0 : decide (0 ≤ x12_3) = true := decide_eq_true c65
             clear c65
             by_cases c66 : x12_3 < (t726.length : Int)
             ·rw [if_pos c66] at H
              have c66b0 : decide (x12_3 < (t726.length : Int)) = true := decide_eq_true c66
              clear c66
              by_cases c67 : 0 ≤ x10_2
              ·rw [if_pos c67] at H
               have c67b0 : decide (0 ≤ x10_2) = true := decide_eq_true c67
               clear c67
               by_cases c68 : x10_2 < (t726.length : Int)
               ·rw [if_pos c68] at H
                have c68b0 : decide (x10_2 < (t726.length : Int)) = true := decide_eq_true c68
                clear c68
                have H' := Aside0.mk H
                clear H
                have p752 : 0 ≤ (x12_3 : Int) := of_decide_eq_true (by first | (with_reducible assumption) | assumption)
                have q752 : x12_3 < (t726.length : Int) := of_decide_eq_true (by first | (with_reducible assumption) | assumption)
                obtain ⟨ad752, e752, hx752_0, hx752_1⟩ := at_T25 (Kd.R_reads' HO_4.out).2.2 x12_3 p752 q752
                cases e752
                replace p752 := eq_true p752
                replace q752 := eq_true q752
                have p753 : 0 ≤ (x10_2 : Int) := of_decide_eq_true (by first | (with_reducible assumption) | assumption)
                have q753 : x10_2 < (t726.length : Int) := of_decide_eq_true (by first | (with_reducible assumption) | assumption)
                obtain ⟨ad753, e753, hx753_0, hx753_1⟩ := at_T25 (Kd.R_reads' HO_4.out).2.2 x10_2 p753 q753
                obtain rfl : ad752 = ad753 := (by injection e753)
                replace p753 := eq_true p753
                replace q753 := eq_true q753
                go_wp2
                repeat (go_quiet (fail); try go_wp2)
                go_roundg k3
                case measure => have := HJ5.out; have := HK2.out; have := HK3.out; omega
                case rel => exact ⟨((((rd_T25 t726 x12_3).f0) == ((rd_T25 t726 x10_2).f0) && (((rd_T25 t726 x12_3).f1) == ((rd_T25 t726 x10_2).f1)))), (wrap64 (x12_3 + 1)), (z25_9), (z25_9), H', ⟨by have := HJ5.out; have := HK2.out; have := HK3.out; omega⟩, ⟨by (with_reducible repeat (first | apply Kd.R_alloc | apply Kd.R_drewN | apply Kd.R_drew)); exact HO_4.out⟩, ⟨by (with_reducible repeat (first | apply Kd.R_alloc | apply Kd.R_drewN | apply Kd.R_drew)); exact HO_730001.out⟩, ⟨by (with_reducible repeat (first | apply Kd.R_alloc | apply Kd.R_drewN | apply Kd.R_drew)); exact HO_736001.out⟩, ⟨by (with_reducible repeat (first | apply Kd.R_alloc | apply Kd.R_drewN | apply Kd.R_drew)); exact HO_742001.out⟩, ⟨by (with_reducible repeat (first | refine blk_drewN ?_ _ | refine blk_drew ?_ | refine blk_alloc ?_ _)); exact BK729.out⟩, ⟨by (with_reducible repeat (first | refine blk_drewN ?_ _ | refine blk_drew ?_ | refine blk_alloc ?_ _)); exact BK735.out⟩, ⟨by (with_reducible repeat (first | refine blk_drewN ?_ _ | refine blk_drew ?_ | refine blk_alloc ?_ _)); exact BK741.out⟩, ⟨by repeat (first | (with_reducible first | exact HB.out | apply below_alloc | apply pw_below_drewN | apply below_drew1 | refine below_set ?_ GE729.out | refine below_set ?_ GE735.out | refine below_set ?_ GE741.out) | exact HB.out)⟩⟩
               ·rw [if_neg c68] at H
                exact absurd H (by simp)
              ·rw [if_neg c67] at H
               exact absurd H (by simp)
             ·rw [if_neg c66] at H
              exact absurd H (by simp)
            ·rw [if_neg c65] at H
             exact absurd H (by simp)
          ·rw [if_neg c63] at H
           have c63b0 : decide (x12_3 < x10_2) = false := decide_eq_false c63
           clear c63
           by_cases c69 : x11_3 = true
           ·subst c69
            have H1 : (laws_FnPoolTwice.l0 k3 t726 x9_2 (wrap64 (x10_2 + 1)) t722 t723 t730 t731) = some r := by rw [if_pos rfl] at H; exact H
            clear H
            have H := H1
            clear H1
            have H' := Aside0.mk H
            clear H
            go_wp2
            repeat (go_quiet (fail); try go_wp2)
            go_roundg k3
            case measure => have := HJ5.out; have := HK2.out; have := HK3.out; omega
            case rel => exact ⟨(x9_2), (wrap64 (x10_2 + 1)), (z25_9), (z25_9), H', ⟨by have := HJ5.out; have := HK2.out; have := HK3.out; omega⟩, ⟨by (with_reducible repeat (first | apply Kd.R_alloc | apply Kd.R_drewN | apply Kd.R_drew)); exact HO_4.out⟩, ⟨by (with_reducible repeat (first | apply Kd.R_alloc | apply Kd.R_drewN | apply Kd.R_drew)); exact HO_730001.out⟩, ⟨by (with_reducible repeat (first | apply Kd.R_alloc | apply Kd.R_drewN | apply Kd.R_drew)); exact HO_736001.out⟩, ⟨by (with_reducible repeat (first | apply Kd.R_alloc | apply Kd.R_drewN | apply Kd.R_drew)); exact HO_742001.out⟩, ⟨by (with_reducible repeat (first | refine blk_drewN ?_ _ | refine blk_drew ?_ | refine blk_alloc ?_ _)); exact BK729.out⟩, ⟨by (with_reducible repeat (first | refine blk_drewN ?_ _ | refine blk_drew ?_ | refine blk_alloc ?_ _)); exact BK735.out⟩, ⟨by (with_reducible repeat (first | refine blk_drewN ?_ _ | refine blk_drew ?_ | refine blk_alloc ?_ _)); exact BK741.out⟩, ⟨by repeat (first | (with_reducible first | exact HB.out | apply below_alloc | apply pw_below_drewN | apply below_drew1 | refine below_set ?_ GE729.out | refine below_set ?_ GE735.out | refine below_set ?_ GE741.out) | exact HB.out)⟩⟩
           ·replace c69 := Bool.eq_false_iff.mpr c69
            subst c69
            have H1 : (laws_FnPoolTwice.l0 k3 t726 (wrap64 (x9_2 + 1)) (wrap64 (x10_2 + 1)) t722 t723 t730 t731) = some r := by rw [if_neg (show ¬ (false = true) by decide)] at H; exact H
            clear H
            have H := H1
            clear H1
            have H' := Aside0.mk H
            clear H
            go_wp2
            repeat (go_quiet (fail); try go_wp2)
            go_roundg k3
            case measure => have := HJ5.out; have := HK2.out; have := HK3.out; omega
            case rel => exact ⟨(wrap64 (x9_2 + 1)), (wrap64 (x10_2 + 1)), (z25_9), (z25_9), H', ⟨by have := HJ5.out; have := HK2.out; have := HK3.out; omega⟩, ⟨by (with_reducible repeat (first | apply Kd.R_alloc | apply Kd.R_drewN | apply Kd.R_drew)); exact HO_4.out⟩, ⟨by (with_reducible repeat (first | apply Kd.R_alloc | apply Kd.R_drewN | apply Kd.R_drew)); exact HO_730001.out⟩, ⟨by (with_reducible repeat (first | apply Kd.R_alloc | apply Kd.R_drewN | apply Kd.R_drew)); exact HO_736001.out⟩, ⟨by (with_reducible repeat (first | apply Kd.R_alloc | apply Kd.R_drewN | apply Kd.R_drew)); exact HO_742001.out⟩, ⟨by (with_reducible repeat (first | refine blk_drewN ?_ _ | refine blk_drew ?_ | refine blk_alloc ?_ _)); exact BK729.out⟩, ⟨by (with_reducible repeat (first | refine blk_drewN ?_ _ | refine blk_drew ?_ | refine blk_alloc ?_ _)); exact BK735.out⟩, ⟨by (with_reducible repeat (first | refine blk_drewN ?_ _ | refine blk_drew ?_ | refine blk_alloc ?_ _)); exact BK741.out⟩, ⟨by repeat (first | (with_reducible first | exact HB.out | apply below_alloc | apply pw_below_drewN | apply below_drew1 | refine below_set ?_ GE729.out | refine below_set ?_ GE735.out | refine below_set ?_ GE741.out) | exact HB.out)⟩⟩
       ·rw [if_neg c62] at H
        have c62b0 : decide (x10_2 < (t726.length : Int)) = false := decide_eq_false c62
        clear c62
        replace H := Option.bind_eq_some_iff.mp H
        obtain ⟨⟨t745, t746, t749⟩, A700, H⟩ := H
        replace H : (if x9_2 > t722 then (some true) else (if t749 = 0 then ((impl_PoolSame.f k2 t745 t746 t730 t731).bind fun t751 => (some t751)) else (some false))) = some r := H
        have A70 := Aside0.mk A700
        clear A700
        by_cases c71 : x9_2 > t722
        ·rw [if_pos c71] at H
         have c71b0 : decide (t722 < x9_2) = true := decide_eq_true c71
         clear c71
         obtain rfl := Option.some.inj H
         have hnb72 := NB735_729.out
         have hnc72 := NB729_735.out
         have hnb73 := NB735_741.out
         have hnc73 := NB741_735.out
         have hcz74_0 : wr.cell? ⟨gb735, 0, none⟩ = some (.int .i64 t730) := (blk_cell BK735.out 0).trans rfl
         have hcz74_1 : wr.cell? ⟨gb735, 1, none⟩ = some (.slice Ao16 t731.length co16) := (blk_cell BK735.out 1).trans rfl
         have hfz74_0 := blk_frozen BK735.out 0
         have hfz74_1 := blk_frozen BK735.out 1
         go_wp2_with (first | (go_at_call 45; (with_reducible refine (impl_PoolAll.calls t730 _ _ t731 _ _ t726 t745 t746 t749 _ ?side1 ?side2 ?side3 ?side4 A70.out).mono ?_); (case side1 => repeat (first | exact (Kd.R_reads' HO_736001.out).2.2 | (with_reducible refine Kd.C_alloc ?_ _) | (with_reducible refine Kd.C_drewN ?_ _) | (with_reducible refine Kd.C_drew ?_))); (case side2 => exact (Kd.R_reads' HO_736001.out).2.1); (case side3 => repeat (first | exact (Kd.R_reads' HO_4.out).2.2 | (with_reducible refine Kd.C_alloc ?_ _) | (with_reducible refine Kd.C_drewN ?_ _) | (with_reducible refine Kd.C_drew ?_))); (case side4 => exact (Kd.R_reads' HO_4.out).2.1); rintro e w75 ⟨v747, rfl, ho0, hb⟩; have n0_ := Aside0.mk (Kd.R_elder' (by (with_reducible repeat (first | apply Kd.R_alloc | apply Kd.R_drewN | apply Kd.R_drew)); exact HO_4.out) (Kd.R_base ho0) hb); have n1_ := Aside0.mk (Kd.R_elder' (by (with_reducible repeat (first | apply Kd.R_alloc | apply Kd.R_drewN | apply Kd.R_drew)); exact HO_730001.out) (Kd.R_base ho0) hb); have n2_ := Aside0.mk (Kd.R_elder' (by (with_reducible repeat (first | apply Kd.R_alloc | apply Kd.R_drewN | apply Kd.R_drew)); exact HO_736001.out) (Kd.R_base ho0) hb); have n3_ := Aside0.mk (Kd.R_elder' (by (with_reducible repeat (first | apply Kd.R_alloc | apply Kd.R_drewN | apply Kd.R_drew)); exact HO_742001.out) (Kd.R_base ho0) hb); have n4_ := Aside0.mk (Kd.R_lower (Kd.R_new' (Kd.R_new' (Kd.R_new' (Kd.R_new' ho0 (Kd.R_lt (by (with_reducible repeat (first | apply Kd.R_alloc | apply Kd.R_drewN | apply Kd.R_drew)); exact HO_4.out))) (Kd.R_lt (by (with_reducible repeat (first | apply Kd.R_alloc | apply Kd.R_drewN | apply Kd.R_drew)); exact HO_730001.out))) (Kd.R_lt (by (with_reducible repeat (first | apply Kd.R_alloc | apply Kd.R_drewN | apply Kd.R_drew)); exact HO_736001.out))) (Kd.R_lt (by (with_reducible repeat (first | apply Kd.R_alloc | apply Kd.R_drewN | apply Kd.R_drew)); exact HO_742001.out))) (below_size (z25_2))); have n5_ := Aside0.mk (blk_below (g := gb729) (o := .cells #[.int .i64 t722, .slice Ao10 t723.length co10] 46 (0, 0)) (z25_6) hb); have n6_ := Aside0.mk (blk_below (g := gb735) (o := .cells #[.int .i64 t730, .slice Ao16 t731.length co16] 46 (0, 0)) (z25_7) hb); have n7_ := Aside0.mk (blk_below (g := gb741) (o := .cells #[.int .i64 t736, .slice Ao23 t737.length co23] 46 (0, 0)) (z25_8) hb); have n8_ := Aside0.mk (below_step (z25_2) hb); clear HO_4; clear HO_730001; clear HO_736001; clear HO_742001; clear BK729; clear BK735; clear BK741; clear HB; have HO_4 := n0_; have HO_730001 := n1_; have HO_736001 := n2_; have HO_742001 := n3_; have HO748 := n4_; have BK729 := n5_; have BK735 := n6_; have BK741 := n7_; have HB := n8_; clear n0_ n1_ n2_ n3_ n4_ n5_ n6_ n7_ n8_; (try clear hb); (try clear hb2); (try clear hk); (try clear hi); (try clear ho0)) | ((with_reducible refine gate_dst (N := 13) rfl ?_); refine box_event ?hg (N := 13) ?hd (cs := #[.int .i64 0, .slice none 0 0]) (t := 46) ?hr ?_; (case hd => rfl); (case hg => rfl); (case hr => first | (go_simp; done) | (go_simp; rfl)); intro gb750 hg w76 hbox hb; have n0_ := Aside0.mk (Kd.R_below (by (with_reducible repeat (first | apply Kd.R_alloc | apply Kd.R_drewN | apply Kd.R_drew)); exact HO_4.out) hb); have n1_ := Aside0.mk (Kd.R_below (by (with_reducible repeat (first | apply Kd.R_alloc | apply Kd.R_drewN | apply Kd.R_drew)); exact HO_730001.out) hb); have n2_ := Aside0.mk (Kd.R_below (by (with_reducible repeat (first | apply Kd.R_alloc | apply Kd.R_drewN | apply Kd.R_drew)); exact HO_736001.out) hb); have n3_ := Aside0.mk (Kd.R_below (by (with_reducible repeat (first | apply Kd.R_alloc | apply Kd.R_drewN | apply Kd.R_drew)); exact HO_742001.out) hb); have n4_ := Aside0.mk (Kd.R_below (by (with_reducible repeat (first | apply Kd.R_alloc | apply Kd.R_drewN | apply Kd.R_drew)); exact HO748.out) hb); have n5_ := Aside0.mk (blk_below (g := gb729) (o := .cells #[.int .i64 t722, .slice Ao10 t723.length co10] 46 (0, 0)) (z25_6) hb); have n6_ := Aside0.mk (blk_below (g := gb735) (o := .cells #[.int .i64 t730, .slice Ao16 t731.length co16] 46 (0, 0)) (z25_7) hb); have n7_ := Aside0.mk (blk_below (g := gb741) (o := .cells #[.int .i64 t736, .slice Ao23 t737.length co23] 46 (0, 0)) (z25_8) hb); have n8_ := Aside0.mk (below_step (z25_2) hb); have n9_ := Aside0.mk (hbox); have n10_ := Aside0.mk ((by rw [hg]; exact (below_size (z25_2)) : w.heap.size ≤ gb750)); have n11_ := Aside0.mk ((by rw [hg]; exact (below_size (z25_2)) : w.heap.size ≤ gb750)); have n12_ := Aside0.mk ((by rw [hg]; exact Nat.ne_of_lt (blk_lt (g := gb729) (o := .cells #[.int .i64 t722, .slice Ao10 t723.length co10] 46 (0, 0)) (z25_6)) : gb729 ≠ gb750)); have n13_ := Aside0.mk ((by rw [hg]; exact Nat.ne_of_gt (blk_lt (g := gb729) (o := .cells #[.int .i64 t722, .slice Ao10 t723.length co10] 46 (0, 0)) (z25_6)) : gb750 ≠ gb729)); have n14_ := Aside0.mk ((by rw [hg]; exact Nat.ne_of_lt (blk_lt (g := gb735) (o := .cells #[.int .i64 t730, .slice Ao16 t731.length co16] 46 (0, 0)) (z25_7)) : gb735 ≠ gb750)); have n15_ := Aside0.mk ((by rw [hg]; exact Nat.ne_of_gt (blk_lt (g := gb735) (o := .cells #[.int .i64 t730, .slice Ao16 t731.length co16] 46 (0, 0)) (z25_7)) : gb750 ≠ gb735)); have n16_ := Aside0.mk ((by rw [hg]; exact Nat.ne_of_lt (blk_lt (g := gb741) (o := .cells #[.int .i64 t736, .slice Ao23 t737.length co23] 46 (0, 0)) (z25_8)) : gb741 ≠ gb750)); have n17_ := Aside0.mk ((by rw [hg]; exact Nat.ne_of_gt (blk_lt (g := gb741) (o := .cells #[.int .i64 t736, .slice Ao23 t737.length co23] 46 (0, 0)) (z25_8)) : gb750 ≠ gb741)); clear HO_4; clear HO_730001; clear HO_736001; clear HO_742001; clear HO748; clear BK729; clear BK735; clear BK741; clear HB; have HO_4 := n0_; have HO_730001 := n1_; have HO_736001 := n2_; have HO_742001 := n3_; have HO748 := n4_; have BK729 := n5_; have BK735 := n6_; have BK741 := n7_; have HB := n8_; have BK750 := n9_; have GW750 := n10_; have GE750 := n11_; have NB729_750 := n12_; have NB750_729 := n13_; have NB735_750 := n14_; have NB750_735 := n15_; have NB741_750 := n16_; have NB750_741 := n17_; clear n0_ n1_ n2_ n3_ n4_ n5_ n6_ n7_ n8_ n9_ n10_ n11_ n12_ n13_ n14_ n15_ n16_ n17_; clear hb hbox hg; have hnb77 := NB750_729.out; have hnc77 := NB729_750.out; have hnb78 := NB750_735.out; have hnc78 := NB735_750.out; have hnb79 := NB750_741.out; have hnc79 := NB741_750.out; have hcz80_0 : w76.cell? ⟨gb750, 0, none⟩ = some (.int .i64 0) := (blk_cell BK750.out 0).trans rfl; have hcz80_1 : w76.cell? ⟨gb750, 1, none⟩ = some (.slice none 0 0) := (blk_cell BK750.out 1).trans rfl; have hfz80_0 := blk_frozen BK750.out 0; have hfz80_1 := blk_frozen BK750.out 1; obtain ⟨Ao81, co81, eo81⟩ := Kd.R_slice HO748.out; subst eo81; have hnb82 := NB729_741.out; have hnc82 := NB741_729.out; have hcz83_0 : w76.cell? ⟨gb729, 0, none⟩ = some (.int .i64 t722) := (blk_cell BK729.out 0).trans rfl; have hcz83_1 : w76.cell? ⟨gb729, 1, none⟩ = some (.slice Ao10 t723.length co10) := (blk_cell BK729.out 1).trans rfl; have hfz83_0 := blk_frozen BK729.out 0; have hfz83_1 := blk_frozen BK729.out 1))
         repeat (go_quiet (fail); try go_wp2)
         go_ret
         exact ⟨by first | rfl | (simp [errW_none, errW_some] <;> rfl) | (simp [*, errW_none, errW_some] <;> rfl), by repeat (first | (with_reducible first | exact HB.out | apply below_alloc | apply pw_below_drewN | apply below_drew1 | refine below_set ?_ GE729.out | refine below_set ?_ GE735.out | refine below_set ?_ GE741.out | refine below_set ?_ GE750.out) | exact HB.out)⟩
        ·rw [if_neg c71] at H
         have c71b0 : decide (t722 < x9_2) = false := decide_eq_false c71
         clear c71
         by_cases c84 : t749 = 0
         ·rw [if_pos c84] at H
          have c84b0 : (t749 == 0) = true := beq_iff_eq.mpr c84
          have c84b1 : (t749 != 0) = false := bne_eq_false_iff_eq.mpr c84
          clear c84
          replace H := Option.bind_eq_some_iff.mp H
          obtain ⟨t751, A850, H⟩ := H
          replace H : (some t751) = some r := H
          have A85 := Aside0.mk A850
          clear A850
          obtain rfl := Option.some.inj H
          have hnb86 := NB735_729.out
          have hnc86 := NB729_735.out
          have hnb87 := NB735_741.out
          have hnc87 := NB741_735.out
          have hcz88_0 : wr.cell? ⟨gb735, 0, none⟩ = some (.int .i64 t730) := (blk_cell BK735.out 0).trans rfl
          have hcz88_1 : wr.cell? ⟨gb735, 1, none⟩ = some (.slice Ao16 t731.length co16) := (blk_cell BK735.out 1).trans rfl
          have hfz88_0 := blk_frozen BK735.out 0
          have hfz88_1 := blk_frozen BK735.out 1
          go_wp2_with (first | (go_at_call 45; (with_reducible refine (impl_PoolAll.calls t730 _ _ t731 _ _ t726 t745 t746 t749 _ ?side1 ?side2 ?side3 ?side4 A70.out).mono ?_); (case side1 => repeat (first | exact (Kd.R_reads' HO_736001.out).2.2 | (with_reducible refine Kd.C_alloc ?_ _) | (with_reducible refine Kd.C_drewN ?_ _) | (with_reducible refine Kd.C_drew ?_))); (case side2 => exact (Kd.R_reads' HO_736001.out).2.1); (case side3 => repeat (first | exact (Kd.R_reads' HO_4.out).2.2 | (with_reducible refine Kd.C_alloc ?_ _) | (with_reducible refine Kd.C_drewN ?_ _) | (with_reducible refine Kd.C_drew ?_))); (case side4 => exact (Kd.R_reads' HO_4.out).2.1); rintro e w89 ⟨v747, rfl, ho0, hb⟩; have n0_ := Aside0.mk (Kd.R_elder' (by (with_reducible repeat (first | apply Kd.R_alloc | apply Kd.R_drewN | apply Kd.R_drew)); exact HO_4.out) (Kd.R_base ho0) hb); have n1_ := Aside0.mk (Kd.R_elder' (by (with_reducible repeat (first | apply Kd.R_alloc | apply Kd.R_drewN | apply Kd.R_drew)); exact HO_730001.out) (Kd.R_base ho0) hb); have n2_ := Aside0.mk (Kd.R_elder' (by (with_reducible repeat (first | apply Kd.R_alloc | apply Kd.R_drewN | apply Kd.R_drew)); exact HO_736001.out) (Kd.R_base ho0) hb); have n3_ := Aside0.mk (Kd.R_elder' (by (with_reducible repeat (first | apply Kd.R_alloc | apply Kd.R_drewN | apply Kd.R_drew)); exact HO_742001.out) (Kd.R_base ho0) hb); have n4_ := Aside0.mk (Kd.R_lower (Kd.R_new' (Kd.R_new' (Kd.R_new' (Kd.R_new' ho0 (Kd.R_lt (by (with_reducible repeat (first | apply Kd.R_alloc | apply Kd.R_drewN | apply Kd.R_drew)); exact HO_4.out))) (Kd.R_lt (by (with_reducible repeat (first | apply Kd.R_alloc | apply Kd.R_drewN | apply Kd.R_drew)); exact HO_730001.out))) (Kd.R_lt (by (with_reducible repeat (first | apply Kd.R_alloc | apply Kd.R_drewN | apply Kd.R_drew)); exact HO_736001.out))) (Kd.R_lt (by (with_reducible repeat (first | apply Kd.R_alloc | apply Kd.R_drewN | apply Kd.R_drew)); exact HO_742001.out))) (below_size (z25_2))); have n5_ := Aside0.mk (blk_below (g := gb729) (o := .cells #[.int .i64 t722, .slice Ao10 t723.length co10] 46 (0, 0)) (z25_6) hb); have n6_ := Aside0.mk (blk_below (g := gb735) (o := .cells #[.int .i64 t730, .slice Ao16 t731.length co16] 46 (0, 0)) (z25_7) hb); have n7_ := Aside0.mk (blk_below (g := gb741) (o := .cells #[.int .i64 t736, .slice Ao23 t737.length co23] 46 (0, 0)) (z25_8) hb); have n8_ := Aside0.mk (below_step (z25_2) hb); clear HO_4; clear HO_730001; clear HO_736001; clear HO_742001; clear BK729; clear BK735; clear BK741; clear HB; have HO_4 := n0_; have HO_730001 := n1_; have HO_736001 := n2_; have HO_742001 := n3_; have HO748 := n4_; have BK729 := n5_; have BK735 := n6_; have BK741 := n7_; have HB := n8_; clear n0_ n1_ n2_ n3_ n4_ n5_ n6_ n7_ n8_; (try clear hb); (try clear hb2); (try clear hk); (try clear hi); (try clear ho0)) | ((with_reducible refine gate_dst (N := 13) rfl ?_); refine box_event ?hg (N := 13) ?hd (cs := #[.int .i64 0, .slice none 0 0]) (t := 46) ?hr ?_; (case hd => rfl); (case hg => rfl); (case hr => first | (go_simp; done) | (go_simp; rfl)); intro gb750 hg w90 hbox hb; have n0_ := Aside0.mk (Kd.R_below (by (with_reducible repeat (first | apply Kd.R_alloc | apply Kd.R_drewN | apply Kd.R_drew)); exact HO_4.out) hb); have n1_ := Aside0.mk (Kd.R_below (by (with_reducible repeat (first | apply Kd.R_alloc | apply Kd.R_drewN | apply Kd.R_drew)); exact HO_730001.out) hb); have n2_ := Aside0.mk (Kd.R_below (by (with_reducible repeat (first | apply Kd.R_alloc | apply Kd.R_drewN | apply Kd.R_drew)); exact HO_736001.out) hb); have n3_ := Aside0.mk (Kd.R_below (by (with_reducible repeat (first | apply Kd.R_alloc | apply Kd.R_drewN | apply Kd.R_drew)); exact HO_742001.out) hb); have n4_ := Aside0.mk (Kd.R_below (by (with_reducible repeat (first | apply Kd.R_alloc | apply Kd.R_drewN | apply Kd.R_drew)); exact HO748.out) hb); have n5_ := Aside0.mk (blk_below (g := gb729) (o := .cells #[.int .i64 t722, .slice Ao10 t723.length co10] 46 (0, 0)) (z25_6) hb); have n6_ := Aside0.mk (blk_below (g := gb735) (o := .cells #[.int .i64 t730, .slice Ao16 t731.length co16] 46 (0, 0)) (z25_7) hb); have n7_ := Aside0.mk (blk_below (g := gb741) (o := .cells #[.int .i64 t736, .slice Ao23 t737.length co23] 46 (0, 0)) (z25_8) hb); have n8_ := Aside0.mk (below_step (z25_2) hb); have n9_ := Aside0.mk (hbox); have n10_ := Aside0.mk ((by rw [hg]; exact (below_size (z25_2)) : w.heap.size ≤ gb750)); have n11_ := Aside0.mk ((by rw [hg]; exact (below_size (z25_2)) : w.heap.size ≤ gb750)); have n12_ := Aside0.mk ((by rw [hg]; exact Nat.ne_of_lt (blk_lt (g := gb729) (o := .cells #[.int .i64 t722, .slice Ao10 t723.length co10] 46 (0, 0)) (z25_6)) : gb729 ≠ gb750)); have n13_ := Aside0.mk ((by rw [hg]; exact Nat.ne_of_gt (blk_lt (g := gb729) (o := .cells #[.int .i64 t722, .slice Ao10 t723.length co10] 46 (0, 0)) (z25_6)) : gb750 ≠ gb729)); have n14_ := Aside0.mk ((by rw [hg]; exact Nat.ne_of_lt (blk_lt (g := gb735) (o := .cells #[.int .i64 t730, .slice Ao16 t731.length co16] 46 (0, 0)) (z25_7)) : gb735 ≠ gb750)); have n15_ := Aside0.mk ((by rw [hg]; exact Nat.ne_of_gt (blk_lt (g := gb735) (o := .cells #[.int .i64 t730, .slice Ao16 t731.length co16] 46 (0, 0)) (z25_7)) : gb750 ≠ gb735)); have n16_ := Aside0.mk ((by rw [hg]; exact Nat.ne_of_lt (blk_lt (g := gb741) (o := .cells #[.int .i64 t736, .slice Ao23 t737.length co23] 46 (0, 0)) (z25_8)) : gb741 ≠ gb750)); have n17_ := Aside0.mk ((by rw [hg]; exact Nat.ne_of_gt (blk_lt (g := gb741) (o := .cells #[.int .i64 t736, .slice Ao23 t737.length co23] 46 (0, 0)) (z25_8)) : gb750 ≠ gb741)); clear HO_4; clear HO_730001; clear HO_736001; clear HO_742001; clear HO748; clear BK729; clear BK735; clear BK741; clear HB; have HO_4 := n0_; have HO_730001 := n1_; have HO_736001 := n2_; have HO_742001 := n3_; have HO748 := n4_; have BK729 := n5_; have BK735 := n6_; have BK741 := n7_; have HB := n8_; have BK750 := n9_; have GW750 := n10_; have GE750 := n11_; have NB729_750 := n12_; have NB750_729 := n13_; have NB735_750 := n14_; have NB750_735 := n15_; have NB741_750 := n16_; have NB750_741 := n17_; clear n0_ n1_ n2_ n3_ n4_ n5_ n6_ n7_ n8_ n9_ n10_ n11_ n12_ n13_ n14_ n15_ n16_ n17_; clear hb hbox hg; have hnb91 := NB750_729.out; have hnc91 := NB729_750.out; have hnb92 := NB750_735.out; have hnc92 := NB735_750.out; have hnb93 := NB750_741.out; have hnc93 := NB741_750.out; have hcz94_0 : w90.cell? ⟨gb750, 0, none⟩ = some (.int .i64 0) := (blk_cell BK750.out 0).trans rfl; have hcz94_1 : w90.cell? ⟨gb750, 1, none⟩ = some (.slice none 0 0) := (blk_cell BK750.out 1).trans rfl; have hfz94_0 := blk_frozen BK750.out 0; have hfz94_1 := blk_frozen BK750.out 1; obtain ⟨Ao95, co95, eo95⟩ := Kd.R_slice HO748.out; subst eo95; have hnb96 := NB729_741.out; have hnc96 := NB741_729.out; have hcz97_0 : w90.cell? ⟨gb729, 0, none⟩ = some (.int .i64 t722) := (blk_cell BK729.out 0).trans rfl; have hcz97_1 : w90.cell? ⟨gb729, 1, none⟩ = some (.slice Ao10 t723.length co10) := (blk_cell BK729.out 1).trans rfl; have hfz97_0 := blk_frozen BK729.out 0; have hfz97_1 := blk_frozen BK729.out 1; have hcz98_0 : w90.cell? ⟨gb735, 0, none⟩ = some (.int .i64 t730) := (blk_cell BK735.out 0).trans rfl; have hcz98_1 : w90.cell? ⟨gb735, 1, none⟩ = some (.slice Ao16 t731.length co16) := (blk_cell BK735.out 1).trans rfl; have hfz98_0 := blk_frozen BK735.out 0; have hfz98_1 := blk_frozen BK735.out 1) | (go_at_call 35; (with_reducible refine (impl_PoolSame.calls k2 t745 _ _ t746 t730 _ _ t731 t751 _ ?side1 ?side2 ?side3 ?side4 A85.out).mono ?_); (case side1 => refine (Kd.R_reads' (e := 25) (base := w.heap.size) (ok := fun k_ => ((((True ∧ some k_ ≠ (.slice Ao11 t726.length co11 : Value).ownBlock) ∧ some k_ ≠ (.slice Ao10 t723.length co10 : Value).ownBlock) ∧ some k_ ≠ (.slice Ao16 t731.length co16 : Value).ownBlock) ∧ some k_ ≠ (.slice Ao23 t737.length co23 : Value).ownBlock)) (n := t746.length) (c := co95) ?_).2.2; exact (by (with_reducible repeat (first | apply Kd.R_alloc | apply Kd.R_drewN | apply Kd.R_drew)); exact (Kd.R_mono (Kd.R_far (p := ⟨gb750, 1, none⟩) (Kd.R_far (p := ⟨gb750, 0, none⟩) (Kd.R_types HO748.out BK750.out (by decide)) (fun _ hk => hk.2) (.int .i64 t745)) (fun _ hk => hk.2) (.slice Ao95 t746.length co95)) (fun _ h_ => h_.1)))); (case side2 => exact (Kd.R_reads' HO748.out).2.1); (case side3 => refine (Kd.R_reads' (e := 25) (base := w.heap.size) (ok := fun k_ => ((some k_ ≠ (.slice Ao11 t726.length co11 : Value).ownBlock ∧ (some k_ ≠ (.slice Ao10 t723.length co10 : Value).ownBlock ∧ some k_ ≠ (.slice Ao23 t737.length co23 : Value).ownBlock)) ∧ some k_ ≠ (.slice Ao95 t746.length co95 : Value).ownBlock)) (n := t731.length) (c := co16) ?_).2.2; exact (by (with_reducible repeat (first | apply Kd.R_alloc | apply Kd.R_drewN | apply Kd.R_drew)); exact (Kd.R_mono (Kd.R_far (p := ⟨gb750, 1, none⟩) (Kd.R_far (p := ⟨gb750, 0, none⟩) (Kd.R_types HO_736001.out BK750.out (by decide)) (fun _ hk => hk.2) (.int .i64 t745)) (fun _ hk => hk.2) (.slice Ao95 t746.length co95)) (fun _ h_ => h_.1)))); (case side4 => exact (Kd.R_reads' HO_736001.out).2.1); rintro e w99 ⟨rfl, hb⟩; have n0_ := Aside0.mk (Kd.R_below (by (with_reducible repeat (first | apply Kd.R_alloc | apply Kd.R_drewN | apply Kd.R_drew)); exact (Kd.R_mono (Kd.R_far (p := ⟨gb750, 1, none⟩) (Kd.R_far (p := ⟨gb750, 0, none⟩) (Kd.R_types HO_4.out BK750.out (by decide)) (fun _ hk => hk.2) (.int .i64 t745)) (fun _ hk => hk.2) (.slice Ao95 t746.length co95)) (fun _ h_ => h_.1))) hb); have n1_ := Aside0.mk (Kd.R_below (by (with_reducible repeat (first | apply Kd.R_alloc | apply Kd.R_drewN | apply Kd.R_drew)); exact (Kd.R_mono (Kd.R_far (p := ⟨gb750, 1, none⟩) (Kd.R_far (p := ⟨gb750, 0, none⟩) (Kd.R_types HO_730001.out BK750.out (by decide)) (fun _ hk => hk.2) (.int .i64 t745)) (fun _ hk => hk.2) (.slice Ao95 t746.length co95)) (fun _ h_ => h_.1))) hb); have n2_ := Aside0.mk (Kd.R_below (by (with_reducible repeat (first | apply Kd.R_alloc | apply Kd.R_drewN | apply Kd.R_drew)); exact (Kd.R_mono (Kd.R_far (p := ⟨gb750, 1, none⟩) (Kd.R_far (p := ⟨gb750, 0, none⟩) (Kd.R_types HO_736001.out BK750.out (by decide)) (fun _ hk => hk.2) (.int .i64 t745)) (fun _ hk => hk.2) (.slice Ao95 t746.length co95)) (fun _ h_ => h_.1))) hb); have n3_ := Aside0.mk (Kd.R_below (by (with_reducible repeat (first | apply Kd.R_alloc | apply Kd.R_drewN | apply Kd.R_drew)); exact (Kd.R_mono (Kd.R_far (p := ⟨gb750, 1, none⟩) (Kd.R_far (p := ⟨gb750, 0, none⟩) (Kd.R_types HO_742001.out BK750.out (by decide)) (fun _ hk => hk.2) (.int .i64 t745)) (fun _ hk => hk.2) (.slice Ao95 t746.length co95)) (fun _ h_ => h_.1))) hb); have n4_ := Aside0.mk (Kd.R_below (by (with_reducible repeat (first | apply Kd.R_alloc | apply Kd.R_drewN | apply Kd.R_drew)); exact (Kd.R_mono (Kd.R_far (p := ⟨gb750, 1, none⟩) (Kd.R_far (p := ⟨gb750, 0, none⟩) (Kd.R_types HO748.out BK750.out (by decide)) (fun _ hk => hk.2) (.int .i64 t745)) (fun _ hk => hk.2) (.slice Ao95 t746.length co95)) (fun _ h_ => h_.1))) hb); have n5_ := Aside0.mk (blk_below (g := gb729) (o := .cells #[.int .i64 t722, .slice Ao10 t723.length co10] 46 (0, 0)) (by (with_reducible repeat (first | refine blk_drewN ?_ _ | refine blk_drew ?_ | refine blk_alloc ?_ _)); refine blk_far ?_ NB729_750.out _; (with_reducible repeat (first | refine blk_drewN ?_ _ | refine blk_drew ?_ | refine blk_alloc ?_ _)); refine blk_far ?_ NB729_750.out _; (with_reducible repeat (first | refine blk_drewN ?_ _ | refine blk_drew ?_ | refine blk_alloc ?_ _)); exact BK729.out) hb); have n6_ := Aside0.mk (blk_below (g := gb735) (o := .cells #[.int .i64 t730, .slice Ao16 t731.length co16] 46 (0, 0)) (by (with_reducible repeat (first | refine blk_drewN ?_ _ | refine blk_drew ?_ | refine blk_alloc ?_ _)); refine blk_far ?_ NB735_750.out _; (with_reducible repeat (first | refine blk_drewN ?_ _ | refine blk_drew ?_ | refine blk_alloc ?_ _)); refine blk_far ?_ NB735_750.out _; (with_reducible repeat (first | refine blk_drewN ?_ _ | refine blk_drew ?_ | refine blk_alloc ?_ _)); exact BK735.out) hb); have n7_ := Aside0.mk (blk_below (g := gb741) (o := .cells #[.int .i64 t736, .slice Ao23 t737.length co23] 46 (0, 0)) (by (with_reducible repeat (first | refine blk_drewN ?_ _ | refine blk_drew ?_ | refine blk_alloc ?_ _)); refine blk_far ?_ NB741_750.out _; (with_reducible repeat (first | refine blk_drewN ?_ _ | refine blk_drew ?_ | refine blk_alloc ?_ _)); refine blk_far ?_ NB741_750.out _; (with_reducible repeat (first | refine blk_drewN ?_ _ | refine blk_drew ?_ | refine blk_alloc ?_ _)); exact BK741.out) hb); have n8_ := Aside0.mk (blk_below (g := gb750) (o := .cells #[.int .i64 t745, .slice Ao95 t746.length co95] 46 (0, 0)) (by (with_reducible repeat (first | refine blk_drewN ?_ _ | refine blk_drew ?_ | refine blk_alloc ?_ _)); refine blk_put (cs := #[.int .i64 t745, .slice none 0 0]) ?_ 1 _ rfl; (with_reducible repeat (first | refine blk_drewN ?_ _ | refine blk_drew ?_ | refine blk_alloc ?_ _)); refine blk_put (cs := #[.int .i64 0, .slice none 0 0]) ?_ 0 _ rfl; (with_reducible repeat (first | refine blk_drewN ?_ _ | refine blk_drew ?_ | refine blk_alloc ?_ _)); exact BK750.out) hb); have n9_ := Aside0.mk (below_step (by repeat (first | (with_reducible first | exact HB.out | apply below_alloc | apply pw_below_drewN | apply below_drew1 | refine below_set ?_ GE729.out | refine below_set ?_ GE735.out | refine below_set ?_ GE741.out | refine below_set ?_ GE750.out) | exact HB.out)) hb); clear HO_4; clear HO_730001; clear HO_736001; clear HO_742001; clear HO748; clear BK729; clear BK735; clear BK741; clear BK750; clear HB; have HO_4 := n0_; have HO_730001 := n1_; have HO_736001 := n2_; have HO_742001 := n3_; have HO748 := n4_; have BK729 := n5_; have BK735 := n6_; have BK741 := n7_; have BK750 := n8_; have HB := n9_; clear n0_ n1_ n2_ n3_ n4_ n5_ n6_ n7_ n8_ n9_; (try clear hb); (try clear hb2); (try clear hk); (try clear hi)))
          repeat (go_quiet (fail); try go_wp2)
          go_ret
          exact ⟨by first | rfl | (simp [errW_none, errW_some] <;> rfl) | (simp [*, errW_none, errW_some] <;> rfl), by repeat (first | (with_reducible first | exact HB.out | apply below_alloc | apply pw_below_drewN | apply below_drew1 | refine below_set ?_ GE729.out | refine below_set ?_ GE735.out | refine below_set ?_ GE741.out | refine below_set ?_ GE750.out) | exact HB.out)⟩
         ·rw [if_neg c84] at H
          have c84b0 : (t749 == 0) = false := beq_eq_false_iff_ne.mpr c84
          have c84b1 : (t749 != 0) = true := bne_iff_ne.mpr c84
          exact absurd ((Option.some.inj H).trans hT) (by simp)

/-- THE ONE PURE STATEMENT of laws_FnPoolTwice: yours. -/
def laws_FnPoolTwice.Pure : Prop := ∀ (l0 : List Int), l0.length ≤ maxLen → l0.length * 1 ≤ 140737488351232 → (∀ x ∈ l0, (Lit.int .u8 x).wf = true) → ∃ k, laws_FnPoolTwice.f k l0 = some true
theorem laws_FnPoolTwice.walk (P : laws_FnPoolTwice.Pure) (a0 : Option Addr) (len0 cap0 : Nat) (z0 : List Int) (w : World) (w0 : (a0 = none ∧ len0 = 0 ∧ cap0 = 0 ∧ z0 = []) ∨ ∃ x, a0 = some x ∧ len0 ≤ cap0 ∧ cap0 ≤ maxLen ∧ z0.length = cap0 ∧ (∀ i, i < z0.length → w.cell? (x.add i) = some (.int .u8 (z0.getD i 0))) ∧ ∀ n ∈ z0, (Lit.int .u8 n).wf = true) (y0 : len0 * 1 ≤ 140737488351232) :
  Calls Try.prog 15 #[.slice a0 len0 cap0] w fun e w' => e = .returned (.bool true) ∧ Below w.heap.size w w' := by
 obtain ⟨l0, rfl, hr0, hm0, hw0, hc0⟩ := ReadsInt.ofRowC w0
 obtain ⟨k, h⟩ := P l0 hm0 y0 hw0
 refine (laws_FnPoolTwice.calls k _ _ l0 true w (Kd.C_of_reads (d := (0 : Int)) (h1 := fun _ => rfl) hr0) hc0 rfl h).mono ?_
 rintro e w' ⟨rfl, hd⟩
 exact ⟨rfl, hd⟩

end Go.Proofs.Ytcobbpghipeoeaa.R
