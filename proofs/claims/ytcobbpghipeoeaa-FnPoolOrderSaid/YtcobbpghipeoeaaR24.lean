/- Contracts of Go functions, printed by a program (the kit's print.py under reprint.py) and shortened (post.py): each call comes to what the plain function of its name tells. Where that tells nothing, nothing is said. -/
import Derived.Test.YtcobbpghipeoeaaR0
import Derived.Test.YtcobbpghipeoeaaR1
import Derived.Test.YtcobbpghipeoeaaR5
import Derived.Test.YtcobbpghipeoeaaR6
import Derived.Test.YtcobbpghipeoeaaR12
import Derived.Test.YtcobbpghipeoeaaGC
namespace Go.Proofs.Ytcobbpghipeoeaa.R
open Go.RowKit Go.Proofs.YtcobbpghipeoeaaV.PrintWords Go.Proofs.YtcobbpghipeoeaaV.PrintLast Go.Proofs.YtcobbpghipeoeaaV.PrintMore
attribute [local go_sem] max2_int min2_int max_two min_two max_three min_three max_four min_four   -- for this text's walks alone
set_option linter.unusedVariables false
set_option linter.unusedSimpArgs false
theorem z24_0 {P : Prop} (h : P := by (with_reducible repeat (first | refine blk_drewN ?_ _ | refine blk_drew ?_ | refine blk_alloc ?_ _)); refine blk_far ?_ NB702_714.out _; (with_reducible repeat (first | refine blk_drewN ?_ _ | refine blk_drew ?_ | refine blk_alloc ?_ _)); refine blk_far ?_ NB702_714.out _; (with_reducible repeat (first | refine blk_drewN ?_ _ | refine blk_drew ?_ | refine blk_alloc ?_ _)); exact BK702.out) : P := h
theorem z24_1 {P : Prop} (h : P := by (with_reducible repeat (first | refine blk_drewN ?_ _ | refine blk_drew ?_ | refine blk_alloc ?_ _)); refine blk_far ?_ NB708_714.out _; (with_reducible repeat (first | refine blk_drewN ?_ _ | refine blk_drew ?_ | refine blk_alloc ?_ _)); refine blk_far ?_ NB708_714.out _; (with_reducible repeat (first | refine blk_drewN ?_ _ | refine blk_drew ?_ | refine blk_alloc ?_ _)); exact BK708.out) : P := h
theorem z24_2 {P : Prop} (h : P := by repeat (first | (with_reducible first | exact HB.out | apply below_alloc | apply pw_below_drewN | apply below_drew1 | refine below_set ?_ GE702.out | refine below_set ?_ GE708.out | refine below_set ?_ GE714.out) | exact HB.out)) : P := h
theorem z24_3 {P : Prop} (h : P := by repeat (first | (with_reducible first | exact HB.out | apply below_alloc | apply pw_below_drewN | apply below_drew1 | refine below_set ?_ GE702.out | refine below_set ?_ GE708.out) | exact HB.out)) : P := h
theorem z24_4 {P : Prop} (h : P := by repeat (first | (with_reducible first | exact HB.out | apply below_alloc | apply pw_below_drewN | apply below_drew1 | refine below_set ?_ GE702.out) | exact HB.out)) : P := h
theorem z24_5 {P : Prop} (h : P := by repeat (first | (with_reducible first | exact HB.out | apply below_alloc | apply pw_below_drewN | apply below_drew1) | exact HB.out)) : P := h
theorem z24_6 {P : Prop} (h : P := by (with_reducible repeat (first | refine blk_drewN ?_ _ | refine blk_drew ?_ | refine blk_alloc ?_ _)); exact BK702.out) : P := h
theorem z24_7 {P : Prop} (h : P := by (with_reducible repeat (first | refine blk_drewN ?_ _ | refine blk_drew ?_ | refine blk_alloc ?_ _)); exact BK708.out) : P := h
theorem z24_8 {P : Prop} (h : P := by (with_reducible repeat (first | refine blk_drewN ?_ _ | refine blk_drew ?_ | refine blk_alloc ?_ _)); exact BK714.out) : P := h
theorem z24_9 {P : Prop} (h : P := by first | (with_reducible assumption) | assumption) : P := h
theorem z24_10 {P : Prop} (h : P := by first | rfl | (simp; done) | (simp [*]; done)) : P := h

attribute [local go_sem high] eqA25
/-! ### laws_FnPoolOrder: function 14 -/
mutual
def laws_FnPoolOrder.j0 : Nat → List (S25) → Int → Int → Bool → Int → List (S25) → Int → List (S25) → Int → List (S25) → Option (Bool)
 | 0, _, _, _, _, _, _, _, _, _, _ => none
 | k + 1, x4, x6, x8, x52, x703000, x703001, x709000, x709001, x715000, x715001 => if x52 = true then (if x6 = x8 then ((impl_PoolSame.f k x709000 x709001 x715000 x715001).bind fun t717 => (some t717)) else (some false)) else (laws_FnPoolOrder.l0 k x4 0 x703000 x703001 x709000 x709001)
def laws_FnPoolOrder.l0 : Nat → List (S25) → Int → Int → List (S25) → Int → List (S25) → Option (Bool)
 | 0, _, _, _, _, _, _ => none
 | k + 1, x4, x9, x703000, x703001, x709000, x709001 => if x9 < (x4.length : Int) then (laws_FnPoolOrder.l1 k x4 x9 0 x703000 x703001 x709000 x709001) else (laws_FnPoolOrder.l2 k x4 0 x703000 x703001 x709000 x709001)
def laws_FnPoolOrder.l1 : Nat → List (S25) → Int → Int → Int → List (S25) → Int → List (S25) → Option (Bool)
 | 0, _, _, _, _, _, _, _ => none
 | k + 1, x4, x9, x10, x703000, x703001, x709000, x709001 => if x10 < x9 then (if 0 ≤ x10 then (if x10 < (x4.length : Int) then (if 0 ≤ x9 then (if x9 < (x4.length : Int) then (if (((rd_T25 x4 x10).f0) == ((rd_T25 x4 x9).f0) && (((rd_T25 x4 x10).f1) == ((rd_T25 x4 x9).f1))) = true then (some true) else (laws_FnPoolOrder.l1 k x4 x9 (wrap64 (x10 + 1)) x703000 x703001 x709000 x709001)) else (none)) else (none)) else (none)) else (none)) else (laws_FnPoolOrder.l0 k x4 (wrap64 (x9 + 1)) x703000 x703001 x709000 x709001)
def laws_FnPoolOrder.l2 : Nat → List (S25) → Int → Int → List (S25) → Int → List (S25) → Option (Bool)
 | 0, _, _, _, _, _, _ => none
 | k + 1, x4, x11, x703000, x703001, x709000, x709001 => if x11 < (x4.length : Int) then (laws_FnPoolOrder.j4 k x4 x11 (decide (x11 < (x709001.length : Int))) x703000 x703001 x709000 x709001) else (laws_FnPoolOrder.j4 k x4 x11 false x703000 x703001 x709000 x709001)
def laws_FnPoolOrder.j4 : Nat → List (S25) → Int → Bool → Int → List (S25) → Int → List (S25) → Option (Bool)
 | 0, _, _, _, _, _, _, _ => none
 | k + 1, x4, x11, x91, x703000, x703001, x709000, x709001 => if x91 = true then (if 0 ≤ x11 then (if x11 < (x709001.length : Int) then (if 0 ≤ (wrap64 ((wrap64 ((x4.length : Int) - 1)) - x11)) then (if (wrap64 ((wrap64 ((x4.length : Int) - 1)) - x11)) < (x4.length : Int) then (if (!(((rd_T25 x709001 x11).f0) == ((rd_T25 x4 (wrap64 ((wrap64 ((x4.length : Int) - 1)) - x11))).f0)) || (!(((rd_T25 x709001 x11).f1) == ((rd_T25 x4 (wrap64 ((wrap64 ((x4.length : Int) - 1)) - x11))).f1)))) = true then (some false) else (laws_FnPoolOrder.l2 k x4 (wrap64 (x11 + 1)) x703000 x703001 x709000 x709001)) else (none)) else (none)) else (none)) else (none)) else (some (decide ((x709001.length : Int) ≥ (x703001.length : Int))))
end
def laws_FnPoolOrder.f (k : Nat) (l0 : List Int) : Option (Bool) := if (l0.length : Int) > 1048576 then (some true) else ((spec_DrawPoolAll.f k l0).bind fun bt695 => ((impl_PoolAll.f bt695.1 bt695.2.1 bt695.2.2).bind fun bt703 => ((spec_PoolAll.f k bt695.1 bt695.2.1 bt695.2.2).bind fun bt709 => (if bt703.2.2 = bt709.2.2 then ((impl_PoolSame.f k bt703.1 bt703.2.1 bt709.1 bt709.2.1).bind fun t715 => (if t715 = true then ((spec_PoolOk.f k bt695.1 bt695.2.1).bind fun t716 => (if t716 = true then (laws_FnPoolOrder.j0 k bt695.2.2 bt703.2.2 bt709.2.2 (bt703.1 != bt695.1) bt695.1 bt695.2.1 bt703.1 bt703.2.1 bt709.1 bt709.2.1) else (laws_FnPoolOrder.j0 k bt695.2.2 bt703.2.2 bt709.2.2 true bt695.1 bt695.2.1 bt703.1 bt703.2.1 bt709.1 bt709.2.1))) else (laws_FnPoolOrder.j0 k bt695.2.2 bt703.2.2 bt709.2.2 true bt695.1 bt695.2.1 bt703.1 bt703.2.1 bt709.1 bt709.2.1))) else (laws_FnPoolOrder.j0 k bt695.2.2 bt703.2.2 bt709.2.2 true bt695.1 bt695.2.1 bt703.1 bt703.2.1 bt709.1 bt709.2.1)))))
theorem laws_FnPoolOrder.mono_l : ∀ k, (∀ y0 y1 y2 y3 y4 y5 y6 y7 y8 y9, LeO (laws_FnPoolOrder.j0 k y0 y1 y2 y3 y4 y5 y6 y7 y8 y9) (laws_FnPoolOrder.j0 (k + 1) y0 y1 y2 y3 y4 y5 y6 y7 y8 y9)) ∧ (∀ y0 y1 y2 y3 y4 y5, LeO (laws_FnPoolOrder.l0 k y0 y1 y2 y3 y4 y5) (laws_FnPoolOrder.l0 (k + 1) y0 y1 y2 y3 y4 y5)) ∧ (∀ y0 y1 y2 y3 y4 y5 y6, LeO (laws_FnPoolOrder.l1 k y0 y1 y2 y3 y4 y5 y6) (laws_FnPoolOrder.l1 (k + 1) y0 y1 y2 y3 y4 y5 y6)) ∧ (∀ y0 y1 y2 y3 y4 y5, LeO (laws_FnPoolOrder.l2 k y0 y1 y2 y3 y4 y5) (laws_FnPoolOrder.l2 (k + 1) y0 y1 y2 y3 y4 y5)) ∧ (∀ y0 y1 y2 y3 y4 y5 y6, LeO (laws_FnPoolOrder.j4 k y0 y1 y2 y3 y4 y5 y6) (laws_FnPoolOrder.j4 (k + 1) y0 y1 y2 y3 y4 y5 y6))
 | 0 => ⟨fun _ _ _ _ _ _ _ _ _ _ r h => by simp [laws_FnPoolOrder.j0] at h, fun _ _ _ _ _ _ r h => by simp [laws_FnPoolOrder.l0] at h, fun _ _ _ _ _ _ _ r h => by simp [laws_FnPoolOrder.l1] at h, fun _ _ _ _ _ _ r h => by simp [laws_FnPoolOrder.l2] at h, fun _ _ _ _ _ _ _ r h => by simp [laws_FnPoolOrder.j4] at h⟩
 | k + 1 => by
  obtain ⟨ih0, ih1, ih2, ih3, ih4⟩ := laws_FnPoolOrder.mono_l k
  refine ⟨?_, ?_, ?_, ?_, ?_⟩
  ·intro y0 y1 y2 y3 y4 y5 y6 y7 y8 y9
   unfold laws_FnPoolOrder.j0
   repeat' first
   | (with_reducible exact ih0 _ _ _ _ _ _ _ _ _ _)
   | (with_reducible exact ih1 _ _ _ _ _ _)
   | (with_reducible exact ih2 _ _ _ _ _ _ _)
   | (with_reducible exact ih3 _ _ _ _ _ _)
   | (with_reducible exact ih4 _ _ _ _ _ _ _)
   | (with_reducible exact impl_PoolSame.mono _ _ _ _ _)
   | (with_reducible exact spec_DrawPoolAll.mono _ _)
   | (with_reducible exact spec_PoolAll.mono _ _ _ _)
   | (with_reducible exact spec_PoolOk.mono _ _ _)
   | (with_reducible exact LeO.refl _)
   | (with_reducible exact LeO.none _)
   | (with_reducible refine LeO.ite ?_ ?_)
   | (with_reducible refine LeO.bind ?_ (fun _ => ?_))
   | exact ih0 _ _ _ _ _ _ _ _ _ _
   | exact ih1 _ _ _ _ _ _
   | exact ih2 _ _ _ _ _ _ _
   | exact ih3 _ _ _ _ _ _
   | exact ih4 _ _ _ _ _ _ _
   | exact impl_PoolSame.mono _ _ _ _ _
   | exact spec_DrawPoolAll.mono _ _
   | exact spec_PoolAll.mono _ _ _ _
   | exact spec_PoolOk.mono _ _ _
   | exact LeO.none _
   | refine LeO.ite ?_ ?_
   | refine LeO.bind ?_ (fun _ => ?_)
  ·intro y0 y1 y2 y3 y4 y5
   unfold laws_FnPoolOrder.l0
   repeat' first
   | (with_reducible exact ih0 _ _ _ _ _ _ _ _ _ _)
   | (with_reducible exact ih1 _ _ _ _ _ _)
   | (with_reducible exact ih2 _ _ _ _ _ _ _)
   | (with_reducible exact ih3 _ _ _ _ _ _)
   | (with_reducible exact ih4 _ _ _ _ _ _ _)
   | (with_reducible exact impl_PoolSame.mono _ _ _ _ _)
   | (with_reducible exact spec_DrawPoolAll.mono _ _)
   | (with_reducible exact spec_PoolAll.mono _ _ _ _)
   | (with_reducible exact spec_PoolOk.mono _ _ _)
   | (with_reducible exact LeO.refl _)
   | (with_reducible exact LeO.none _)
   | (with_reducible refine LeO.ite ?_ ?_)
   | (with_reducible refine LeO.bind ?_ (fun _ => ?_))
   | exact ih0 _ _ _ _ _ _ _ _ _ _
   | exact ih1 _ _ _ _ _ _
   | exact ih2 _ _ _ _ _ _ _
   | exact ih3 _ _ _ _ _ _
   | exact ih4 _ _ _ _ _ _ _
   | exact impl_PoolSame.mono _ _ _ _ _
   | exact spec_DrawPoolAll.mono _ _
   | exact spec_PoolAll.mono _ _ _ _
   | exact spec_PoolOk.mono _ _ _
   | exact LeO.none _
   | refine LeO.ite ?_ ?_
   | refine LeO.bind ?_ (fun _ => ?_)
  ·intro y0 y1 y2 y3 y4 y5 y6
   unfold laws_FnPoolOrder.l1
   repeat' first
   | (with_reducible exact ih0 _ _ _ _ _ _ _ _ _ _)
   | (with_reducible exact ih1 _ _ _ _ _ _)
   | (with_reducible exact ih2 _ _ _ _ _ _ _)
   | (with_reducible exact ih3 _ _ _ _ _ _)
   | (with_reducible exact ih4 _ _ _ _ _ _ _)
   | (with_reducible exact impl_PoolSame.mono _ _ _ _ _)
   | (with_reducible exact spec_DrawPoolAll.mono _ _)
   | (with_reducible exact spec_PoolAll.mono _ _ _ _)
   | (with_reducible exact spec_PoolOk.mono _ _ _)
   | (with_reducible exact LeO.refl _)
   | (with_reducible exact LeO.none _)
   | (with_reducible refine LeO.ite ?_ ?_)
   | (with_reducible refine LeO.bind ?_ (fun _ => ?_))
   | exact ih0 _ _ _ _ _ _ _ _ _ _
   | exact ih1 _ _ _ _ _ _
   | exact ih2 _ _ _ _ _ _ _
   | exact ih3 _ _ _ _ _ _
   | exact ih4 _ _ _ _ _ _ _
   | exact impl_PoolSame.mono _ _ _ _ _
   | exact spec_DrawPoolAll.mono _ _
   | exact spec_PoolAll.mono _ _ _ _
   | exact spec_PoolOk.mono _ _ _
   | exact LeO.none _
   | refine LeO.ite ?_ ?_
   | refine LeO.bind ?_ (fun _ => ?_)
  ·intro y0 y1 y2 y3 y4 y5
   unfold laws_FnPoolOrder.l2
   repeat' first
   | (with_reducible exact ih0 _ _ _ _ _ _ _ _ _ _)
   | (with_reducible exact ih1 _ _ _ _ _ _)
   | (with_reducible exact ih2 _ _ _ _ _ _ _)
   | (with_reducible exact ih3 _ _ _ _ _ _)
   | (with_reducible exact ih4 _ _ _ _ _ _ _)
   | (with_reducible exact impl_PoolSame.mono _ _ _ _ _)
   | (with_reducible exact spec_DrawPoolAll.mono _ _)
   | (with_reducible exact spec_PoolAll.mono _ _ _ _)
   | (with_reducible exact spec_PoolOk.mono _ _ _)
   | (with_reducible exact LeO.refl _)
   | (with_reducible exact LeO.none _)
   | (with_reducible refine LeO.ite ?_ ?_)
   | (with_reducible refine LeO.bind ?_ (fun _ => ?_))
   | exact ih0 _ _ _ _ _ _ _ _ _ _
   | exact ih1 _ _ _ _ _ _
   | exact ih2 _ _ _ _ _ _ _
   | exact ih3 _ _ _ _ _ _
   | exact ih4 _ _ _ _ _ _ _
   | exact impl_PoolSame.mono _ _ _ _ _
   | exact spec_DrawPoolAll.mono _ _
   | exact spec_PoolAll.mono _ _ _ _
   | exact spec_PoolOk.mono _ _ _
   | exact LeO.none _
   | refine LeO.ite ?_ ?_
   | refine LeO.bind ?_ (fun _ => ?_)
  ·intro y0 y1 y2 y3 y4 y5 y6
   unfold laws_FnPoolOrder.j4
   repeat' first
   | (with_reducible exact ih0 _ _ _ _ _ _ _ _ _ _)
   | (with_reducible exact ih1 _ _ _ _ _ _)
   | (with_reducible exact ih2 _ _ _ _ _ _ _)
   | (with_reducible exact ih3 _ _ _ _ _ _)
   | (with_reducible exact ih4 _ _ _ _ _ _ _)
   | (with_reducible exact impl_PoolSame.mono _ _ _ _ _)
   | (with_reducible exact spec_DrawPoolAll.mono _ _)
   | (with_reducible exact spec_PoolAll.mono _ _ _ _)
   | (with_reducible exact spec_PoolOk.mono _ _ _)
   | (with_reducible exact LeO.refl _)
   | (with_reducible exact LeO.none _)
   | (with_reducible refine LeO.ite ?_ ?_)
   | (with_reducible refine LeO.bind ?_ (fun _ => ?_))
   | exact ih0 _ _ _ _ _ _ _ _ _ _
   | exact ih1 _ _ _ _ _ _
   | exact ih2 _ _ _ _ _ _ _
   | exact ih3 _ _ _ _ _ _
   | exact ih4 _ _ _ _ _ _ _
   | exact impl_PoolSame.mono _ _ _ _ _
   | exact spec_DrawPoolAll.mono _ _
   | exact spec_PoolAll.mono _ _ _ _
   | exact spec_PoolOk.mono _ _ _
   | exact LeO.none _
   | refine LeO.ite ?_ ?_
   | refine LeO.bind ?_ (fun _ => ?_)
theorem laws_FnPoolOrder.mono : ∀ a0 k, LeO (laws_FnPoolOrder.f k a0) (laws_FnPoolOrder.f (k + 1) a0) := by
 intro a0 k
 obtain ⟨ih0, ih1, ih2, ih3, ih4⟩ := laws_FnPoolOrder.mono_l k
 unfold laws_FnPoolOrder.f
 repeat' first
   | (with_reducible exact ih0 _ _ _ _ _ _ _ _ _ _)
   | (with_reducible exact ih1 _ _ _ _ _ _)
   | (with_reducible exact ih2 _ _ _ _ _ _ _)
   | (with_reducible exact ih3 _ _ _ _ _ _)
   | (with_reducible exact ih4 _ _ _ _ _ _ _)
   | (with_reducible exact impl_PoolSame.mono _ _ _ _ _)
   | (with_reducible exact spec_DrawPoolAll.mono _ _)
   | (with_reducible exact spec_PoolAll.mono _ _ _ _)
   | (with_reducible exact spec_PoolOk.mono _ _ _)
   | (with_reducible exact LeO.refl _)
   | (with_reducible exact LeO.none _)
   | (with_reducible refine LeO.ite ?_ ?_)
   | (with_reducible refine LeO.bind ?_ (fun _ => ?_))
   | exact ih0 _ _ _ _ _ _ _ _ _ _
   | exact ih1 _ _ _ _ _ _
   | exact ih2 _ _ _ _ _ _ _
   | exact ih3 _ _ _ _ _ _
   | exact ih4 _ _ _ _ _ _ _
   | exact impl_PoolSame.mono _ _ _ _ _
   | exact spec_DrawPoolAll.mono _ _
   | exact spec_PoolAll.mono _ _ _ _
   | exact spec_PoolOk.mono _ _ _
   | exact LeO.none _
   | refine LeO.ite ?_ ?_
   | refine LeO.bind ?_ (fun _ => ?_)
set_option maxHeartbeats 8000000 in
set_option maxRecDepth 100000 in
theorem laws_FnPoolOrder.calls (k : Nat) (A0 : Option Addr) (c0 : Nat) (l0 : List Int) (r : Bool) (w : World) (hr0 : Kd.C (Kd.int .u8) w A0 l0.length l0) (hc0 : l0.length ≤ c0) (hT : r = true) (h : laws_FnPoolOrder.f k l0 = some r) :
  Calls Try.prog 14 #[.slice A0 l0.length c0] w fun e w' => e = .returned (.bool r) ∧ Below w.heap.size w w' := by
 have hu46 := Try.underlying46
 have hu25 := Try.underlying25
 have HR0 := Aside0.mk hr0
 have HC0 := Aside0.mk hc0
 clear hr0 hc0
 have HB := Aside0.mk (Below.refl w.heap.size w)
 have H : (if (l0.length : Int) > 1048576 then (some true) else ((spec_DrawPoolAll.f k l0).bind fun bt695 => ((impl_PoolAll.f bt695.1 bt695.2.1 bt695.2.2).bind fun bt703 => ((spec_PoolAll.f k bt695.1 bt695.2.1 bt695.2.2).bind fun bt709 => (if bt703.2.2 = bt709.2.2 then ((impl_PoolSame.f k bt703.1 bt703.2.1 bt709.1 bt709.2.1).bind fun t715 => (if t715 = true then ((spec_PoolOk.f k bt695.1 bt695.2.1).bind fun t716 => (if t716 = true then (laws_FnPoolOrder.j0 k bt695.2.2 bt703.2.2 bt709.2.2 (bt703.1 != bt695.1) bt695.1 bt695.2.1 bt703.1 bt703.2.1 bt709.1 bt709.2.1) else (laws_FnPoolOrder.j0 k bt695.2.2 bt703.2.2 bt709.2.2 true bt695.1 bt695.2.1 bt703.1 bt703.2.1 bt709.1 bt709.2.1))) else (laws_FnPoolOrder.j0 k bt695.2.2 bt703.2.2 bt709.2.2 true bt695.1 bt695.2.1 bt703.1 bt703.2.1 bt709.1 bt709.2.1))) else (laws_FnPoolOrder.j0 k bt695.2.2 bt703.2.2 bt709.2.2 true bt695.1 bt695.2.1 bt703.1 bt703.2.1 bt709.1 bt709.2.1)))))) = some r := h
 clear h
 by_cases c2 : (l0.length : Int) > 1048576
 ·rw [if_pos c2] at H
  have c2b0 : decide (1048576 < (l0.length : Int)) = true := decide_eq_true c2
  have c2b1 : decide (1048576 < l0.length) = true := decide_eq_true (by omega)
  clear c2
  obtain rfl := Option.some.inj H
  go_enter Try.func14, Try.ntmps14
  go_wp2
  repeat (go_quiet (fail); try go_wp2)
  go_ret
  exact ⟨by first | rfl | (simp [errW_none, errW_some] <;> rfl) | (simp [*, errW_none, errW_some] <;> rfl), by repeat (first | (with_reducible first | exact HB.out | apply below_alloc | apply pw_below_drewN | apply below_drew1) | exact HB.out)⟩
 ·rw [if_neg c2] at H
  have c2b0 : decide (1048576 < (l0.length : Int)) = false := decide_eq_false c2
  have c2b1 : decide (1048576 < l0.length) = false := decide_eq_false (by omega)
  clear c2
  replace H := Option.bind_eq_some_iff.mp H
  obtain ⟨⟨t695, t696, t699⟩, A30, H⟩ := H
  replace H : ((impl_PoolAll.f t695 t696 t699).bind fun bt703 => ((spec_PoolAll.f k t695 t696 t699).bind fun bt709 => (if bt703.2.2 = bt709.2.2 then ((impl_PoolSame.f k bt703.1 bt703.2.1 bt709.1 bt709.2.1).bind fun t715 => (if t715 = true then ((spec_PoolOk.f k t695 t696).bind fun t716 => (if t716 = true then (laws_FnPoolOrder.j0 k t699 bt703.2.2 bt709.2.2 (bt703.1 != t695) t695 t696 bt703.1 bt703.2.1 bt709.1 bt709.2.1) else (laws_FnPoolOrder.j0 k t699 bt703.2.2 bt709.2.2 true t695 t696 bt703.1 bt703.2.1 bt709.1 bt709.2.1))) else (laws_FnPoolOrder.j0 k t699 bt703.2.2 bt709.2.2 true t695 t696 bt703.1 bt703.2.1 bt709.1 bt709.2.1))) else (laws_FnPoolOrder.j0 k t699 bt703.2.2 bt709.2.2 true t695 t696 bt703.1 bt703.2.1 bt709.1 bt709.2.1)))) = some r := H
  have A3 := Aside0.mk A30
  clear A30
  replace H := Option.bind_eq_some_iff.mp H
  obtain ⟨⟨t703, t704, t707⟩, A40, H⟩ := H
  replace H : ((spec_PoolAll.f k t695 t696 t699).bind fun bt709 => (if t707 = bt709.2.2 then ((impl_PoolSame.f k t703 t704 bt709.1 bt709.2.1).bind fun t715 => (if t715 = true then ((spec_PoolOk.f k t695 t696).bind fun t716 => (if t716 = true then (laws_FnPoolOrder.j0 k t699 t707 bt709.2.2 (t703 != t695) t695 t696 t703 t704 bt709.1 bt709.2.1) else (laws_FnPoolOrder.j0 k t699 t707 bt709.2.2 true t695 t696 t703 t704 bt709.1 bt709.2.1))) else (laws_FnPoolOrder.j0 k t699 t707 bt709.2.2 true t695 t696 t703 t704 bt709.1 bt709.2.1))) else (laws_FnPoolOrder.j0 k t699 t707 bt709.2.2 true t695 t696 t703 t704 bt709.1 bt709.2.1))) = some r := H
  have A4 := Aside0.mk A40
  clear A40
  replace H := Option.bind_eq_some_iff.mp H
  obtain ⟨⟨t709, t710, t713⟩, A50, H⟩ := H
  replace H : (if t707 = t713 then ((impl_PoolSame.f k t703 t704 t709 t710).bind fun t715 => (if t715 = true then ((spec_PoolOk.f k t695 t696).bind fun t716 => (if t716 = true then (laws_FnPoolOrder.j0 k t699 t707 t713 (t703 != t695) t695 t696 t703 t704 t709 t710) else (laws_FnPoolOrder.j0 k t699 t707 t713 true t695 t696 t703 t704 t709 t710))) else (laws_FnPoolOrder.j0 k t699 t707 t713 true t695 t696 t703 t704 t709 t710))) else (laws_FnPoolOrder.j0 k t699 t707 t713 true t695 t696 t703 t704 t709 t710)) = some r := H
  have A5 := Aside0.mk A50
  clear A50
  have HC6 := Aside0.mk H
  clear H
  go_enter Try.func14, Try.ntmps14
  go_upto_region 6 with (first | (go_at_call 44; (with_reducible refine (spec_DrawPoolAll.calls k _ _ l0 t695 t696 t699 _ ?side1 ?side2 A3.out).mono ?_); (case side1 => repeat (first | exact HR0.out | (with_reducible refine Kd.C_alloc ?_ _) | (with_reducible refine Kd.C_drewN ?_ _) | (with_reducible refine Kd.C_drew ?_))); (case side2 => exact HC0.out); rintro e w7 ⟨v697, v700, rfl, ho0, ho1, hb⟩; have n0_ := Aside0.mk (Kd.R_lower ho0 (below_size (z24_5))); have n1_ := Aside0.mk (Kd.R_lower ho1 (below_size (z24_5))); have n2_ := Aside0.mk (below_step (z24_5) hb); clear HB; have HO698 := n0_; have HO701 := n1_; have HB := n2_; clear n0_ n1_ n2_; (try clear hb); (try clear hb2); (try clear hk); (try clear hi); (try clear ho0); (try clear ho1)) | ((with_reducible refine gate_dst (N := 3) rfl ?_); (try (refine gate_guard (by rfl) ?_; dsimp only)); refine box_event ?hg (N := 3) ?hd (cs := #[.int .i64 0, .slice none 0 0]) (t := 46) ?hr ?_; (case hd => rfl); (case hg => rfl); (case hr => first | (go_simp; done) | (go_simp; rfl)); intro gb702 hg w8 hbox hb; have n0_ := Aside0.mk (Kd.R_below (by (with_reducible repeat (first | apply Kd.R_alloc | apply Kd.R_drewN | apply Kd.R_drew)); exact HO698.out) hb); have n1_ := Aside0.mk (Kd.R_below (by (with_reducible repeat (first | apply Kd.R_alloc | apply Kd.R_drewN | apply Kd.R_drew)); exact HO701.out) hb); have n2_ := Aside0.mk (below_step (z24_5) hb); have n3_ := Aside0.mk (hbox); have n4_ := Aside0.mk ((by rw [hg]; exact (below_size (z24_5)) : w.heap.size ≤ gb702)); have n5_ := Aside0.mk ((by rw [hg]; exact (below_size (z24_5)) : w.heap.size ≤ gb702)); clear HO698; clear HO701; clear HB; have HO698 := n0_; have HO701 := n1_; have HB := n2_; have BK702 := n3_; have GW702 := n4_; have GE702 := n5_; clear n0_ n1_ n2_ n3_ n4_ n5_; clear hb hbox hg; have hcz9_0 : w8.cell? ⟨gb702, 0, none⟩ = some (.int .i64 0) := (blk_cell BK702.out 0).trans rfl; have hcz9_1 : w8.cell? ⟨gb702, 1, none⟩ = some (.slice none 0 0) := (blk_cell BK702.out 1).trans rfl; have hfz9_0 := blk_frozen BK702.out 0; have hfz9_1 := blk_frozen BK702.out 1; obtain ⟨Ao10, co10, eo10⟩ := Kd.R_slice HO698.out; subst eo10; obtain ⟨Ao11, co11, eo11⟩ := Kd.R_slice HO701.out; subst eo11) | (go_at_call 45; (with_reducible refine (impl_PoolAll.calls t695 _ _ t696 _ _ t699 t703 t704 t707 _ ?side1 ?side2 ?side3 ?side4 A4.out).mono ?_); (case side1 => refine (Kd.R_reads' (e := 25) (base := w.heap.size) (ok := fun k_ => some k_ ≠ (.slice Ao11 t699.length co11 : Value).ownBlock) (n := t696.length) (c := co10) ?_).2.2; exact (by (with_reducible repeat (first | apply Kd.R_alloc | apply Kd.R_drewN | apply Kd.R_drew)); exact (Kd.R_mono (Kd.R_far (p := ⟨gb702, 1, none⟩) (Kd.R_far (p := ⟨gb702, 0, none⟩) (Kd.R_types HO698.out BK702.out (by decide)) (fun _ hk => hk.2) (.int .i64 t695)) (fun _ hk => hk.2) (.slice Ao10 t696.length co10)) (fun _ h_ => h_.1)))); (case side2 => exact (Kd.R_reads' HO698.out).2.1); (case side3 => refine (Kd.R_reads' (e := 25) (base := w.heap.size) (ok := fun k_ => some k_ ≠ (.slice Ao10 t696.length co10 : Value).ownBlock) (n := t699.length) (c := co11) ?_).2.2; exact (by (with_reducible repeat (first | apply Kd.R_alloc | apply Kd.R_drewN | apply Kd.R_drew)); exact (Kd.R_mono (Kd.R_far (p := ⟨gb702, 1, none⟩) (Kd.R_far (p := ⟨gb702, 0, none⟩) (Kd.R_types HO701.out BK702.out (by decide)) (fun _ hk => hk.2) (.int .i64 t695)) (fun _ hk => hk.2) (.slice Ao10 t696.length co10)) (fun _ h_ => h_.1)))); (case side4 => exact (Kd.R_reads' HO701.out).2.1); rintro e w12 ⟨v705, rfl, ho0, hb⟩; have n0_ := Aside0.mk (Kd.R_elder' (by (with_reducible repeat (first | apply Kd.R_alloc | apply Kd.R_drewN | apply Kd.R_drew)); exact (Kd.R_mono (Kd.R_far (p := ⟨gb702, 1, none⟩) (Kd.R_far (p := ⟨gb702, 0, none⟩) (Kd.R_types HO698.out BK702.out (by decide)) (fun _ hk => hk.2) (.int .i64 t695)) (fun _ hk => hk.2) (.slice Ao10 t696.length co10)) (fun _ h_ => h_.1))) (Kd.R_base ho0) hb); have n1_ := Aside0.mk (Kd.R_elder' (by (with_reducible repeat (first | apply Kd.R_alloc | apply Kd.R_drewN | apply Kd.R_drew)); exact (Kd.R_mono (Kd.R_far (p := ⟨gb702, 1, none⟩) (Kd.R_far (p := ⟨gb702, 0, none⟩) (Kd.R_types HO701.out BK702.out (by decide)) (fun _ hk => hk.2) (.int .i64 t695)) (fun _ hk => hk.2) (.slice Ao10 t696.length co10)) (fun _ h_ => h_.1))) (Kd.R_base ho0) hb); have n2_ := Aside0.mk (Kd.R_lower (Kd.R_new' (Kd.R_new' ho0 (Kd.R_lt (by (with_reducible repeat (first | apply Kd.R_alloc | apply Kd.R_drewN | apply Kd.R_drew)); exact (Kd.R_mono (Kd.R_far (p := ⟨gb702, 1, none⟩) (Kd.R_far (p := ⟨gb702, 0, none⟩) (Kd.R_types HO698.out BK702.out (by decide)) (fun _ hk => hk.2) (.int .i64 t695)) (fun _ hk => hk.2) (.slice Ao10 t696.length co10)) (fun _ h_ => h_.1))))) (Kd.R_lt (by (with_reducible repeat (first | apply Kd.R_alloc | apply Kd.R_drewN | apply Kd.R_drew)); exact (Kd.R_mono (Kd.R_far (p := ⟨gb702, 1, none⟩) (Kd.R_far (p := ⟨gb702, 0, none⟩) (Kd.R_types HO701.out BK702.out (by decide)) (fun _ hk => hk.2) (.int .i64 t695)) (fun _ hk => hk.2) (.slice Ao10 t696.length co10)) (fun _ h_ => h_.1))))) (below_size (z24_4))); have n3_ := Aside0.mk (blk_below (g := gb702) (o := .cells #[.int .i64 t695, .slice Ao10 t696.length co10] 46 (0, 0)) (by (with_reducible repeat (first | refine blk_drewN ?_ _ | refine blk_drew ?_ | refine blk_alloc ?_ _)); refine blk_put (cs := #[.int .i64 t695, .slice none 0 0]) ?_ 1 _ rfl; (with_reducible repeat (first | refine blk_drewN ?_ _ | refine blk_drew ?_ | refine blk_alloc ?_ _)); refine blk_put (cs := #[.int .i64 0, .slice none 0 0]) ?_ 0 _ rfl; (with_reducible repeat (first | refine blk_drewN ?_ _ | refine blk_drew ?_ | refine blk_alloc ?_ _)); exact BK702.out) hb); have n4_ := Aside0.mk (below_step (z24_4) hb); clear HO698; clear HO701; clear BK702; clear HB; have HO698 := n0_; have HO701 := n1_; have HO706 := n2_; have BK702 := n3_; have HB := n4_; clear n0_ n1_ n2_ n3_ n4_; (try clear hb); (try clear hb2); (try clear hk); (try clear hi); (try clear ho0)) | ((with_reducible refine gate_dst (N := 5) rfl ?_); (try (refine gate_guard (by rfl) ?_; dsimp only)); refine box_event ?hg (N := 5) ?hd (cs := #[.int .i64 0, .slice none 0 0]) (t := 46) ?hr ?_; (case hd => rfl); (case hg => rfl); (case hr => first | (go_simp; done) | (go_simp; rfl)); intro gb708 hg w13 hbox hb; have n0_ := Aside0.mk (Kd.R_below (by (with_reducible repeat (first | apply Kd.R_alloc | apply Kd.R_drewN | apply Kd.R_drew)); exact HO698.out) hb); have n1_ := Aside0.mk (Kd.R_below (by (with_reducible repeat (first | apply Kd.R_alloc | apply Kd.R_drewN | apply Kd.R_drew)); exact HO701.out) hb); have n2_ := Aside0.mk (Kd.R_below (by (with_reducible repeat (first | apply Kd.R_alloc | apply Kd.R_drewN | apply Kd.R_drew)); exact HO706.out) hb); have n3_ := Aside0.mk (blk_below (g := gb702) (o := .cells #[.int .i64 t695, .slice Ao10 t696.length co10] 46 (0, 0)) (z24_6) hb); have n4_ := Aside0.mk (below_step (z24_4) hb); have n5_ := Aside0.mk (hbox); have n6_ := Aside0.mk ((by rw [hg]; exact (below_size (z24_4)) : w.heap.size ≤ gb708)); have n7_ := Aside0.mk ((by rw [hg]; exact (below_size (z24_4)) : w.heap.size ≤ gb708)); have n8_ := Aside0.mk ((by rw [hg]; exact Nat.ne_of_lt (blk_lt (g := gb702) (o := .cells #[.int .i64 t695, .slice Ao10 t696.length co10] 46 (0, 0)) (z24_6)) : gb702 ≠ gb708)); have n9_ := Aside0.mk ((by rw [hg]; exact Nat.ne_of_gt (blk_lt (g := gb702) (o := .cells #[.int .i64 t695, .slice Ao10 t696.length co10] 46 (0, 0)) (z24_6)) : gb708 ≠ gb702)); clear HO698; clear HO701; clear HO706; clear BK702; clear HB; have HO698 := n0_; have HO701 := n1_; have HO706 := n2_; have BK702 := n3_; have HB := n4_; have BK708 := n5_; have GW708 := n6_; have GE708 := n7_; have NB702_708 := n8_; have NB708_702 := n9_; clear n0_ n1_ n2_ n3_ n4_ n5_ n6_ n7_ n8_ n9_; clear hb hbox hg; have hnb14 := NB708_702.out; have hnc14 := NB702_708.out; have hcz15_0 : w13.cell? ⟨gb708, 0, none⟩ = some (.int .i64 0) := (blk_cell BK708.out 0).trans rfl; have hcz15_1 : w13.cell? ⟨gb708, 1, none⟩ = some (.slice none 0 0) := (blk_cell BK708.out 1).trans rfl; have hfz15_0 := blk_frozen BK708.out 0; have hfz15_1 := blk_frozen BK708.out 1; obtain ⟨Ao16, co16, eo16⟩ := Kd.R_slice HO706.out; subst eo16; have hcz17_0 : w13.cell? ⟨gb702, 0, none⟩ = some (.int .i64 t695) := (blk_cell BK702.out 0).trans rfl; have hcz17_1 : w13.cell? ⟨gb702, 1, none⟩ = some (.slice Ao10 t696.length co10) := (blk_cell BK702.out 1).trans rfl; have hfz17_0 := blk_frozen BK702.out 0; have hfz17_1 := blk_frozen BK702.out 1) | (go_at_call 46; (with_reducible refine (spec_PoolAll.calls k t695 _ _ t696 _ _ t699 t709 t710 t713 _ ?side1 ?side2 ?side3 ?side4 A5.out).mono ?_); (case side1 => refine (Kd.R_reads' (e := 25) (base := w.heap.size) (ok := fun k_ => (some k_ ≠ (.slice Ao11 t699.length co11 : Value).ownBlock ∧ some k_ ≠ (.slice Ao16 t704.length co16 : Value).ownBlock)) (n := t696.length) (c := co10) ?_).2.2; exact (by (with_reducible repeat (first | apply Kd.R_alloc | apply Kd.R_drewN | apply Kd.R_drew)); exact (Kd.R_mono (Kd.R_far (p := ⟨gb708, 1, none⟩) (Kd.R_far (p := ⟨gb708, 0, none⟩) (Kd.R_types HO698.out BK708.out (by decide)) (fun _ hk => hk.2) (.int .i64 t703)) (fun _ hk => hk.2) (.slice Ao16 t704.length co16)) (fun _ h_ => h_.1)))); (case side2 => exact (Kd.R_reads' HO698.out).2.1); (case side3 => refine (Kd.R_reads' (e := 25) (base := w.heap.size) (ok := fun k_ => (some k_ ≠ (.slice Ao10 t696.length co10 : Value).ownBlock ∧ some k_ ≠ (.slice Ao16 t704.length co16 : Value).ownBlock)) (n := t699.length) (c := co11) ?_).2.2; exact (by (with_reducible repeat (first | apply Kd.R_alloc | apply Kd.R_drewN | apply Kd.R_drew)); exact (Kd.R_mono (Kd.R_far (p := ⟨gb708, 1, none⟩) (Kd.R_far (p := ⟨gb708, 0, none⟩) (Kd.R_types HO701.out BK708.out (by decide)) (fun _ hk => hk.2) (.int .i64 t703)) (fun _ hk => hk.2) (.slice Ao16 t704.length co16)) (fun _ h_ => h_.1)))); (case side4 => exact (Kd.R_reads' HO701.out).2.1); rintro e w18 ⟨v711, rfl, ho0, hb⟩; have n0_ := Aside0.mk (Kd.R_elder' (by (with_reducible repeat (first | apply Kd.R_alloc | apply Kd.R_drewN | apply Kd.R_drew)); exact (Kd.R_mono (Kd.R_far (p := ⟨gb708, 1, none⟩) (Kd.R_far (p := ⟨gb708, 0, none⟩) (Kd.R_types HO698.out BK708.out (by decide)) (fun _ hk => hk.2) (.int .i64 t703)) (fun _ hk => hk.2) (.slice Ao16 t704.length co16)) (fun _ h_ => h_.1))) (Kd.R_base ho0) hb); have n1_ := Aside0.mk (Kd.R_elder' (by (with_reducible repeat (first | apply Kd.R_alloc | apply Kd.R_drewN | apply Kd.R_drew)); exact (Kd.R_mono (Kd.R_far (p := ⟨gb708, 1, none⟩) (Kd.R_far (p := ⟨gb708, 0, none⟩) (Kd.R_types HO701.out BK708.out (by decide)) (fun _ hk => hk.2) (.int .i64 t703)) (fun _ hk => hk.2) (.slice Ao16 t704.length co16)) (fun _ h_ => h_.1))) (Kd.R_base ho0) hb); have n2_ := Aside0.mk (Kd.R_elder' (by (with_reducible repeat (first | apply Kd.R_alloc | apply Kd.R_drewN | apply Kd.R_drew)); exact (Kd.R_mono (Kd.R_far (p := ⟨gb708, 1, none⟩) (Kd.R_far (p := ⟨gb708, 0, none⟩) (Kd.R_types HO706.out BK708.out (by decide)) (fun _ hk => hk.2) (.int .i64 t703)) (fun _ hk => hk.2) (.slice Ao16 t704.length co16)) (fun _ h_ => h_.1))) (Kd.R_base ho0) hb); have n3_ := Aside0.mk (Kd.R_lower (Kd.R_new' (Kd.R_new' (Kd.R_new' ho0 (Kd.R_lt (by (with_reducible repeat (first | apply Kd.R_alloc | apply Kd.R_drewN | apply Kd.R_drew)); exact (Kd.R_mono (Kd.R_far (p := ⟨gb708, 1, none⟩) (Kd.R_far (p := ⟨gb708, 0, none⟩) (Kd.R_types HO698.out BK708.out (by decide)) (fun _ hk => hk.2) (.int .i64 t703)) (fun _ hk => hk.2) (.slice Ao16 t704.length co16)) (fun _ h_ => h_.1))))) (Kd.R_lt (by (with_reducible repeat (first | apply Kd.R_alloc | apply Kd.R_drewN | apply Kd.R_drew)); exact (Kd.R_mono (Kd.R_far (p := ⟨gb708, 1, none⟩) (Kd.R_far (p := ⟨gb708, 0, none⟩) (Kd.R_types HO701.out BK708.out (by decide)) (fun _ hk => hk.2) (.int .i64 t703)) (fun _ hk => hk.2) (.slice Ao16 t704.length co16)) (fun _ h_ => h_.1))))) (Kd.R_lt (by (with_reducible repeat (first | apply Kd.R_alloc | apply Kd.R_drewN | apply Kd.R_drew)); exact (Kd.R_mono (Kd.R_far (p := ⟨gb708, 1, none⟩) (Kd.R_far (p := ⟨gb708, 0, none⟩) (Kd.R_types HO706.out BK708.out (by decide)) (fun _ hk => hk.2) (.int .i64 t703)) (fun _ hk => hk.2) (.slice Ao16 t704.length co16)) (fun _ h_ => h_.1))))) (below_size (z24_3))); have n4_ := Aside0.mk (blk_below (g := gb702) (o := .cells #[.int .i64 t695, .slice Ao10 t696.length co10] 46 (0, 0)) (by (with_reducible repeat (first | refine blk_drewN ?_ _ | refine blk_drew ?_ | refine blk_alloc ?_ _)); refine blk_far ?_ NB702_708.out _; (with_reducible repeat (first | refine blk_drewN ?_ _ | refine blk_drew ?_ | refine blk_alloc ?_ _)); refine blk_far ?_ NB702_708.out _; (with_reducible repeat (first | refine blk_drewN ?_ _ | refine blk_drew ?_ | refine blk_alloc ?_ _)); exact BK702.out) hb); have n5_ := Aside0.mk (blk_below (g := gb708) (o := .cells #[.int .i64 t703, .slice Ao16 t704.length co16] 46 (0, 0)) (by (with_reducible repeat (first | refine blk_drewN ?_ _ | refine blk_drew ?_ | refine blk_alloc ?_ _)); refine blk_put (cs := #[.int .i64 t703, .slice none 0 0]) ?_ 1 _ rfl; (with_reducible repeat (first | refine blk_drewN ?_ _ | refine blk_drew ?_ | refine blk_alloc ?_ _)); refine blk_put (cs := #[.int .i64 0, .slice none 0 0]) ?_ 0 _ rfl; (with_reducible repeat (first | refine blk_drewN ?_ _ | refine blk_drew ?_ | refine blk_alloc ?_ _)); exact BK708.out) hb); have n6_ := Aside0.mk (below_step (z24_3) hb); clear HO698; clear HO701; clear HO706; clear BK702; clear BK708; clear HB; have HO698 := n0_; have HO701 := n1_; have HO706 := n2_; have HO712 := n3_; have BK702 := n4_; have BK708 := n5_; have HB := n6_; clear n0_ n1_ n2_ n3_ n4_ n5_ n6_; (try clear hb); (try clear hb2); (try clear hk); (try clear hi); (try clear ho0)) | ((with_reducible refine gate_dst (N := 7) rfl ?_); (try (refine gate_guard (by rfl) ?_; dsimp only)); refine box_event ?hg (N := 7) ?hd (cs := #[.int .i64 0, .slice none 0 0]) (t := 46) ?hr ?_; (case hd => rfl); (case hg => rfl); (case hr => first | (go_simp; done) | (go_simp; rfl)); intro gb714 hg w19 hbox hb; have n0_ := Aside0.mk (Kd.R_below (by (with_reducible repeat (first | apply Kd.R_alloc | apply Kd.R_drewN | apply Kd.R_drew)); exact HO698.out) hb); have n1_ := Aside0.mk (Kd.R_below (by (with_reducible repeat (first | apply Kd.R_alloc | apply Kd.R_drewN | apply Kd.R_drew)); exact HO701.out) hb); have n2_ := Aside0.mk (Kd.R_below (by (with_reducible repeat (first | apply Kd.R_alloc | apply Kd.R_drewN | apply Kd.R_drew)); exact HO706.out) hb); have n3_ := Aside0.mk (Kd.R_below (by (with_reducible repeat (first | apply Kd.R_alloc | apply Kd.R_drewN | apply Kd.R_drew)); exact HO712.out) hb); have n4_ := Aside0.mk (blk_below (g := gb702) (o := .cells #[.int .i64 t695, .slice Ao10 t696.length co10] 46 (0, 0)) (z24_6) hb); have n5_ := Aside0.mk (blk_below (g := gb708) (o := .cells #[.int .i64 t703, .slice Ao16 t704.length co16] 46 (0, 0)) (z24_7) hb); have n6_ := Aside0.mk (below_step (z24_3) hb); have n7_ := Aside0.mk (hbox); have n8_ := Aside0.mk ((by rw [hg]; exact (below_size (z24_3)) : w.heap.size ≤ gb714)); have n9_ := Aside0.mk ((by rw [hg]; exact (below_size (z24_3)) : w.heap.size ≤ gb714)); have n10_ := Aside0.mk ((by rw [hg]; exact Nat.ne_of_lt (blk_lt (g := gb702) (o := .cells #[.int .i64 t695, .slice Ao10 t696.length co10] 46 (0, 0)) (z24_6)) : gb702 ≠ gb714)); have n11_ := Aside0.mk ((by rw [hg]; exact Nat.ne_of_gt (blk_lt (g := gb702) (o := .cells #[.int .i64 t695, .slice Ao10 t696.length co10] 46 (0, 0)) (z24_6)) : gb714 ≠ gb702)); have n12_ := Aside0.mk ((by rw [hg]; exact Nat.ne_of_lt (blk_lt (g := gb708) (o := .cells #[.int .i64 t703, .slice Ao16 t704.length co16] 46 (0, 0)) (z24_7)) : gb708 ≠ gb714)); have n13_ := Aside0.mk ((by rw [hg]; exact Nat.ne_of_gt (blk_lt (g := gb708) (o := .cells #[.int .i64 t703, .slice Ao16 t704.length co16] 46 (0, 0)) (z24_7)) : gb714 ≠ gb708)); clear HO698; clear HO701; clear HO706; clear HO712; clear BK702; clear BK708; clear HB; have HO698 := n0_; have HO701 := n1_; have HO706 := n2_; have HO712 := n3_; have BK702 := n4_; have BK708 := n5_; have HB := n6_; have BK714 := n7_; have GW714 := n8_; have GE714 := n9_; have NB702_714 := n10_; have NB714_702 := n11_; have NB708_714 := n12_; have NB714_708 := n13_; clear n0_ n1_ n2_ n3_ n4_ n5_ n6_ n7_ n8_ n9_ n10_ n11_ n12_ n13_; clear hb hbox hg; have hnb20 := NB714_702.out; have hnc20 := NB702_714.out; have hnb21 := NB714_708.out; have hnc21 := NB708_714.out; have hcz22_0 : w19.cell? ⟨gb714, 0, none⟩ = some (.int .i64 0) := (blk_cell BK714.out 0).trans rfl; have hcz22_1 : w19.cell? ⟨gb714, 1, none⟩ = some (.slice none 0 0) := (blk_cell BK714.out 1).trans rfl; have hfz22_0 := blk_frozen BK714.out 0; have hfz22_1 := blk_frozen BK714.out 1; obtain ⟨Ao23, co23, eo23⟩ := Kd.R_slice HO712.out; subst eo23))
  repeat (go_quiet (fail); try go_wp2)
  (try simp only [Act.put, List.setIfInBounds_toArray, List.set_cons_zero, List.set_cons_succ])
  go_cut [52] (fun v52 wc => ∃ (kq : Nat) (x52_5 : Bool), v52 = .bool x52_5 ∧ Aside0 (laws_FnPoolOrder.j0 kq t699 t707 t713 x52_5 t695 t696 t703 t704 t709 t710 = some r) ∧ Aside0 (kq ≤ k) ∧ Aside0 (Kd.R k25 25 wc w.heap.size (fun k_ => some k_ ≠ ((.slice Ao10 t696.length co10) : Value).ownBlock ∧ some k_ ≠ ((.slice Ao16 t704.length co16) : Value).ownBlock ∧ some k_ ≠ ((.slice Ao23 t710.length co23) : Value).ownBlock) (.slice Ao11 t699.length co11) t699) ∧ Aside0 (Kd.R k25 25 wc w.heap.size (fun k_ => some k_ ≠ ((.slice Ao11 t699.length co11) : Value).ownBlock ∧ some k_ ≠ ((.slice Ao16 t704.length co16) : Value).ownBlock ∧ some k_ ≠ ((.slice Ao23 t710.length co23) : Value).ownBlock) (.slice Ao10 t696.length co10) t696) ∧ Aside0 (Kd.R k25 25 wc w.heap.size (fun k_ => some k_ ≠ ((.slice Ao11 t699.length co11) : Value).ownBlock ∧ some k_ ≠ ((.slice Ao10 t696.length co10) : Value).ownBlock ∧ some k_ ≠ ((.slice Ao23 t710.length co23) : Value).ownBlock) (.slice Ao16 t704.length co16) t704) ∧ Aside0 (Kd.R k25 25 wc w.heap.size (fun k_ => some k_ ≠ ((.slice Ao11 t699.length co11) : Value).ownBlock ∧ some k_ ≠ ((.slice Ao10 t696.length co10) : Value).ownBlock ∧ some k_ ≠ ((.slice Ao16 t704.length co16) : Value).ownBlock) (.slice Ao23 t710.length co23) t710) ∧ Aside0 (wc.heap[gb702]? = some (.cells #[.int .i64 t695, (.slice Ao10 t696.length co10)] 46 (0, 0))) ∧ Aside0 (wc.heap[gb708]? = some (.cells #[.int .i64 t703, (.slice Ao16 t704.length co16)] 46 (0, 0))) ∧ Aside0 (wc.heap[gb714]? = some (.cells #[.int .i64 t709, (.slice Ao23 t710.length co23)] 46 (0, 0))) ∧ Aside0 (Below w.heap.size w wc))
  case first =>
   have H := HC6.out
   clear HC6
   by_cases c24 : t707 = t713
   ·rw [if_pos c24] at H
    have c24b0 : (t707 == t713) = true := beq_iff_eq.mpr c24
    have c24b1 : (t707 != t713) = false := bne_eq_false_iff_eq.mpr c24
    clear c24
    (first | rw [c24b0] | (simp only [i64_w, i32_w]; rw [c24b0]) | skip)
    replace H := Option.bind_eq_some_iff.mp H
    obtain ⟨t715, A250, H⟩ := H
    replace H : (if t715 = true then ((spec_PoolOk.f k t695 t696).bind fun t716 => (if t716 = true then (laws_FnPoolOrder.j0 k t699 t707 t713 (t703 != t695) t695 t696 t703 t704 t709 t710) else (laws_FnPoolOrder.j0 k t699 t707 t713 true t695 t696 t703 t704 t709 t710))) else (laws_FnPoolOrder.j0 k t699 t707 t713 true t695 t696 t703 t704 t709 t710)) = some r := H
    have A25 := Aside0.mk A250
    clear A250
    by_cases c26 : t715 = true
    ·subst c26
     have H1 : ((spec_PoolOk.f k t695 t696).bind fun t716 => (if t716 = true then (laws_FnPoolOrder.j0 k t699 t707 t713 (t703 != t695) t695 t696 t703 t704 t709 t710) else (laws_FnPoolOrder.j0 k t699 t707 t713 true t695 t696 t703 t704 t709 t710))) = some r := by rw [if_pos rfl] at H; exact H
     clear H
     have H := H1
     clear H1
     replace H := Option.bind_eq_some_iff.mp H
     obtain ⟨t716, A270, H⟩ := H
     replace H : (if t716 = true then (laws_FnPoolOrder.j0 k t699 t707 t713 (t703 != t695) t695 t696 t703 t704 t709 t710) else (laws_FnPoolOrder.j0 k t699 t707 t713 true t695 t696 t703 t704 t709 t710)) = some r := H
     have A27 := Aside0.mk A270
     clear A270
     by_cases c28 : t716 = true
     ·subst c28
      have H1 : (laws_FnPoolOrder.j0 k t699 t707 t713 (t703 != t695) t695 t696 t703 t704 t709 t710) = some r := by rw [if_pos rfl] at H; exact H
      clear H
      have H := H1
      clear H1
      have H' := Aside0.mk H
      clear H
      have hnb29 := NB708_702.out
      have hnc29 := NB702_708.out
      have hnb30 := NB708_714.out
      have hnc30 := NB714_708.out
      have hcz31_0 : w19.cell? ⟨gb708, 0, none⟩ = some (.int .i64 t703) := (blk_cell BK708.out 0).trans rfl
      have hcz31_1 : w19.cell? ⟨gb708, 1, none⟩ = some (.slice Ao16 t704.length co16) := (blk_cell BK708.out 1).trans rfl
      have hfz31_0 := blk_frozen BK708.out 0
      have hfz31_1 := blk_frozen BK708.out 1
      have hnb32 := NB714_702.out
      have hnc32 := NB702_714.out
      have hcz33_0 : w19.cell? ⟨gb714, 0, none⟩ = some (.int .i64 0) := (blk_cell BK714.out 0).trans rfl
      have hcz33_1 : w19.cell? ⟨gb714, 1, none⟩ = some (.slice none 0 0) := (blk_cell BK714.out 1).trans rfl
      have hfz33_0 := blk_frozen BK714.out 0
      have hfz33_1 := blk_frozen BK714.out 1
      go_wp2_with (first | (go_at_call 35; (with_reducible refine (impl_PoolSame.calls k t703 _ _ t704 t709 _ _ t710 true _ ?side1 ?side2 ?side3 ?side4 A25.out).mono ?_); (case side1 => refine (Kd.R_reads' (e := 25) (base := w.heap.size) (ok := fun k_ => (((True ∧ some k_ ≠ (.slice Ao10 t696.length co10 : Value).ownBlock) ∧ some k_ ≠ (.slice Ao11 t699.length co11 : Value).ownBlock) ∧ some k_ ≠ (.slice Ao23 t710.length co23 : Value).ownBlock)) (n := t704.length) (c := co16) ?_).2.2; exact (by (with_reducible repeat (first | apply Kd.R_alloc | apply Kd.R_drewN | apply Kd.R_drew)); exact (Kd.R_mono (Kd.R_far (p := ⟨gb714, 1, none⟩) (Kd.R_far (p := ⟨gb714, 0, none⟩) (Kd.R_types HO706.out BK714.out (by decide)) (fun _ hk => hk.2) (.int .i64 t709)) (fun _ hk => hk.2) (.slice Ao23 t710.length co23)) (fun _ h_ => h_.1)))); (case side2 => exact (Kd.R_reads' HO706.out).2.1); (case side3 => refine (Kd.R_reads' (e := 25) (base := w.heap.size) (ok := fun k_ => (((True ∧ some k_ ≠ (.slice Ao10 t696.length co10 : Value).ownBlock) ∧ some k_ ≠ (.slice Ao11 t699.length co11 : Value).ownBlock) ∧ some k_ ≠ (.slice Ao16 t704.length co16 : Value).ownBlock)) (n := t710.length) (c := co23) ?_).2.2; exact (by (with_reducible repeat (first | apply Kd.R_alloc | apply Kd.R_drewN | apply Kd.R_drew)); exact (Kd.R_mono (Kd.R_far (p := ⟨gb714, 1, none⟩) (Kd.R_far (p := ⟨gb714, 0, none⟩) (Kd.R_types HO712.out BK714.out (by decide)) (fun _ hk => hk.2) (.int .i64 t709)) (fun _ hk => hk.2) (.slice Ao23 t710.length co23)) (fun _ h_ => h_.1)))); (case side4 => exact (Kd.R_reads' HO712.out).2.1); rintro e w34 ⟨rfl, hb⟩; have n0_ := Aside0.mk (Kd.R_below (by (with_reducible repeat (first | apply Kd.R_alloc | apply Kd.R_drewN | apply Kd.R_drew)); exact (Kd.R_mono (Kd.R_far (p := ⟨gb714, 1, none⟩) (Kd.R_far (p := ⟨gb714, 0, none⟩) (Kd.R_types HO698.out BK714.out (by decide)) (fun _ hk => hk.2) (.int .i64 t709)) (fun _ hk => hk.2) (.slice Ao23 t710.length co23)) (fun _ h_ => h_.1))) hb); have n1_ := Aside0.mk (Kd.R_below (by (with_reducible repeat (first | apply Kd.R_alloc | apply Kd.R_drewN | apply Kd.R_drew)); exact (Kd.R_mono (Kd.R_far (p := ⟨gb714, 1, none⟩) (Kd.R_far (p := ⟨gb714, 0, none⟩) (Kd.R_types HO701.out BK714.out (by decide)) (fun _ hk => hk.2) (.int .i64 t709)) (fun _ hk => hk.2) (.slice Ao23 t710.length co23)) (fun _ h_ => h_.1))) hb); have n2_ := Aside0.mk (Kd.R_below (by (with_reducible repeat (first | apply Kd.R_alloc | apply Kd.R_drewN | apply Kd.R_drew)); exact (Kd.R_mono (Kd.R_far (p := ⟨gb714, 1, none⟩) (Kd.R_far (p := ⟨gb714, 0, none⟩) (Kd.R_types HO706.out BK714.out (by decide)) (fun _ hk => hk.2) (.int .i64 t709)) (fun _ hk => hk.2) (.slice Ao23 t710.length co23)) (fun _ h_ => h_.1))) hb); have n3_ := Aside0.mk (Kd.R_below (by (with_reducible repeat (first | apply Kd.R_alloc | apply Kd.R_drewN | apply Kd.R_drew)); exact (Kd.R_mono (Kd.R_far (p := ⟨gb714, 1, none⟩) (Kd.R_far (p := ⟨gb714, 0, none⟩) (Kd.R_types HO712.out BK714.out (by decide)) (fun _ hk => hk.2) (.int .i64 t709)) (fun _ hk => hk.2) (.slice Ao23 t710.length co23)) (fun _ h_ => h_.1))) hb); have n4_ := Aside0.mk (blk_below (g := gb702) (o := .cells #[.int .i64 t695, .slice Ao10 t696.length co10] 46 (0, 0)) (z24_0) hb); have n5_ := Aside0.mk (blk_below (g := gb708) (o := .cells #[.int .i64 t703, .slice Ao16 t704.length co16] 46 (0, 0)) (z24_1) hb); have n6_ := Aside0.mk (blk_below (g := gb714) (o := .cells #[.int .i64 t709, .slice Ao23 t710.length co23] 46 (0, 0)) (by (with_reducible repeat (first | refine blk_drewN ?_ _ | refine blk_drew ?_ | refine blk_alloc ?_ _)); refine blk_put (cs := #[.int .i64 t709, .slice none 0 0]) ?_ 1 _ rfl; (with_reducible repeat (first | refine blk_drewN ?_ _ | refine blk_drew ?_ | refine blk_alloc ?_ _)); refine blk_put (cs := #[.int .i64 0, .slice none 0 0]) ?_ 0 _ rfl; (with_reducible repeat (first | refine blk_drewN ?_ _ | refine blk_drew ?_ | refine blk_alloc ?_ _)); exact BK714.out) hb); have n7_ := Aside0.mk (below_step (z24_2) hb); clear HO698; clear HO701; clear HO706; clear HO712; clear BK702; clear BK708; clear BK714; clear HB; have HO698 := n0_; have HO701 := n1_; have HO706 := n2_; have HO712 := n3_; have BK702 := n4_; have BK708 := n5_; have BK714 := n6_; have HB := n7_; clear n0_ n1_ n2_ n3_ n4_ n5_ n6_ n7_; (try clear hb); (try clear hb2); (try clear hk); (try clear hi); have hcz35_0 : w34.cell? ⟨gb702, 0, none⟩ = some (.int .i64 t695) := (blk_cell BK702.out 0).trans rfl; have hcz35_1 : w34.cell? ⟨gb702, 1, none⟩ = some (.slice Ao10 t696.length co10) := (blk_cell BK702.out 1).trans rfl; have hfz35_0 := blk_frozen BK702.out 0; have hfz35_1 := blk_frozen BK702.out 1) | (go_at_call 37; (with_reducible refine (spec_PoolOk.calls k t695 _ _ t696 true _ ?side1 ?side2 A27.out).mono ?_); (case side1 => repeat (first | exact (Kd.R_reads' HO698.out).2.2 | (with_reducible refine Kd.C_alloc ?_ _) | (with_reducible refine Kd.C_drewN ?_ _) | (with_reducible refine Kd.C_drew ?_))); (case side2 => exact (Kd.R_reads' HO698.out).2.1); rintro e w36 ⟨rfl, hb⟩; have n0_ := Aside0.mk (Kd.R_below (by (with_reducible repeat (first | apply Kd.R_alloc | apply Kd.R_drewN | apply Kd.R_drew)); exact HO698.out) hb); have n1_ := Aside0.mk (Kd.R_below (by (with_reducible repeat (first | apply Kd.R_alloc | apply Kd.R_drewN | apply Kd.R_drew)); exact HO701.out) hb); have n2_ := Aside0.mk (Kd.R_below (by (with_reducible repeat (first | apply Kd.R_alloc | apply Kd.R_drewN | apply Kd.R_drew)); exact HO706.out) hb); have n3_ := Aside0.mk (Kd.R_below (by (with_reducible repeat (first | apply Kd.R_alloc | apply Kd.R_drewN | apply Kd.R_drew)); exact HO712.out) hb); have n4_ := Aside0.mk (blk_below (g := gb702) (o := .cells #[.int .i64 t695, .slice Ao10 t696.length co10] 46 (0, 0)) (z24_6) hb); have n5_ := Aside0.mk (blk_below (g := gb708) (o := .cells #[.int .i64 t703, .slice Ao16 t704.length co16] 46 (0, 0)) (z24_7) hb); have n6_ := Aside0.mk (blk_below (g := gb714) (o := .cells #[.int .i64 t709, .slice Ao23 t710.length co23] 46 (0, 0)) (z24_8) hb); have n7_ := Aside0.mk (below_step (z24_2) hb); clear HO698; clear HO701; clear HO706; clear HO712; clear BK702; clear BK708; clear BK714; clear HB; have HO698 := n0_; have HO701 := n1_; have HO706 := n2_; have HO712 := n3_; have BK702 := n4_; have BK708 := n5_; have BK714 := n6_; have HB := n7_; clear n0_ n1_ n2_ n3_ n4_ n5_ n6_ n7_; (try clear hb); (try clear hb2); (try clear hk); (try clear hi); have hcz37_0 : w36.cell? ⟨gb708, 0, none⟩ = some (.int .i64 t703) := (blk_cell BK708.out 0).trans rfl; have hcz37_1 : w36.cell? ⟨gb708, 1, none⟩ = some (.slice Ao16 t704.length co16) := (blk_cell BK708.out 1).trans rfl; have hfz37_0 := blk_frozen BK708.out 0; have hfz37_1 := blk_frozen BK708.out 1; have hcz38_0 : w36.cell? ⟨gb702, 0, none⟩ = some (.int .i64 t695) := (blk_cell BK702.out 0).trans rfl; have hcz38_1 : w36.cell? ⟨gb702, 1, none⟩ = some (.slice Ao10 t696.length co10) := (blk_cell BK702.out 1).trans rfl; have hfz38_0 := blk_frozen BK702.out 0; have hfz38_1 := blk_frozen BK702.out 1))
      repeat (go_quiet (fail); try go_wp2)
      go_meet
      case rel => exact ⟨_, ((t703 != t695)), (z24_10), H', ⟨by first | omega | exact Nat.le_refl _⟩, ⟨by (with_reducible repeat (first | apply Kd.R_alloc | apply Kd.R_drewN | apply Kd.R_drew)); exact Kd.R_mono HO701.out (fun _ hk => ⟨hk.1.1, ⟨hk.1.2, hk.2⟩⟩)⟩, ⟨by (with_reducible repeat (first | apply Kd.R_alloc | apply Kd.R_drewN | apply Kd.R_drew)); exact Kd.R_mono HO698.out (fun _ hk => ⟨hk.1.1, ⟨hk.1.2, hk.2⟩⟩)⟩, ⟨by (with_reducible repeat (first | apply Kd.R_alloc | apply Kd.R_drewN | apply Kd.R_drew)); exact Kd.R_mono HO706.out (fun _ hk => ⟨hk.1.2, ⟨hk.1.1.2, hk.2⟩⟩)⟩, ⟨by (with_reducible repeat (first | apply Kd.R_alloc | apply Kd.R_drewN | apply Kd.R_drew)); exact Kd.R_mono HO712.out (fun _ hk => ⟨hk.1.2, ⟨hk.1.1.2, hk.2⟩⟩)⟩, ⟨by (with_reducible repeat (first | refine blk_drewN ?_ _ | refine blk_drew ?_ | refine blk_alloc ?_ _)); exact BK702.out⟩, ⟨by (with_reducible repeat (first | refine blk_drewN ?_ _ | refine blk_drew ?_ | refine blk_alloc ?_ _)); exact BK708.out⟩, ⟨by (with_reducible repeat (first | refine blk_drewN ?_ _ | refine blk_drew ?_ | refine blk_alloc ?_ _)); exact BK714.out⟩, ⟨by repeat (first | (with_reducible first | exact HB.out | apply below_alloc | apply pw_below_drewN | apply below_drew1 | refine below_set ?_ GE702.out | refine below_set ?_ GE708.out | refine below_set ?_ GE714.out) | exact HB.out)⟩⟩
     ·replace c28 := Bool.eq_false_iff.mpr c28
      subst c28
      have H1 : (laws_FnPoolOrder.j0 k t699 t707 t713 true t695 t696 t703 t704 t709 t710) = some r := by rw [if_neg (show ¬ (false = true) by decide)] at H; exact H
      clear H
      have H := H1
      clear H1
      have H' := Aside0.mk H
      clear H
      have hnb39 := NB708_702.out
      have hnc39 := NB702_708.out
      have hnb40 := NB708_714.out
      have hnc40 := NB714_708.out
      have hcz41_0 : w19.cell? ⟨gb708, 0, none⟩ = some (.int .i64 t703) := (blk_cell BK708.out 0).trans rfl
      have hcz41_1 : w19.cell? ⟨gb708, 1, none⟩ = some (.slice Ao16 t704.length co16) := (blk_cell BK708.out 1).trans rfl
      have hfz41_0 := blk_frozen BK708.out 0
      have hfz41_1 := blk_frozen BK708.out 1
      have hnb42 := NB714_702.out
      have hnc42 := NB702_714.out
      have hcz43_0 : w19.cell? ⟨gb714, 0, none⟩ = some (.int .i64 0) := (blk_cell BK714.out 0).trans rfl
      have hcz43_1 : w19.cell? ⟨gb714, 1, none⟩ = some (.slice none 0 0) := (blk_cell BK714.out 1).trans rfl
      have hfz43_0 := blk_frozen BK714.out 0
      have hfz43_1 := blk_frozen BK714.out 1
      go_wp2_with (first | (go_at_call 35; (with_reducible refine (impl_PoolSame.calls k t703 _ _ t704 t709 _ _ t710 true _ ?side1 ?side2 ?side3 ?side4 A25.out).mono ?_); (case side1 => refine (Kd.R_reads' (e := 25) (base := w.heap.size) (ok := fun k_ => (((True ∧ some k_ ≠ (.slice Ao10 t696.length co10 : Value).ownBlock) ∧ some k_ ≠ (.slice Ao11 t699.length co11 : Value).ownBlock) ∧ some k_ ≠ (.slice Ao23 t710.length co23 : Value).ownBlock)) (n := t704.length) (c := co16) ?_).2.2; exact (by (with_reducible repeat (first | apply Kd.R_alloc | apply Kd.R_drewN | apply Kd.R_drew)); exact (Kd.R_mono (Kd.R_far (p := ⟨gb714, 1, none⟩) (Kd.R_far (p := ⟨gb714, 0, none⟩) (Kd.R_types HO706.out BK714.out (by decide)) (fun _ hk => hk.2) (.int .i64 t709)) (fun _ hk => hk.2) (.slice Ao23 t710.length co23)) (fun _ h_ => h_.1)))); (case side2 => exact (Kd.R_reads' HO706.out).2.1); (case side3 => refine (Kd.R_reads' (e := 25) (base := w.heap.size) (ok := fun k_ => (((True ∧ some k_ ≠ (.slice Ao10 t696.length co10 : Value).ownBlock) ∧ some k_ ≠ (.slice Ao11 t699.length co11 : Value).ownBlock) ∧ some k_ ≠ (.slice Ao16 t704.length co16 : Value).ownBlock)) (n := t710.length) (c := co23) ?_).2.2; exact (by (with_reducible repeat (first | apply Kd.R_alloc | apply Kd.R_drewN | apply Kd.R_drew)); exact (Kd.R_mono (Kd.R_far (p := ⟨gb714, 1, none⟩) (Kd.R_far (p := ⟨gb714, 0, none⟩) (Kd.R_types HO712.out BK714.out (by decide)) (fun _ hk => hk.2) (.int .i64 t709)) (fun _ hk => hk.2) (.slice Ao23 t710.length co23)) (fun _ h_ => h_.1)))); (case side4 => exact (Kd.R_reads' HO712.out).2.1); rintro e w44 ⟨rfl, hb⟩; have n0_ := Aside0.mk (Kd.R_below (by (with_reducible repeat (first | apply Kd.R_alloc | apply Kd.R_drewN | apply Kd.R_drew)); exact (Kd.R_mono (Kd.R_far (p := ⟨gb714, 1, none⟩) (Kd.R_far (p := ⟨gb714, 0, none⟩) (Kd.R_types HO698.out BK714.out (by decide)) (fun _ hk => hk.2) (.int .i64 t709)) (fun _ hk => hk.2) (.slice Ao23 t710.length co23)) (fun _ h_ => h_.1))) hb); have n1_ := Aside0.mk (Kd.R_below (by (with_reducible repeat (first | apply Kd.R_alloc | apply Kd.R_drewN | apply Kd.R_drew)); exact (Kd.R_mono (Kd.R_far (p := ⟨gb714, 1, none⟩) (Kd.R_far (p := ⟨gb714, 0, none⟩) (Kd.R_types HO701.out BK714.out (by decide)) (fun _ hk => hk.2) (.int .i64 t709)) (fun _ hk => hk.2) (.slice Ao23 t710.length co23)) (fun _ h_ => h_.1))) hb); have n2_ := Aside0.mk (Kd.R_below (by (with_reducible repeat (first | apply Kd.R_alloc | apply Kd.R_drewN | apply Kd.R_drew)); exact (Kd.R_mono (Kd.R_far (p := ⟨gb714, 1, none⟩) (Kd.R_far (p := ⟨gb714, 0, none⟩) (Kd.R_types HO706.out BK714.out (by decide)) (fun _ hk => hk.2) (.int .i64 t709)) (fun _ hk => hk.2) (.slice Ao23 t710.length co23)) (fun _ h_ => h_.1))) hb); have n3_ := Aside0.mk (Kd.R_below (by (with_reducible repeat (first | apply Kd.R_alloc | apply Kd.R_drewN | apply Kd.R_drew)); exact (Kd.R_mono (Kd.R_far (p := ⟨gb714, 1, none⟩) (Kd.R_far (p := ⟨gb714, 0, none⟩) (Kd.R_types HO712.out BK714.out (by decide)) (fun _ hk => hk.2) (.int .i64 t709)) (fun _ hk => hk.2) (.slice Ao23 t710.length co23)) (fun _ h_ => h_.1))) hb); have n4_ := Aside0.mk (blk_below (g := gb702) (o := .cells #[.int .i64 t695, .slice Ao10 t696.length co10] 46 (0, 0)) (z24_0) hb); have n5_ := Aside0.mk (blk_below (g := gb708) (o := .cells #[.int .i64 t703, .slice Ao16 t704.length co16] 46 (0, 0)) (z24_1) hb); have n6_ := Aside0.mk (blk_below (g := gb714) (o := .cells #[.int .i64 t709, .slice Ao23 t710.length co23] 46 (0, 0)) (by (with_reducible repeat (first | refine blk_drewN ?_ _ | refine blk_drew ?_ | refine blk_alloc ?_ _)); refine blk_put (cs := #[.int .i64 t709, .slice none 0 0]) ?_ 1 _ rfl; (with_reducible repeat (first | refine blk_drewN ?_ _ | refine blk_drew ?_ | refine blk_alloc ?_ _)); refine blk_put (cs := #[.int .i64 0, .slice none 0 0]) ?_ 0 _ rfl; (with_reducible repeat (first | refine blk_drewN ?_ _ | refine blk_drew ?_ | refine blk_alloc ?_ _)); exact BK714.out) hb); have n7_ := Aside0.mk (below_step (z24_2) hb); clear HO698; clear HO701; clear HO706; clear HO712; clear BK702; clear BK708; clear BK714; clear HB; have HO698 := n0_; have HO701 := n1_; have HO706 := n2_; have HO712 := n3_; have BK702 := n4_; have BK708 := n5_; have BK714 := n6_; have HB := n7_; clear n0_ n1_ n2_ n3_ n4_ n5_ n6_ n7_; (try clear hb); (try clear hb2); (try clear hk); (try clear hi); have hcz45_0 : w44.cell? ⟨gb702, 0, none⟩ = some (.int .i64 t695) := (blk_cell BK702.out 0).trans rfl; have hcz45_1 : w44.cell? ⟨gb702, 1, none⟩ = some (.slice Ao10 t696.length co10) := (blk_cell BK702.out 1).trans rfl; have hfz45_0 := blk_frozen BK702.out 0; have hfz45_1 := blk_frozen BK702.out 1) | (go_at_call 37; (with_reducible refine (spec_PoolOk.calls k t695 _ _ t696 false _ ?side1 ?side2 A27.out).mono ?_); (case side1 => repeat (first | exact (Kd.R_reads' HO698.out).2.2 | (with_reducible refine Kd.C_alloc ?_ _) | (with_reducible refine Kd.C_drewN ?_ _) | (with_reducible refine Kd.C_drew ?_))); (case side2 => exact (Kd.R_reads' HO698.out).2.1); rintro e w46 ⟨rfl, hb⟩; have n0_ := Aside0.mk (Kd.R_below (by (with_reducible repeat (first | apply Kd.R_alloc | apply Kd.R_drewN | apply Kd.R_drew)); exact HO698.out) hb); have n1_ := Aside0.mk (Kd.R_below (by (with_reducible repeat (first | apply Kd.R_alloc | apply Kd.R_drewN | apply Kd.R_drew)); exact HO701.out) hb); have n2_ := Aside0.mk (Kd.R_below (by (with_reducible repeat (first | apply Kd.R_alloc | apply Kd.R_drewN | apply Kd.R_drew)); exact HO706.out) hb); have n3_ := Aside0.mk (Kd.R_below (by (with_reducible repeat (first | apply Kd.R_alloc | apply Kd.R_drewN | apply Kd.R_drew)); exact HO712.out) hb); have n4_ := Aside0.mk (blk_below (g := gb702) (o := .cells #[.int .i64 t695, .slice Ao10 t696.length co10] 46 (0, 0)) (z24_6) hb); have n5_ := Aside0.mk (blk_below (g := gb708) (o := .cells #[.int .i64 t703, .slice Ao16 t704.length co16] 46 (0, 0)) (z24_7) hb); have n6_ := Aside0.mk (blk_below (g := gb714) (o := .cells #[.int .i64 t709, .slice Ao23 t710.length co23] 46 (0, 0)) (z24_8) hb); have n7_ := Aside0.mk (below_step (z24_2) hb); clear HO698; clear HO701; clear HO706; clear HO712; clear BK702; clear BK708; clear BK714; clear HB; have HO698 := n0_; have HO701 := n1_; have HO706 := n2_; have HO712 := n3_; have BK702 := n4_; have BK708 := n5_; have BK714 := n6_; have HB := n7_; clear n0_ n1_ n2_ n3_ n4_ n5_ n6_ n7_; (try clear hb); (try clear hb2); (try clear hk); (try clear hi)))
      repeat (go_quiet (fail); try go_wp2)
      go_meet
      case rel => exact ⟨_, (true), (z24_10), H', ⟨by first | omega | exact Nat.le_refl _⟩, ⟨by (with_reducible repeat (first | apply Kd.R_alloc | apply Kd.R_drewN | apply Kd.R_drew)); exact Kd.R_mono HO701.out (fun _ hk => ⟨hk.1.1, ⟨hk.1.2, hk.2⟩⟩)⟩, ⟨by (with_reducible repeat (first | apply Kd.R_alloc | apply Kd.R_drewN | apply Kd.R_drew)); exact Kd.R_mono HO698.out (fun _ hk => ⟨hk.1.1, ⟨hk.1.2, hk.2⟩⟩)⟩, ⟨by (with_reducible repeat (first | apply Kd.R_alloc | apply Kd.R_drewN | apply Kd.R_drew)); exact Kd.R_mono HO706.out (fun _ hk => ⟨hk.1.2, ⟨hk.1.1.2, hk.2⟩⟩)⟩, ⟨by (with_reducible repeat (first | apply Kd.R_alloc | apply Kd.R_drewN | apply Kd.R_drew)); exact Kd.R_mono HO712.out (fun _ hk => ⟨hk.1.2, ⟨hk.1.1.2, hk.2⟩⟩)⟩, ⟨by (with_reducible repeat (first | refine blk_drewN ?_ _ | refine blk_drew ?_ | refine blk_alloc ?_ _)); exact BK702.out⟩, ⟨by (with_reducible repeat (first | refine blk_drewN ?_ _ | refine blk_drew ?_ | refine blk_alloc ?_ _)); exact BK708.out⟩, ⟨by (with_reducible repeat (first | refine blk_drewN ?_ _ | refine blk_drew ?_ | refine blk_alloc ?_ _)); exact BK714.out⟩, ⟨by repeat (first | (with_reducible first | exact HB.out | apply below_alloc | apply pw_below_drewN | apply below_drew1 | refine below_set ?_ GE702.out | refine below_set ?_ GE708.out | refine below_set ?_ GE714.out) | exact HB.out)⟩⟩
    ·replace c26 := Bool.eq_false_iff.mpr c26
     subst c26
     have H1 : (laws_FnPoolOrder.j0 k t699 t707 t713 true t695 t696 t703 t704 t709 t710) = some r := by rw [if_neg (show ¬ (false = true) by decide)] at H; exact H
     clear H
     have H := H1
     clear H1
     have H' := Aside0.mk H
     clear H
     have hnb47 := NB708_702.out
     have hnc47 := NB702_708.out
     have hnb48 := NB708_714.out
     have hnc48 := NB714_708.out
     have hcz49_0 : w19.cell? ⟨gb708, 0, none⟩ = some (.int .i64 t703) := (blk_cell BK708.out 0).trans rfl
     have hcz49_1 : w19.cell? ⟨gb708, 1, none⟩ = some (.slice Ao16 t704.length co16) := (blk_cell BK708.out 1).trans rfl
     have hfz49_0 := blk_frozen BK708.out 0
     have hfz49_1 := blk_frozen BK708.out 1
     have hnb50 := NB714_702.out
     have hnc50 := NB702_714.out
     have hcz51_0 : w19.cell? ⟨gb714, 0, none⟩ = some (.int .i64 0) := (blk_cell BK714.out 0).trans rfl
     have hcz51_1 : w19.cell? ⟨gb714, 1, none⟩ = some (.slice none 0 0) := (blk_cell BK714.out 1).trans rfl
     have hfz51_0 := blk_frozen BK714.out 0
     have hfz51_1 := blk_frozen BK714.out 1
     go_wp2_with (first | (go_at_call 35; (with_reducible refine (impl_PoolSame.calls k t703 _ _ t704 t709 _ _ t710 false _ ?side1 ?side2 ?side3 ?side4 A25.out).mono ?_); (case side1 => refine (Kd.R_reads' (e := 25) (base := w.heap.size) (ok := fun k_ => (((True ∧ some k_ ≠ (.slice Ao10 t696.length co10 : Value).ownBlock) ∧ some k_ ≠ (.slice Ao11 t699.length co11 : Value).ownBlock) ∧ some k_ ≠ (.slice Ao23 t710.length co23 : Value).ownBlock)) (n := t704.length) (c := co16) ?_).2.2; exact (by (with_reducible repeat (first | apply Kd.R_alloc | apply Kd.R_drewN | apply Kd.R_drew)); exact (Kd.R_mono (Kd.R_far (p := ⟨gb714, 1, none⟩) (Kd.R_far (p := ⟨gb714, 0, none⟩) (Kd.R_types HO706.out BK714.out (by decide)) (fun _ hk => hk.2) (.int .i64 t709)) (fun _ hk => hk.2) (.slice Ao23 t710.length co23)) (fun _ h_ => h_.1)))); (case side2 => exact (Kd.R_reads' HO706.out).2.1); (case side3 => refine (Kd.R_reads' (e := 25) (base := w.heap.size) (ok := fun k_ => (((True ∧ some k_ ≠ (.slice Ao10 t696.length co10 : Value).ownBlock) ∧ some k_ ≠ (.slice Ao11 t699.length co11 : Value).ownBlock) ∧ some k_ ≠ (.slice Ao16 t704.length co16 : Value).ownBlock)) (n := t710.length) (c := co23) ?_).2.2; exact (by (with_reducible repeat (first | apply Kd.R_alloc | apply Kd.R_drewN | apply Kd.R_drew)); exact (Kd.R_mono (Kd.R_far (p := ⟨gb714, 1, none⟩) (Kd.R_far (p := ⟨gb714, 0, none⟩) (Kd.R_types HO712.out BK714.out (by decide)) (fun _ hk => hk.2) (.int .i64 t709)) (fun _ hk => hk.2) (.slice Ao23 t710.length co23)) (fun _ h_ => h_.1)))); (case side4 => exact (Kd.R_reads' HO712.out).2.1); rintro e w52 ⟨rfl, hb⟩; have n0_ := Aside0.mk (Kd.R_below (by (with_reducible repeat (first | apply Kd.R_alloc | apply Kd.R_drewN | apply Kd.R_drew)); exact (Kd.R_mono (Kd.R_far (p := ⟨gb714, 1, none⟩) (Kd.R_far (p := ⟨gb714, 0, none⟩) (Kd.R_types HO698.out BK714.out (by decide)) (fun _ hk => hk.2) (.int .i64 t709)) (fun _ hk => hk.2) (.slice Ao23 t710.length co23)) (fun _ h_ => h_.1))) hb); have n1_ := Aside0.mk (Kd.R_below (by (with_reducible repeat (first | apply Kd.R_alloc | apply Kd.R_drewN | apply Kd.R_drew)); exact (Kd.R_mono (Kd.R_far (p := ⟨gb714, 1, none⟩) (Kd.R_far (p := ⟨gb714, 0, none⟩) (Kd.R_types HO701.out BK714.out (by decide)) (fun _ hk => hk.2) (.int .i64 t709)) (fun _ hk => hk.2) (.slice Ao23 t710.length co23)) (fun _ h_ => h_.1))) hb); have n2_ := Aside0.mk (Kd.R_below (by (with_reducible repeat (first | apply Kd.R_alloc | apply Kd.R_drewN | apply Kd.R_drew)); exact (Kd.R_mono (Kd.R_far (p := ⟨gb714, 1, none⟩) (Kd.R_far (p := ⟨gb714, 0, none⟩) (Kd.R_types HO706.out BK714.out (by decide)) (fun _ hk => hk.2) (.int .i64 t709)) (fun _ hk => hk.2) (.slice Ao23 t710.length co23)) (fun _ h_ => h_.1))) hb); have n3_ := Aside0.mk (Kd.R_below (by (with_reducible repeat (first | apply Kd.R_alloc | apply Kd.R_drewN | apply Kd.R_drew)); exact (Kd.R_mono (Kd.R_far (p := ⟨gb714, 1, none⟩) (Kd.R_far (p := ⟨gb714, 0, none⟩) (Kd.R_types HO712.out BK714.out (by decide)) (fun _ hk => hk.2) (.int .i64 t709)) (fun _ hk => hk.2) (.slice Ao23 t710.length co23)) (fun _ h_ => h_.1))) hb); have n4_ := Aside0.mk (blk_below (g := gb702) (o := .cells #[.int .i64 t695, .slice Ao10 t696.length co10] 46 (0, 0)) (z24_0) hb); have n5_ := Aside0.mk (blk_below (g := gb708) (o := .cells #[.int .i64 t703, .slice Ao16 t704.length co16] 46 (0, 0)) (z24_1) hb); have n6_ := Aside0.mk (blk_below (g := gb714) (o := .cells #[.int .i64 t709, .slice Ao23 t710.length co23] 46 (0, 0)) (by (with_reducible repeat (first | refine blk_drewN ?_ _ | refine blk_drew ?_ | refine blk_alloc ?_ _)); refine blk_put (cs := #[.int .i64 t709, .slice none 0 0]) ?_ 1 _ rfl; (with_reducible repeat (first | refine blk_drewN ?_ _ | refine blk_drew ?_ | refine blk_alloc ?_ _)); refine blk_put (cs := #[.int .i64 0, .slice none 0 0]) ?_ 0 _ rfl; (with_reducible repeat (first | refine blk_drewN ?_ _ | refine blk_drew ?_ | refine blk_alloc ?_ _)); exact BK714.out) hb); have n7_ := Aside0.mk (below_step (z24_2) hb); clear HO698; clear HO701; clear HO706; clear HO712; clear BK702; clear BK708; clear BK714; clear HB; have HO698 := n0_; have HO701 := n1_; have HO706 := n2_; have HO712 := n3_; have BK702 := n4_; have BK708 := n5_; have BK714 := n6_; have HB := n7_; clear n0_ n1_ n2_ n3_ n4_ n5_ n6_ n7_; (try clear hb); (try clear hb2); (try clear hk); (try clear hi)))
     repeat (go_quiet (fail); try go_wp2)
     go_meet
     case rel => exact ⟨_, (true), (z24_10), H', ⟨by first | omega | exact Nat.le_refl _⟩, ⟨by (with_reducible repeat (first | apply Kd.R_alloc | apply Kd.R_drewN | apply Kd.R_drew)); exact Kd.R_mono HO701.out (fun _ hk => ⟨hk.1.1, ⟨hk.1.2, hk.2⟩⟩)⟩, ⟨by (with_reducible repeat (first | apply Kd.R_alloc | apply Kd.R_drewN | apply Kd.R_drew)); exact Kd.R_mono HO698.out (fun _ hk => ⟨hk.1.1, ⟨hk.1.2, hk.2⟩⟩)⟩, ⟨by (with_reducible repeat (first | apply Kd.R_alloc | apply Kd.R_drewN | apply Kd.R_drew)); exact Kd.R_mono HO706.out (fun _ hk => ⟨hk.1.2, ⟨hk.1.1.2, hk.2⟩⟩)⟩, ⟨by (with_reducible repeat (first | apply Kd.R_alloc | apply Kd.R_drewN | apply Kd.R_drew)); exact Kd.R_mono HO712.out (fun _ hk => ⟨hk.1.2, ⟨hk.1.1.2, hk.2⟩⟩)⟩, ⟨by (with_reducible repeat (first | refine blk_drewN ?_ _ | refine blk_drew ?_ | refine blk_alloc ?_ _)); exact BK702.out⟩, ⟨by (with_reducible repeat (first | refine blk_drewN ?_ _ | refine blk_drew ?_ | refine blk_alloc ?_ _)); exact BK708.out⟩, ⟨by (with_reducible repeat (first | refine blk_drewN ?_ _ | refine blk_drew ?_ | refine blk_alloc ?_ _)); exact BK714.out⟩, ⟨by repeat (first | (with_reducible first | exact HB.out | apply below_alloc | apply pw_below_drewN | apply below_drew1 | refine below_set ?_ GE702.out | refine below_set ?_ GE708.out | refine below_set ?_ GE714.out) | exact HB.out)⟩⟩
   ·rw [if_neg c24] at H
    have c24b0 : (t707 == t713) = false := beq_eq_false_iff_ne.mpr c24
    have c24b1 : (t707 != t713) = true := bne_iff_ne.mpr c24
    (first | rw [c24b0] | (simp only [i64_w, i32_w]; rw [c24b0]) | skip)
    have H' := Aside0.mk H
    clear H
    go_wp2
    repeat (go_quiet (fail); try go_wp2)
    go_meet
    case rel => exact ⟨_, (true), (z24_10), H', ⟨by first | omega | exact Nat.le_refl _⟩, ⟨by (with_reducible repeat (first | apply Kd.R_alloc | apply Kd.R_drewN | apply Kd.R_drew)); exact Kd.R_mono (Kd.R_far (p := ⟨gb714, 1, none⟩) (Kd.R_far (p := ⟨gb714, 0, none⟩) (Kd.R_types HO701.out BK714.out (by decide)) (fun _ hk => hk.2) (.int .i64 t709)) (fun _ hk => hk.2) (.slice Ao23 t710.length co23)) (fun _ hk => ⟨hk.1.1.1, ⟨hk.1.1.2, hk.1.2⟩⟩)⟩, ⟨by (with_reducible repeat (first | apply Kd.R_alloc | apply Kd.R_drewN | apply Kd.R_drew)); exact Kd.R_mono (Kd.R_far (p := ⟨gb714, 1, none⟩) (Kd.R_far (p := ⟨gb714, 0, none⟩) (Kd.R_types HO698.out BK714.out (by decide)) (fun _ hk => hk.2) (.int .i64 t709)) (fun _ hk => hk.2) (.slice Ao23 t710.length co23)) (fun _ hk => ⟨hk.1.1.1, ⟨hk.1.1.2, hk.1.2⟩⟩)⟩, ⟨by (with_reducible repeat (first | apply Kd.R_alloc | apply Kd.R_drewN | apply Kd.R_drew)); exact Kd.R_mono (Kd.R_far (p := ⟨gb714, 1, none⟩) (Kd.R_far (p := ⟨gb714, 0, none⟩) (Kd.R_types HO706.out BK714.out (by decide)) (fun _ hk => hk.2) (.int .i64 t709)) (fun _ hk => hk.2) (.slice Ao23 t710.length co23)) (fun _ hk => ⟨hk.1.1.2, ⟨hk.1.1.1.2, hk.1.2⟩⟩)⟩, ⟨by (with_reducible repeat (first | apply Kd.R_alloc | apply Kd.R_drewN | apply Kd.R_drew)); exact Kd.R_mono (Kd.R_far (p := ⟨gb714, 1, none⟩) (Kd.R_far (p := ⟨gb714, 0, none⟩) (Kd.R_types HO712.out BK714.out (by decide)) (fun _ hk => hk.2) (.int .i64 t709)) (fun _ hk => hk.2) (.slice Ao23 t710.length co23)) (fun _ hk => ⟨hk.1.1.2, ⟨hk.1.1.1.2, hk.1.2⟩⟩)⟩, ⟨by (with_reducible repeat (first | refine blk_drewN ?_ _ | refine blk_drew ?_ | refine blk_alloc ?_ _)); refine blk_far ?_ NB702_714.out _; (with_reducible repeat (first | refine blk_drewN ?_ _ | refine blk_drew ?_ | refine blk_alloc ?_ _)); refine blk_far ?_ NB702_714.out _; (with_reducible repeat (first | refine blk_drewN ?_ _ | refine blk_drew ?_ | refine blk_alloc ?_ _)); exact BK702.out⟩, ⟨by (with_reducible repeat (first | refine blk_drewN ?_ _ | refine blk_drew ?_ | refine blk_alloc ?_ _)); refine blk_far ?_ NB708_714.out _; (with_reducible repeat (first | refine blk_drewN ?_ _ | refine blk_drew ?_ | refine blk_alloc ?_ _)); refine blk_far ?_ NB708_714.out _; (with_reducible repeat (first | refine blk_drewN ?_ _ | refine blk_drew ?_ | refine blk_alloc ?_ _)); exact BK708.out⟩, ⟨by (with_reducible repeat (first | refine blk_drewN ?_ _ | refine blk_drew ?_ | refine blk_alloc ?_ _)); refine blk_put (cs := #[.int .i64 t709, .slice none 0 0]) ?_ 1 _ rfl; (with_reducible repeat (first | refine blk_drewN ?_ _ | refine blk_drew ?_ | refine blk_alloc ?_ _)); refine blk_put (cs := #[.int .i64 0, .slice none 0 0]) ?_ 0 _ rfl; (with_reducible repeat (first | refine blk_drewN ?_ _ | refine blk_drew ?_ | refine blk_alloc ?_ _)); exact BK714.out⟩, ⟨by repeat (first | (with_reducible first | exact HB.out | apply below_alloc | apply pw_below_drewN | apply below_drew1 | refine below_set ?_ GE702.out | refine below_set ?_ GE708.out | refine below_set ?_ GE714.out) | exact HB.out)⟩⟩
  case rest =>
   clear HC6
   try clear c1
   try clear c2
   try clear c2b0
   try clear c2b1
   try clear p2
   try clear c3
   try clear c4
   try clear c5
   try clear c14
   try clear c20
   try clear c21
   try clear c24
   try clear c24b0
   try clear c24b1
   try clear c26
   try clear c28
   try clear c29
   try clear c30
   try clear c32
   try clear c39
   try clear c40
   try clear c42
   try clear c47
   try clear c48
   try clear c50
   try clear hcz15_0
   try clear hcz15_1
   try clear hcz17_0
   try clear hcz17_1
   try clear hcz22_0
   try clear hcz22_1
   try clear hcz31_0
   try clear hcz31_1
   try clear hcz33_0
   try clear hcz33_1
   try clear hcz35_0
   try clear hcz35_1
   try clear hcz37_0
   try clear hcz37_1
   try clear hcz38_0
   try clear hcz38_1
   try clear hcz41_0
   try clear hcz41_1
   try clear hcz43_0
   try clear hcz43_1
   try clear hcz45_0
   try clear hcz45_1
   try clear hcz49_0
   try clear hcz49_1
   try clear hcz51_0
   try clear hcz51_1
   try clear hcz9_0
   try clear hcz9_1
   try clear hfz15_0
   try clear hfz15_1
   try clear hfz17_0
   try clear hfz17_1
   try clear hfz22_0
   try clear hfz22_1
   try clear hfz31_0
   try clear hfz31_1
   try clear hfz33_0
   try clear hfz33_1
   try clear hfz35_0
   try clear hfz35_1
   try clear hfz37_0
   try clear hfz37_1
   try clear hfz38_0
   try clear hfz38_1
   try clear hfz41_0
   try clear hfz41_1
   try clear hfz43_0
   try clear hfz43_1
   try clear hfz45_0
   try clear hfz45_1
   try clear hfz49_0
   try clear hfz49_1
   try clear hfz51_0
   try clear hfz51_1
   try clear hfz9_0
   try clear hfz9_1
   obtain ⟨kq, x52_5, rfl, HA, HJ5, HO_4, HO_703001, HO_709001, HO_715001, BK702, BK708, BK714, HB⟩ := hcut
   cases kq with
   | zero => exact absurd HA.out (by simp [laws_FnPoolOrder.j0])
   | succ kj5 =>
    have H := HA.out
    clear HA
    simp only [laws_FnPoolOrder.j0] at H
    by_cases c53 : x52_5 = true
    ·subst c53
     have H1 : (if t707 = t713 then ((impl_PoolSame.f kj5 t703 t704 t709 t710).bind fun t717 => (some t717)) else (some false)) = some r := by rw [if_pos rfl] at H; exact H
     clear H
     have H := H1
     clear H1
     by_cases c54 : t707 = t713
     ·rw [if_pos c54] at H
      have c54b0 : (t707 == t713) = true := beq_iff_eq.mpr c54
      have c54b1 : (t707 != t713) = false := bne_eq_false_iff_eq.mpr c54
      clear c54
      replace H := Option.bind_eq_some_iff.mp H
      obtain ⟨t717, A550, H⟩ := H
      replace H : (some t717) = some r := H
      have A55 := Aside0.mk A550
      clear A550
      obtain rfl := Option.some.inj H
      have hnb56 := NB708_702.out
      have hnc56 := NB702_708.out
      have hnb57 := NB708_714.out
      have hnc57 := NB714_708.out
      have hcz58_0 : wc.cell? ⟨gb708, 0, none⟩ = some (.int .i64 t703) := (blk_cell BK708.out 0).trans rfl
      have hcz58_1 : wc.cell? ⟨gb708, 1, none⟩ = some (.slice Ao16 t704.length co16) := (blk_cell BK708.out 1).trans rfl
      have hfz58_0 := blk_frozen BK708.out 0
      have hfz58_1 := blk_frozen BK708.out 1
      have hnb59 := NB714_702.out
      have hnc59 := NB702_714.out
      have hcz60_0 : wc.cell? ⟨gb714, 0, none⟩ = some (.int .i64 t709) := (blk_cell BK714.out 0).trans rfl
      have hcz60_1 : wc.cell? ⟨gb714, 1, none⟩ = some (.slice Ao23 t710.length co23) := (blk_cell BK714.out 1).trans rfl
      have hfz60_0 := blk_frozen BK714.out 0
      have hfz60_1 := blk_frozen BK714.out 1
      go_wp2_with (first | (go_at_call 35; (with_reducible refine (impl_PoolSame.calls kj5 t703 _ _ t704 t709 _ _ t710 t717 _ ?side1 ?side2 ?side3 ?side4 A55.out).mono ?_); (case side1 => repeat (first | exact (Kd.R_reads' HO_709001.out).2.2 | (with_reducible refine Kd.C_alloc ?_ _) | (with_reducible refine Kd.C_drewN ?_ _) | (with_reducible refine Kd.C_drew ?_))); (case side2 => exact (Kd.R_reads' HO_709001.out).2.1); (case side3 => repeat (first | exact (Kd.R_reads' HO_715001.out).2.2 | (with_reducible refine Kd.C_alloc ?_ _) | (with_reducible refine Kd.C_drewN ?_ _) | (with_reducible refine Kd.C_drew ?_))); (case side4 => exact (Kd.R_reads' HO_715001.out).2.1); rintro e w61 ⟨rfl, hb⟩; have n0_ := Aside0.mk (Kd.R_below (by (with_reducible repeat (first | apply Kd.R_alloc | apply Kd.R_drewN | apply Kd.R_drew)); exact HO_4.out) hb); have n1_ := Aside0.mk (Kd.R_below (by (with_reducible repeat (first | apply Kd.R_alloc | apply Kd.R_drewN | apply Kd.R_drew)); exact HO_703001.out) hb); have n2_ := Aside0.mk (Kd.R_below (by (with_reducible repeat (first | apply Kd.R_alloc | apply Kd.R_drewN | apply Kd.R_drew)); exact HO_709001.out) hb); have n3_ := Aside0.mk (Kd.R_below (by (with_reducible repeat (first | apply Kd.R_alloc | apply Kd.R_drewN | apply Kd.R_drew)); exact HO_715001.out) hb); have n4_ := Aside0.mk (blk_below (g := gb702) (o := .cells #[.int .i64 t695, .slice Ao10 t696.length co10] 46 (0, 0)) (z24_6) hb); have n5_ := Aside0.mk (blk_below (g := gb708) (o := .cells #[.int .i64 t703, .slice Ao16 t704.length co16] 46 (0, 0)) (z24_7) hb); have n6_ := Aside0.mk (blk_below (g := gb714) (o := .cells #[.int .i64 t709, .slice Ao23 t710.length co23] 46 (0, 0)) (z24_8) hb); have n7_ := Aside0.mk (below_step (z24_2) hb); clear HO_4; clear HO_703001; clear HO_709001; clear HO_715001; clear BK702; clear BK708; clear BK714; clear HB; have HO_4 := n0_; have HO_703001 := n1_; have HO_709001 := n2_; have HO_715001 := n3_; have BK702 := n4_; have BK708 := n5_; have BK714 := n6_; have HB := n7_; clear n0_ n1_ n2_ n3_ n4_ n5_ n6_ n7_; (try clear hb); (try clear hb2); (try clear hk); (try clear hi)))
      repeat (go_quiet (fail); try go_wp2)
      go_ret
      exact ⟨by first | rfl | (simp [errW_none, errW_some] <;> rfl) | (simp [*, errW_none, errW_some] <;> rfl), by repeat (first | (with_reducible first | exact HB.out | apply below_alloc | apply pw_below_drewN | apply below_drew1 | refine below_set ?_ GE702.out | refine below_set ?_ GE708.out | refine below_set ?_ GE714.out) | exact HB.out)⟩
     ·rw [if_neg c54] at H
      have c54b0 : (t707 == t713) = false := beq_eq_false_iff_ne.mpr c54
      have c54b1 : (t707 != t713) = true := bne_iff_ne.mpr c54
      exact absurd ((Option.some.inj H).trans hT) (by simp)
    ·replace c53 := Bool.eq_false_iff.mpr c53
     subst c53
     have H1 : (laws_FnPoolOrder.l0 kj5 t699 0 t695 t696 t703 t704) = some r := by rw [if_neg (show ¬ (false = true) by decide)] at H; exact H
     clear H
     have H := H1
     clear H1
     have H' := Aside0.mk H
     clear H
     go_wp2
     repeat (go_quiet (fail); try go_wp2)
     go_loopg [9] kj5 (fun kq v9 w' => ∃ (x9_2 : Int), v9 = .int .i64 x9_2 ∧ Aside0 (laws_FnPoolOrder.l0 kq t699 x9_2 t695 t696 t703 t704 = some r) ∧ Aside0 (kq ≤ kj5) ∧ Aside0 (Kd.R k25 25 w' w.heap.size (fun k_ => some k_ ≠ ((.slice Ao10 t696.length co10) : Value).ownBlock ∧ some k_ ≠ ((.slice Ao16 t704.length co16) : Value).ownBlock ∧ some k_ ≠ ((.slice Ao23 t710.length co23) : Value).ownBlock) (.slice Ao11 t699.length co11) t699) ∧ Aside0 (Kd.R k25 25 w' w.heap.size (fun k_ => some k_ ≠ ((.slice Ao11 t699.length co11) : Value).ownBlock ∧ some k_ ≠ ((.slice Ao16 t704.length co16) : Value).ownBlock ∧ some k_ ≠ ((.slice Ao23 t710.length co23) : Value).ownBlock) (.slice Ao10 t696.length co10) t696) ∧ Aside0 (Kd.R k25 25 w' w.heap.size (fun k_ => some k_ ≠ ((.slice Ao11 t699.length co11) : Value).ownBlock ∧ some k_ ≠ ((.slice Ao10 t696.length co10) : Value).ownBlock ∧ some k_ ≠ ((.slice Ao23 t710.length co23) : Value).ownBlock) (.slice Ao16 t704.length co16) t704) ∧ Aside0 (Kd.R k25 25 w' w.heap.size (fun k_ => some k_ ≠ ((.slice Ao11 t699.length co11) : Value).ownBlock ∧ some k_ ≠ ((.slice Ao10 t696.length co10) : Value).ownBlock ∧ some k_ ≠ ((.slice Ao16 t704.length co16) : Value).ownBlock) (.slice Ao23 t710.length co23) t710) ∧ Aside0 (w'.heap[gb702]? = some (.cells #[.int .i64 t695, (.slice Ao10 t696.length co10)] 46 (0, 0))) ∧ Aside0 (w'.heap[gb708]? = some (.cells #[.int .i64 t703, (.slice Ao16 t704.length co16)] 46 (0, 0))) ∧ Aside0 (w'.heap[gb714]? = some (.cells #[.int .i64 t709, (.slice Ao23 t710.length co23)] 46 (0, 0))) ∧ Aside0 (Below w.heap.size w w'))
     case atStart => exact ⟨(0), (z24_10), H', ⟨Nat.le_refl _⟩, ⟨by (with_reducible repeat (first | apply Kd.R_alloc | apply Kd.R_drewN | apply Kd.R_drew)); exact HO_4.out⟩, ⟨by (with_reducible repeat (first | apply Kd.R_alloc | apply Kd.R_drewN | apply Kd.R_drew)); exact HO_703001.out⟩, ⟨by (with_reducible repeat (first | apply Kd.R_alloc | apply Kd.R_drewN | apply Kd.R_drew)); exact HO_709001.out⟩, ⟨by (with_reducible repeat (first | apply Kd.R_alloc | apply Kd.R_drewN | apply Kd.R_drew)); exact HO_715001.out⟩, ⟨by (with_reducible repeat (first | refine blk_drewN ?_ _ | refine blk_drew ?_ | refine blk_alloc ?_ _)); exact BK702.out⟩, ⟨by (with_reducible repeat (first | refine blk_drewN ?_ _ | refine blk_drew ?_ | refine blk_alloc ?_ _)); exact BK708.out⟩, ⟨by (with_reducible repeat (first | refine blk_drewN ?_ _ | refine blk_drew ?_ | refine blk_alloc ?_ _)); exact BK714.out⟩, ⟨by repeat (first | (with_reducible first | exact HB.out | apply below_alloc | apply pw_below_drewN | apply below_drew1 | refine below_set ?_ GE702.out | refine below_set ?_ GE708.out | refine below_set ?_ GE714.out) | exact HB.out)⟩⟩
     case round =>
      clear H'
      try clear c1
      try clear c2
      try clear c2b0
      try clear c2b1
      try clear p2
      try clear c3
      try clear c4
      try clear c5
      try clear c14
      try clear c20
      try clear c21
      try clear c24
      try clear c24b0
      try clear c24b1
      try clear c26
      try clear c28
      try clear c29
      try clear c30
      try clear c32
      try clear c39
      try clear c40
      try clear c42
      try clear c47
      try clear c48
      try clear c50
      try clear c53
      try clear c54
      try clear c54b0
      try clear c54b1
      try clear c56
      try clear c57
      try clear c59
      try clear hcz15_0
      try clear hcz15_1
      try clear hcz17_0
      try clear hcz17_1
      try clear hcz22_0
      try clear hcz22_1
      try clear hcz31_0
      try clear hcz31_1
      try clear hcz33_0
      try clear hcz33_1
      try clear hcz35_0
      try clear hcz35_1
      try clear hcz37_0
      try clear hcz37_1
      try clear hcz38_0
      try clear hcz38_1
      try clear hcz41_0
      try clear hcz41_1
      try clear hcz43_0
      try clear hcz43_1
      try clear hcz45_0
      try clear hcz45_1
      try clear hcz49_0
      try clear hcz49_1
      try clear hcz51_0
      try clear hcz51_1
      try clear hcz58_0
      try clear hcz58_1
      try clear hcz60_0
      try clear hcz60_1
      try clear hcz9_0
      try clear hcz9_1
      try clear hfz15_0
      try clear hfz15_1
      try clear hfz17_0
      try clear hfz17_1
      try clear hfz22_0
      try clear hfz22_1
      try clear hfz31_0
      try clear hfz31_1
      try clear hfz33_0
      try clear hfz33_1
      try clear hfz35_0
      try clear hfz35_1
      try clear hfz37_0
      try clear hfz37_1
      try clear hfz38_0
      try clear hfz38_1
      try clear hfz41_0
      try clear hfz41_1
      try clear hfz43_0
      try clear hfz43_1
      try clear hfz45_0
      try clear hfz45_1
      try clear hfz49_0
      try clear hfz49_1
      try clear hfz51_0
      try clear hfz51_1
      try clear hfz58_0
      try clear hfz58_1
      try clear hfz60_0
      try clear hfz60_1
      try clear hfz9_0
      try clear hfz9_1
      try clear p2
      obtain ⟨x9_2, rfl, HA, HK2, HO_4, HO_703001, HO_709001, HO_715001, BK702, BK708, BK714, HB⟩ := hrel
      cases gk with
      | zero => exact absurd HA.out (by simp [laws_FnPoolOrder.l0])
      | succ k2 =>
       have H := HA.out
       clear HA
       simp only [laws_FnPoolOrder.l0] at H
       by_cases c62 : x9_2 < (t699.length : Int)
       ·rw [if_pos c62] at H
        have c62b0 : decide (x9_2 < (t699.length : Int)) = true := decide_eq_true c62
        clear c62
        have H' := Aside0.mk H
        clear H
        go_wp2
        repeat (go_quiet (fail); try go_wp2)
        go_loopg [10] k2 (fun kq v10 w' => ∃ (x10_3 : Int), v10 = .int .i64 x10_3 ∧ Aside0 (laws_FnPoolOrder.l1 kq t699 x9_2 x10_3 t695 t696 t703 t704 = some r) ∧ Aside0 (kq ≤ k2) ∧ Aside0 (Kd.R k25 25 w' w.heap.size (fun k_ => some k_ ≠ ((.slice Ao10 t696.length co10) : Value).ownBlock ∧ some k_ ≠ ((.slice Ao16 t704.length co16) : Value).ownBlock ∧ some k_ ≠ ((.slice Ao23 t710.length co23) : Value).ownBlock) (.slice Ao11 t699.length co11) t699) ∧ Aside0 (Kd.R k25 25 w' w.heap.size (fun k_ => some k_ ≠ ((.slice Ao11 t699.length co11) : Value).ownBlock ∧ some k_ ≠ ((.slice Ao16 t704.length co16) : Value).ownBlock ∧ some k_ ≠ ((.slice Ao23 t710.length co23) : Value).ownBlock) (.slice Ao10 t696.length co10) t696) ∧ Aside0 (Kd.R k25 25 w' w.heap.size (fun k_ => some k_ ≠ ((.slice Ao11 t699.length co11) : Value).ownBlock ∧ some k_ ≠ ((.slice Ao10 t696.length co10) : Value).ownBlock ∧ some k_ ≠ ((.slice Ao23 t710.length co23) : Value).ownBlock) (.slice Ao16 t704.length co16) t704) ∧ Aside0 (Kd.R k25 25 w' w.heap.size (fun k_ => some k_ ≠ ((.slice Ao11 t699.length co11) : Value).ownBlock ∧ some k_ ≠ ((.slice Ao10 t696.length co10) : Value).ownBlock ∧ some k_ ≠ ((.slice Ao16 t704.length co16) : Value).ownBlock) (.slice Ao23 t710.length co23) t710) ∧ Aside0 (w'.heap[gb702]? = some (.cells #[.int .i64 t695, (.slice Ao10 t696.length co10)] 46 (0, 0))) ∧ Aside0 (w'.heap[gb708]? = some (.cells #[.int .i64 t703, (.slice Ao16 t704.length co16)] 46 (0, 0))) ∧ Aside0 (w'.heap[gb714]? = some (.cells #[.int .i64 t709, (.slice Ao23 t710.length co23)] 46 (0, 0))) ∧ Aside0 (Below w.heap.size w w'))
        case atStart => exact ⟨(0), (z24_10), H', ⟨Nat.le_refl _⟩, ⟨by (with_reducible repeat (first | apply Kd.R_alloc | apply Kd.R_drewN | apply Kd.R_drew)); exact HO_4.out⟩, ⟨by (with_reducible repeat (first | apply Kd.R_alloc | apply Kd.R_drewN | apply Kd.R_drew)); exact HO_703001.out⟩, ⟨by (with_reducible repeat (first | apply Kd.R_alloc | apply Kd.R_drewN | apply Kd.R_drew)); exact HO_709001.out⟩, ⟨by (with_reducible repeat (first | apply Kd.R_alloc | apply Kd.R_drewN | apply Kd.R_drew)); exact HO_715001.out⟩, ⟨by (with_reducible repeat (first | refine blk_drewN ?_ _ | refine blk_drew ?_ | refine blk_alloc ?_ _)); exact BK702.out⟩, ⟨by (with_reducible repeat (first | refine blk_drewN ?_ _ | refine blk_drew ?_ | refine blk_alloc ?_ _)); exact BK708.out⟩, ⟨by (with_reducible repeat (first | refine blk_drewN ?_ _ | refine blk_drew ?_ | refine blk_alloc ?_ _)); exact BK714.out⟩, ⟨by repeat (first | (with_reducible first | exact HB.out | apply below_alloc | apply pw_below_drewN | apply below_drew1 | refine below_set ?_ GE702.out | refine below_set ?_ GE708.out | refine below_set ?_ GE714.out) | exact HB.out)⟩⟩
        case round =>
         clear H'
         try clear c1
         try clear c2
         try clear c2b0
         try clear c2b1
         try clear p2
         try clear c3
         try clear c4
         try clear c5
         try clear c6
         try clear c14
         try clear c20
         try clear c21
         try clear c24
         try clear c24b0
         try clear c24b1
         try clear c26
         try clear c28
         try clear c29
         try clear c30
         try clear c32
         try clear c39
         try clear c40
         try clear c42
         try clear c47
         try clear c48
         try clear c50
         try clear c53
         try clear c54
         try clear c54b0
         try clear c54b1
         try clear c56
         try clear c57
         try clear c59
         try clear c62
         try clear c62b0
         try clear hcz15_0
         try clear hcz15_1
         try clear hcz17_0
         try clear hcz17_1
         try clear hcz22_0
         try clear hcz22_1
         try clear hcz31_0
         try clear hcz31_1
         try clear hcz33_0
         try clear hcz33_1
         try clear hcz35_0
         try clear hcz35_1
         try clear hcz37_0
         try clear hcz37_1
         try clear hcz38_0
         try clear hcz38_1
         try clear hcz41_0
         try clear hcz41_1
         try clear hcz43_0
         try clear hcz43_1
         try clear hcz45_0
         try clear hcz45_1
         try clear hcz49_0
         try clear hcz49_1
         try clear hcz51_0
         try clear hcz51_1
         try clear hcz58_0
         try clear hcz58_1
         try clear hcz60_0
         try clear hcz60_1
         try clear hcz9_0
         try clear hcz9_1
         try clear hfz15_0
         try clear hfz15_1
         try clear hfz17_0
         try clear hfz17_1
         try clear hfz22_0
         try clear hfz22_1
         try clear hfz31_0
         try clear hfz31_1
         try clear hfz33_0
         try clear hfz33_1
         try clear hfz35_0
         try clear hfz35_1
         try clear hfz37_0
         try clear hfz37_1
         try clear hfz38_0
         try clear hfz38_1
         try clear hfz41_0
         try clear hfz41_1
         try clear hfz43_0
         try clear hfz43_1
         try clear hfz45_0
         try clear hfz45_1
         try clear hfz49_0
         try clear hfz49_1
         try clear hfz51_0
         try clear hfz51_1
         try clear hfz58_0
         try clear hfz58_1
         try clear hfz60_0
         try clear hfz60_1
         try clear hfz9_0
         try clear hfz9_1
         try clear p2
         obtain ⟨x10_3, rfl, HA, HK3, HO_4, HO_703001, HO_709001, HO_715001, BK702, BK708, BK714, HB⟩ := hrel
         cases gk with
         | zero => exact absurd HA.out (by simp [laws_FnPoolOrder.l1])
         | succ k3 =>
          have H := HA.out
          clear HA
          simp only [laws_FnPoolOrder.l1] at H
          by_cases c63 : x10_3 < x9_2
          ·rw [if_pos c63] at H
           have c63b0 : decide (x10_3 < x9_2) = true := decide_eq_true c63
           clear c63
           by_cases c64 : 0 ≤ x10_3
           ·rw [if_pos c64] at H
            have c64b0 : decide (0 ≤ x10_3) = true := decide_eq_true c64
            clear c64
            by_cases c65 : x10_3 < (t699.length : Int)
            ·rw [if_pos c65] at H
             have c65b0 : decide (x10_3 < (t699.length : Int)) = true := decide_eq_true c65
             clear c65
             by_cases c66 : 0 ≤ x9_2
             ·rw [if_pos c66] at H
              have c66b0 : decide (0 ≤ x9_2) = true := decide_eq_true c66
              clear c66
              by_cases c67 : x9_2 < (t699.length : Int)
              ·rw [if_pos c67] at H
               have c67b0 : decide (x9_2 < (t699.length : Int)) = true := decide_eq_true c67
               clear c67
               by_cases c68 : (((rd_T25 t699 x10_3).f0) == ((rd_T25 t699 x9_2).f0) && (((rd_T25 t699 x10_3).f1) == ((rd_T25 t699 x9_2).f1))) = true
               ·rw [if_pos c68] at H
                have c68b0 : (((rd_T25 t699 x10_3).f0) == ((rd_T25 t699 x9_2).f0) && (((rd_T25 t699 x10_3).f1) == ((rd_T25 t699 x9_2).f1))) = true := c68
                (try (have c68b1 : decide (((rd_T25 t699 x10_3).f0) = ((rd_T25 t699 x9_2).f0) && (((rd_T25 t699 x10_3).f1) == ((rd_T25 t699 x9_2).f1))) = true := by simpa using c68))
                (try (have c68b2 : (((rd_T25 t699 x10_3).f0) == ((rd_T25 t699 x9_2).f0) && (((rd_T25 t699 x10_3).f1) == ((rd_T25 t699 x9_2).f1))) = true := by simpa using c68))
                clear c68
                obtain rfl := Option.some.inj H
                have p718 : 0 ≤ (x10_3 : Int) := of_decide_eq_true (z24_9)
                have q718 : x10_3 < (t699.length : Int) := of_decide_eq_true (z24_9)
                obtain ⟨ad718, e718, hx718_0, hx718_1⟩ := at_T25 (Kd.R_reads' HO_4.out).2.2 x10_3 p718 q718
                cases e718
                replace p718 := eq_true p718
                replace q718 := eq_true q718
                have p719 : 0 ≤ (x9_2 : Int) := of_decide_eq_true (z24_9)
                have q719 : x9_2 < (t699.length : Int) := of_decide_eq_true (z24_9)
                obtain ⟨ad719, e719, hx719_0, hx719_1⟩ := at_T25 (Kd.R_reads' HO_4.out).2.2 x9_2 p719 q719
                obtain rfl : ad718 = ad719 := (by injection e719)
                replace p719 := eq_true p719
                replace q719 := eq_true q719
                go_wp2
                repeat (go_quiet (fail); try go_wp2)
                go_ret
                exact ⟨by first | rfl | (simp [errW_none, errW_some] <;> rfl) | (simp [*, errW_none, errW_some] <;> rfl), by repeat (first | (with_reducible first | exact HB.out | apply below_alloc | apply pw_below_drewN | apply below_drew1 | refine below_set ?_ GE702.out | refine below_set ?_ GE708.out | refine below_set ?_ GE714.out) | exact HB.out)⟩
               ·rw [if_neg c68] at H
                have c68b0 : (((rd_T25 t699 x10_3).f0) == ((rd_T25 t699 x9_2).f0) && (((rd_T25 t699 x10_3).f1) == ((rd_T25 t699 x9_2).f1))) = false := by simpa using c68
                (try (have c68b1 : decide (((rd_T25 t699 x10_3).f0) = ((rd_T25 t699 x9_2).f0) && (((rd_T25 t699 x10_3).f1) == ((rd_T25 t699 x9_2).f1))) = false := by simpa using c68))
                (try (have c68b2 : (((rd_T25 t699 x10_3).f0) == ((rd_T25 t699 x9_2).f0) && (((rd_T25 t699 x10_3).f1) == ((rd_T25 t699 x9_2).f1))) = false := by simpa using c68))
                (try (have c68b3 : ¬ (((rd_T25 t699 x10_3).f0) = ((rd_T25 t699 x9_2).f0) && (((rd_T25 t699 x10_3).f1) == ((rd_T25 t699 x9_2).f1))) := by simpa using c68))
                clear c68
                have H' := Aside0.mk H
                clear H
                have p718 : 0 ≤ (x10_3 : Int) := of_decide_eq_true (z24_9)
                have q718 : x10_3 < (t699.length : Int) := of_decide_eq_true (z24_9)
                obtain ⟨ad718, e718, hx718_0, hx718_1⟩ := at_T25 (Kd.R_reads' HO_4.out).2.2 x10_3 p718 q718
                cases e718
                replace p718 := eq_true p718
                replace q718 := eq_true q718
                have p719 : 0 ≤ (x9_2 : Int) := of_decide_eq_true (z24_9)
                have q719 : x9_2 < (t699.length : Int) := of_decide_eq_true (z24_9)
                obtain ⟨ad719, e719, hx719_0, hx719_1⟩ := at_T25 (Kd.R_reads' HO_4.out).2.2 x9_2 p719 q719
                obtain rfl : ad718 = ad719 := (by injection e719)
                replace p719 := eq_true p719
                replace q719 := eq_true q719
                go_wp2
                repeat (go_quiet (fail); try go_wp2)
                go_roundg k3
                case measure => have := HJ5.out; have := HK2.out; have := HK3.out; omega
                case rel => exact ⟨(wrap64 (x10_3 + 1)), (z24_10), H', ⟨by have := HJ5.out; have := HK2.out; have := HK3.out; omega⟩, ⟨by (with_reducible repeat (first | apply Kd.R_alloc | apply Kd.R_drewN | apply Kd.R_drew)); exact HO_4.out⟩, ⟨by (with_reducible repeat (first | apply Kd.R_alloc | apply Kd.R_drewN | apply Kd.R_drew)); exact HO_703001.out⟩, ⟨by (with_reducible repeat (first | apply Kd.R_alloc | apply Kd.R_drewN | apply Kd.R_drew)); exact HO_709001.out⟩, ⟨by (with_reducible repeat (first | apply Kd.R_alloc | apply Kd.R_drewN | apply Kd.R_drew)); exact HO_715001.out⟩, ⟨by (with_reducible repeat (first | refine blk_drewN ?_ _ | refine blk_drew ?_ | refine blk_alloc ?_ _)); exact BK702.out⟩, ⟨by (with_reducible repeat (first | refine blk_drewN ?_ _ | refine blk_drew ?_ | refine blk_alloc ?_ _)); exact BK708.out⟩, ⟨by (with_reducible repeat (first | refine blk_drewN ?_ _ | refine blk_drew ?_ | refine blk_alloc ?_ _)); exact BK714.out⟩, ⟨by repeat (first | (with_reducible first | exact HB.out | apply below_alloc | apply pw_below_drewN | apply below_drew1 | refine below_set ?_ GE702.out | refine below_set ?_ GE708.out | refine below_set ?_ GE714.out) | exact HB.out)⟩⟩
              ·rw [if_neg c67] at H
               exact absurd H (by simp)
             ·rw [if_neg c66] at H
              exact absurd H (by simp)
            ·rw [if_neg c65] at H
             exact absurd H (by simp)
           ·rw [if_neg c64] at H
            exact absurd H (by simp)
          ·rw [if_neg c63] at H
           have c63b0 : decide (x10_3 < x9_2) = false := decide_eq_false c63
           clear c63
           have H' := Aside0.mk H
           clear H
           go_wp2
           repeat (go_quiet (fail); try go_wp2)
           go_roundg k3
           case measure => have := HJ5.out; have := HK2.out; have := HK3.out; omega
           case rel => exact ⟨(wrap64 (x9_2 + 1)), (z24_10), H', ⟨by have := HJ5.out; have := HK2.out; have := HK3.out; omega⟩, ⟨by (with_reducible repeat (first | apply Kd.R_alloc | apply Kd.R_drewN | apply Kd.R_drew)); exact HO_4.out⟩, ⟨by (with_reducible repeat (first | apply Kd.R_alloc | apply Kd.R_drewN | apply Kd.R_drew)); exact HO_703001.out⟩, ⟨by (with_reducible repeat (first | apply Kd.R_alloc | apply Kd.R_drewN | apply Kd.R_drew)); exact HO_709001.out⟩, ⟨by (with_reducible repeat (first | apply Kd.R_alloc | apply Kd.R_drewN | apply Kd.R_drew)); exact HO_715001.out⟩, ⟨by (with_reducible repeat (first | refine blk_drewN ?_ _ | refine blk_drew ?_ | refine blk_alloc ?_ _)); exact BK702.out⟩, ⟨by (with_reducible repeat (first | refine blk_drewN ?_ _ | refine blk_drew ?_ | refine blk_alloc ?_ _)); exact BK708.out⟩, ⟨by (with_reducible repeat (first | refine blk_drewN ?_ _ | refine blk_drew ?_ | refine blk_alloc ?_ _)); exact BK714.out⟩, ⟨by repeat (first | (with_reducible first | exact HB.out | apply below_alloc | apply pw_below_drewN | apply below_drew1 | refine below_set ?_ GE702.out | refine below_set ?_ GE708.out | refine below_set ?_ GE714.out) | exact HB.out)⟩⟩
       ·rw [if_neg c62] at H
        have c62b0 : decide (x9_2 < (t699.length : Int)) = false := decide_eq_false c62
        clear c62
        have H' := Aside0.mk H
        clear H
        go_wp2
        repeat (go_quiet (fail); try go_wp2)
        go_loopg [11] k2 (fun kq v11 w' => ∃ (x11_3 : Int), v11 = .int .i64 x11_3 ∧ Aside0 (laws_FnPoolOrder.l2 kq t699 x11_3 t695 t696 t703 t704 = some r) ∧ Aside0 (kq ≤ k2) ∧ Aside0 (Kd.R k25 25 w' w.heap.size (fun k_ => some k_ ≠ ((.slice Ao10 t696.length co10) : Value).ownBlock ∧ some k_ ≠ ((.slice Ao16 t704.length co16) : Value).ownBlock ∧ some k_ ≠ ((.slice Ao23 t710.length co23) : Value).ownBlock) (.slice Ao11 t699.length co11) t699) ∧ Aside0 (Kd.R k25 25 w' w.heap.size (fun k_ => some k_ ≠ ((.slice Ao11 t699.length co11) : Value).ownBlock ∧ some k_ ≠ ((.slice Ao16 t704.length co16) : Value).ownBlock ∧ some k_ ≠ ((.slice Ao23 t710.length co23) : Value).ownBlock) (.slice Ao10 t696.length co10) t696) ∧ Aside0 (Kd.R k25 25 w' w.heap.size (fun k_ => some k_ ≠ ((.slice Ao11 t699.length co11) : Value).ownBlock ∧ some k_ ≠ ((.slice Ao10 t696.length co10) : Value).ownBlock ∧ some k_ ≠ ((.slice Ao23 t710.length co23) : Value).ownBlock) (.slice Ao16 t704.length co16) t704) ∧ Aside0 (Kd.R k25 25 w' w.heap.size (fun k_ => some k_ ≠ ((.slice Ao11 t699.length co11) : Value).ownBlock ∧ some k_ ≠ ((.slice Ao10 t696.length co10) : Value).ownBlock ∧ some k_ ≠ ((.slice Ao16 t704.length co16) : Value).ownBlock) (.slice Ao23 t710.length co23) t710) ∧ Aside0 (w'.heap[gb702]? = some (.cells #[.int .i64 t695, (.slice Ao10 t696.length co10)] 46 (0, 0))) ∧ Aside0 (w'.heap[gb708]? = some (.cells #[.int .i64 t703, (.slice Ao16 t704.length co16)] 46 (0, 0))) ∧ Aside0 (w'.heap[gb714]? = some (.cells #[.int .i64 t709, (.slice Ao23 t710.length co23)] 46 (0, 0))) ∧ Aside0 (Below w.heap.size w w'))
        case atStart => exact ⟨(0), (z24_10), H', ⟨Nat.le_refl _⟩, ⟨by (with_reducible repeat (first | apply Kd.R_alloc | apply Kd.R_drewN | apply Kd.R_drew)); exact HO_4.out⟩, ⟨by (with_reducible repeat (first | apply Kd.R_alloc | apply Kd.R_drewN | apply Kd.R_drew)); exact HO_703001.out⟩, ⟨by (with_reducible repeat (first | apply Kd.R_alloc | apply Kd.R_drewN | apply Kd.R_drew)); exact HO_709001.out⟩, ⟨by (with_reducible repeat (first | apply Kd.R_alloc | apply Kd.R_drewN | apply Kd.R_drew)); exact HO_715001.out⟩, ⟨by (with_reducible repeat (first | refine blk_drewN ?_ _ | refine blk_drew ?_ | refine blk_alloc ?_ _)); exact BK702.out⟩, ⟨by (with_reducible repeat (first | refine blk_drewN ?_ _ | refine blk_drew ?_ | refine blk_alloc ?_ _)); exact BK708.out⟩, ⟨by (with_reducible repeat (first | refine blk_drewN ?_ _ | refine blk_drew ?_ | refine blk_alloc ?_ _)); exact BK714.out⟩, ⟨by repeat (first | (with_reducible first | exact HB.out | apply below_alloc | apply pw_below_drewN | apply below_drew1 | refine below_set ?_ GE702.out | refine below_set ?_ GE708.out | refine below_set ?_ GE714.out) | exact HB.out)⟩⟩
        case round =>
         clear H'
         try clear c1
         try clear c2
         try clear c2b0
         try clear c2b1
         try clear p2
         try clear c3
         try clear c4
         try clear c5
         try clear c6
         try clear p6
         try clear p7
         try clear q7
         try clear hx7
         try clear c14
         try clear c20
         try clear c21
         try clear c24
         try clear c24b0
         try clear c24b1
         try clear c26
         try clear c28
         try clear c29
         try clear c30
         try clear c32
         try clear c39
         try clear c40
         try clear c42
         try clear c47
         try clear c48
         try clear c50
         try clear c53
         try clear c54
         try clear c54b0
         try clear c54b1
         try clear c56
         try clear c57
         try clear c59
         try clear c62
         try clear c62b0
         try clear c63
         try clear c63b0
         try clear c64
         try clear c64b0
         try clear p64
         try clear c65
         try clear c65b0
         try clear c66
         try clear c66b0
         try clear c67
         try clear c67b0
         try clear c68
         try clear c68b0
         try clear c68b1
         try clear c68b2
         try clear hcz15_0
         try clear hcz15_1
         try clear hcz17_0
         try clear hcz17_1
         try clear hcz22_0
         try clear hcz22_1
         try clear hcz31_0
         try clear hcz31_1
         try clear hcz33_0
         try clear hcz33_1
         try clear hcz35_0
         try clear hcz35_1
         try clear hcz37_0
         try clear hcz37_1
         try clear hcz38_0
         try clear hcz38_1
         try clear hcz41_0
         try clear hcz41_1
         try clear hcz43_0
         try clear hcz43_1
         try clear hcz45_0
         try clear hcz45_1
         try clear hcz49_0
         try clear hcz49_1
         try clear hcz51_0
         try clear hcz51_1
         try clear hcz58_0
         try clear hcz58_1
         try clear hcz60_0
         try clear hcz60_1
         try clear hcz9_0
         try clear hcz9_1
         try clear hfz15_0
         try clear hfz15_1
         try clear hfz17_0
         try clear hfz17_1
         try clear hfz22_0
         try clear hfz22_1
         try clear hfz31_0
         try clear hfz31_1
         try clear hfz33_0
         try clear hfz33_1
         try clear hfz35_0
         try clear hfz35_1
         try clear hfz37_0
         try clear hfz37_1
         try clear hfz38_0
         try clear hfz38_1
         try clear hfz41_0
         try clear hfz41_1
         try clear hfz43_0
         try clear hfz43_1
         try clear hfz45_0
         try clear hfz45_1
         try clear hfz49_0
         try clear hfz49_1
         try clear hfz51_0
         try clear hfz51_1
         try clear hfz58_0
         try clear hfz58_1
         try clear hfz60_0
         try clear hfz60_1
         try clear hfz9_0
         try clear hfz9_1
         try clear hx718_0
         try clear hx718_1
         try clear hx719_0
         try clear hx719_1
         try clear p2
         try clear p718
         try clear p719
         try clear q718
         try clear q719
         obtain ⟨x11_3, rfl, HA, HK3, HO_4, HO_703001, HO_709001, HO_715001, BK702, BK708, BK714, HB⟩ := hrel
         cases gk with
         | zero => exact absurd HA.out (by simp [laws_FnPoolOrder.l2])
         | succ k3 =>
          have H := HA.out
          clear HA
          simp only [laws_FnPoolOrder.l2] at H
          have HC69 := Aside0.mk H
          clear H
          go_upto_region 17 with (fail)
          repeat (go_quiet (fail); go_upto_region 17 with (fail))
          go_cut [91] (fun v91 wc => ∃ (kq : Nat) (x91_68 : Bool), v91 = .bool x91_68 ∧ Aside0 (laws_FnPoolOrder.j4 kq t699 x11_3 x91_68 t695 t696 t703 t704 = some r) ∧ Aside0 (kq ≤ k3) ∧ Aside0 (Kd.R k25 25 wc w.heap.size (fun k_ => some k_ ≠ ((.slice Ao10 t696.length co10) : Value).ownBlock ∧ some k_ ≠ ((.slice Ao16 t704.length co16) : Value).ownBlock ∧ some k_ ≠ ((.slice Ao23 t710.length co23) : Value).ownBlock) (.slice Ao11 t699.length co11) t699) ∧ Aside0 (Kd.R k25 25 wc w.heap.size (fun k_ => some k_ ≠ ((.slice Ao11 t699.length co11) : Value).ownBlock ∧ some k_ ≠ ((.slice Ao16 t704.length co16) : Value).ownBlock ∧ some k_ ≠ ((.slice Ao23 t710.length co23) : Value).ownBlock) (.slice Ao10 t696.length co10) t696) ∧ Aside0 (Kd.R k25 25 wc w.heap.size (fun k_ => some k_ ≠ ((.slice Ao11 t699.length co11) : Value).ownBlock ∧ some k_ ≠ ((.slice Ao10 t696.length co10) : Value).ownBlock ∧ some k_ ≠ ((.slice Ao23 t710.length co23) : Value).ownBlock) (.slice Ao16 t704.length co16) t704) ∧ Aside0 (Kd.R k25 25 wc w.heap.size (fun k_ => some k_ ≠ ((.slice Ao11 t699.length co11) : Value).ownBlock ∧ some k_ ≠ ((.slice Ao10 t696.length co10) : Value).ownBlock ∧ some k_ ≠ ((.slice Ao16 t704.length co16) : Value).ownBlock) (.slice Ao23 t710.length co23) t710) ∧ Aside0 (wc.heap[gb702]? = some (.cells #[.int .i64 t695, (.slice Ao10 t696.length co10)] 46 (0, 0))) ∧ Aside0 (wc.heap[gb708]? = some (.cells #[.int .i64 t703, (.slice Ao16 t704.length co16)] 46 (0, 0))) ∧ Aside0 (wc.heap[gb714]? = some (.cells #[.int .i64 t709, (.slice Ao23 t710.length co23)] 46 (0, 0))) ∧ Aside0 (Below w.heap.size w wc))
          case first =>
           have H := HC69.out
           clear HC69
           by_cases c70 : x11_3 < (t699.length : Int)
           ·rw [if_pos c70] at H
            have c70b0 : decide (x11_3 < (t699.length : Int)) = true := decide_eq_true c70
            clear c70
            (first | rw [c70b0] | (simp only [i64_w, i32_w]; rw [c70b0]) | skip)
            have H' := Aside0.mk H
            clear H
            have hnb71 := NB708_702.out
            have hnc71 := NB702_708.out
            have hnb72 := NB708_714.out
            have hnc72 := NB714_708.out
            have hcz73_0 : wr.cell? ⟨gb708, 0, none⟩ = some (.int .i64 t703) := (blk_cell BK708.out 0).trans rfl
            have hcz73_1 : wr.cell? ⟨gb708, 1, none⟩ = some (.slice Ao16 t704.length co16) := (blk_cell BK708.out 1).trans rfl
            have hfz73_0 := blk_frozen BK708.out 0
            have hfz73_1 := blk_frozen BK708.out 1
            go_wp2
            repeat (go_quiet (fail); try go_wp2)
            go_meet
            case rel => exact ⟨_, (decide (x11_3 < (t704.length : Int))), (z24_10), H', ⟨by have := HJ5.out; have := HK2.out; have := HK3.out; first | omega | exact Nat.le_refl _⟩, ⟨by (with_reducible repeat (first | apply Kd.R_alloc | apply Kd.R_drewN | apply Kd.R_drew)); exact HO_4.out⟩, ⟨by (with_reducible repeat (first | apply Kd.R_alloc | apply Kd.R_drewN | apply Kd.R_drew)); exact HO_703001.out⟩, ⟨by (with_reducible repeat (first | apply Kd.R_alloc | apply Kd.R_drewN | apply Kd.R_drew)); exact HO_709001.out⟩, ⟨by (with_reducible repeat (first | apply Kd.R_alloc | apply Kd.R_drewN | apply Kd.R_drew)); exact HO_715001.out⟩, ⟨by (with_reducible repeat (first | refine blk_drewN ?_ _ | refine blk_drew ?_ | refine blk_alloc ?_ _)); exact BK702.out⟩, ⟨by (with_reducible repeat (first | refine blk_drewN ?_ _ | refine blk_drew ?_ | refine blk_alloc ?_ _)); exact BK708.out⟩, ⟨by (with_reducible repeat (first | refine blk_drewN ?_ _ | refine blk_drew ?_ | refine blk_alloc ?_ _)); exact BK714.out⟩, ⟨by repeat (first | (with_reducible first | exact HB.out | apply below_alloc | apply pw_below_drewN | apply below_drew1 | refine below_set ?_ GE702.out | refine below_set ?_ GE708.out | refine below_set ?_ GE714.out) | exact HB.out)⟩⟩
           ·rw [if_neg c70] at H
            have c70b0 : decide (x11_3 < (t699.length : Int)) = false := decide_eq_false c70
            clear c70
            (first | rw [c70b0] | (simp only [i64_w, i32_w]; rw [c70b0]) | skip)
            have H' := Aside0.mk H
            clear H
            go_wp2
            repeat (go_quiet (fail); try go_wp2)
            go_meet
            case rel => exact ⟨_, (false), (z24_10), H', ⟨by have := HJ5.out; have := HK2.out; have := HK3.out; first | omega | exact Nat.le_refl _⟩, ⟨by (with_reducible repeat (first | apply Kd.R_alloc | apply Kd.R_drewN | apply Kd.R_drew)); exact HO_4.out⟩, ⟨by (with_reducible repeat (first | apply Kd.R_alloc | apply Kd.R_drewN | apply Kd.R_drew)); exact HO_703001.out⟩, ⟨by (with_reducible repeat (first | apply Kd.R_alloc | apply Kd.R_drewN | apply Kd.R_drew)); exact HO_709001.out⟩, ⟨by (with_reducible repeat (first | apply Kd.R_alloc | apply Kd.R_drewN | apply Kd.R_drew)); exact HO_715001.out⟩, ⟨by (with_reducible repeat (first | refine blk_drewN ?_ _ | refine blk_drew ?_ | refine blk_alloc ?_ _)); exact BK702.out⟩, ⟨by (with_reducible repeat (first | refine blk_drewN ?_ _ | refine blk_drew ?_ | refine blk_alloc ?_ _)); exact BK708.out⟩, ⟨by (with_reducible repeat (first | refine blk_drewN ?_ _ | refine blk_drew ?_ | refine blk_alloc ?_ _)); exact BK714.out⟩, ⟨by repeat (first | (with_reducible first | exact HB.out | apply below_alloc | apply pw_below_drewN | apply below_drew1 | refine below_set ?_ GE702.out | refine below_set ?_ GE708.out | refine below_set ?_ GE714.out) | exact HB.out)⟩⟩
          case rest =>
           clear HC69
           try clear c1
           try clear c2
           try clear c2b0
           try clear c2b1
           try clear p2
           try clear c3
           try clear c4
           try clear c5
           try clear c6
           try clear p6
           try clear c7
           try clear p7
           try clear q7
           try clear hx7
           try clear c14
           try clear c20
           try clear c21
           try clear c24
           try clear c24b0
           try clear c24b1
           try clear c26
           try clear c28
           try clear c29
           try clear c30
           try clear c32
           try clear c39
           try clear c40
           try clear c42
           try clear c47
           try clear c48
           try clear c50
           try clear c53
           try clear c54
           try clear c54b0
           try clear c54b1
           try clear c56
           try clear c57
           try clear c59
           try clear c62
           try clear c62b0
           try clear c63
           try clear c63b0
           try clear c64
           try clear c64b0
           try clear p64
           try clear c65
           try clear c65b0
           try clear c66
           try clear c66b0
           try clear c67
           try clear c67b0
           try clear c68
           try clear c68b0
           try clear c68b1
           try clear c68b2
           try clear c70
           try clear c70b0
           try clear c71
           try clear p71
           try clear q71
           try clear hx71
           try clear c72
           try clear hcz15_0
           try clear hcz15_1
           try clear hcz17_0
           try clear hcz17_1
           try clear hcz22_0
           try clear hcz22_1
           try clear hcz31_0
           try clear hcz31_1
           try clear hcz33_0
           try clear hcz33_1
           try clear hcz35_0
           try clear hcz35_1
           try clear hcz37_0
           try clear hcz37_1
           try clear hcz38_0
           try clear hcz38_1
           try clear hcz41_0
           try clear hcz41_1
           try clear hcz43_0
           try clear hcz43_1
           try clear hcz45_0
           try clear hcz45_1
           try clear hcz49_0
           try clear hcz49_1
           try clear hcz51_0
           try clear hcz51_1
           try clear hcz58_0
           try clear hcz58_1
           try clear hcz60_0
           try clear hcz60_1
           try clear hcz73_0
           try clear hcz73_1
           try clear hcz9_0
           try clear hcz9_1
           try clear hfz15_0
           try clear hfz15_1
           try clear hfz17_0
           try clear hfz17_1
           try clear hfz22_0
           try clear hfz22_1
           try clear hfz31_0
           try clear hfz31_1
           try clear hfz33_0
           try clear hfz33_1
           try clear hfz35_0
           try clear hfz35_1
           try clear hfz37_0
           try clear hfz37_1
           try clear hfz38_0
           try clear hfz38_1
           try clear hfz41_0
           try clear hfz41_1
           try clear hfz43_0
           try clear hfz43_1
           try clear hfz45_0
           try clear hfz45_1
           try clear hfz49_0
           try clear hfz49_1
           try clear hfz51_0
           try clear hfz51_1
           try clear hfz58_0
           try clear hfz58_1
           try clear hfz60_0
           try clear hfz60_1
           try clear hfz73_0
           try clear hfz73_1
           try clear hfz9_0
           try clear hfz9_1
           try clear hx718_0
           try clear hx718_1
           try clear hx719_0
           try clear hx719_1
           try clear p2
           try clear p6
           try clear p64
           try clear p7
           try clear p718
           try clear p719
           try clear q7
           try clear q718
           try clear q719
           obtain ⟨kq, x91_68, rfl, HA, HJ68, HO_4, HO_703001, HO_709001, HO_715001, BK702, BK708, BK714, HB⟩ := hcut
           cases kq with
           | zero => exact absurd HA.out (by simp [laws_FnPoolOrder.j4])
           | succ kj68 =>
            have H := HA.out
            clear HA
            simp only [laws_FnPoolOrder.j4] at H
            by_cases c74 : x91_68 = true
            ·subst c74
             have H1 : (if 0 ≤ x11_3 then (if x11_3 < (t704.length : Int) then (if 0 ≤ (wrap64 ((wrap64 ((t699.length : Int) - 1)) - x11_3)) then (if (wrap64 ((wrap64 ((t699.length : Int) - 1)) - x11_3)) < (t699.length : Int) then (if (!(((rd_T25 t704 x11_3).f0) == ((rd_T25 t699 (wrap64 ((wrap64 ((t699.length : Int) - 1)) - x11_3))).f0)) || (!(((rd_T25 t704 x11_3).f1) == ((rd_T25 t699 (wrap64 ((wrap64 ((t699.length : Int) - 1)) - x11_3))).f1)))) = true then (some false) else (laws_FnPoolOrder.l2 kj68 t699 (wrap64 (x11_3 + 1)) t695 t696 t703 t704)) else (none)) else (none)) else (none)) else (none)) = some r := by rw [if_pos rfl] at H; exact H
             clear H
             have H := H1
             clear H1
             by_cases c75 : 0 ≤ x11_3
             ·rw [if_pos c75] at H
              have c75b0 : decide (0 ≤ x11_3) = true := decide_eq_true c75
              clear c75
              by_cases c76 : x11_3 < (t704.length : Int)
              ·rw [if_pos c76] at H
               have c76b0 : decide (x11_3 < (t704.length : Int)) = true := decide_eq_true c76
               clear c76
               obtain ⟨ji77, hji77⟩ : ∃ j_ : Int, (wrap64 ((wrap64 ((t699.length : Int) - 1)) - x11_3)) = j_ := ⟨_, rfl⟩
               replace H : (if 0 ≤ (ji77) then (if (ji77) < (t699.length : Int) then (if (!(((rd_T25 t704 x11_3).f0) == ((rd_T25 t699 (ji77)).f0)) || (!(((rd_T25 t704 x11_3).f1) == ((rd_T25 t699 (ji77)).f1)))) = true then (some false) else (laws_FnPoolOrder.l2 kj68 t699 (wrap64 (x11_3 + 1)) t695 t696 t703 t704)) else (none)) else (none)) = some r := by first | (rw [hji77] at H; exact H) | (simp only [hji77] at H ⊢; exact H)
               have hji77w : (IntKind.i64.wrap ((wrap64 ((t699.length : Int) - 1)) - x11_3)) = ji77 := (i64_w _).trans hji77
               by_cases c78 : 0 ≤ (ji77)
               ·rw [if_pos c78] at H
                have c78b0 : decide (0 ≤ (ji77)) = true := decide_eq_true c78
                clear c78
                by_cases c79 : (ji77) < (t699.length : Int)
                ·rw [if_pos c79] at H
                 have c79b0 : decide ((ji77) < (t699.length : Int)) = true := decide_eq_true c79
                 clear c79
                 by_cases c80 : (!(((rd_T25 t704 x11_3).f0) == ((rd_T25 t699 (ji77)).f0)) || (!(((rd_T25 t704 x11_3).f1) == ((rd_T25 t699 (ji77)).f1)))) = true
                 ·rw [if_pos c80] at H
                  have c80b0 : (!(((rd_T25 t704 x11_3).f0) == ((rd_T25 t699 (ji77)).f0)) || (!(((rd_T25 t704 x11_3).f1) == ((rd_T25 t699 (ji77)).f1)))) = true := c80
                  clear c80
                  exact absurd ((Option.some.inj H).trans hT) (by simp)
                 ·rw [if_neg c80] at H
                  have c80b0 : (!(((rd_T25 t704 x11_3).f0) == ((rd_T25 t699 (ji77)).f0)) || (!(((rd_T25 t704 x11_3).f1) == ((rd_T25 t699 (ji77)).f1)))) = false := by simpa using c80
                  clear c80
                  have H' := Aside0.mk H
                  clear H
                  have hnb81 := NB708_702.out
                  have hnc81 := NB702_708.out
                  have hnb82 := NB708_714.out
                  have hnc82 := NB714_708.out
                  have hcz83_0 : wc.cell? ⟨gb708, 0, none⟩ = some (.int .i64 t703) := (blk_cell BK708.out 0).trans rfl
                  have hcz83_1 : wc.cell? ⟨gb708, 1, none⟩ = some (.slice Ao16 t704.length co16) := (blk_cell BK708.out 1).trans rfl
                  have hfz83_0 := blk_frozen BK708.out 0
                  have hfz83_1 := blk_frozen BK708.out 1
                  have p720 : 0 ≤ (x11_3 : Int) := of_decide_eq_true (z24_9)
                  have q720 : x11_3 < (t704.length : Int) := of_decide_eq_true (z24_9)
                  obtain ⟨ad720, e720, hx720_0, hx720_1⟩ := at_T25 (Kd.R_reads' HO_709001.out).2.2 x11_3 p720 q720
                  cases e720
                  replace p720 := eq_true p720
                  replace q720 := eq_true q720
                  have p721 : 0 ≤ ((ji77) : Int) := of_decide_eq_true (z24_9)
                  have q721 : (ji77) < (t699.length : Int) := of_decide_eq_true (z24_9)
                  obtain ⟨ad721, e721, hx721_0, hx721_1⟩ := at_T25 (Kd.R_reads' HO_4.out).2.2 (ji77) p721 q721
                  cases e721
                  replace p721 := eq_true p721
                  replace q721 := eq_true q721
                  go_wp2
                  repeat (go_quiet (fail); try go_wp2)
                  go_roundg kj68
                  case measure => have := HJ5.out; have := HK2.out; have := HK3.out; have := HJ68.out; omega
                  case rel => exact ⟨(wrap64 (x11_3 + 1)), (z24_10), H', ⟨by have := HJ5.out; have := HK2.out; have := HK3.out; have := HJ68.out; omega⟩, ⟨by (with_reducible repeat (first | apply Kd.R_alloc | apply Kd.R_drewN | apply Kd.R_drew)); exact HO_4.out⟩, ⟨by (with_reducible repeat (first | apply Kd.R_alloc | apply Kd.R_drewN | apply Kd.R_drew)); exact HO_703001.out⟩, ⟨by (with_reducible repeat (first | apply Kd.R_alloc | apply Kd.R_drewN | apply Kd.R_drew)); exact HO_709001.out⟩, ⟨by (with_reducible repeat (first | apply Kd.R_alloc | apply Kd.R_drewN | apply Kd.R_drew)); exact HO_715001.out⟩, ⟨by (with_reducible repeat (first | refine blk_drewN ?_ _ | refine blk_drew ?_ | refine blk_alloc ?_ _)); exact BK702.out⟩, ⟨by (with_reducible repeat (first | refine blk_drewN ?_ _ | refine blk_drew ?_ | refine blk_alloc ?_ _)); exact BK708.out⟩, ⟨by (with_reducible repeat (first | refine blk_drewN ?_ _ | refine blk_drew ?_ | refine blk_alloc ?_ _)); exact BK714.out⟩, ⟨by repeat (first | (with_reducible first | exact HB.out | apply below_alloc | apply pw_below_drewN | apply below_drew1 | refine below_set ?_ GE702.out | refine below_set ?_ GE708.out | refine below_set ?_ GE714.out) | exact HB.out)⟩⟩
                ·rw [if_neg c79] at H
                 exact absurd H (by simp)
               ·rw [if_neg c78] at H
                exact absurd H (by simp)
              ·rw [if_neg c76] at H
               exact absurd H (by simp)
             ·rw [if_neg c75] at H
              exact absurd H (by simp)
            ·replace c74 := Bool.eq_false_iff.mpr c74
             subst c74
             have H1 : (some (decide ((t704.length : Int) ≥ (t696.length : Int)))) = some r := by rw [if_neg (show ¬ (false = true) by decide)] at H; exact H
             clear H
             have H := H1
             clear H1
             obtain rfl := Option.some.inj H
             have hnb84 := NB708_702.out
             have hnc84 := NB702_708.out
             have hnb85 := NB708_714.out
             have hnc85 := NB714_708.out
             have hcz86_0 : wc.cell? ⟨gb708, 0, none⟩ = some (.int .i64 t703) := (blk_cell BK708.out 0).trans rfl
             have hcz86_1 : wc.cell? ⟨gb708, 1, none⟩ = some (.slice Ao16 t704.length co16) := (blk_cell BK708.out 1).trans rfl
             have hfz86_0 := blk_frozen BK708.out 0
             have hfz86_1 := blk_frozen BK708.out 1
             have hnb87 := NB702_714.out
             have hnc87 := NB714_702.out
             have hcz88_0 : wc.cell? ⟨gb702, 0, none⟩ = some (.int .i64 t695) := (blk_cell BK702.out 0).trans rfl
             have hcz88_1 : wc.cell? ⟨gb702, 1, none⟩ = some (.slice Ao10 t696.length co10) := (blk_cell BK702.out 1).trans rfl
             have hfz88_0 := blk_frozen BK702.out 0
             have hfz88_1 := blk_frozen BK702.out 1
             go_wp2
             repeat (go_quiet (fail); try go_wp2)
             go_ret
             exact ⟨by first | rfl | (simp [errW_none, errW_some] <;> rfl) | (simp [*, errW_none, errW_some] <;> rfl), by repeat (first | (with_reducible first | exact HB.out | apply below_alloc | apply pw_below_drewN | apply below_drew1 | refine below_set ?_ GE702.out | refine below_set ?_ GE708.out | refine below_set ?_ GE714.out) | exact HB.out)⟩

/-- THE ONE PURE STATEMENT of laws_FnPoolOrder: yours. -/
def laws_FnPoolOrder.Pure : Prop := ∀ (l0 : List Int), l0.length ≤ maxLen → l0.length * 1 ≤ 140737488351232 → (∀ x ∈ l0, (Lit.int .u8 x).wf = true) → ∃ k, laws_FnPoolOrder.f k l0 = some true
theorem laws_FnPoolOrder.walk (P : laws_FnPoolOrder.Pure) (a0 : Option Addr) (len0 cap0 : Nat) (z0 : List Int) (w : World) (w0 : (a0 = none ∧ len0 = 0 ∧ cap0 = 0 ∧ z0 = []) ∨ ∃ x, a0 = some x ∧ len0 ≤ cap0 ∧ cap0 ≤ maxLen ∧ z0.length = cap0 ∧ (∀ i, i < z0.length → w.cell? (x.add i) = some (.int .u8 (z0.getD i 0))) ∧ ∀ n ∈ z0, (Lit.int .u8 n).wf = true) (y0 : len0 * 1 ≤ 140737488351232) :
  Calls Try.prog 14 #[.slice a0 len0 cap0] w fun e w' => e = .returned (.bool true) ∧ Below w.heap.size w w' := by
 obtain ⟨l0, rfl, hr0, hm0, hw0, hc0⟩ := ReadsInt.ofRowC w0
 obtain ⟨k, h⟩ := P l0 hm0 y0 hw0
 refine (laws_FnPoolOrder.calls k _ _ l0 true w (Kd.C_of_reads (d := (0 : Int)) (h1 := fun _ => rfl) hr0) hc0 rfl h).mono ?_
 rintro e w' ⟨rfl, hd⟩
 exact ⟨rfl, hd⟩

end Go.Proofs.Ytcobbpghipeoeaa.R
