/- Contracts of Go functions, printed by a program (the kit's print.py under reprint.py) and shortened (post.py): each call comes to what the plain function of its name tells. Where that tells nothing, nothing is said. -/
import Derived.Test.YtcobbpghipeoeaaR0
import Derived.Test.YtcobbpghipeoeaaR1
import Derived.Test.YtcobbpghipeoeaaR4
import Derived.Test.YtcobbpghipeoeaaR5
import Derived.Test.YtcobbpghipeoeaaR6
import Derived.Test.YtcobbpghipeoeaaR12
import Derived.Test.YtcobbpghipeoeaaGC
namespace Go.Proofs.Ytcobbpghipeoeaa.R
open Go.RowKit Go.Proofs.YtcobbpghipeoeaaV.PrintWords Go.Proofs.YtcobbpghipeoeaaV.PrintLast Go.Proofs.YtcobbpghipeoeaaV.PrintMore
attribute [local go_sem] max2_int min2_int max_two min_two max_three min_three max_four min_four   -- for this text's walks alone
set_option linter.unusedVariables false
set_option linter.unusedSimpArgs false
theorem z27_0 {P : Prop} (h : P := by (with_reducible repeat (first | refine blk_drewN ?_ _ | refine blk_drew ?_ | refine blk_alloc ?_ _)); refine blk_far ?_ NB820_832.out _; (with_reducible repeat (first | refine blk_drewN ?_ _ | refine blk_drew ?_ | refine blk_alloc ?_ _)); refine blk_far ?_ NB820_832.out _; (with_reducible repeat (first | refine blk_drewN ?_ _ | refine blk_drew ?_ | refine blk_alloc ?_ _)); exact BK820.out) : P := h
theorem z27_1 {P : Prop} (h : P := by (with_reducible repeat (first | refine blk_drewN ?_ _ | refine blk_drew ?_ | refine blk_alloc ?_ _)); refine blk_far ?_ NB826_832.out _; (with_reducible repeat (first | refine blk_drewN ?_ _ | refine blk_drew ?_ | refine blk_alloc ?_ _)); refine blk_far ?_ NB826_832.out _; (with_reducible repeat (first | refine blk_drewN ?_ _ | refine blk_drew ?_ | refine blk_alloc ?_ _)); exact BK826.out) : P := h
theorem z27_2 {P : Prop} (h : P := by repeat (first | (with_reducible first | exact HB.out | apply below_alloc | apply pw_below_drewN | apply below_drew1 | refine below_set ?_ GE820.out | refine below_set ?_ GE826.out | refine below_set ?_ GE832.out) | exact HB.out)) : P := h
theorem z27_3 {P : Prop} (h : P := by repeat (first | (with_reducible first | exact HB.out | apply below_alloc | apply pw_below_drewN | apply below_drew1 | refine below_set ?_ GE820.out | refine below_set ?_ GE826.out) | exact HB.out)) : P := h
theorem z27_4 {P : Prop} (h : P := by repeat (first | (with_reducible first | exact HB.out | apply below_alloc | apply pw_below_drewN | apply below_drew1 | refine below_set ?_ GE820.out) | exact HB.out)) : P := h
theorem z27_5 {P : Prop} (h : P := by repeat (first | (with_reducible first | exact HB.out | apply below_alloc | apply pw_below_drewN | apply below_drew1) | exact HB.out)) : P := h
theorem z27_6 {P : Prop} (h : P := by (with_reducible repeat (first | refine blk_drewN ?_ _ | refine blk_drew ?_ | refine blk_alloc ?_ _)); exact BK820.out) : P := h
theorem z27_7 {P : Prop} (h : P := by (with_reducible repeat (first | refine blk_drewN ?_ _ | refine blk_drew ?_ | refine blk_alloc ?_ _)); exact BK826.out) : P := h
theorem z27_8 {P : Prop} (h : P := by (with_reducible repeat (first | refine blk_drewN ?_ _ | refine blk_drew ?_ | refine blk_alloc ?_ _)); exact BK832.out) : P := h
theorem z27_9 {P : Prop} (h : P := by first | (with_reducible assumption) | assumption) : P := h
theorem z27_10 {P : Prop} (h : P := by first | rfl | (simp; done) | (simp [*]; done)) : P := h

attribute [local go_sem high] eqA25
/-! ### laws_FnPoolLast: function 17 -/
mutual
def laws_FnPoolLast.j0 : Nat → List (S25) → Int → Int → Bool → Int → List (S25) → Int → List (S25) → Int → List (S25) → Option (Bool)
 | 0, _, _, _, _, _, _, _, _, _, _ => none
 | k + 1, x4, x6, x8, x56, x821000, x821001, x827000, x827001, x833000, x833001 => if x56 = true then (if x6 = x8 then ((impl_PoolSame.f k x827000 x827001 x833000 x833001).bind fun t835 => (some t835)) else (some false)) else (laws_FnPoolLast.l0 k x4 (([] : List (S25))) (wrap64 ((x4.length : Int) - 1)) x821000 x821001 x827000 x827001)
def laws_FnPoolLast.l0 : Nat → List (S25) → List (S25) → Int → Int → List (S25) → Int → List (S25) → Option (Bool)
 | 0, _, _, _, _, _, _, _ => none
 | k + 1, x4, x9, x10, x821000, x821001, x827000, x827001 => if x10 ≥ 0 then (laws_FnPoolLast.l1 k x4 x9 x10 false 0 x821000 x821001 x827000 x827001) else (laws_FnPoolLast.l2 k x9 0 x821000 x821001 x827000 x827001)
def laws_FnPoolLast.l1 : Nat → List (S25) → List (S25) → Int → Bool → Int → Int → List (S25) → Int → List (S25) → Option (Bool)
 | 0, _, _, _, _, _, _, _, _, _ => none
 | k + 1, x4, x9, x10, x11, x12, x821000, x821001, x827000, x827001 => if x12 < (x9.length : Int) then (if x11 = true then (laws_FnPoolLast.l1 k x4 x9 x10 true (wrap64 (x12 + 1)) x821000 x821001 x827000 x827001) else (if 0 ≤ x12 then (if 0 ≤ x10 then (if x10 < (x4.length : Int) then (laws_FnPoolLast.l1 k x4 x9 x10 (((rd_T25 x9 x12).f0) == ((rd_T25 x4 x10).f0) && (((rd_T25 x9 x12).f1) == ((rd_T25 x4 x10).f1))) (wrap64 (x12 + 1)) x821000 x821001 x827000 x827001) else (none)) else (none)) else (none))) else (if x11 = true then (laws_FnPoolLast.l0 k x4 x9 (wrap64 (x10 - 1)) x821000 x821001 x827000 x827001) else (if 0 ≤ x10 then (if x10 < (x4.length : Int) then (if x9.length < 8796093022208 then (laws_FnPoolLast.l0 k x4 (x9 ++ [(⟨(rd_T25 x4 x10).f0, (rd_T25 x4 x10).f1⟩ : S25)]) (wrap64 (x10 - 1)) x821000 x821001 x827000 x827001) else (none)) else (none)) else (none)))
def laws_FnPoolLast.l2 : Nat → List (S25) → Int → Int → List (S25) → Int → List (S25) → Option (Bool)
 | 0, _, _, _, _, _, _ => none
 | k + 1, x9, x13, x821000, x821001, x827000, x827001 => if x13 < (x821001.length : Int) then (laws_FnPoolLast.l3 k x9 x13 false 0 x821000 x821001 x827000 x827001) else (if (x9.length : Int) > x821000 then (if 0 ≤ x821000 then (if x821000 ≤ (x9.length : Int) then ((laws_wpPages.f k x827001 (x9.take (x821000 : Int).toNat)).bind fun t848 => (some t848)) else (none)) else (none)) else ((laws_wpPages.f k x827001 x9).bind fun t849 => (some t849)))
def laws_FnPoolLast.l3 : Nat → List (S25) → Int → Bool → Int → Int → List (S25) → Int → List (S25) → Option (Bool)
 | 0, _, _, _, _, _, _, _, _ => none
 | k + 1, x9, x13, x14, x15, x821000, x821001, x827000, x827001 => if x15 < (x9.length : Int) then (if x14 = true then (laws_FnPoolLast.l3 k x9 x13 true (wrap64 (x15 + 1)) x821000 x821001 x827000 x827001) else (if 0 ≤ x15 then (if 0 ≤ x13 then (if x13 < (x821001.length : Int) then (laws_FnPoolLast.l3 k x9 x13 (((rd_T25 x9 x15).f0) == ((rd_T25 x821001 x13).f0) && (((rd_T25 x9 x15).f1) == ((rd_T25 x821001 x13).f1))) (wrap64 (x15 + 1)) x821000 x821001 x827000 x827001) else (none)) else (none)) else (none))) else (if x14 = true then (laws_FnPoolLast.l2 k x9 (wrap64 (x13 + 1)) x821000 x821001 x827000 x827001) else (if 0 ≤ x13 then (if x13 < (x821001.length : Int) then (if x9.length < 8796093022208 then (laws_FnPoolLast.l2 k (x9 ++ [(⟨(rd_T25 x821001 x13).f0, (rd_T25 x821001 x13).f1⟩ : S25)]) (wrap64 (x13 + 1)) x821000 x821001 x827000 x827001) else (none)) else (none)) else (none)))
end
def laws_FnPoolLast.f (k : Nat) (l0 : List Int) : Option (Bool) := if (l0.length : Int) > 1048576 then (some true) else ((spec_DrawPoolAll.f k l0).bind fun bt813 => ((impl_PoolAll.f bt813.1 bt813.2.1 bt813.2.2).bind fun bt821 => ((spec_PoolAll.f k bt813.1 bt813.2.1 bt813.2.2).bind fun bt827 => (if bt821.2.2 = bt827.2.2 then ((impl_PoolSame.f k bt821.1 bt821.2.1 bt827.1 bt827.2.1).bind fun t833 => (if t833 = true then ((spec_PoolOk.f k bt813.1 bt813.2.1).bind fun t834 => (if t834 = true then (laws_FnPoolLast.j0 k bt813.2.2 bt821.2.2 bt827.2.2 (bt821.1 != bt813.1) bt813.1 bt813.2.1 bt821.1 bt821.2.1 bt827.1 bt827.2.1) else (laws_FnPoolLast.j0 k bt813.2.2 bt821.2.2 bt827.2.2 true bt813.1 bt813.2.1 bt821.1 bt821.2.1 bt827.1 bt827.2.1))) else (laws_FnPoolLast.j0 k bt813.2.2 bt821.2.2 bt827.2.2 true bt813.1 bt813.2.1 bt821.1 bt821.2.1 bt827.1 bt827.2.1))) else (laws_FnPoolLast.j0 k bt813.2.2 bt821.2.2 bt827.2.2 true bt813.1 bt813.2.1 bt821.1 bt821.2.1 bt827.1 bt827.2.1)))))
theorem laws_FnPoolLast.mono_l : ∀ k, (∀ y0 y1 y2 y3 y4 y5 y6 y7 y8 y9, LeO (laws_FnPoolLast.j0 k y0 y1 y2 y3 y4 y5 y6 y7 y8 y9) (laws_FnPoolLast.j0 (k + 1) y0 y1 y2 y3 y4 y5 y6 y7 y8 y9)) ∧ (∀ y0 y1 y2 y3 y4 y5 y6, LeO (laws_FnPoolLast.l0 k y0 y1 y2 y3 y4 y5 y6) (laws_FnPoolLast.l0 (k + 1) y0 y1 y2 y3 y4 y5 y6)) ∧ (∀ y0 y1 y2 y3 y4 y5 y6 y7 y8, LeO (laws_FnPoolLast.l1 k y0 y1 y2 y3 y4 y5 y6 y7 y8) (laws_FnPoolLast.l1 (k + 1) y0 y1 y2 y3 y4 y5 y6 y7 y8)) ∧ (∀ y0 y1 y2 y3 y4 y5, LeO (laws_FnPoolLast.l2 k y0 y1 y2 y3 y4 y5) (laws_FnPoolLast.l2 (k + 1) y0 y1 y2 y3 y4 y5)) ∧ (∀ y0 y1 y2 y3 y4 y5 y6 y7, LeO (laws_FnPoolLast.l3 k y0 y1 y2 y3 y4 y5 y6 y7) (laws_FnPoolLast.l3 (k + 1) y0 y1 y2 y3 y4 y5 y6 y7))
 | 0 => ⟨fun _ _ _ _ _ _ _ _ _ _ r h => by simp [laws_FnPoolLast.j0] at h, fun _ _ _ _ _ _ _ r h => by simp [laws_FnPoolLast.l0] at h, fun _ _ _ _ _ _ _ _ _ r h => by simp [laws_FnPoolLast.l1] at h, fun _ _ _ _ _ _ r h => by simp [laws_FnPoolLast.l2] at h, fun _ _ _ _ _ _ _ _ r h => by simp [laws_FnPoolLast.l3] at h⟩
 | k + 1 => by
  obtain ⟨ih0, ih1, ih2, ih3, ih4⟩ := laws_FnPoolLast.mono_l k
  refine ⟨?_, ?_, ?_, ?_, ?_⟩
  ·intro y0 y1 y2 y3 y4 y5 y6 y7 y8 y9
   unfold laws_FnPoolLast.j0
   repeat' first
   | (with_reducible exact ih0 _ _ _ _ _ _ _ _ _ _)
   | (with_reducible exact ih1 _ _ _ _ _ _ _)
   | (with_reducible exact ih2 _ _ _ _ _ _ _ _ _)
   | (with_reducible exact ih3 _ _ _ _ _ _)
   | (with_reducible exact ih4 _ _ _ _ _ _ _ _)
   | (with_reducible exact impl_PoolSame.mono _ _ _ _ _)
   | (with_reducible exact laws_wpPages.mono _ _ _)
   | (with_reducible exact spec_DrawPoolAll.mono _ _)
   | (with_reducible exact spec_PoolAll.mono _ _ _ _)
   | (with_reducible exact spec_PoolOk.mono _ _ _)
   | (with_reducible exact LeO.refl _)
   | (with_reducible exact LeO.none _)
   | (with_reducible refine LeO.ite ?_ ?_)
   | (with_reducible refine LeO.bind ?_ (fun _ => ?_))
   | exact ih0 _ _ _ _ _ _ _ _ _ _
   | exact ih1 _ _ _ _ _ _ _
   | exact ih2 _ _ _ _ _ _ _ _ _
   | exact ih3 _ _ _ _ _ _
   | exact ih4 _ _ _ _ _ _ _ _
   | exact impl_PoolSame.mono _ _ _ _ _
   | exact laws_wpPages.mono _ _ _
   | exact spec_DrawPoolAll.mono _ _
   | exact spec_PoolAll.mono _ _ _ _
   | exact spec_PoolOk.mono _ _ _
   | exact LeO.none _
   | refine LeO.ite ?_ ?_
   | refine LeO.bind ?_ (fun _ => ?_)
  ·intro y0 y1 y2 y3 y4 y5 y6
   unfold laws_FnPoolLast.l0
   repeat' first
   | (with_reducible exact ih0 _ _ _ _ _ _ _ _ _ _)
   | (with_reducible exact ih1 _ _ _ _ _ _ _)
   | (with_reducible exact ih2 _ _ _ _ _ _ _ _ _)
   | (with_reducible exact ih3 _ _ _ _ _ _)
   | (with_reducible exact ih4 _ _ _ _ _ _ _ _)
   | (with_reducible exact impl_PoolSame.mono _ _ _ _ _)
   | (with_reducible exact laws_wpPages.mono _ _ _)
   | (with_reducible exact spec_DrawPoolAll.mono _ _)
   | (with_reducible exact spec_PoolAll.mono _ _ _ _)
   | (with_reducible exact spec_PoolOk.mono _ _ _)
   | (with_reducible exact LeO.refl _)
   | (with_reducible exact LeO.none _)
   | (with_reducible refine LeO.ite ?_ ?_)
   | (with_reducible refine LeO.bind ?_ (fun _ => ?_))
   | exact ih0 _ _ _ _ _ _ _ _ _ _
   | exact ih1 _ _ _ _ _ _ _
   | exact ih2 _ _ _ _ _ _ _ _ _
   | exact ih3 _ _ _ _ _ _
   | exact ih4 _ _ _ _ _ _ _ _
   | exact impl_PoolSame.mono _ _ _ _ _
   | exact laws_wpPages.mono _ _ _
   | exact spec_DrawPoolAll.mono _ _
   | exact spec_PoolAll.mono _ _ _ _
   | exact spec_PoolOk.mono _ _ _
   | exact LeO.none _
   | refine LeO.ite ?_ ?_
   | refine LeO.bind ?_ (fun _ => ?_)
  ·intro y0 y1 y2 y3 y4 y5 y6 y7 y8
   unfold laws_FnPoolLast.l1
   repeat' first
   | (with_reducible exact ih0 _ _ _ _ _ _ _ _ _ _)
   | (with_reducible exact ih1 _ _ _ _ _ _ _)
   | (with_reducible exact ih2 _ _ _ _ _ _ _ _ _)
   | (with_reducible exact ih3 _ _ _ _ _ _)
   | (with_reducible exact ih4 _ _ _ _ _ _ _ _)
   | (with_reducible exact impl_PoolSame.mono _ _ _ _ _)
   | (with_reducible exact laws_wpPages.mono _ _ _)
   | (with_reducible exact spec_DrawPoolAll.mono _ _)
   | (with_reducible exact spec_PoolAll.mono _ _ _ _)
   | (with_reducible exact spec_PoolOk.mono _ _ _)
   | (with_reducible exact LeO.refl _)
   | (with_reducible exact LeO.none _)
   | (with_reducible refine LeO.ite ?_ ?_)
   | (with_reducible refine LeO.bind ?_ (fun _ => ?_))
   | exact ih0 _ _ _ _ _ _ _ _ _ _
   | exact ih1 _ _ _ _ _ _ _
   | exact ih2 _ _ _ _ _ _ _ _ _
   | exact ih3 _ _ _ _ _ _
   | exact ih4 _ _ _ _ _ _ _ _
   | exact impl_PoolSame.mono _ _ _ _ _
   | exact laws_wpPages.mono _ _ _
   | exact spec_DrawPoolAll.mono _ _
   | exact spec_PoolAll.mono _ _ _ _
   | exact spec_PoolOk.mono _ _ _
   | exact LeO.none _
   | refine LeO.ite ?_ ?_
   | refine LeO.bind ?_ (fun _ => ?_)
  ·intro y0 y1 y2 y3 y4 y5
   unfold laws_FnPoolLast.l2
   repeat' first
   | (with_reducible exact ih0 _ _ _ _ _ _ _ _ _ _)
   | (with_reducible exact ih1 _ _ _ _ _ _ _)
   | (with_reducible exact ih2 _ _ _ _ _ _ _ _ _)
   | (with_reducible exact ih3 _ _ _ _ _ _)
   | (with_reducible exact ih4 _ _ _ _ _ _ _ _)
   | (with_reducible exact impl_PoolSame.mono _ _ _ _ _)
   | (with_reducible exact laws_wpPages.mono _ _ _)
   | (with_reducible exact spec_DrawPoolAll.mono _ _)
   | (with_reducible exact spec_PoolAll.mono _ _ _ _)
   | (with_reducible exact spec_PoolOk.mono _ _ _)
   | (with_reducible exact LeO.refl _)
   | (with_reducible exact LeO.none _)
   | (with_reducible refine LeO.ite ?_ ?_)
   | (with_reducible refine LeO.bind ?_ (fun _ => ?_))
   | exact ih0 _ _ _ _ _ _ _ _ _ _
   | exact ih1 _ _ _ _ _ _ _
   | exact ih2 _ _ _ _ _ _ _ _ _
   | exact ih3 _ _ _ _ _ _
   | exact ih4 _ _ _ _ _ _ _ _
   | exact impl_PoolSame.mono _ _ _ _ _
   | exact laws_wpPages.mono _ _ _
   | exact spec_DrawPoolAll.mono _ _
   | exact spec_PoolAll.mono _ _ _ _
   | exact spec_PoolOk.mono _ _ _
   | exact LeO.none _
   | refine LeO.ite ?_ ?_
   | refine LeO.bind ?_ (fun _ => ?_)
  ·intro y0 y1 y2 y3 y4 y5 y6 y7
   unfold laws_FnPoolLast.l3
   repeat' first
   | (with_reducible exact ih0 _ _ _ _ _ _ _ _ _ _)
   | (with_reducible exact ih1 _ _ _ _ _ _ _)
   | (with_reducible exact ih2 _ _ _ _ _ _ _ _ _)
   | (with_reducible exact ih3 _ _ _ _ _ _)
   | (with_reducible exact ih4 _ _ _ _ _ _ _ _)
   | (with_reducible exact impl_PoolSame.mono _ _ _ _ _)
   | (with_reducible exact laws_wpPages.mono _ _ _)
   | (with_reducible exact spec_DrawPoolAll.mono _ _)
   | (with_reducible exact spec_PoolAll.mono _ _ _ _)
   | (with_reducible exact spec_PoolOk.mono _ _ _)
   | (with_reducible exact LeO.refl _)
   | (with_reducible exact LeO.none _)
   | (with_reducible refine LeO.ite ?_ ?_)
   | (with_reducible refine LeO.bind ?_ (fun _ => ?_))
   | exact ih0 _ _ _ _ _ _ _ _ _ _
   | exact ih1 _ _ _ _ _ _ _
   | exact ih2 _ _ _ _ _ _ _ _ _
   | exact ih3 _ _ _ _ _ _
   | exact ih4 _ _ _ _ _ _ _ _
   | exact impl_PoolSame.mono _ _ _ _ _
   | exact laws_wpPages.mono _ _ _
   | exact spec_DrawPoolAll.mono _ _
   | exact spec_PoolAll.mono _ _ _ _
   | exact spec_PoolOk.mono _ _ _
   | exact LeO.none _
   | refine LeO.ite ?_ ?_
   | refine LeO.bind ?_ (fun _ => ?_)
theorem laws_FnPoolLast.mono : ∀ a0 k, LeO (laws_FnPoolLast.f k a0) (laws_FnPoolLast.f (k + 1) a0) := by
 intro a0 k
 obtain ⟨ih0, ih1, ih2, ih3, ih4⟩ := laws_FnPoolLast.mono_l k
 unfold laws_FnPoolLast.f
 repeat' first
   | (with_reducible exact ih0 _ _ _ _ _ _ _ _ _ _)
   | (with_reducible exact ih1 _ _ _ _ _ _ _)
   | (with_reducible exact ih2 _ _ _ _ _ _ _ _ _)
   | (with_reducible exact ih3 _ _ _ _ _ _)
   | (with_reducible exact ih4 _ _ _ _ _ _ _ _)
   | (with_reducible exact impl_PoolSame.mono _ _ _ _ _)
   | (with_reducible exact laws_wpPages.mono _ _ _)
   | (with_reducible exact spec_DrawPoolAll.mono _ _)
   | (with_reducible exact spec_PoolAll.mono _ _ _ _)
   | (with_reducible exact spec_PoolOk.mono _ _ _)
   | (with_reducible exact LeO.refl _)
   | (with_reducible exact LeO.none _)
   | (with_reducible refine LeO.ite ?_ ?_)
   | (with_reducible refine LeO.bind ?_ (fun _ => ?_))
   | exact ih0 _ _ _ _ _ _ _ _ _ _
   | exact ih1 _ _ _ _ _ _ _
   | exact ih2 _ _ _ _ _ _ _ _ _
   | exact ih3 _ _ _ _ _ _
   | exact ih4 _ _ _ _ _ _ _ _
   | exact impl_PoolSame.mono _ _ _ _ _
   | exact laws_wpPages.mono _ _ _
   | exact spec_DrawPoolAll.mono _ _
   | exact spec_PoolAll.mono _ _ _ _
   | exact spec_PoolOk.mono _ _ _
   | exact LeO.none _
   | refine LeO.ite ?_ ?_
   | refine LeO.bind ?_ (fun _ => ?_)
set_option maxHeartbeats 8000000 in
set_option maxRecDepth 100000 in
theorem laws_FnPoolLast.calls (k : Nat) (A0 : Option Addr) (c0 : Nat) (l0 : List Int) (r : Bool) (w : World) (hr0 : Kd.C (Kd.int .u8) w A0 l0.length l0) (hc0 : l0.length ≤ c0) (hT : r = true) (h : laws_FnPoolLast.f k l0 = some r) :
  Calls Try.prog 17 #[.slice A0 l0.length c0] w fun e w' => e = .returned (.bool r) ∧ Below w.heap.size w w' := by
 have hu46 := Try.underlying46
 have hu25 := Try.underlying25
 have HR0 := Aside0.mk hr0
 have HC0 := Aside0.mk hc0
 clear hr0 hc0
 have HB := Aside0.mk (Below.refl w.heap.size w)
 have H : (if (l0.length : Int) > 1048576 then (some true) else ((spec_DrawPoolAll.f k l0).bind fun bt813 => ((impl_PoolAll.f bt813.1 bt813.2.1 bt813.2.2).bind fun bt821 => ((spec_PoolAll.f k bt813.1 bt813.2.1 bt813.2.2).bind fun bt827 => (if bt821.2.2 = bt827.2.2 then ((impl_PoolSame.f k bt821.1 bt821.2.1 bt827.1 bt827.2.1).bind fun t833 => (if t833 = true then ((spec_PoolOk.f k bt813.1 bt813.2.1).bind fun t834 => (if t834 = true then (laws_FnPoolLast.j0 k bt813.2.2 bt821.2.2 bt827.2.2 (bt821.1 != bt813.1) bt813.1 bt813.2.1 bt821.1 bt821.2.1 bt827.1 bt827.2.1) else (laws_FnPoolLast.j0 k bt813.2.2 bt821.2.2 bt827.2.2 true bt813.1 bt813.2.1 bt821.1 bt821.2.1 bt827.1 bt827.2.1))) else (laws_FnPoolLast.j0 k bt813.2.2 bt821.2.2 bt827.2.2 true bt813.1 bt813.2.1 bt821.1 bt821.2.1 bt827.1 bt827.2.1))) else (laws_FnPoolLast.j0 k bt813.2.2 bt821.2.2 bt827.2.2 true bt813.1 bt813.2.1 bt821.1 bt821.2.1 bt827.1 bt827.2.1)))))) = some r := h
 clear h
 by_cases c2 : (l0.length : Int) > 1048576
 ·rw [if_pos c2] at H
  have c2b0 : decide (1048576 < (l0.length : Int)) = true := decide_eq_true c2
  have c2b1 : decide (1048576 < l0.length) = true := decide_eq_true (by omega)
  clear c2
  obtain rfl := Option.some.inj H
  go_enter Try.func17, Try.ntmps17
  go_wp2
  repeat (go_quiet (fail); try go_wp2)
  go_ret
  exact ⟨by first | rfl | (simp [errW_none, errW_some] <;> rfl) | (simp [*, errW_none, errW_some] <;> rfl), by repeat (first | (with_reducible first | exact HB.out | apply below_alloc | apply pw_below_drewN | apply below_drew1) | exact HB.out)⟩
 ·rw [if_neg c2] at H
  have c2b0 : decide (1048576 < (l0.length : Int)) = false := decide_eq_false c2
  have c2b1 : decide (1048576 < l0.length) = false := decide_eq_false (by omega)
  clear c2
  replace H := Option.bind_eq_some_iff.mp H
  obtain ⟨⟨t813, t814, t817⟩, A30, H⟩ := H
  replace H : ((impl_PoolAll.f t813 t814 t817).bind fun bt821 => ((spec_PoolAll.f k t813 t814 t817).bind fun bt827 => (if bt821.2.2 = bt827.2.2 then ((impl_PoolSame.f k bt821.1 bt821.2.1 bt827.1 bt827.2.1).bind fun t833 => (if t833 = true then ((spec_PoolOk.f k t813 t814).bind fun t834 => (if t834 = true then (laws_FnPoolLast.j0 k t817 bt821.2.2 bt827.2.2 (bt821.1 != t813) t813 t814 bt821.1 bt821.2.1 bt827.1 bt827.2.1) else (laws_FnPoolLast.j0 k t817 bt821.2.2 bt827.2.2 true t813 t814 bt821.1 bt821.2.1 bt827.1 bt827.2.1))) else (laws_FnPoolLast.j0 k t817 bt821.2.2 bt827.2.2 true t813 t814 bt821.1 bt821.2.1 bt827.1 bt827.2.1))) else (laws_FnPoolLast.j0 k t817 bt821.2.2 bt827.2.2 true t813 t814 bt821.1 bt821.2.1 bt827.1 bt827.2.1)))) = some r := H
  have A3 := Aside0.mk A30
  clear A30
  replace H := Option.bind_eq_some_iff.mp H
  obtain ⟨⟨t821, t822, t825⟩, A40, H⟩ := H
  replace H : ((spec_PoolAll.f k t813 t814 t817).bind fun bt827 => (if t825 = bt827.2.2 then ((impl_PoolSame.f k t821 t822 bt827.1 bt827.2.1).bind fun t833 => (if t833 = true then ((spec_PoolOk.f k t813 t814).bind fun t834 => (if t834 = true then (laws_FnPoolLast.j0 k t817 t825 bt827.2.2 (t821 != t813) t813 t814 t821 t822 bt827.1 bt827.2.1) else (laws_FnPoolLast.j0 k t817 t825 bt827.2.2 true t813 t814 t821 t822 bt827.1 bt827.2.1))) else (laws_FnPoolLast.j0 k t817 t825 bt827.2.2 true t813 t814 t821 t822 bt827.1 bt827.2.1))) else (laws_FnPoolLast.j0 k t817 t825 bt827.2.2 true t813 t814 t821 t822 bt827.1 bt827.2.1))) = some r := H
  have A4 := Aside0.mk A40
  clear A40
  replace H := Option.bind_eq_some_iff.mp H
  obtain ⟨⟨t827, t828, t831⟩, A50, H⟩ := H
  replace H : (if t825 = t831 then ((impl_PoolSame.f k t821 t822 t827 t828).bind fun t833 => (if t833 = true then ((spec_PoolOk.f k t813 t814).bind fun t834 => (if t834 = true then (laws_FnPoolLast.j0 k t817 t825 t831 (t821 != t813) t813 t814 t821 t822 t827 t828) else (laws_FnPoolLast.j0 k t817 t825 t831 true t813 t814 t821 t822 t827 t828))) else (laws_FnPoolLast.j0 k t817 t825 t831 true t813 t814 t821 t822 t827 t828))) else (laws_FnPoolLast.j0 k t817 t825 t831 true t813 t814 t821 t822 t827 t828)) = some r := H
  have A5 := Aside0.mk A50
  clear A50
  have HC6 := Aside0.mk H
  clear H
  go_enter Try.func17, Try.ntmps17
  go_upto_region 6 with (first | (go_at_call 44; (with_reducible refine (spec_DrawPoolAll.calls k _ _ l0 t813 t814 t817 _ ?side1 ?side2 A3.out).mono ?_); (case side1 => repeat (first | exact HR0.out | (with_reducible refine Kd.C_alloc ?_ _) | (with_reducible refine Kd.C_drewN ?_ _) | (with_reducible refine Kd.C_drew ?_))); (case side2 => exact HC0.out); rintro e w7 ⟨v815, v818, rfl, ho0, ho1, hb⟩; have n0_ := Aside0.mk (Kd.R_lower ho0 (below_size (z27_5))); have n1_ := Aside0.mk (Kd.R_lower ho1 (below_size (z27_5))); have n2_ := Aside0.mk (below_step (z27_5) hb); clear HB; have HO816 := n0_; have HO819 := n1_; have HB := n2_; clear n0_ n1_ n2_; (try clear hb); (try clear hb2); (try clear hk); (try clear hi); (try clear ho0); (try clear ho1)) | ((with_reducible refine gate_dst (N := 3) rfl ?_); refine box_event ?hg (N := 3) ?hd (cs := #[.int .i64 0, .slice none 0 0]) (t := 46) ?hr ?_; (case hd => rfl); (case hg => rfl); (case hr => first | (go_simp; done) | (go_simp; rfl)); intro gb820 hg w8 hbox hb; have n0_ := Aside0.mk (Kd.R_below (by (with_reducible repeat (first | apply Kd.R_alloc | apply Kd.R_drewN | apply Kd.R_drew)); exact HO816.out) hb); have n1_ := Aside0.mk (Kd.R_below (by (with_reducible repeat (first | apply Kd.R_alloc | apply Kd.R_drewN | apply Kd.R_drew)); exact HO819.out) hb); have n2_ := Aside0.mk (below_step (z27_5) hb); have n3_ := Aside0.mk (hbox); have n4_ := Aside0.mk ((by rw [hg]; exact (below_size (z27_5)) : w.heap.size ≤ gb820)); have n5_ := Aside0.mk ((by rw [hg]; exact (below_size (z27_5)) : w.heap.size ≤ gb820)); clear HO816; clear HO819; clear HB; have HO816 := n0_; have HO819 := n1_; have HB := n2_; have BK820 := n3_; have GW820 := n4_; have GE820 := n5_; clear n0_ n1_ n2_ n3_ n4_ n5_; clear hb hbox hg; have hcz9_0 : w8.cell? ⟨gb820, 0, none⟩ = some (.int .i64 0) := (blk_cell BK820.out 0).trans rfl; have hcz9_1 : w8.cell? ⟨gb820, 1, none⟩ = some (.slice none 0 0) := (blk_cell BK820.out 1).trans rfl; have hfz9_0 := blk_frozen BK820.out 0; have hfz9_1 := blk_frozen BK820.out 1; obtain ⟨Ao10, co10, eo10⟩ := Kd.R_slice HO816.out; subst eo10; obtain ⟨Ao11, co11, eo11⟩ := Kd.R_slice HO819.out; subst eo11) | (go_at_call 45; (with_reducible refine (impl_PoolAll.calls t813 _ _ t814 _ _ t817 t821 t822 t825 _ ?side1 ?side2 ?side3 ?side4 A4.out).mono ?_); (case side1 => refine (Kd.R_reads' (e := 25) (base := w.heap.size) (ok := fun k_ => some k_ ≠ (.slice Ao11 t817.length co11 : Value).ownBlock) (n := t814.length) (c := co10) ?_).2.2; exact (by (with_reducible repeat (first | apply Kd.R_alloc | apply Kd.R_drewN | apply Kd.R_drew)); exact (Kd.R_mono (Kd.R_far (p := ⟨gb820, 1, none⟩) (Kd.R_far (p := ⟨gb820, 0, none⟩) (Kd.R_types HO816.out BK820.out (by decide)) (fun _ hk => hk.2) (.int .i64 t813)) (fun _ hk => hk.2) (.slice Ao10 t814.length co10)) (fun _ h_ => h_.1)))); (case side2 => exact (Kd.R_reads' HO816.out).2.1); (case side3 => refine (Kd.R_reads' (e := 25) (base := w.heap.size) (ok := fun k_ => some k_ ≠ (.slice Ao10 t814.length co10 : Value).ownBlock) (n := t817.length) (c := co11) ?_).2.2; exact (by (with_reducible repeat (first | apply Kd.R_alloc | apply Kd.R_drewN | apply Kd.R_drew)); exact (Kd.R_mono (Kd.R_far (p := ⟨gb820, 1, none⟩) (Kd.R_far (p := ⟨gb820, 0, none⟩) (Kd.R_types HO819.out BK820.out (by decide)) (fun _ hk => hk.2) (.int .i64 t813)) (fun _ hk => hk.2) (.slice Ao10 t814.length co10)) (fun _ h_ => h_.1)))); (case side4 => exact (Kd.R_reads' HO819.out).2.1); rintro e w12 ⟨v823, rfl, ho0, hb⟩; have n0_ := Aside0.mk (Kd.R_elder' (by (with_reducible repeat (first | apply Kd.R_alloc | apply Kd.R_drewN | apply Kd.R_drew)); exact (Kd.R_mono (Kd.R_far (p := ⟨gb820, 1, none⟩) (Kd.R_far (p := ⟨gb820, 0, none⟩) (Kd.R_types HO816.out BK820.out (by decide)) (fun _ hk => hk.2) (.int .i64 t813)) (fun _ hk => hk.2) (.slice Ao10 t814.length co10)) (fun _ h_ => h_.1))) (Kd.R_base ho0) hb); have n1_ := Aside0.mk (Kd.R_elder' (by (with_reducible repeat (first | apply Kd.R_alloc | apply Kd.R_drewN | apply Kd.R_drew)); exact (Kd.R_mono (Kd.R_far (p := ⟨gb820, 1, none⟩) (Kd.R_far (p := ⟨gb820, 0, none⟩) (Kd.R_types HO819.out BK820.out (by decide)) (fun _ hk => hk.2) (.int .i64 t813)) (fun _ hk => hk.2) (.slice Ao10 t814.length co10)) (fun _ h_ => h_.1))) (Kd.R_base ho0) hb); have n2_ := Aside0.mk (Kd.R_lower (Kd.R_new' (Kd.R_new' ho0 (Kd.R_lt (by (with_reducible repeat (first | apply Kd.R_alloc | apply Kd.R_drewN | apply Kd.R_drew)); exact (Kd.R_mono (Kd.R_far (p := ⟨gb820, 1, none⟩) (Kd.R_far (p := ⟨gb820, 0, none⟩) (Kd.R_types HO816.out BK820.out (by decide)) (fun _ hk => hk.2) (.int .i64 t813)) (fun _ hk => hk.2) (.slice Ao10 t814.length co10)) (fun _ h_ => h_.1))))) (Kd.R_lt (by (with_reducible repeat (first | apply Kd.R_alloc | apply Kd.R_drewN | apply Kd.R_drew)); exact (Kd.R_mono (Kd.R_far (p := ⟨gb820, 1, none⟩) (Kd.R_far (p := ⟨gb820, 0, none⟩) (Kd.R_types HO819.out BK820.out (by decide)) (fun _ hk => hk.2) (.int .i64 t813)) (fun _ hk => hk.2) (.slice Ao10 t814.length co10)) (fun _ h_ => h_.1))))) (below_size (z27_4))); have n3_ := Aside0.mk (blk_below (g := gb820) (o := .cells #[.int .i64 t813, .slice Ao10 t814.length co10] 46 (0, 0)) (by (with_reducible repeat (first | refine blk_drewN ?_ _ | refine blk_drew ?_ | refine blk_alloc ?_ _)); refine blk_put (cs := #[.int .i64 t813, .slice none 0 0]) ?_ 1 _ rfl; (with_reducible repeat (first | refine blk_drewN ?_ _ | refine blk_drew ?_ | refine blk_alloc ?_ _)); refine blk_put (cs := #[.int .i64 0, .slice none 0 0]) ?_ 0 _ rfl; (with_reducible repeat (first | refine blk_drewN ?_ _ | refine blk_drew ?_ | refine blk_alloc ?_ _)); exact BK820.out) hb); have n4_ := Aside0.mk (below_step (z27_4) hb); clear HO816; clear HO819; clear BK820; clear HB; have HO816 := n0_; have HO819 := n1_; have HO824 := n2_; have BK820 := n3_; have HB := n4_; clear n0_ n1_ n2_ n3_ n4_; (try clear hb); (try clear hb2); (try clear hk); (try clear hi); (try clear ho0)) | ((with_reducible refine gate_dst (N := 5) rfl ?_); refine box_event ?hg (N := 5) ?hd (cs := #[.int .i64 0, .slice none 0 0]) (t := 46) ?hr ?_; (case hd => rfl); (case hg => rfl); (case hr => first | (go_simp; done) | (go_simp; rfl)); intro gb826 hg w13 hbox hb; have n0_ := Aside0.mk (Kd.R_below (by (with_reducible repeat (first | apply Kd.R_alloc | apply Kd.R_drewN | apply Kd.R_drew)); exact HO816.out) hb); have n1_ := Aside0.mk (Kd.R_below (by (with_reducible repeat (first | apply Kd.R_alloc | apply Kd.R_drewN | apply Kd.R_drew)); exact HO819.out) hb); have n2_ := Aside0.mk (Kd.R_below (by (with_reducible repeat (first | apply Kd.R_alloc | apply Kd.R_drewN | apply Kd.R_drew)); exact HO824.out) hb); have n3_ := Aside0.mk (blk_below (g := gb820) (o := .cells #[.int .i64 t813, .slice Ao10 t814.length co10] 46 (0, 0)) (z27_6) hb); have n4_ := Aside0.mk (below_step (z27_4) hb); have n5_ := Aside0.mk (hbox); have n6_ := Aside0.mk ((by rw [hg]; exact (below_size (z27_4)) : w.heap.size ≤ gb826)); have n7_ := Aside0.mk ((by rw [hg]; exact (below_size (z27_4)) : w.heap.size ≤ gb826)); have n8_ := Aside0.mk ((by rw [hg]; exact Nat.ne_of_lt (blk_lt (g := gb820) (o := .cells #[.int .i64 t813, .slice Ao10 t814.length co10] 46 (0, 0)) (z27_6)) : gb820 ≠ gb826)); have n9_ := Aside0.mk ((by rw [hg]; exact Nat.ne_of_gt (blk_lt (g := gb820) (o := .cells #[.int .i64 t813, .slice Ao10 t814.length co10] 46 (0, 0)) (z27_6)) : gb826 ≠ gb820)); clear HO816; clear HO819; clear HO824; clear BK820; clear HB; have HO816 := n0_; have HO819 := n1_; have HO824 := n2_; have BK820 := n3_; have HB := n4_; have BK826 := n5_; have GW826 := n6_; have GE826 := n7_; have NB820_826 := n8_; have NB826_820 := n9_; clear n0_ n1_ n2_ n3_ n4_ n5_ n6_ n7_ n8_ n9_; clear hb hbox hg; have hnb14 := NB826_820.out; have hnc14 := NB820_826.out; have hcz15_0 : w13.cell? ⟨gb826, 0, none⟩ = some (.int .i64 0) := (blk_cell BK826.out 0).trans rfl; have hcz15_1 : w13.cell? ⟨gb826, 1, none⟩ = some (.slice none 0 0) := (blk_cell BK826.out 1).trans rfl; have hfz15_0 := blk_frozen BK826.out 0; have hfz15_1 := blk_frozen BK826.out 1; obtain ⟨Ao16, co16, eo16⟩ := Kd.R_slice HO824.out; subst eo16; have hcz17_0 : w13.cell? ⟨gb820, 0, none⟩ = some (.int .i64 t813) := (blk_cell BK820.out 0).trans rfl; have hcz17_1 : w13.cell? ⟨gb820, 1, none⟩ = some (.slice Ao10 t814.length co10) := (blk_cell BK820.out 1).trans rfl; have hfz17_0 := blk_frozen BK820.out 0; have hfz17_1 := blk_frozen BK820.out 1) | (go_at_call 46; (with_reducible refine (spec_PoolAll.calls k t813 _ _ t814 _ _ t817 t827 t828 t831 _ ?side1 ?side2 ?side3 ?side4 A5.out).mono ?_); (case side1 => refine (Kd.R_reads' (e := 25) (base := w.heap.size) (ok := fun k_ => (some k_ ≠ (.slice Ao11 t817.length co11 : Value).ownBlock ∧ some k_ ≠ (.slice Ao16 t822.length co16 : Value).ownBlock)) (n := t814.length) (c := co10) ?_).2.2; exact (by (with_reducible repeat (first | apply Kd.R_alloc | apply Kd.R_drewN | apply Kd.R_drew)); exact (Kd.R_mono (Kd.R_far (p := ⟨gb826, 1, none⟩) (Kd.R_far (p := ⟨gb826, 0, none⟩) (Kd.R_types HO816.out BK826.out (by decide)) (fun _ hk => hk.2) (.int .i64 t821)) (fun _ hk => hk.2) (.slice Ao16 t822.length co16)) (fun _ h_ => h_.1)))); (case side2 => exact (Kd.R_reads' HO816.out).2.1); (case side3 => refine (Kd.R_reads' (e := 25) (base := w.heap.size) (ok := fun k_ => (some k_ ≠ (.slice Ao10 t814.length co10 : Value).ownBlock ∧ some k_ ≠ (.slice Ao16 t822.length co16 : Value).ownBlock)) (n := t817.length) (c := co11) ?_).2.2; exact (by (with_reducible repeat (first | apply Kd.R_alloc | apply Kd.R_drewN | apply Kd.R_drew)); exact (Kd.R_mono (Kd.R_far (p := ⟨gb826, 1, none⟩) (Kd.R_far (p := ⟨gb826, 0, none⟩) (Kd.R_types HO819.out BK826.out (by decide)) (fun _ hk => hk.2) (.int .i64 t821)) (fun _ hk => hk.2) (.slice Ao16 t822.length co16)) (fun _ h_ => h_.1)))); (case side4 => exact (Kd.R_reads' HO819.out).2.1); rintro e w18 ⟨v829, rfl, ho0, hb⟩; have n0_ := Aside0.mk (Kd.R_elder' (by (with_reducible repeat (first | apply Kd.R_alloc | apply Kd.R_drewN | apply Kd.R_drew)); exact (Kd.R_mono (Kd.R_far (p := ⟨gb826, 1, none⟩) (Kd.R_far (p := ⟨gb826, 0, none⟩) (Kd.R_types HO816.out BK826.out (by decide)) (fun _ hk => hk.2) (.int .i64 t821)) (fun _ hk => hk.2) (.slice Ao16 t822.length co16)) (fun _ h_ => h_.1))) (Kd.R_base ho0) hb); have n1_ := Aside0.mk (Kd.R_elder' (by (with_reducible repeat (first | apply Kd.R_alloc | apply Kd.R_drewN | apply Kd.R_drew)); exact (Kd.R_mono (Kd.R_far (p := ⟨gb826, 1, none⟩) (Kd.R_far (p := ⟨gb826, 0, none⟩) (Kd.R_types HO819.out BK826.out (by decide)) (fun _ hk => hk.2) (.int .i64 t821)) (fun _ hk => hk.2) (.slice Ao16 t822.length co16)) (fun _ h_ => h_.1))) (Kd.R_base ho0) hb); have n2_ := Aside0.mk (Kd.R_elder' (by (with_reducible repeat (first | apply Kd.R_alloc | apply Kd.R_drewN | apply Kd.R_drew)); exact (Kd.R_mono (Kd.R_far (p := ⟨gb826, 1, none⟩) (Kd.R_far (p := ⟨gb826, 0, none⟩) (Kd.R_types HO824.out BK826.out (by decide)) (fun _ hk => hk.2) (.int .i64 t821)) (fun _ hk => hk.2) (.slice Ao16 t822.length co16)) (fun _ h_ => h_.1))) (Kd.R_base ho0) hb); have n3_ := Aside0.mk (Kd.R_lower (Kd.R_new' (Kd.R_new' (Kd.R_new' ho0 (Kd.R_lt (by (with_reducible repeat (first | apply Kd.R_alloc | apply Kd.R_drewN | apply Kd.R_drew)); exact (Kd.R_mono (Kd.R_far (p := ⟨gb826, 1, none⟩) (Kd.R_far (p := ⟨gb826, 0, none⟩) (Kd.R_types HO816.out BK826.out (by decide)) (fun _ hk => hk.2) (.int .i64 t821)) (fun _ hk => hk.2) (.slice Ao16 t822.length co16)) (fun _ h_ => h_.1))))) (Kd.R_lt (by (with_reducible repeat (first | apply Kd.R_alloc | apply Kd.R_drewN | apply Kd.R_drew)); exact (Kd.R_mono (Kd.R_far (p := ⟨gb826, 1, none⟩) (Kd.R_far (p := ⟨gb826, 0, none⟩) (Kd.R_types HO819.out BK826.out (by decide)) (fun _ hk => hk.2) (.int .i64 t821)) (fun _ hk => hk.2) (.slice Ao16 t822.length co16)) (fun _ h_ => h_.1))))) (Kd.R_lt (by (with_reducible repeat (first | apply Kd.R_alloc | apply Kd.R_drewN | apply Kd.R_drew)); exact (Kd.R_mono (Kd.R_far (p := ⟨gb826, 1, none⟩) (Kd.R_far (p := ⟨gb826, 0, none⟩) (Kd.R_types HO824.out BK826.out (by decide)) (fun _ hk => hk.2) (.int .i64 t821)) (fun _ hk => hk.2) (.slice Ao16 t822.length co16)) (fun _ h_ => h_.1))))) (below_size (z27_3))); have n4_ := Aside0.mk (blk_below (g := gb820) (o := .cells #[.int .i64 t813, .slice Ao10 t814.length co10] 46 (0, 0)) (by (with_reducible repeat (first | refine blk_drewN ?_ _ | refine blk_drew ?_ | refine blk_alloc ?_ _)); refine blk_far ?_ NB820_826.out _; (with_reducible repeat (first | refine blk_drewN ?_ _ | refine blk_drew ?_ | refine blk_alloc ?_ _)); refine blk_far ?_ NB820_826.out _; (with_reducible repeat (first | refine blk_drewN ?_ _ | refine blk_drew ?_ | refine blk_alloc ?_ _)); exact BK820.out) hb); have n5_ := Aside0.mk (blk_below (g := gb826) (o := .cells #[.int .i64 t821, .slice Ao16 t822.length co16] 46 (0, 0)) (by (with_reducible repeat (first | refine blk_drewN ?_ _ | refine blk_drew ?_ | refine blk_alloc ?_ _)); refine blk_put (cs := #[.int .i64 t821, .slice none 0 0]) ?_ 1 _ rfl; (with_reducible repeat (first | refine blk_drewN ?_ _ | refine blk_drew ?_ | refine blk_alloc ?_ _)); refine blk_put (cs := #[.int .i64 0, .slice none 0 0]) ?_ 0 _ rfl; (with_reducible repeat (first | refine blk_drewN ?_ _ | refine blk_drew ?_ | refine blk_alloc ?_ _)); exact BK826.out) hb); have n6_ := Aside0.mk (below_step (z27_3) hb); clear HO816; clear HO819; clear HO824; clear BK820; clear BK826; clear HB; have HO816 := n0_; have HO819 := n1_; have HO824 := n2_; have HO830 := n3_; have BK820 := n4_; have BK826 := n5_; have HB := n6_; clear n0_ n1_ n2_ n3_ n4_ n5_ n6_; (try clear hb); (try clear hb2); (try clear hk); (try clear hi); (try clear ho0)) | ((with_reducible refine gate_dst (N := 7) rfl ?_); refine box_event ?hg (N := 7) ?hd (cs := #[.int .i64 0, .slice none 0 0]) (t := 46) ?hr ?_; (case hd => rfl); (case hg => rfl); (case hr => first | (go_simp; done) | (go_simp; rfl)); intro gb832 hg w19 hbox hb; have n0_ := Aside0.mk (Kd.R_below (by (with_reducible repeat (first | apply Kd.R_alloc | apply Kd.R_drewN | apply Kd.R_drew)); exact HO816.out) hb); have n1_ := Aside0.mk (Kd.R_below (by (with_reducible repeat (first | apply Kd.R_alloc | apply Kd.R_drewN | apply Kd.R_drew)); exact HO819.out) hb); have n2_ := Aside0.mk (Kd.R_below (by (with_reducible repeat (first | apply Kd.R_alloc | apply Kd.R_drewN | apply Kd.R_drew)); exact HO824.out) hb); have n3_ := Aside0.mk (Kd.R_below (by (with_reducible repeat (first | apply Kd.R_alloc | apply Kd.R_drewN | apply Kd.R_drew)); exact HO830.out) hb); have n4_ := Aside0.mk (blk_below (g := gb820) (o := .cells #[.int .i64 t813, .slice Ao10 t814.length co10] 46 (0, 0)) (z27_6) hb); have n5_ := Aside0.mk (blk_below (g := gb826) (o := .cells #[.int .i64 t821, .slice Ao16 t822.length co16] 46 (0, 0)) (z27_7) hb); have n6_ := Aside0.mk (below_step (z27_3) hb); have n7_ := Aside0.mk (hbox); have n8_ := Aside0.mk ((by rw [hg]; exact (below_size (z27_3)) : w.heap.size ≤ gb832)); have n9_ := Aside0.mk ((by rw [hg]; exact (below_size (z27_3)) : w.heap.size ≤ gb832)); have n10_ := Aside0.mk ((by rw [hg]; exact Nat.ne_of_lt (blk_lt (g := gb820) (o := .cells #[.int .i64 t813, .slice Ao10 t814.length co10] 46 (0, 0)) (z27_6)) : gb820 ≠ gb832)); have n11_ := Aside0.mk ((by rw [hg]; exact Nat.ne_of_gt (blk_lt (g := gb820) (o := .cells #[.int .i64 t813, .slice Ao10 t814.length co10] 46 (0, 0)) (z27_6)) : gb832 ≠ gb820)); have n12_ := Aside0.mk ((by rw [hg]; exact Nat.ne_of_lt (blk_lt (g := gb826) (o := .cells #[.int .i64 t821, .slice Ao16 t822.length co16] 46 (0, 0)) (z27_7)) : gb826 ≠ gb832)); have n13_ := Aside0.mk ((by rw [hg]; exact Nat.ne_of_gt (blk_lt (g := gb826) (o := .cells #[.int .i64 t821, .slice Ao16 t822.length co16] 46 (0, 0)) (z27_7)) : gb832 ≠ gb826)); clear HO816; clear HO819; clear HO824; clear HO830; clear BK820; clear BK826; clear HB; have HO816 := n0_; have HO819 := n1_; have HO824 := n2_; have HO830 := n3_; have BK820 := n4_; have BK826 := n5_; have HB := n6_; have BK832 := n7_; have GW832 := n8_; have GE832 := n9_; have NB820_832 := n10_; have NB832_820 := n11_; have NB826_832 := n12_; have NB832_826 := n13_; clear n0_ n1_ n2_ n3_ n4_ n5_ n6_ n7_ n8_ n9_ n10_ n11_ n12_ n13_; clear hb hbox hg; have hnb20 := NB832_820.out; have hnc20 := NB820_832.out; have hnb21 := NB832_826.out; have hnc21 := NB826_832.out; have hcz22_0 : w19.cell? ⟨gb832, 0, none⟩ = some (.int .i64 0) := (blk_cell BK832.out 0).trans rfl; have hcz22_1 : w19.cell? ⟨gb832, 1, none⟩ = some (.slice none 0 0) := (blk_cell BK832.out 1).trans rfl; have hfz22_0 := blk_frozen BK832.out 0; have hfz22_1 := blk_frozen BK832.out 1; obtain ⟨Ao23, co23, eo23⟩ := Kd.R_slice HO830.out; subst eo23))
  repeat (go_quiet (fail); try go_wp2)
  (try simp only [Act.put, List.setIfInBounds_toArray, List.set_cons_zero, List.set_cons_succ])
  go_cut [56] (fun v56 wc => ∃ (kq : Nat) (x56_5 : Bool), v56 = .bool x56_5 ∧ Aside0 (laws_FnPoolLast.j0 kq t817 t825 t831 x56_5 t813 t814 t821 t822 t827 t828 = some r) ∧ Aside0 (kq ≤ k) ∧ Aside0 (Kd.R k25 25 wc w.heap.size (fun k_ => some k_ ≠ ((.slice Ao10 t814.length co10) : Value).ownBlock ∧ some k_ ≠ ((.slice Ao16 t822.length co16) : Value).ownBlock ∧ some k_ ≠ ((.slice Ao23 t828.length co23) : Value).ownBlock) (.slice Ao11 t817.length co11) t817) ∧ Aside0 (Kd.R k25 25 wc w.heap.size (fun k_ => some k_ ≠ ((.slice Ao11 t817.length co11) : Value).ownBlock ∧ some k_ ≠ ((.slice Ao16 t822.length co16) : Value).ownBlock ∧ some k_ ≠ ((.slice Ao23 t828.length co23) : Value).ownBlock) (.slice Ao10 t814.length co10) t814) ∧ Aside0 (Kd.R k25 25 wc w.heap.size (fun k_ => some k_ ≠ ((.slice Ao11 t817.length co11) : Value).ownBlock ∧ some k_ ≠ ((.slice Ao10 t814.length co10) : Value).ownBlock ∧ some k_ ≠ ((.slice Ao23 t828.length co23) : Value).ownBlock) (.slice Ao16 t822.length co16) t822) ∧ Aside0 (Kd.R k25 25 wc w.heap.size (fun k_ => some k_ ≠ ((.slice Ao11 t817.length co11) : Value).ownBlock ∧ some k_ ≠ ((.slice Ao10 t814.length co10) : Value).ownBlock ∧ some k_ ≠ ((.slice Ao16 t822.length co16) : Value).ownBlock) (.slice Ao23 t828.length co23) t828) ∧ Aside0 (wc.heap[gb820]? = some (.cells #[.int .i64 t813, (.slice Ao10 t814.length co10)] 46 (0, 0))) ∧ Aside0 (wc.heap[gb826]? = some (.cells #[.int .i64 t821, (.slice Ao16 t822.length co16)] 46 (0, 0))) ∧ Aside0 (wc.heap[gb832]? = some (.cells #[.int .i64 t827, (.slice Ao23 t828.length co23)] 46 (0, 0))) ∧ Aside0 (Below w.heap.size w wc))
  case first =>
   have H := HC6.out
   clear HC6
   by_cases c24 : t825 = t831
   ·rw [if_pos c24] at H
    have c24b0 : (t825 == t831) = true := beq_iff_eq.mpr c24
    have c24b1 : (t825 != t831) = false := bne_eq_false_iff_eq.mpr c24
    clear c24
    (first | rw [c24b0] | (simp only [i64_w, i32_w]; rw [c24b0]) | skip)
    replace H := Option.bind_eq_some_iff.mp H
    obtain ⟨t833, A250, H⟩ := H
    replace H : (if t833 = true then ((spec_PoolOk.f k t813 t814).bind fun t834 => (if t834 = true then (laws_FnPoolLast.j0 k t817 t825 t831 (t821 != t813) t813 t814 t821 t822 t827 t828) else (laws_FnPoolLast.j0 k t817 t825 t831 true t813 t814 t821 t822 t827 t828))) else (laws_FnPoolLast.j0 k t817 t825 t831 true t813 t814 t821 t822 t827 t828)) = some r := H
    have A25 := Aside0.mk A250
    clear A250
    by_cases c26 : t833 = true
    ·subst c26
     have H1 : ((spec_PoolOk.f k t813 t814).bind fun t834 => (if t834 = true then (laws_FnPoolLast.j0 k t817 t825 t831 (t821 != t813) t813 t814 t821 t822 t827 t828) else (laws_FnPoolLast.j0 k t817 t825 t831 true t813 t814 t821 t822 t827 t828))) = some r := by rw [if_pos rfl] at H; exact H
     clear H
     have H := H1
     clear H1
     replace H := Option.bind_eq_some_iff.mp H
     obtain ⟨t834, A270, H⟩ := H
     replace H : (if t834 = true then (laws_FnPoolLast.j0 k t817 t825 t831 (t821 != t813) t813 t814 t821 t822 t827 t828) else (laws_FnPoolLast.j0 k t817 t825 t831 true t813 t814 t821 t822 t827 t828)) = some r := H
     have A27 := Aside0.mk A270
     clear A270
     by_cases c28 : t834 = true
     ·subst c28
      have H1 : (laws_FnPoolLast.j0 k t817 t825 t831 (t821 != t813) t813 t814 t821 t822 t827 t828) = some r := by rw [if_pos rfl] at H; exact H
      clear H
      have H := H1
      clear H1
      have H' := Aside0.mk H
      clear H
      have hnb29 := NB826_820.out
      have hnc29 := NB820_826.out
      have hnb30 := NB826_832.out
      have hnc30 := NB832_826.out
      have hcz31_0 : w19.cell? ⟨gb826, 0, none⟩ = some (.int .i64 t821) := (blk_cell BK826.out 0).trans rfl
      have hcz31_1 : w19.cell? ⟨gb826, 1, none⟩ = some (.slice Ao16 t822.length co16) := (blk_cell BK826.out 1).trans rfl
      have hfz31_0 := blk_frozen BK826.out 0
      have hfz31_1 := blk_frozen BK826.out 1
      have hnb32 := NB832_820.out
      have hnc32 := NB820_832.out
      have hcz33_0 : w19.cell? ⟨gb832, 0, none⟩ = some (.int .i64 0) := (blk_cell BK832.out 0).trans rfl
      have hcz33_1 : w19.cell? ⟨gb832, 1, none⟩ = some (.slice none 0 0) := (blk_cell BK832.out 1).trans rfl
      have hfz33_0 := blk_frozen BK832.out 0
      have hfz33_1 := blk_frozen BK832.out 1
      go_wp2_with (first | (go_at_call 35; (with_reducible refine (impl_PoolSame.calls k t821 _ _ t822 t827 _ _ t828 true _ ?side1 ?side2 ?side3 ?side4 A25.out).mono ?_); (case side1 => refine (Kd.R_reads' (e := 25) (base := w.heap.size) (ok := fun k_ => (((True ∧ some k_ ≠ (.slice Ao10 t814.length co10 : Value).ownBlock) ∧ some k_ ≠ (.slice Ao11 t817.length co11 : Value).ownBlock) ∧ some k_ ≠ (.slice Ao23 t828.length co23 : Value).ownBlock)) (n := t822.length) (c := co16) ?_).2.2; exact (by (with_reducible repeat (first | apply Kd.R_alloc | apply Kd.R_drewN | apply Kd.R_drew)); exact (Kd.R_mono (Kd.R_far (p := ⟨gb832, 1, none⟩) (Kd.R_far (p := ⟨gb832, 0, none⟩) (Kd.R_types HO824.out BK832.out (by decide)) (fun _ hk => hk.2) (.int .i64 t827)) (fun _ hk => hk.2) (.slice Ao23 t828.length co23)) (fun _ h_ => h_.1)))); (case side2 => exact (Kd.R_reads' HO824.out).2.1); (case side3 => refine (Kd.R_reads' (e := 25) (base := w.heap.size) (ok := fun k_ => (((True ∧ some k_ ≠ (.slice Ao10 t814.length co10 : Value).ownBlock) ∧ some k_ ≠ (.slice Ao11 t817.length co11 : Value).ownBlock) ∧ some k_ ≠ (.slice Ao16 t822.length co16 : Value).ownBlock)) (n := t828.length) (c := co23) ?_).2.2; exact (by (with_reducible repeat (first | apply Kd.R_alloc | apply Kd.R_drewN | apply Kd.R_drew)); exact (Kd.R_mono (Kd.R_far (p := ⟨gb832, 1, none⟩) (Kd.R_far (p := ⟨gb832, 0, none⟩) (Kd.R_types HO830.out BK832.out (by decide)) (fun _ hk => hk.2) (.int .i64 t827)) (fun _ hk => hk.2) (.slice Ao23 t828.length co23)) (fun _ h_ => h_.1)))); (case side4 => exact (Kd.R_reads' HO830.out).2.1); rintro e w34 ⟨rfl, hb⟩; have n0_ := Aside0.mk (Kd.R_below (by (with_reducible repeat (first | apply Kd.R_alloc | apply Kd.R_drewN | apply Kd.R_drew)); exact (Kd.R_mono (Kd.R_far (p := ⟨gb832, 1, none⟩) (Kd.R_far (p := ⟨gb832, 0, none⟩) (Kd.R_types HO816.out BK832.out (by decide)) (fun _ hk => hk.2) (.int .i64 t827)) (fun _ hk => hk.2) (.slice Ao23 t828.length co23)) (fun _ h_ => h_.1))) hb); have n1_ := Aside0.mk (Kd.R_below (by (with_reducible repeat (first | apply Kd.R_alloc | apply Kd.R_drewN | apply Kd.R_drew)); exact (Kd.R_mono (Kd.R_far (p := ⟨gb832, 1, none⟩) (Kd.R_far (p := ⟨gb832, 0, none⟩) (Kd.R_types HO819.out BK832.out (by decide)) (fun _ hk => hk.2) (.int .i64 t827)) (fun _ hk => hk.2) (.slice Ao23 t828.length co23)) (fun _ h_ => h_.1))) hb); have n2_ := Aside0.mk (Kd.R_below (by (with_reducible repeat (first | apply Kd.R_alloc | apply Kd.R_drewN | apply Kd.R_drew)); exact (Kd.R_mono (Kd.R_far (p := ⟨gb832, 1, none⟩) (Kd.R_far (p := ⟨gb832, 0, none⟩) (Kd.R_types HO824.out BK832.out (by decide)) (fun _ hk => hk.2) (.int .i64 t827)) (fun _ hk => hk.2) (.slice Ao23 t828.length co23)) (fun _ h_ => h_.1))) hb); have n3_ := Aside0.mk (Kd.R_below (by (with_reducible repeat (first | apply Kd.R_alloc | apply Kd.R_drewN | apply Kd.R_drew)); exact (Kd.R_mono (Kd.R_far (p := ⟨gb832, 1, none⟩) (Kd.R_far (p := ⟨gb832, 0, none⟩) (Kd.R_types HO830.out BK832.out (by decide)) (fun _ hk => hk.2) (.int .i64 t827)) (fun _ hk => hk.2) (.slice Ao23 t828.length co23)) (fun _ h_ => h_.1))) hb); have n4_ := Aside0.mk (blk_below (g := gb820) (o := .cells #[.int .i64 t813, .slice Ao10 t814.length co10] 46 (0, 0)) (z27_0) hb); have n5_ := Aside0.mk (blk_below (g := gb826) (o := .cells #[.int .i64 t821, .slice Ao16 t822.length co16] 46 (0, 0)) (z27_1) hb); have n6_ := Aside0.mk (blk_below (g := gb832) (o := .cells #[.int .i64 t827, .slice Ao23 t828.length co23] 46 (0, 0)) (by (with_reducible repeat (first | refine blk_drewN ?_ _ | refine blk_drew ?_ | refine blk_alloc ?_ _)); refine blk_put (cs := #[.int .i64 t827, .slice none 0 0]) ?_ 1 _ rfl; (with_reducible repeat (first | refine blk_drewN ?_ _ | refine blk_drew ?_ | refine blk_alloc ?_ _)); refine blk_put (cs := #[.int .i64 0, .slice none 0 0]) ?_ 0 _ rfl; (with_reducible repeat (first | refine blk_drewN ?_ _ | refine blk_drew ?_ | refine blk_alloc ?_ _)); exact BK832.out) hb); have n7_ := Aside0.mk (below_step (z27_2) hb); clear HO816; clear HO819; clear HO824; clear HO830; clear BK820; clear BK826; clear BK832; clear HB; have HO816 := n0_; have HO819 := n1_; have HO824 := n2_; have HO830 := n3_; have BK820 := n4_; have BK826 := n5_; have BK832 := n6_; have HB := n7_; clear n0_ n1_ n2_ n3_ n4_ n5_ n6_ n7_; (try clear hb); (try clear hb2); (try clear hk); (try clear hi); have hcz35_0 : w34.cell? ⟨gb820, 0, none⟩ = some (.int .i64 t813) := (blk_cell BK820.out 0).trans rfl; have hcz35_1 : w34.cell? ⟨gb820, 1, none⟩ = some (.slice Ao10 t814.length co10) := (blk_cell BK820.out 1).trans rfl; have hfz35_0 := blk_frozen BK820.out 0; have hfz35_1 := blk_frozen BK820.out 1) | (go_at_call 37; (with_reducible refine (spec_PoolOk.calls k t813 _ _ t814 true _ ?side1 ?side2 A27.out).mono ?_); (case side1 => repeat (first | exact (Kd.R_reads' HO816.out).2.2 | (with_reducible refine Kd.C_alloc ?_ _) | (with_reducible refine Kd.C_drewN ?_ _) | (with_reducible refine Kd.C_drew ?_))); (case side2 => exact (Kd.R_reads' HO816.out).2.1); rintro e w36 ⟨rfl, hb⟩; have n0_ := Aside0.mk (Kd.R_below (by (with_reducible repeat (first | apply Kd.R_alloc | apply Kd.R_drewN | apply Kd.R_drew)); exact HO816.out) hb); have n1_ := Aside0.mk (Kd.R_below (by (with_reducible repeat (first | apply Kd.R_alloc | apply Kd.R_drewN | apply Kd.R_drew)); exact HO819.out) hb); have n2_ := Aside0.mk (Kd.R_below (by (with_reducible repeat (first | apply Kd.R_alloc | apply Kd.R_drewN | apply Kd.R_drew)); exact HO824.out) hb); have n3_ := Aside0.mk (Kd.R_below (by (with_reducible repeat (first | apply Kd.R_alloc | apply Kd.R_drewN | apply Kd.R_drew)); exact HO830.out) hb); have n4_ := Aside0.mk (blk_below (g := gb820) (o := .cells #[.int .i64 t813, .slice Ao10 t814.length co10] 46 (0, 0)) (z27_6) hb); have n5_ := Aside0.mk (blk_below (g := gb826) (o := .cells #[.int .i64 t821, .slice Ao16 t822.length co16] 46 (0, 0)) (z27_7) hb); have n6_ := Aside0.mk (blk_below (g := gb832) (o := .cells #[.int .i64 t827, .slice Ao23 t828.length co23] 46 (0, 0)) (z27_8) hb); have n7_ := Aside0.mk (below_step (z27_2) hb); clear HO816; clear HO819; clear HO824; clear HO830; clear BK820; clear BK826; clear BK832; clear HB; have HO816 := n0_; have HO819 := n1_; have HO824 := n2_; have HO830 := n3_; have BK820 := n4_; have BK826 := n5_; have BK832 := n6_; have HB := n7_; clear n0_ n1_ n2_ n3_ n4_ n5_ n6_ n7_; (try clear hb); (try clear hb2); (try clear hk); (try clear hi); have hcz37_0 : w36.cell? ⟨gb826, 0, none⟩ = some (.int .i64 t821) := (blk_cell BK826.out 0).trans rfl; have hcz37_1 : w36.cell? ⟨gb826, 1, none⟩ = some (.slice Ao16 t822.length co16) := (blk_cell BK826.out 1).trans rfl; have hfz37_0 := blk_frozen BK826.out 0; have hfz37_1 := blk_frozen BK826.out 1; have hcz38_0 : w36.cell? ⟨gb820, 0, none⟩ = some (.int .i64 t813) := (blk_cell BK820.out 0).trans rfl; have hcz38_1 : w36.cell? ⟨gb820, 1, none⟩ = some (.slice Ao10 t814.length co10) := (blk_cell BK820.out 1).trans rfl; have hfz38_0 := blk_frozen BK820.out 0; have hfz38_1 := blk_frozen BK820.out 1))
      repeat (go_quiet (fail); try go_wp2)
      go_meet
      case rel => exact ⟨_, ((t821 != t813)), (z27_10), H', ⟨by first | omega | exact Nat.le_refl _⟩, ⟨by (with_reducible repeat (first | apply Kd.R_alloc | apply Kd.R_drewN | apply Kd.R_drew)); exact Kd.R_mono HO819.out (fun _ hk => ⟨hk.1.1, ⟨hk.1.2, hk.2⟩⟩)⟩, ⟨by (with_reducible repeat (first | apply Kd.R_alloc | apply Kd.R_drewN | apply Kd.R_drew)); exact Kd.R_mono HO816.out (fun _ hk => ⟨hk.1.1, ⟨hk.1.2, hk.2⟩⟩)⟩, ⟨by (with_reducible repeat (first | apply Kd.R_alloc | apply Kd.R_drewN | apply Kd.R_drew)); exact Kd.R_mono HO824.out (fun _ hk => ⟨hk.1.2, ⟨hk.1.1.2, hk.2⟩⟩)⟩, ⟨by (with_reducible repeat (first | apply Kd.R_alloc | apply Kd.R_drewN | apply Kd.R_drew)); exact Kd.R_mono HO830.out (fun _ hk => ⟨hk.1.2, ⟨hk.1.1.2, hk.2⟩⟩)⟩, ⟨by (with_reducible repeat (first | refine blk_drewN ?_ _ | refine blk_drew ?_ | refine blk_alloc ?_ _)); exact BK820.out⟩, ⟨by (with_reducible repeat (first | refine blk_drewN ?_ _ | refine blk_drew ?_ | refine blk_alloc ?_ _)); exact BK826.out⟩, ⟨by (with_reducible repeat (first | refine blk_drewN ?_ _ | refine blk_drew ?_ | refine blk_alloc ?_ _)); exact BK832.out⟩, ⟨by repeat (first | (with_reducible first | exact HB.out | apply below_alloc | apply pw_below_drewN | apply below_drew1 | refine below_set ?_ GE820.out | refine below_set ?_ GE826.out | refine below_set ?_ GE832.out) | exact HB.out)⟩⟩
     ·replace c28 := Bool.eq_false_iff.mpr c28
      subst c28
      have H1 : (laws_FnPoolLast.j0 k t817 t825 t831 true t813 t814 t821 t822 t827 t828) = some r := by rw [if_neg (show ¬ (false = true) by decide)] at H; exact H
      clear H
      have H := H1
      clear H1
      have H' := Aside0.mk H
      clear H
      have hnb39 := NB826_820.out
      have hnc39 := NB820_826.out
      have hnb40 := NB826_832.out
      have hnc40 := NB832_826.out
      have hcz41_0 : w19.cell? ⟨gb826, 0, none⟩ = some (.int .i64 t821) := (blk_cell BK826.out 0).trans rfl
      have hcz41_1 : w19.cell? ⟨gb826, 1, none⟩ = some (.slice Ao16 t822.length co16) := (blk_cell BK826.out 1).trans rfl
      have hfz41_0 := blk_frozen BK826.out 0
      have hfz41_1 := blk_frozen BK826.out 1
      have hnb42 := NB832_820.out
      have hnc42 := NB820_832.out
      have hcz43_0 : w19.cell? ⟨gb832, 0, none⟩ = some (.int .i64 0) := (blk_cell BK832.out 0).trans rfl
      have hcz43_1 : w19.cell? ⟨gb832, 1, none⟩ = some (.slice none 0 0) := (blk_cell BK832.out 1).trans rfl
      have hfz43_0 := blk_frozen BK832.out 0
      have hfz43_1 := blk_frozen BK832.out 1
      go_wp2_with (first | (go_at_call 35; (with_reducible refine (impl_PoolSame.calls k t821 _ _ t822 t827 _ _ t828 true _ ?side1 ?side2 ?side3 ?side4 A25.out).mono ?_); (case side1 => refine (Kd.R_reads' (e := 25) (base := w.heap.size) (ok := fun k_ => (((True ∧ some k_ ≠ (.slice Ao10 t814.length co10 : Value).ownBlock) ∧ some k_ ≠ (.slice Ao11 t817.length co11 : Value).ownBlock) ∧ some k_ ≠ (.slice Ao23 t828.length co23 : Value).ownBlock)) (n := t822.length) (c := co16) ?_).2.2; exact (by (with_reducible repeat (first | apply Kd.R_alloc | apply Kd.R_drewN | apply Kd.R_drew)); exact (Kd.R_mono (Kd.R_far (p := ⟨gb832, 1, none⟩) (Kd.R_far (p := ⟨gb832, 0, none⟩) (Kd.R_types HO824.out BK832.out (by decide)) (fun _ hk => hk.2) (.int .i64 t827)) (fun _ hk => hk.2) (.slice Ao23 t828.length co23)) (fun _ h_ => h_.1)))); (case side2 => exact (Kd.R_reads' HO824.out).2.1); (case side3 => refine (Kd.R_reads' (e := 25) (base := w.heap.size) (ok := fun k_ => (((True ∧ some k_ ≠ (.slice Ao10 t814.length co10 : Value).ownBlock) ∧ some k_ ≠ (.slice Ao11 t817.length co11 : Value).ownBlock) ∧ some k_ ≠ (.slice Ao16 t822.length co16 : Value).ownBlock)) (n := t828.length) (c := co23) ?_).2.2; exact (by (with_reducible repeat (first | apply Kd.R_alloc | apply Kd.R_drewN | apply Kd.R_drew)); exact (Kd.R_mono (Kd.R_far (p := ⟨gb832, 1, none⟩) (Kd.R_far (p := ⟨gb832, 0, none⟩) (Kd.R_types HO830.out BK832.out (by decide)) (fun _ hk => hk.2) (.int .i64 t827)) (fun _ hk => hk.2) (.slice Ao23 t828.length co23)) (fun _ h_ => h_.1)))); (case side4 => exact (Kd.R_reads' HO830.out).2.1); rintro e w44 ⟨rfl, hb⟩; have n0_ := Aside0.mk (Kd.R_below (by (with_reducible repeat (first | apply Kd.R_alloc | apply Kd.R_drewN | apply Kd.R_drew)); exact (Kd.R_mono (Kd.R_far (p := ⟨gb832, 1, none⟩) (Kd.R_far (p := ⟨gb832, 0, none⟩) (Kd.R_types HO816.out BK832.out (by decide)) (fun _ hk => hk.2) (.int .i64 t827)) (fun _ hk => hk.2) (.slice Ao23 t828.length co23)) (fun _ h_ => h_.1))) hb); have n1_ := Aside0.mk (Kd.R_below (by (with_reducible repeat (first | apply Kd.R_alloc | apply Kd.R_drewN | apply Kd.R_drew)); exact (Kd.R_mono (Kd.R_far (p := ⟨gb832, 1, none⟩) (Kd.R_far (p := ⟨gb832, 0, none⟩) (Kd.R_types HO819.out BK832.out (by decide)) (fun _ hk => hk.2) (.int .i64 t827)) (fun _ hk => hk.2) (.slice Ao23 t828.length co23)) (fun _ h_ => h_.1))) hb); have n2_ := Aside0.mk (Kd.R_below (by (with_reducible repeat (first | apply Kd.R_alloc | apply Kd.R_drewN | apply Kd.R_drew)); exact (Kd.R_mono (Kd.R_far (p := ⟨gb832, 1, none⟩) (Kd.R_far (p := ⟨gb832, 0, none⟩) (Kd.R_types HO824.out BK832.out (by decide)) (fun _ hk => hk.2) (.int .i64 t827)) (fun _ hk => hk.2) (.slice Ao23 t828.length co23)) (fun _ h_ => h_.1))) hb); have n3_ := Aside0.mk (Kd.R_below (by (with_reducible repeat (first | apply Kd.R_alloc | apply Kd.R_drewN | apply Kd.R_drew)); exact (Kd.R_mono (Kd.R_far (p := ⟨gb832, 1, none⟩) (Kd.R_far (p := ⟨gb832, 0, none⟩) (Kd.R_types HO830.out BK832.out (by decide)) (fun _ hk => hk.2) (.int .i64 t827)) (fun _ hk => hk.2) (.slice Ao23 t828.length co23)) (fun _ h_ => h_.1))) hb); have n4_ := Aside0.mk (blk_below (g := gb820) (o := .cells #[.int .i64 t813, .slice Ao10 t814.length co10] 46 (0, 0)) (z27_0) hb); have n5_ := Aside0.mk (blk_below (g := gb826) (o := .cells #[.int .i64 t821, .slice Ao16 t822.length co16] 46 (0, 0)) (z27_1) hb); have n6_ := Aside0.mk (blk_below (g := gb832) (o := .cells #[.int .i64 t827, .slice Ao23 t828.length co23] 46 (0, 0)) (by (with_reducible repeat (first | refine blk_drewN ?_ _ | refine blk_drew ?_ | refine blk_alloc ?_ _)); refine blk_put (cs := #[.int .i64 t827, .slice none 0 0]) ?_ 1 _ rfl; (with_reducible repeat (first | refine blk_drewN ?_ _ | refine blk_drew ?_ | refine blk_alloc ?_ _)); refine blk_put (cs := #[.int .i64 0, .slice none 0 0]) ?_ 0 _ rfl; (with_reducible repeat (first | refine blk_drewN ?_ _ | refine blk_drew ?_ | refine blk_alloc ?_ _)); exact BK832.out) hb); have n7_ := Aside0.mk (below_step (z27_2) hb); clear HO816; clear HO819; clear HO824; clear HO830; clear BK820; clear BK826; clear BK832; clear HB; have HO816 := n0_; have HO819 := n1_; have HO824 := n2_; have HO830 := n3_; have BK820 := n4_; have BK826 := n5_; have BK832 := n6_; have HB := n7_; clear n0_ n1_ n2_ n3_ n4_ n5_ n6_ n7_; (try clear hb); (try clear hb2); (try clear hk); (try clear hi); have hcz45_0 : w44.cell? ⟨gb820, 0, none⟩ = some (.int .i64 t813) := (blk_cell BK820.out 0).trans rfl; have hcz45_1 : w44.cell? ⟨gb820, 1, none⟩ = some (.slice Ao10 t814.length co10) := (blk_cell BK820.out 1).trans rfl; have hfz45_0 := blk_frozen BK820.out 0; have hfz45_1 := blk_frozen BK820.out 1) | (go_at_call 37; (with_reducible refine (spec_PoolOk.calls k t813 _ _ t814 false _ ?side1 ?side2 A27.out).mono ?_); (case side1 => repeat (first | exact (Kd.R_reads' HO816.out).2.2 | (with_reducible refine Kd.C_alloc ?_ _) | (with_reducible refine Kd.C_drewN ?_ _) | (with_reducible refine Kd.C_drew ?_))); (case side2 => exact (Kd.R_reads' HO816.out).2.1); rintro e w46 ⟨rfl, hb⟩; have n0_ := Aside0.mk (Kd.R_below (by (with_reducible repeat (first | apply Kd.R_alloc | apply Kd.R_drewN | apply Kd.R_drew)); exact HO816.out) hb); have n1_ := Aside0.mk (Kd.R_below (by (with_reducible repeat (first | apply Kd.R_alloc | apply Kd.R_drewN | apply Kd.R_drew)); exact HO819.out) hb); have n2_ := Aside0.mk (Kd.R_below (by (with_reducible repeat (first | apply Kd.R_alloc | apply Kd.R_drewN | apply Kd.R_drew)); exact HO824.out) hb); have n3_ := Aside0.mk (Kd.R_below (by (with_reducible repeat (first | apply Kd.R_alloc | apply Kd.R_drewN | apply Kd.R_drew)); exact HO830.out) hb); have n4_ := Aside0.mk (blk_below (g := gb820) (o := .cells #[.int .i64 t813, .slice Ao10 t814.length co10] 46 (0, 0)) (z27_6) hb); have n5_ := Aside0.mk (blk_below (g := gb826) (o := .cells #[.int .i64 t821, .slice Ao16 t822.length co16] 46 (0, 0)) (z27_7) hb); have n6_ := Aside0.mk (blk_below (g := gb832) (o := .cells #[.int .i64 t827, .slice Ao23 t828.length co23] 46 (0, 0)) (z27_8) hb); have n7_ := Aside0.mk (below_step (z27_2) hb); clear HO816; clear HO819; clear HO824; clear HO830; clear BK820; clear BK826; clear BK832; clear HB; have HO816 := n0_; have HO819 := n1_; have HO824 := n2_; have HO830 := n3_; have BK820 := n4_; have BK826 := n5_; have BK832 := n6_; have HB := n7_; clear n0_ n1_ n2_ n3_ n4_ n5_ n6_ n7_; (try clear hb); (try clear hb2); (try clear hk); (try clear hi)))
      repeat (go_quiet (fail); try go_wp2)
      go_meet
      case rel => exact ⟨_, (true), (z27_10), H', ⟨by first | omega | exact Nat.le_refl _⟩, ⟨by (with_reducible repeat (first | apply Kd.R_alloc | apply Kd.R_drewN | apply Kd.R_drew)); exact Kd.R_mono HO819.out (fun _ hk => ⟨hk.1.1, ⟨hk.1.2, hk.2⟩⟩)⟩, ⟨by (with_reducible repeat (first | apply Kd.R_alloc | apply Kd.R_drewN | apply Kd.R_drew)); exact Kd.R_mono HO816.out (fun _ hk => ⟨hk.1.1, ⟨hk.1.2, hk.2⟩⟩)⟩, ⟨by (with_reducible repeat (first | apply Kd.R_alloc | apply Kd.R_drewN | apply Kd.R_drew)); exact Kd.R_mono HO824.out (fun _ hk => ⟨hk.1.2, ⟨hk.1.1.2, hk.2⟩⟩)⟩, ⟨by (with_reducible repeat (first | apply Kd.R_alloc | apply Kd.R_drewN | apply Kd.R_drew)); exact Kd.R_mono HO830.out (fun _ hk => ⟨hk.1.2, ⟨hk.1.1.2, hk.2⟩⟩)⟩, ⟨by (with_reducible repeat (first | refine blk_drewN ?_ _ | refine blk_drew ?_ | refine blk_alloc ?_ _)); exact BK820.out⟩, ⟨by (with_reducible repeat (first | refine blk_drewN ?_ _ | refine blk_drew ?_ | refine blk_alloc ?_ _)); exact BK826.out⟩, ⟨by (with_reducible repeat (first | refine blk_drewN ?_ _ | refine blk_drew ?_ | refine blk_alloc ?_ _)); exact BK832.out⟩, ⟨by repeat (first | (with_reducible first | exact HB.out | apply below_alloc | apply pw_below_drewN | apply below_drew1 | refine below_set ?_ GE820.out | refine below_set ?_ GE826.out | refine below_set ?_ GE832.out) | exact HB.out)⟩⟩
    ·replace c26 := Bool.eq_false_iff.mpr c26
     subst c26
     have H1 : (laws_FnPoolLast.j0 k t817 t825 t831 true t813 t814 t821 t822 t827 t828) = some r := by rw [if_neg (show ¬ (false = true) by decide)] at H; exact H
     clear H
     have H := H1
     clear H1
     have H' := Aside0.mk H
     clear H
     have hnb47 := NB826_820.out
     have hnc47 := NB820_826.out
     have hnb48 := NB826_832.out
     have hnc48 := NB832_826.out
     have hcz49_0 : w19.cell? ⟨gb826, 0, none⟩ = some (.int .i64 t821) := (blk_cell BK826.out 0).trans rfl
     have hcz49_1 : w19.cell? ⟨gb826, 1, none⟩ = some (.slice Ao16 t822.length co16) := (blk_cell BK826.out 1).trans rfl
     have hfz49_0 := blk_frozen BK826.out 0
     have hfz49_1 := blk_frozen BK826.out 1
     have hnb50 := NB832_820.out
     have hnc50 := NB820_832.out
     have hcz51_0 : w19.cell? ⟨gb832, 0, none⟩ = some (.int .i64 0) := (blk_cell BK832.out 0).trans rfl
     have hcz51_1 : w19.cell? ⟨gb832, 1, none⟩ = some (.slice none 0 0) := (blk_cell BK832.out 1).trans rfl
     have hfz51_0 := blk_frozen BK832.out 0
     have hfz51_1 := blk_frozen BK832.out 1
     go_wp2_with (first | (go_at_call 35; (with_reducible refine (impl_PoolSame.calls k t821 _ _ t822 t827 _ _ t828 false _ ?side1 ?side2 ?side3 ?side4 A25.out).mono ?_); (case side1 => refine (Kd.R_reads' (e := 25) (base := w.heap.size) (ok := fun k_ => (((True ∧ some k_ ≠ (.slice Ao10 t814.length co10 : Value).ownBlock) ∧ some k_ ≠ (.slice Ao11 t817.length co11 : Value).ownBlock) ∧ some k_ ≠ (.slice Ao23 t828.length co23 : Value).ownBlock)) (n := t822.length) (c := co16) ?_).2.2; exact (by (with_reducible repeat (first | apply Kd.R_alloc | apply Kd.R_drewN | apply Kd.R_drew)); exact (Kd.R_mono (Kd.R_far (p := ⟨gb832, 1, none⟩) (Kd.R_far (p := ⟨gb832, 0, none⟩) (Kd.R_types HO824.out BK832.out (by decide)) (fun _ hk => hk.2) (.int .i64 t827)) (fun _ hk => hk.2) (.slice Ao23 t828.length co23)) (fun _ h_ => h_.1)))); (case side2 => exact (Kd.R_reads' HO824.out).2.1); (case side3 => refine (Kd.R_reads' (e := 25) (base := w.heap.size) (ok := fun k_ => (((True ∧ some k_ ≠ (.slice Ao10 t814.length co10 : Value).ownBlock) ∧ some k_ ≠ (.slice Ao11 t817.length co11 : Value).ownBlock) ∧ some k_ ≠ (.slice Ao16 t822.length co16 : Value).ownBlock)) (n := t828.length) (c := co23) ?_).2.2; exact (by (with_reducible repeat (first | apply Kd.R_alloc | apply Kd.R_drewN | apply Kd.R_drew)); exact (Kd.R_mono (Kd.R_far (p := ⟨gb832, 1, none⟩) (Kd.R_far (p := ⟨gb832, 0, none⟩) (Kd.R_types HO830.out BK832.out (by decide)) (fun _ hk => hk.2) (.int .i64 t827)) (fun _ hk => hk.2) (.slice Ao23 t828.length co23)) (fun _ h_ => h_.1)))); (case side4 => exact (Kd.R_reads' HO830.out).2.1); rintro e w52 ⟨rfl, hb⟩; have n0_ := Aside0.mk (Kd.R_below (by (with_reducible repeat (first | apply Kd.R_alloc | apply Kd.R_drewN | apply Kd.R_drew)); exact (Kd.R_mono (Kd.R_far (p := ⟨gb832, 1, none⟩) (Kd.R_far (p := ⟨gb832, 0, none⟩) (Kd.R_types HO816.out BK832.out (by decide)) (fun _ hk => hk.2) (.int .i64 t827)) (fun _ hk => hk.2) (.slice Ao23 t828.length co23)) (fun _ h_ => h_.1))) hb); have n1_ := Aside0.mk (Kd.R_below (by (with_reducible repeat (first | apply Kd.R_alloc | apply Kd.R_drewN | apply Kd.R_drew)); exact (Kd.R_mono (Kd.R_far (p := ⟨gb832, 1, none⟩) (Kd.R_far (p := ⟨gb832, 0, none⟩) (Kd.R_types HO819.out BK832.out (by decide)) (fun _ hk => hk.2) (.int .i64 t827)) (fun _ hk => hk.2) (.slice Ao23 t828.length co23)) (fun _ h_ => h_.1))) hb); have n2_ := Aside0.mk (Kd.R_below (by (with_reducible repeat (first | apply Kd.R_alloc | apply Kd.R_drewN | apply Kd.R_drew)); exact (Kd.R_mono (Kd.R_far (p := ⟨gb832, 1, none⟩) (Kd.R_far (p := ⟨gb832, 0, none⟩) (Kd.R_types HO824.out BK832.out (by decide)) (fun _ hk => hk.2) (.int .i64 t827)) (fun _ hk => hk.2) (.slice Ao23 t828.length co23)) (fun _ h_ => h_.1))) hb); have n3_ := Aside0.mk (Kd.R_below (by (with_reducible repeat (first | apply Kd.R_alloc | apply Kd.R_drewN | apply Kd.R_drew)); exact (Kd.R_mono (Kd.R_far (p := ⟨gb832, 1, none⟩) (Kd.R_far (p := ⟨gb832, 0, none⟩) (Kd.R_types HO830.out BK832.out (by decide)) (fun _ hk => hk.2) (.int .i64 t827)) (fun _ hk => hk.2) (.slice Ao23 t828.length co23)) (fun _ h_ => h_.1))) hb); have n4_ := Aside0.mk (blk_below (g := gb820) (o := .cells #[.int .i64 t813, .slice Ao10 t814.length co10] 46 (0, 0)) (z27_0) hb); have n5_ := Aside0.mk (blk_below (g := gb826) (o := .cells #[.int .i64 t821, .slice Ao16 t822.length co16] 46 (0, 0)) (z27_1) hb); have n6_ := Aside0.mk (blk_below (g := gb832) (o := .cells #[.int .i64 t827, .slice Ao23 t828.length co23] 46 (0, 0)) (by (with_reducible repeat (first | refine blk_drewN ?_ _ | refine blk_drew ?_ | refine blk_alloc ?_ _)); refine blk_put (cs := #[.int .i64 t827, .slice none 0 0]) ?_ 1 _ rfl; (with_reducible repeat (first | refine blk_drewN ?_ _ | refine blk_drew ?_ | refine blk_alloc ?_ _)); refine blk_put (cs := #[.int .i64 0, .slice none 0 0]) ?_ 0 _ rfl; (with_reducible repeat (first | refine blk_drewN ?_ _ | refine blk_drew ?_ | refine blk_alloc ?_ _)); exact BK832.out) hb); have n7_ := Aside0.mk (below_step (z27_2) hb); clear HO816; clear HO819; clear HO824; clear HO830; clear BK820; clear BK826; clear BK832; clear HB; have HO816 := n0_; have HO819 := n1_; have HO824 := n2_; have HO830 := n3_; have BK820 := n4_; have BK826 := n5_; have BK832 := n6_; have HB := n7_; clear n0_ n1_ n2_ n3_ n4_ n5_ n6_ n7_; (try clear hb); (try clear hb2); (try clear hk); (try clear hi)))
     repeat (go_quiet (fail); try go_wp2)
     go_meet
     case rel => exact ⟨_, (true), (z27_10), H', ⟨by first | omega | exact Nat.le_refl _⟩, ⟨by (with_reducible repeat (first | apply Kd.R_alloc | apply Kd.R_drewN | apply Kd.R_drew)); exact Kd.R_mono HO819.out (fun _ hk => ⟨hk.1.1, ⟨hk.1.2, hk.2⟩⟩)⟩, ⟨by (with_reducible repeat (first | apply Kd.R_alloc | apply Kd.R_drewN | apply Kd.R_drew)); exact Kd.R_mono HO816.out (fun _ hk => ⟨hk.1.1, ⟨hk.1.2, hk.2⟩⟩)⟩, ⟨by (with_reducible repeat (first | apply Kd.R_alloc | apply Kd.R_drewN | apply Kd.R_drew)); exact Kd.R_mono HO824.out (fun _ hk => ⟨hk.1.2, ⟨hk.1.1.2, hk.2⟩⟩)⟩, ⟨by (with_reducible repeat (first | apply Kd.R_alloc | apply Kd.R_drewN | apply Kd.R_drew)); exact Kd.R_mono HO830.out (fun _ hk => ⟨hk.1.2, ⟨hk.1.1.2, hk.2⟩⟩)⟩, ⟨by (with_reducible repeat (first | refine blk_drewN ?_ _ | refine blk_drew ?_ | refine blk_alloc ?_ _)); exact BK820.out⟩, ⟨by (with_reducible repeat (first | refine blk_drewN ?_ _ | refine blk_drew ?_ | refine blk_alloc ?_ _)); exact BK826.out⟩, ⟨by (with_reducible repeat (first | refine blk_drewN ?_ _ | refine blk_drew ?_ | refine blk_alloc ?_ _)); exact BK832.out⟩, ⟨by repeat (first | (with_reducible first | exact HB.out | apply below_alloc | apply pw_below_drewN | apply below_drew1 | refine below_set ?_ GE820.out | refine below_set ?_ GE826.out | refine below_set ?_ GE832.out) | exact HB.out)⟩⟩
   ·rw [if_neg c24] at H
    have c24b0 : (t825 == t831) = false := beq_eq_false_iff_ne.mpr c24
    have c24b1 : (t825 != t831) = true := bne_iff_ne.mpr c24
    (first | rw [c24b0] | (simp only [i64_w, i32_w]; rw [c24b0]) | skip)
    have H' := Aside0.mk H
    clear H
    go_wp2
    repeat (go_quiet (fail); try go_wp2)
    go_meet
    case rel => exact ⟨_, (true), (z27_10), H', ⟨by first | omega | exact Nat.le_refl _⟩, ⟨by (with_reducible repeat (first | apply Kd.R_alloc | apply Kd.R_drewN | apply Kd.R_drew)); exact Kd.R_mono (Kd.R_far (p := ⟨gb832, 1, none⟩) (Kd.R_far (p := ⟨gb832, 0, none⟩) (Kd.R_types HO819.out BK832.out (by decide)) (fun _ hk => hk.2) (.int .i64 t827)) (fun _ hk => hk.2) (.slice Ao23 t828.length co23)) (fun _ hk => ⟨hk.1.1.1, ⟨hk.1.1.2, hk.1.2⟩⟩)⟩, ⟨by (with_reducible repeat (first | apply Kd.R_alloc | apply Kd.R_drewN | apply Kd.R_drew)); exact Kd.R_mono (Kd.R_far (p := ⟨gb832, 1, none⟩) (Kd.R_far (p := ⟨gb832, 0, none⟩) (Kd.R_types HO816.out BK832.out (by decide)) (fun _ hk => hk.2) (.int .i64 t827)) (fun _ hk => hk.2) (.slice Ao23 t828.length co23)) (fun _ hk => ⟨hk.1.1.1, ⟨hk.1.1.2, hk.1.2⟩⟩)⟩, ⟨by (with_reducible repeat (first | apply Kd.R_alloc | apply Kd.R_drewN | apply Kd.R_drew)); exact Kd.R_mono (Kd.R_far (p := ⟨gb832, 1, none⟩) (Kd.R_far (p := ⟨gb832, 0, none⟩) (Kd.R_types HO824.out BK832.out (by decide)) (fun _ hk => hk.2) (.int .i64 t827)) (fun _ hk => hk.2) (.slice Ao23 t828.length co23)) (fun _ hk => ⟨hk.1.1.2, ⟨hk.1.1.1.2, hk.1.2⟩⟩)⟩, ⟨by (with_reducible repeat (first | apply Kd.R_alloc | apply Kd.R_drewN | apply Kd.R_drew)); exact Kd.R_mono (Kd.R_far (p := ⟨gb832, 1, none⟩) (Kd.R_far (p := ⟨gb832, 0, none⟩) (Kd.R_types HO830.out BK832.out (by decide)) (fun _ hk => hk.2) (.int .i64 t827)) (fun _ hk => hk.2) (.slice Ao23 t828.length co23)) (fun _ hk => ⟨hk.1.1.2, ⟨hk.1.1.1.2, hk.1.2⟩⟩)⟩, ⟨by (with_reducible repeat (first | refine blk_drewN ?_ _ | refine blk_drew ?_ | refine blk_alloc ?_ _)); refine blk_far ?_ NB820_832.out _; (with_reducible repeat (first | refine blk_drewN ?_ _ | refine blk_drew ?_ | refine blk_alloc ?_ _)); refine blk_far ?_ NB820_832.out _; (with_reducible repeat (first | refine blk_drewN ?_ _ | refine blk_drew ?_ | refine blk_alloc ?_ _)); exact BK820.out⟩, ⟨by (with_reducible repeat (first | refine blk_drewN ?_ _ | refine blk_drew ?_ | refine blk_alloc ?_ _)); refine blk_far ?_ NB826_832.out _; (with_reducible repeat (first | refine blk_drewN ?_ _ | refine blk_drew ?_ | refine blk_alloc ?_ _)); refine blk_far ?_ NB826_832.out _; (with_reducible repeat (first | refine blk_drewN ?_ _ | refine blk_drew ?_ | refine blk_alloc ?_ _)); exact BK826.out⟩, ⟨by (with_reducible repeat (first | refine blk_drewN ?_ _ | refine blk_drew ?_ | refine blk_alloc ?_ _)); refine blk_put (cs := #[.int .i64 t827, .slice none 0 0]) ?_ 1 _ rfl; (with_reducible repeat (first | refine blk_drewN ?_ _ | refine blk_drew ?_ | refine blk_alloc ?_ _)); refine blk_put (cs := #[.int .i64 0, .slice none 0 0]) ?_ 0 _ rfl; (with_reducible repeat (first | refine blk_drewN ?_ _ | refine blk_drew ?_ | refine blk_alloc ?_ _)); exact BK832.out⟩, ⟨by repeat (first | (with_reducible first | exact HB.out | apply below_alloc | apply pw_below_drewN | apply below_drew1 | refine below_set ?_ GE820.out | refine below_set ?_ GE826.out | refine below_set ?_ GE832.out) | exact HB.out)⟩⟩
  case rest =>
   clear HC6
   try clear c1
   try clear c2
   try clear c2b0
   try clear c2b1
   try clear p2
   try clear c3
   try clear c4
   try clear c5
   try clear c14
   try clear c17
   try clear c20
   try clear c21
   try clear c24
   try clear c24b0
   try clear c24b1
   try clear c26
   try clear c28
   try clear c29
   try clear c30
   try clear c32
   try clear c39
   try clear c40
   try clear c42
   try clear c47
   try clear c48
   try clear c50
   try clear hcz15_0
   try clear hcz15_1
   try clear hcz17_0
   try clear hcz17_1
   try clear hcz22_0
   try clear hcz22_1
   try clear hcz31_0
   try clear hcz31_1
   try clear hcz33_0
   try clear hcz33_1
   try clear hcz35_0
   try clear hcz35_1
   try clear hcz37_0
   try clear hcz37_1
   try clear hcz38_0
   try clear hcz38_1
   try clear hcz41_0
   try clear hcz41_1
   try clear hcz43_0
   try clear hcz43_1
   try clear hcz45_0
   try clear hcz45_1
   try clear hcz49_0
   try clear hcz49_1
   try clear hcz51_0
   try clear hcz51_1
   try clear hcz9_0
   try clear hcz9_1
   try clear hfz15_0
   try clear hfz15_1
   try clear hfz17_0
   try clear hfz17_1
   try clear hfz22_0
   try clear hfz22_1
   try clear hfz31_0
   try clear hfz31_1
   try clear hfz33_0
   try clear hfz33_1
   try clear hfz35_0
   try clear hfz35_1
   try clear hfz37_0
   try clear hfz37_1
   try clear hfz38_0
   try clear hfz38_1
   try clear hfz41_0
   try clear hfz41_1
   try clear hfz43_0
   try clear hfz43_1
   try clear hfz45_0
   try clear hfz45_1
   try clear hfz49_0
   try clear hfz49_1
   try clear hfz51_0
   try clear hfz51_1
   try clear hfz9_0
   try clear hfz9_1
   obtain ⟨kq, x56_5, rfl, HA, HJ5, HO_4, HO_821001, HO_827001, HO_833001, BK820, BK826, BK832, HB⟩ := hcut
   cases kq with
   | zero => exact absurd HA.out (by simp [laws_FnPoolLast.j0])
   | succ kj5 =>
    have H := HA.out
    clear HA
    simp only [laws_FnPoolLast.j0] at H
    by_cases c53 : x56_5 = true
    ·subst c53
     have H1 : (if t825 = t831 then ((impl_PoolSame.f kj5 t821 t822 t827 t828).bind fun t835 => (some t835)) else (some false)) = some r := by rw [if_pos rfl] at H; exact H
     clear H
     have H := H1
     clear H1
     by_cases c54 : t825 = t831
     ·rw [if_pos c54] at H
      have c54b0 : (t825 == t831) = true := beq_iff_eq.mpr c54
      have c54b1 : (t825 != t831) = false := bne_eq_false_iff_eq.mpr c54
      clear c54
      replace H := Option.bind_eq_some_iff.mp H
      obtain ⟨t835, A550, H⟩ := H
      replace H : (some t835) = some r := H
      have A55 := Aside0.mk A550
      clear A550
      obtain rfl := Option.some.inj H
      have hnb56 := NB826_820.out
      have hnc56 := NB820_826.out
      have hnb57 := NB826_832.out
      have hnc57 := NB832_826.out
      have hcz58_0 : wc.cell? ⟨gb826, 0, none⟩ = some (.int .i64 t821) := (blk_cell BK826.out 0).trans rfl
      have hcz58_1 : wc.cell? ⟨gb826, 1, none⟩ = some (.slice Ao16 t822.length co16) := (blk_cell BK826.out 1).trans rfl
      have hfz58_0 := blk_frozen BK826.out 0
      have hfz58_1 := blk_frozen BK826.out 1
      have hnb59 := NB832_820.out
      have hnc59 := NB820_832.out
      have hcz60_0 : wc.cell? ⟨gb832, 0, none⟩ = some (.int .i64 t827) := (blk_cell BK832.out 0).trans rfl
      have hcz60_1 : wc.cell? ⟨gb832, 1, none⟩ = some (.slice Ao23 t828.length co23) := (blk_cell BK832.out 1).trans rfl
      have hfz60_0 := blk_frozen BK832.out 0
      have hfz60_1 := blk_frozen BK832.out 1
      go_wp2_with (first | (go_at_call 35; (with_reducible refine (impl_PoolSame.calls kj5 t821 _ _ t822 t827 _ _ t828 t835 _ ?side1 ?side2 ?side3 ?side4 A55.out).mono ?_); (case side1 => repeat (first | exact (Kd.R_reads' HO_827001.out).2.2 | (with_reducible refine Kd.C_alloc ?_ _) | (with_reducible refine Kd.C_drewN ?_ _) | (with_reducible refine Kd.C_drew ?_))); (case side2 => exact (Kd.R_reads' HO_827001.out).2.1); (case side3 => repeat (first | exact (Kd.R_reads' HO_833001.out).2.2 | (with_reducible refine Kd.C_alloc ?_ _) | (with_reducible refine Kd.C_drewN ?_ _) | (with_reducible refine Kd.C_drew ?_))); (case side4 => exact (Kd.R_reads' HO_833001.out).2.1); rintro e w61 ⟨rfl, hb⟩; have n0_ := Aside0.mk (Kd.R_below (by (with_reducible repeat (first | apply Kd.R_alloc | apply Kd.R_drewN | apply Kd.R_drew)); exact HO_4.out) hb); have n1_ := Aside0.mk (Kd.R_below (by (with_reducible repeat (first | apply Kd.R_alloc | apply Kd.R_drewN | apply Kd.R_drew)); exact HO_821001.out) hb); have n2_ := Aside0.mk (Kd.R_below (by (with_reducible repeat (first | apply Kd.R_alloc | apply Kd.R_drewN | apply Kd.R_drew)); exact HO_827001.out) hb); have n3_ := Aside0.mk (Kd.R_below (by (with_reducible repeat (first | apply Kd.R_alloc | apply Kd.R_drewN | apply Kd.R_drew)); exact HO_833001.out) hb); have n4_ := Aside0.mk (blk_below (g := gb820) (o := .cells #[.int .i64 t813, .slice Ao10 t814.length co10] 46 (0, 0)) (z27_6) hb); have n5_ := Aside0.mk (blk_below (g := gb826) (o := .cells #[.int .i64 t821, .slice Ao16 t822.length co16] 46 (0, 0)) (z27_7) hb); have n6_ := Aside0.mk (blk_below (g := gb832) (o := .cells #[.int .i64 t827, .slice Ao23 t828.length co23] 46 (0, 0)) (z27_8) hb); have n7_ := Aside0.mk (below_step (z27_2) hb); clear HO_4; clear HO_821001; clear HO_827001; clear HO_833001; clear BK820; clear BK826; clear BK832; clear HB; have HO_4 := n0_; have HO_821001 := n1_; have HO_827001 := n2_; have HO_833001 := n3_; have BK820 := n4_; have BK826 := n5_; have BK832 := n6_; have HB := n7_; clear n0_ n1_ n2_ n3_ n4_ n5_ n6_ n7_; (try clear hb); (try clear hb2); (try clear hk); (try clear hi)))
      repeat (go_quiet (fail); try go_wp2)
      go_ret
      exact ⟨by first | rfl | (simp [errW_none, errW_some] <;> rfl) | (simp [*, errW_none, errW_some] <;> rfl), by repeat (first | (with_reducible first | exact HB.out | apply below_alloc | apply pw_below_drewN | apply below_drew1 | refine below_set ?_ GE820.out | refine below_set ?_ GE826.out | refine below_set ?_ GE832.out) | exact HB.out)⟩
     ·rw [if_neg c54] at H
      have c54b0 : (t825 == t831) = false := beq_eq_false_iff_ne.mpr c54
      have c54b1 : (t825 != t831) = true := bne_iff_ne.mpr c54
      exact absurd ((Option.some.inj H).trans hT) (by simp)
    ·replace c53 := Bool.eq_false_iff.mpr c53
     subst c53
     have H1 : (laws_FnPoolLast.l0 kj5 t817 (([] : List (S25))) (wrap64 ((t817.length : Int) - 1)) t813 t814 t821 t822) = some r := by rw [if_neg (show ¬ (false = true) by decide)] at H; exact H
     clear H
     have H := H1
     clear H1
     obtain ⟨y836, hy836⟩ : ∃ y_ : List (S25), y_ = (([] : List (S25))) := ⟨_, rfl⟩
     replace H : (laws_FnPoolLast.l0 kj5 t817 y836 (wrap64 ((t817.length : Int) - 1)) t813 t814 t821 t822) = some r := by first | (rw [hy836]; with_reducible exact H) | (have H2_ := (Option.bind_some _ _).symm.trans H; rw [hy836]; with_reducible exact H2_) | (have H2_ := (Option.bind_some _ _).symm.trans H; with_reducible exact H2_) | with_reducible exact H | (rw [hy836]; exact H) | exact H
     have Ny836 := Aside0.mk hy836
     clear hy836
     have H' := Aside0.mk H
     clear H
     go_wp2_with (first | ((with_reducible refine gate_dst (N := 65) rfl ?_); refine Kd.R_lit k25 _ 25 ?hg (N := 65) ?hd (xs := ([] : List (S25))) (inner := []) (ok := fun _ => True) (okp := fun _ => True) ?hr ?hp (fun _ hk => hk) trivial (Below.refl _ _) (Nat.le_refl _) (by simp) ?_; (case hd => rfl); (case hg => rfl); (case hr => first | (go_simp; done) | (go_simp; rfl)); (case hp => exact (Reps.none _ _)); intro v837 w62 ho63 hb hg_ hnew_; clear hg_ hnew_; (first | rw [← Ny836.out] at ho63 | (simp only [Int.reduceToNat] at ho63; rw [← Ny836.out] at ho63)); have n0_ := Aside0.mk (Kd.R_elder' (by (with_reducible repeat (first | apply Kd.R_alloc | apply Kd.R_drewN | apply Kd.R_drew)); exact HO_4.out) (Kd.R_base ho63) hb); have n1_ := Aside0.mk (Kd.R_elder' (by (with_reducible repeat (first | apply Kd.R_alloc | apply Kd.R_drewN | apply Kd.R_drew)); exact HO_821001.out) (Kd.R_base ho63) hb); have n2_ := Aside0.mk (Kd.R_elder' (by (with_reducible repeat (first | apply Kd.R_alloc | apply Kd.R_drewN | apply Kd.R_drew)); exact HO_827001.out) (Kd.R_base ho63) hb); have n3_ := Aside0.mk (Kd.R_elder' (by (with_reducible repeat (first | apply Kd.R_alloc | apply Kd.R_drewN | apply Kd.R_drew)); exact HO_833001.out) (Kd.R_base ho63) hb); have n4_ := Aside0.mk (Kd.R_lower (Kd.R_new' (Kd.R_new' (Kd.R_new' (Kd.R_new' ho63 (Kd.R_lt (by (with_reducible repeat (first | apply Kd.R_alloc | apply Kd.R_drewN | apply Kd.R_drew)); exact HO_4.out))) (Kd.R_lt (by (with_reducible repeat (first | apply Kd.R_alloc | apply Kd.R_drewN | apply Kd.R_drew)); exact HO_821001.out))) (Kd.R_lt (by (with_reducible repeat (first | apply Kd.R_alloc | apply Kd.R_drewN | apply Kd.R_drew)); exact HO_827001.out))) (Kd.R_lt (by (with_reducible repeat (first | apply Kd.R_alloc | apply Kd.R_drewN | apply Kd.R_drew)); exact HO_833001.out))) (below_size (z27_2))); have n5_ := Aside0.mk (blk_below (g := gb820) (o := .cells #[.int .i64 t813, .slice Ao10 t814.length co10] 46 (0, 0)) (z27_6) hb); have n6_ := Aside0.mk (blk_below (g := gb826) (o := .cells #[.int .i64 t821, .slice Ao16 t822.length co16] 46 (0, 0)) (z27_7) hb); have n7_ := Aside0.mk (blk_below (g := gb832) (o := .cells #[.int .i64 t827, .slice Ao23 t828.length co23] 46 (0, 0)) (z27_8) hb); have n8_ := Aside0.mk (below_step (z27_2) hb); clear HO_4; clear HO_821001; clear HO_827001; clear HO_833001; clear BK820; clear BK826; clear BK832; clear HB; have HO_4 := n0_; have HO_821001 := n1_; have HO_827001 := n2_; have HO_833001 := n3_; have HO838 := n4_; have BK820 := n5_; have BK826 := n6_; have BK832 := n7_; have HB := n8_; clear n0_ n1_ n2_ n3_ n4_ n5_ n6_ n7_ n8_; clear hb ho63))
     repeat (go_quiet (fail); try go_wp2)
     go_loopg [9, 10] kj5 (fun kq v9 v10 w' => ∃ (x9_2 : List (S25)) (x10_2 : Int), v10 = .int .i64 x10_2 ∧ Aside0 (laws_FnPoolLast.l0 kq t817 x9_2 x10_2 t813 t814 t821 t822 = some r) ∧ Aside0 (kq ≤ kj5) ∧ Aside0 (Kd.R k25 25 w' w.heap.size (fun k_ => some k_ ≠ (v9 : Value).ownBlock ∧ some k_ ≠ ((.slice Ao10 t814.length co10) : Value).ownBlock ∧ some k_ ≠ ((.slice Ao16 t822.length co16) : Value).ownBlock ∧ some k_ ≠ ((.slice Ao23 t828.length co23) : Value).ownBlock) (.slice Ao11 t817.length co11) t817) ∧ Aside0 (Kd.R k25 25 w' w.heap.size (fun k_ => some k_ ≠ ((.slice Ao11 t817.length co11) : Value).ownBlock ∧ some k_ ≠ ((.slice Ao10 t814.length co10) : Value).ownBlock ∧ some k_ ≠ ((.slice Ao16 t822.length co16) : Value).ownBlock ∧ some k_ ≠ ((.slice Ao23 t828.length co23) : Value).ownBlock) v9 x9_2) ∧ Aside0 (Kd.R k25 25 w' w.heap.size (fun k_ => some k_ ≠ ((.slice Ao11 t817.length co11) : Value).ownBlock ∧ some k_ ≠ (v9 : Value).ownBlock ∧ some k_ ≠ ((.slice Ao16 t822.length co16) : Value).ownBlock ∧ some k_ ≠ ((.slice Ao23 t828.length co23) : Value).ownBlock) (.slice Ao10 t814.length co10) t814) ∧ Aside0 (Kd.R k25 25 w' w.heap.size (fun k_ => some k_ ≠ ((.slice Ao11 t817.length co11) : Value).ownBlock ∧ some k_ ≠ (v9 : Value).ownBlock ∧ some k_ ≠ ((.slice Ao10 t814.length co10) : Value).ownBlock ∧ some k_ ≠ ((.slice Ao23 t828.length co23) : Value).ownBlock) (.slice Ao16 t822.length co16) t822) ∧ Aside0 (Kd.R k25 25 w' w.heap.size (fun k_ => some k_ ≠ ((.slice Ao11 t817.length co11) : Value).ownBlock ∧ some k_ ≠ (v9 : Value).ownBlock ∧ some k_ ≠ ((.slice Ao10 t814.length co10) : Value).ownBlock ∧ some k_ ≠ ((.slice Ao16 t822.length co16) : Value).ownBlock) (.slice Ao23 t828.length co23) t828) ∧ Aside0 (w'.heap[gb820]? = some (.cells #[.int .i64 t813, (.slice Ao10 t814.length co10)] 46 (0, 0))) ∧ Aside0 (w'.heap[gb826]? = some (.cells #[.int .i64 t821, (.slice Ao16 t822.length co16)] 46 (0, 0))) ∧ Aside0 (w'.heap[gb832]? = some (.cells #[.int .i64 t827, (.slice Ao23 t828.length co23)] 46 (0, 0))) ∧ Aside0 (Below w.heap.size w w'))
     case atStart => exact ⟨(y836), (wrap64 ((t817.length : Int) - 1)), (z27_10), H', ⟨Nat.le_refl _⟩, ⟨by (with_reducible repeat (first | apply Kd.R_alloc | apply Kd.R_drewN | apply Kd.R_drew)); exact Kd.R_mono HO_4.out (fun _ hk => ⟨hk.2, ⟨hk.1.1, ⟨hk.1.2.1, hk.1.2.2⟩⟩⟩)⟩, ⟨by (with_reducible repeat (first | apply Kd.R_alloc | apply Kd.R_drewN | apply Kd.R_drew)); exact Kd.R_mono HO838.out (fun _ hk => ⟨hk.1.1.1.2, ⟨hk.1.1.2, ⟨hk.1.2, hk.2⟩⟩⟩)⟩, ⟨by (with_reducible repeat (first | apply Kd.R_alloc | apply Kd.R_drewN | apply Kd.R_drew)); exact Kd.R_mono HO_821001.out (fun _ hk => ⟨hk.1.1, ⟨hk.2, ⟨hk.1.2.1, hk.1.2.2⟩⟩⟩)⟩, ⟨by (with_reducible repeat (first | apply Kd.R_alloc | apply Kd.R_drewN | apply Kd.R_drew)); exact Kd.R_mono HO_827001.out (fun _ hk => ⟨hk.1.1, ⟨hk.2, ⟨hk.1.2.1, hk.1.2.2⟩⟩⟩)⟩, ⟨by (with_reducible repeat (first | apply Kd.R_alloc | apply Kd.R_drewN | apply Kd.R_drew)); exact Kd.R_mono HO_833001.out (fun _ hk => ⟨hk.1.1, ⟨hk.2, ⟨hk.1.2.1, hk.1.2.2⟩⟩⟩)⟩, ⟨by (with_reducible repeat (first | refine blk_drewN ?_ _ | refine blk_drew ?_ | refine blk_alloc ?_ _)); exact BK820.out⟩, ⟨by (with_reducible repeat (first | refine blk_drewN ?_ _ | refine blk_drew ?_ | refine blk_alloc ?_ _)); exact BK826.out⟩, ⟨by (with_reducible repeat (first | refine blk_drewN ?_ _ | refine blk_drew ?_ | refine blk_alloc ?_ _)); exact BK832.out⟩, ⟨by repeat (first | (with_reducible first | exact HB.out | apply below_alloc | apply pw_below_drewN | apply below_drew1 | refine below_set ?_ GE820.out | refine below_set ?_ GE826.out | refine below_set ?_ GE832.out) | exact HB.out)⟩⟩
     case round =>
      clear H'
      try clear c1
      try clear c2
      try clear c2b0
      try clear c2b1
      try clear p2
      try clear c3
      try clear c4
      try clear c5
      try clear p6
      try clear c14
      try clear c17
      try clear c20
      try clear c21
      try clear c24
      try clear c24b0
      try clear c24b1
      try clear c26
      try clear c28
      try clear c29
      try clear c30
      try clear c32
      try clear c39
      try clear c40
      try clear c42
      try clear c47
      try clear c48
      try clear c50
      try clear c53
      try clear c54
      try clear c54b0
      try clear c54b1
      try clear c56
      try clear c57
      try clear c59
      try clear hcz15_0
      try clear hcz15_1
      try clear hcz17_0
      try clear hcz17_1
      try clear hcz22_0
      try clear hcz22_1
      try clear hcz31_0
      try clear hcz31_1
      try clear hcz33_0
      try clear hcz33_1
      try clear hcz35_0
      try clear hcz35_1
      try clear hcz37_0
      try clear hcz37_1
      try clear hcz38_0
      try clear hcz38_1
      try clear hcz41_0
      try clear hcz41_1
      try clear hcz43_0
      try clear hcz43_1
      try clear hcz45_0
      try clear hcz45_1
      try clear hcz49_0
      try clear hcz49_1
      try clear hcz51_0
      try clear hcz51_1
      try clear hcz58_0
      try clear hcz58_1
      try clear hcz60_0
      try clear hcz60_1
      try clear hcz9_0
      try clear hcz9_1
      try clear hfz15_0
      try clear hfz15_1
      try clear hfz17_0
      try clear hfz17_1
      try clear hfz22_0
      try clear hfz22_1
      try clear hfz31_0
      try clear hfz31_1
      try clear hfz33_0
      try clear hfz33_1
      try clear hfz35_0
      try clear hfz35_1
      try clear hfz37_0
      try clear hfz37_1
      try clear hfz38_0
      try clear hfz38_1
      try clear hfz41_0
      try clear hfz41_1
      try clear hfz43_0
      try clear hfz43_1
      try clear hfz45_0
      try clear hfz45_1
      try clear hfz49_0
      try clear hfz49_1
      try clear hfz51_0
      try clear hfz51_1
      try clear hfz58_0
      try clear hfz58_1
      try clear hfz60_0
      try clear hfz60_1
      try clear hfz9_0
      try clear hfz9_1
      try clear p2
      obtain ⟨x9_2, x10_2, rfl, HA, HK2, HO_4, HO_9, HO_821001, HO_827001, HO_833001, BK820, BK826, BK832, HB⟩ := hrel
      cases gk with
      | zero => exact absurd HA.out (by simp [laws_FnPoolLast.l0])
      | succ k2 =>
       have H := HA.out
       clear HA
       simp only [laws_FnPoolLast.l0] at H
       by_cases c64 : x10_2 ≥ 0
       ·rw [if_pos c64] at H
        have c64b0 : decide (0 ≤ x10_2) = true := decide_eq_true c64
        clear c64
        have H' := Aside0.mk H
        clear H
        go_wp2
        repeat (go_quiet (fail); try go_wp2)
        go_loopg [11, 12] k2 (fun kq v11 v12 w' => ∃ (x11_3 : Bool) (x12_3 : Int), v11 = .bool x11_3 ∧ v12 = .int .i64 x12_3 ∧ Aside0 (laws_FnPoolLast.l1 kq t817 x9_2 x10_2 x11_3 x12_3 t813 t814 t821 t822 = some r) ∧ Aside0 (kq ≤ k2) ∧ Aside0 (Kd.R k25 25 w' w.heap.size (fun k_ => some k_ ≠ (u9 : Value).ownBlock ∧ some k_ ≠ ((.slice Ao10 t814.length co10) : Value).ownBlock ∧ some k_ ≠ ((.slice Ao16 t822.length co16) : Value).ownBlock ∧ some k_ ≠ ((.slice Ao23 t828.length co23) : Value).ownBlock) (.slice Ao11 t817.length co11) t817) ∧ Aside0 (Kd.R k25 25 w' w.heap.size (fun k_ => some k_ ≠ ((.slice Ao11 t817.length co11) : Value).ownBlock ∧ some k_ ≠ ((.slice Ao10 t814.length co10) : Value).ownBlock ∧ some k_ ≠ ((.slice Ao16 t822.length co16) : Value).ownBlock ∧ some k_ ≠ ((.slice Ao23 t828.length co23) : Value).ownBlock) u9 x9_2) ∧ Aside0 (Kd.R k25 25 w' w.heap.size (fun k_ => some k_ ≠ ((.slice Ao11 t817.length co11) : Value).ownBlock ∧ some k_ ≠ (u9 : Value).ownBlock ∧ some k_ ≠ ((.slice Ao16 t822.length co16) : Value).ownBlock ∧ some k_ ≠ ((.slice Ao23 t828.length co23) : Value).ownBlock) (.slice Ao10 t814.length co10) t814) ∧ Aside0 (Kd.R k25 25 w' w.heap.size (fun k_ => some k_ ≠ ((.slice Ao11 t817.length co11) : Value).ownBlock ∧ some k_ ≠ (u9 : Value).ownBlock ∧ some k_ ≠ ((.slice Ao10 t814.length co10) : Value).ownBlock ∧ some k_ ≠ ((.slice Ao23 t828.length co23) : Value).ownBlock) (.slice Ao16 t822.length co16) t822) ∧ Aside0 (Kd.R k25 25 w' w.heap.size (fun k_ => some k_ ≠ ((.slice Ao11 t817.length co11) : Value).ownBlock ∧ some k_ ≠ (u9 : Value).ownBlock ∧ some k_ ≠ ((.slice Ao10 t814.length co10) : Value).ownBlock ∧ some k_ ≠ ((.slice Ao16 t822.length co16) : Value).ownBlock) (.slice Ao23 t828.length co23) t828) ∧ Aside0 (w'.heap[gb820]? = some (.cells #[.int .i64 t813, (.slice Ao10 t814.length co10)] 46 (0, 0))) ∧ Aside0 (w'.heap[gb826]? = some (.cells #[.int .i64 t821, (.slice Ao16 t822.length co16)] 46 (0, 0))) ∧ Aside0 (w'.heap[gb832]? = some (.cells #[.int .i64 t827, (.slice Ao23 t828.length co23)] 46 (0, 0))) ∧ Aside0 (Below w.heap.size w w'))
        case atStart => exact ⟨(false), (0), (z27_10), (z27_10), H', ⟨Nat.le_refl _⟩, ⟨by (with_reducible repeat (first | apply Kd.R_alloc | apply Kd.R_drewN | apply Kd.R_drew)); exact HO_4.out⟩, ⟨by (with_reducible repeat (first | apply Kd.R_alloc | apply Kd.R_drewN | apply Kd.R_drew)); exact HO_9.out⟩, ⟨by (with_reducible repeat (first | apply Kd.R_alloc | apply Kd.R_drewN | apply Kd.R_drew)); exact HO_821001.out⟩, ⟨by (with_reducible repeat (first | apply Kd.R_alloc | apply Kd.R_drewN | apply Kd.R_drew)); exact HO_827001.out⟩, ⟨by (with_reducible repeat (first | apply Kd.R_alloc | apply Kd.R_drewN | apply Kd.R_drew)); exact HO_833001.out⟩, ⟨by (with_reducible repeat (first | refine blk_drewN ?_ _ | refine blk_drew ?_ | refine blk_alloc ?_ _)); exact BK820.out⟩, ⟨by (with_reducible repeat (first | refine blk_drewN ?_ _ | refine blk_drew ?_ | refine blk_alloc ?_ _)); exact BK826.out⟩, ⟨by (with_reducible repeat (first | refine blk_drewN ?_ _ | refine blk_drew ?_ | refine blk_alloc ?_ _)); exact BK832.out⟩, ⟨by repeat (first | (with_reducible first | exact HB.out | apply below_alloc | apply pw_below_drewN | apply below_drew1 | refine below_set ?_ GE820.out | refine below_set ?_ GE826.out | refine below_set ?_ GE832.out) | exact HB.out)⟩⟩
        case round =>
         clear H'
         try clear c1
         try clear c2
         try clear c2b0
         try clear c2b1
         try clear p2
         try clear c3
         try clear c4
         try clear c5
         try clear c6
         try clear p6
         try clear c14
         try clear c17
         try clear c20
         try clear c21
         try clear c24
         try clear c24b0
         try clear c24b1
         try clear c26
         try clear c28
         try clear c29
         try clear c30
         try clear c32
         try clear c39
         try clear c40
         try clear c42
         try clear c47
         try clear c48
         try clear c50
         try clear c53
         try clear c54
         try clear c54b0
         try clear c54b1
         try clear c56
         try clear c57
         try clear c59
         try clear c64
         try clear c64b0
         try clear p64
         try clear hcz15_0
         try clear hcz15_1
         try clear hcz17_0
         try clear hcz17_1
         try clear hcz22_0
         try clear hcz22_1
         try clear hcz31_0
         try clear hcz31_1
         try clear hcz33_0
         try clear hcz33_1
         try clear hcz35_0
         try clear hcz35_1
         try clear hcz37_0
         try clear hcz37_1
         try clear hcz38_0
         try clear hcz38_1
         try clear hcz41_0
         try clear hcz41_1
         try clear hcz43_0
         try clear hcz43_1
         try clear hcz45_0
         try clear hcz45_1
         try clear hcz49_0
         try clear hcz49_1
         try clear hcz51_0
         try clear hcz51_1
         try clear hcz58_0
         try clear hcz58_1
         try clear hcz60_0
         try clear hcz60_1
         try clear hcz9_0
         try clear hcz9_1
         try clear hfz15_0
         try clear hfz15_1
         try clear hfz17_0
         try clear hfz17_1
         try clear hfz22_0
         try clear hfz22_1
         try clear hfz31_0
         try clear hfz31_1
         try clear hfz33_0
         try clear hfz33_1
         try clear hfz35_0
         try clear hfz35_1
         try clear hfz37_0
         try clear hfz37_1
         try clear hfz38_0
         try clear hfz38_1
         try clear hfz41_0
         try clear hfz41_1
         try clear hfz43_0
         try clear hfz43_1
         try clear hfz45_0
         try clear hfz45_1
         try clear hfz49_0
         try clear hfz49_1
         try clear hfz51_0
         try clear hfz51_1
         try clear hfz58_0
         try clear hfz58_1
         try clear hfz60_0
         try clear hfz60_1
         try clear hfz9_0
         try clear hfz9_1
         try clear p2
         try clear p6
         obtain ⟨x11_3, x12_3, rfl, rfl, HA, HK3, HO_4, HO_9, HO_821001, HO_827001, HO_833001, BK820, BK826, BK832, HB⟩ := hrel
         cases gk with
         | zero => exact absurd HA.out (by simp [laws_FnPoolLast.l1])
         | succ k3 =>
          have H := HA.out
          clear HA
          simp only [laws_FnPoolLast.l1] at H
          by_cases c65 : x12_3 < (x9_2.length : Int)
          ·rw [if_pos c65] at H
           have c65b0 : decide (x12_3 < (x9_2.length : Int)) = true := decide_eq_true c65
           clear c65
           by_cases c66 : x11_3 = true
           ·subst c66
            have H1 : (laws_FnPoolLast.l1 k3 t817 x9_2 x10_2 true (wrap64 (x12_3 + 1)) t813 t814 t821 t822) = some r := by rw [if_pos rfl] at H; exact H
            clear H
            have H := H1
            clear H1
            have H' := Aside0.mk H
            clear H
            obtain ⟨Ao67, co67, eo67⟩ := Kd.R_slice HO_9.out
            subst eo67
            go_wp2
            repeat (go_quiet (fail); try go_wp2)
            go_roundg k3
            case measure => have := HJ5.out; have := HK2.out; have := HK3.out; omega
            case rel => exact ⟨(true), (wrap64 (x12_3 + 1)), (z27_10), (z27_10), H', ⟨by have := HJ5.out; have := HK2.out; have := HK3.out; omega⟩, ⟨by (with_reducible repeat (first | apply Kd.R_alloc | apply Kd.R_drewN | apply Kd.R_drew)); exact HO_4.out⟩, ⟨by (with_reducible repeat (first | apply Kd.R_alloc | apply Kd.R_drewN | apply Kd.R_drew)); exact HO_9.out⟩, ⟨by (with_reducible repeat (first | apply Kd.R_alloc | apply Kd.R_drewN | apply Kd.R_drew)); exact HO_821001.out⟩, ⟨by (with_reducible repeat (first | apply Kd.R_alloc | apply Kd.R_drewN | apply Kd.R_drew)); exact HO_827001.out⟩, ⟨by (with_reducible repeat (first | apply Kd.R_alloc | apply Kd.R_drewN | apply Kd.R_drew)); exact HO_833001.out⟩, ⟨by (with_reducible repeat (first | refine blk_drewN ?_ _ | refine blk_drew ?_ | refine blk_alloc ?_ _)); exact BK820.out⟩, ⟨by (with_reducible repeat (first | refine blk_drewN ?_ _ | refine blk_drew ?_ | refine blk_alloc ?_ _)); exact BK826.out⟩, ⟨by (with_reducible repeat (first | refine blk_drewN ?_ _ | refine blk_drew ?_ | refine blk_alloc ?_ _)); exact BK832.out⟩, ⟨by repeat (first | (with_reducible first | exact HB.out | apply below_alloc | apply pw_below_drewN | apply below_drew1 | refine below_set ?_ GE820.out | refine below_set ?_ GE826.out | refine below_set ?_ GE832.out) | exact HB.out)⟩⟩
           ·replace c66 := Bool.eq_false_iff.mpr c66
            subst c66
            have H1 : (if 0 ≤ x12_3 then (if 0 ≤ x10_2 then (if x10_2 < (t817.length : Int) then (laws_FnPoolLast.l1 k3 t817 x9_2 x10_2 (((rd_T25 x9_2 x12_3).f0) == ((rd_T25 t817 x10_2).f0) && (((rd_T25 x9_2 x12_3).f1) == ((rd_T25 t817 x10_2).f1))) (wrap64 (x12_3 + 1)) t813 t814 t821 t822) else (none)) else (none)) else (none)) = some r := by rw [if_neg (show ¬ (false = true) by decide)] at H; exact H
            clear H
            have H := H1
            clear H1
            by_cases c68 : 0 ≤ x12_3
            ·rw [if_pos c68] at H
             have c68b0 : decide (0 ≤ x12_3) = true := decide_eq_true c68
             clear c68
             by_cases c69 : 0 ≤ x10_2
             ·rw [if_pos c69] at H
              have c69b0 : decide (0 ≤ x10_2) = true := decide_eq_true c69
              clear c69
              by_cases c70 : x10_2 < (t817.length : Int)
              ·rw [if_pos c70] at H
               have c70b0 : decide (x10_2 < (t817.length : Int)) = true := decide_eq_true c70
               clear c70
               have H' := Aside0.mk H
               clear H
               obtain ⟨Ao71, co71, eo71⟩ := Kd.R_slice HO_9.out
               subst eo71
               have p839 : 0 ≤ (x12_3 : Int) := of_decide_eq_true (z27_9)
               have q839 : x12_3 < (x9_2.length : Int) := of_decide_eq_true (z27_9)
               obtain ⟨ad839, e839, hx839_0, hx839_1⟩ := at_T25 (Kd.R_reads' HO_9.out).2.2 x12_3 p839 q839
               cases e839
               replace p839 := eq_true p839
               replace q839 := eq_true q839
               have p840 : 0 ≤ (x10_2 : Int) := of_decide_eq_true (z27_9)
               have q840 : x10_2 < (t817.length : Int) := of_decide_eq_true (z27_9)
               obtain ⟨ad840, e840, hx840_0, hx840_1⟩ := at_T25 (Kd.R_reads' HO_4.out).2.2 x10_2 p840 q840
               cases e840
               replace p840 := eq_true p840
               replace q840 := eq_true q840
               go_wp2
               repeat (go_quiet (fail); try go_wp2)
               go_roundg k3
               case measure => have := HJ5.out; have := HK2.out; have := HK3.out; omega
               case rel => exact ⟨((((rd_T25 x9_2 x12_3).f0) == ((rd_T25 t817 x10_2).f0) && (((rd_T25 x9_2 x12_3).f1) == ((rd_T25 t817 x10_2).f1)))), (wrap64 (x12_3 + 1)), (z27_10), (z27_10), H', ⟨by have := HJ5.out; have := HK2.out; have := HK3.out; omega⟩, ⟨by (with_reducible repeat (first | apply Kd.R_alloc | apply Kd.R_drewN | apply Kd.R_drew)); exact HO_4.out⟩, ⟨by (with_reducible repeat (first | apply Kd.R_alloc | apply Kd.R_drewN | apply Kd.R_drew)); exact HO_9.out⟩, ⟨by (with_reducible repeat (first | apply Kd.R_alloc | apply Kd.R_drewN | apply Kd.R_drew)); exact HO_821001.out⟩, ⟨by (with_reducible repeat (first | apply Kd.R_alloc | apply Kd.R_drewN | apply Kd.R_drew)); exact HO_827001.out⟩, ⟨by (with_reducible repeat (first | apply Kd.R_alloc | apply Kd.R_drewN | apply Kd.R_drew)); exact HO_833001.out⟩, ⟨by (with_reducible repeat (first | refine blk_drewN ?_ _ | refine blk_drew ?_ | refine blk_alloc ?_ _)); exact BK820.out⟩, ⟨by (with_reducible repeat (first | refine blk_drewN ?_ _ | refine blk_drew ?_ | refine blk_alloc ?_ _)); exact BK826.out⟩, ⟨by (with_reducible repeat (first | refine blk_drewN ?_ _ | refine blk_drew ?_ | refine blk_alloc ?_ _)); exact BK832.out⟩, ⟨by repeat (first | (with_reducible first | exact HB.out | apply below_alloc | apply pw_below_drewN | apply below_drew1 | refine below_set ?_ GE820.out | refine below_set ?_ GE826.out | refine below_set ?_ GE832.out) | exact HB.out)⟩⟩
              ·rw [if_neg c70] at H
               exact absurd H (by simp)
             ·rw [if_neg c69] at H
              exact absurd H (by simp)
            ·rw [if_neg c68] at H
             exact absurd H (by simp)
          ·rw [if_neg c65] at H
           have c65b0 : decide (x12_3 < (x9_2.length : Int)) = false := decide_eq_false c65
           clear c65
           by_cases c72 : x11_3 = true
           ·subst c72
            have H1 : (laws_FnPoolLast.l0 k3 t817 x9_2 (wrap64 (x10_2 - 1)) t813 t814 t821 t822) = some r := by rw [if_pos rfl] at H; exact H
            clear H
            have H := H1
            clear H1
            have H' := Aside0.mk H
            clear H
            obtain ⟨Ao73, co73, eo73⟩ := Kd.R_slice HO_9.out
            subst eo73
            go_wp2
            repeat (go_quiet (fail); try go_wp2)
            go_roundg k3
            case measure => have := HJ5.out; have := HK2.out; have := HK3.out; omega
            case rel => exact ⟨(x9_2), (wrap64 (x10_2 - 1)), (z27_10), H', ⟨by have := HJ5.out; have := HK2.out; have := HK3.out; omega⟩, ⟨by (with_reducible repeat (first | apply Kd.R_alloc | apply Kd.R_drewN | apply Kd.R_drew)); exact HO_4.out⟩, ⟨by (with_reducible repeat (first | apply Kd.R_alloc | apply Kd.R_drewN | apply Kd.R_drew)); exact HO_9.out⟩, ⟨by (with_reducible repeat (first | apply Kd.R_alloc | apply Kd.R_drewN | apply Kd.R_drew)); exact HO_821001.out⟩, ⟨by (with_reducible repeat (first | apply Kd.R_alloc | apply Kd.R_drewN | apply Kd.R_drew)); exact HO_827001.out⟩, ⟨by (with_reducible repeat (first | apply Kd.R_alloc | apply Kd.R_drewN | apply Kd.R_drew)); exact HO_833001.out⟩, ⟨by (with_reducible repeat (first | refine blk_drewN ?_ _ | refine blk_drew ?_ | refine blk_alloc ?_ _)); exact BK820.out⟩, ⟨by (with_reducible repeat (first | refine blk_drewN ?_ _ | refine blk_drew ?_ | refine blk_alloc ?_ _)); exact BK826.out⟩, ⟨by (with_reducible repeat (first | refine blk_drewN ?_ _ | refine blk_drew ?_ | refine blk_alloc ?_ _)); exact BK832.out⟩, ⟨by repeat (first | (with_reducible first | exact HB.out | apply below_alloc | apply pw_below_drewN | apply below_drew1 | refine below_set ?_ GE820.out | refine below_set ?_ GE826.out | refine below_set ?_ GE832.out) | exact HB.out)⟩⟩
           ·replace c72 := Bool.eq_false_iff.mpr c72
            subst c72
            have H1 : (if 0 ≤ x10_2 then (if x10_2 < (t817.length : Int) then (if x9_2.length < 8796093022208 then (laws_FnPoolLast.l0 k3 t817 (x9_2 ++ [(⟨(rd_T25 t817 x10_2).f0, (rd_T25 t817 x10_2).f1⟩ : S25)]) (wrap64 (x10_2 - 1)) t813 t814 t821 t822) else (none)) else (none)) else (none)) = some r := by rw [if_neg (show ¬ (false = true) by decide)] at H; exact H
            clear H
            have H := H1
            clear H1
            by_cases c74 : 0 ≤ x10_2
            ·rw [if_pos c74] at H
             have c74b0 : decide (0 ≤ x10_2) = true := decide_eq_true c74
             clear c74
             by_cases c75 : x10_2 < (t817.length : Int)
             ·rw [if_pos c75] at H
              have c75b0 : decide (x10_2 < (t817.length : Int)) = true := decide_eq_true c75
              clear c75
              by_cases c76 : x9_2.length < 8796093022208
              ·rw [if_pos c76] at H
               have LMc76 := Aside0.mk c76
               clear c76
               obtain ⟨y842, hy842⟩ : ∃ y_ : List (S25), y_ = (x9_2 ++ [(⟨(rd_T25 t817 x10_2).f0, (rd_T25 t817 x10_2).f1⟩ : S25)]) := ⟨_, rfl⟩
               replace H : (laws_FnPoolLast.l0 k3 t817 y842 (wrap64 (x10_2 - 1)) t813 t814 t821 t822) = some r := by first | (rw [hy842]; with_reducible exact H) | (have H2_ := (Option.bind_some _ _).symm.trans H; rw [hy842]; with_reducible exact H2_) | (have H2_ := (Option.bind_some _ _).symm.trans H; with_reducible exact H2_) | with_reducible exact H | (rw [hy842]; exact H) | exact H
               have Ny842 := Aside0.mk hy842
               clear hy842
               have H' := Aside0.mk H
               clear H
               obtain ⟨Ao77, co77, eo77⟩ := Kd.R_slice HO_9.out
               subst eo77
               have p841 : 0 ≤ (x10_2 : Int) := of_decide_eq_true (z27_9)
               have q841 : x10_2 < (t817.length : Int) := of_decide_eq_true (z27_9)
               obtain ⟨ad841, e841, hx841_0, hx841_1⟩ := at_T25 (Kd.R_reads' HO_4.out).2.2 x10_2 p841 q841
               cases e841
               replace p841 := eq_true p841
               replace q841 := eq_true q841
               go_wp2_with (first | ((with_reducible refine gate_builtin (b := .append) (xs := #[.tmp 93, .tmp 98]) rfl ?_); at_builtin; refine Kd.R_append k25 (w0 := w) w.heap.size rfl (.tmp 93) (.tmp 98) 28 25 (.agg #[(.int .i64 0), (.int .i64 0)]) 16 rfl Try.underlying28 info25 rfl (by decide) (by omega) (.slice Ao77 x9_2.length co77) x9_2 (⟨(rd_T25 t817 x10_2).f0, (rd_T25 t817 x10_2).f1⟩ : S25) [.int .i64 ((rd_T25 t817 x10_2).f0), .int .i64 ((rd_T25 t817 x10_2).f1)] (fun k_ => some k_ ≠ (.slice (some ad841) t817.length co11 : Value).ownBlock ∧ some k_ ≠ (.slice Ao10 t814.length co10 : Value).ownBlock ∧ some k_ ≠ (.slice Ao16 t822.length co16 : Value).ownBlock ∧ some k_ ≠ (.slice Ao23 t828.length co23 : Value).ownBlock) (fun _ => False) rfl rfl ?aP (fun _ hk => hk.elim) ?aF ?aO ?aB ?aS ?aL ?_; (case aP => exact k25_mkM _ _ _ (⟨(rd_T25 t817 x10_2).f0, (rd_T25 t817 x10_2).f1⟩ : S25)); (case aB => exact (z27_2)); (case aF => exact (fun k_ hk => ⟨Kd.fresh' (Kd.R_lt (by (with_reducible repeat (first | apply Kd.R_alloc | apply Kd.R_drewN | apply Kd.R_drew)); exact HO_4.out)) k_ hk, Kd.fresh' (Kd.R_lt (by (with_reducible repeat (first | apply Kd.R_alloc | apply Kd.R_drewN | apply Kd.R_drew)); exact HO_821001.out)) k_ hk, Kd.fresh' (Kd.R_lt (by (with_reducible repeat (first | apply Kd.R_alloc | apply Kd.R_drewN | apply Kd.R_drew)); exact HO_827001.out)) k_ hk, Kd.fresh' (Kd.R_lt (by (with_reducible repeat (first | apply Kd.R_alloc | apply Kd.R_drewN | apply Kd.R_drew)); exact HO_833001.out)) k_ hk⟩)); (case aO => exact (by (with_reducible repeat (first | apply Kd.R_alloc | apply Kd.R_drewN | apply Kd.R_drew)); exact HO_9.out)); (case aS => exact (below_size (z27_2))); (case aL => have := LMc76.out; omega); intro v843 w78 ho hb hg hat; rw [← Ny842.out] at ho; have n0_ := Aside0.mk (Kd.R_after (ok := (fun k_ => some k_ ≠ (.slice Ao10 t814.length co10 : Value).ownBlock ∧ some k_ ≠ (.slice Ao16 t822.length co16 : Value).ownBlock ∧ some k_ ≠ (.slice Ao23 t828.length co23 : Value).ownBlock)) (by (with_reducible repeat (first | apply Kd.R_alloc | apply Kd.R_drewN | apply Kd.R_drew)); exact Kd.R_mono HO_4.out (fun _ hk => ⟨⟨hk.2.1, ⟨hk.2.2.1, hk.2.2.2⟩⟩, hk.1⟩)) hg hat); have n1_ := Aside0.mk (Kd.R_after (ok := (fun k_ => some k_ ≠ (.slice (some ad841) t817.length co11 : Value).ownBlock ∧ some k_ ≠ (.slice Ao16 t822.length co16 : Value).ownBlock ∧ some k_ ≠ (.slice Ao23 t828.length co23 : Value).ownBlock)) (by (with_reducible repeat (first | apply Kd.R_alloc | apply Kd.R_drewN | apply Kd.R_drew)); exact Kd.R_mono HO_821001.out (fun _ hk => ⟨⟨hk.1, ⟨hk.2.2.1, hk.2.2.2⟩⟩, hk.2.1⟩)) hg hat); have n2_ := Aside0.mk (Kd.R_after (ok := (fun k_ => some k_ ≠ (.slice (some ad841) t817.length co11 : Value).ownBlock ∧ some k_ ≠ (.slice Ao10 t814.length co10 : Value).ownBlock ∧ some k_ ≠ (.slice Ao23 t828.length co23 : Value).ownBlock)) (by (with_reducible repeat (first | apply Kd.R_alloc | apply Kd.R_drewN | apply Kd.R_drew)); exact Kd.R_mono HO_827001.out (fun _ hk => ⟨⟨hk.1, ⟨hk.2.2.1, hk.2.2.2⟩⟩, hk.2.1⟩)) hg hat); have n3_ := Aside0.mk (Kd.R_after (ok := (fun k_ => some k_ ≠ (.slice (some ad841) t817.length co11 : Value).ownBlock ∧ some k_ ≠ (.slice Ao10 t814.length co10 : Value).ownBlock ∧ some k_ ≠ (.slice Ao16 t822.length co16 : Value).ownBlock)) (by (with_reducible repeat (first | apply Kd.R_alloc | apply Kd.R_drewN | apply Kd.R_drew)); exact Kd.R_mono HO_833001.out (fun _ hk => ⟨⟨hk.1, ⟨hk.2.2.1, hk.2.2.2⟩⟩, hk.2.1⟩)) hg hat); have n4_ := Aside0.mk (blk_grown (g := gb820) (o := .cells #[.int .i64 t813, .slice Ao10 t814.length co10] 46 (0, 0)) (z27_6) hg (Kd.R_ne HO_9.out BK820.out (by decide))); have n5_ := Aside0.mk (blk_grown (g := gb826) (o := .cells #[.int .i64 t821, .slice Ao16 t822.length co16] 46 (0, 0)) (z27_7) hg (Kd.R_ne HO_9.out BK826.out (by decide))); have n6_ := Aside0.mk (blk_grown (g := gb832) (o := .cells #[.int .i64 t827, .slice Ao23 t828.length co23] 46 (0, 0)) (z27_8) hg (Kd.R_ne HO_9.out BK832.out (by decide))); have n7_ := Aside0.mk (hb); have n8_ := Aside0.mk (ho); clear HO_4; clear HO_821001; clear HO_827001; clear HO_833001; clear BK820; clear BK826; clear BK832; clear HB; clear HO_9; have HO_4 := n0_; have HO_821001 := n1_; have HO_827001 := n2_; have HO_833001 := n3_; have BK820 := n4_; have BK826 := n5_; have BK832 := n6_; have HB := n7_; have HO844 := n8_; clear n0_ n1_ n2_ n3_ n4_ n5_ n6_ n7_ n8_; clear ho hb hg hat))
               repeat (go_quiet (fail); try go_wp2)
               go_roundg k3
               case measure => have := HJ5.out; have := HK2.out; have := HK3.out; omega
               case rel => exact ⟨(y842), (wrap64 (x10_2 - 1)), (z27_10), H', ⟨by have := HJ5.out; have := HK2.out; have := HK3.out; omega⟩, ⟨by (with_reducible repeat (first | apply Kd.R_alloc | apply Kd.R_drewN | apply Kd.R_drew)); exact Kd.R_mono HO_4.out (fun _ hk => ⟨hk.2, ⟨hk.1.1, ⟨hk.1.2.1, hk.1.2.2⟩⟩⟩)⟩, ⟨by (with_reducible repeat (first | apply Kd.R_alloc | apply Kd.R_drewN | apply Kd.R_drew)); exact HO844.out⟩, ⟨by (with_reducible repeat (first | apply Kd.R_alloc | apply Kd.R_drewN | apply Kd.R_drew)); exact Kd.R_mono HO_821001.out (fun _ hk => ⟨hk.1.1, ⟨hk.2, ⟨hk.1.2.1, hk.1.2.2⟩⟩⟩)⟩, ⟨by (with_reducible repeat (first | apply Kd.R_alloc | apply Kd.R_drewN | apply Kd.R_drew)); exact Kd.R_mono HO_827001.out (fun _ hk => ⟨hk.1.1, ⟨hk.2, ⟨hk.1.2.1, hk.1.2.2⟩⟩⟩)⟩, ⟨by (with_reducible repeat (first | apply Kd.R_alloc | apply Kd.R_drewN | apply Kd.R_drew)); exact Kd.R_mono HO_833001.out (fun _ hk => ⟨hk.1.1, ⟨hk.2, ⟨hk.1.2.1, hk.1.2.2⟩⟩⟩)⟩, ⟨by (with_reducible repeat (first | refine blk_drewN ?_ _ | refine blk_drew ?_ | refine blk_alloc ?_ _)); exact BK820.out⟩, ⟨by (with_reducible repeat (first | refine blk_drewN ?_ _ | refine blk_drew ?_ | refine blk_alloc ?_ _)); exact BK826.out⟩, ⟨by (with_reducible repeat (first | refine blk_drewN ?_ _ | refine blk_drew ?_ | refine blk_alloc ?_ _)); exact BK832.out⟩, ⟨by repeat (first | (with_reducible first | exact HB.out | apply below_alloc | apply pw_below_drewN | apply below_drew1 | refine below_set ?_ GE820.out | refine below_set ?_ GE826.out | refine below_set ?_ GE832.out) | exact HB.out)⟩⟩
              ·rw [if_neg c76] at H
               exact absurd H (by simp)
             ·rw [if_neg c75] at H
              exact absurd H (by simp)
            ·rw [if_neg c74] at H
             exact absurd H (by simp)
       ·rw [if_neg c64] at H
        have c64b0 : decide (0 ≤ x10_2) = false := decide_eq_false c64
        clear c64
        have H' := Aside0.mk H
        clear H
        go_wp2
        repeat (go_quiet (fail); try go_wp2)
        go_loopg [9, 13] k2 (fun kq v9 v13 w' => ∃ (x9_3 : List (S25)) (x13_3 : Int), v13 = .int .i64 x13_3 ∧ Aside0 (laws_FnPoolLast.l2 kq x9_3 x13_3 t813 t814 t821 t822 = some r) ∧ Aside0 (kq ≤ k2) ∧ Aside0 (Kd.R k25 25 w' w.heap.size (fun k_ => some k_ ≠ ((.slice Ao10 t814.length co10) : Value).ownBlock ∧ some k_ ≠ ((.slice Ao16 t822.length co16) : Value).ownBlock ∧ some k_ ≠ ((.slice Ao23 t828.length co23) : Value).ownBlock) v9 x9_3) ∧ Aside0 (Kd.R k25 25 w' w.heap.size (fun k_ => some k_ ≠ (v9 : Value).ownBlock ∧ some k_ ≠ ((.slice Ao16 t822.length co16) : Value).ownBlock ∧ some k_ ≠ ((.slice Ao23 t828.length co23) : Value).ownBlock) (.slice Ao10 t814.length co10) t814) ∧ Aside0 (Kd.R k25 25 w' w.heap.size (fun k_ => some k_ ≠ (v9 : Value).ownBlock ∧ some k_ ≠ ((.slice Ao10 t814.length co10) : Value).ownBlock ∧ some k_ ≠ ((.slice Ao23 t828.length co23) : Value).ownBlock) (.slice Ao16 t822.length co16) t822) ∧ Aside0 (Kd.R k25 25 w' w.heap.size (fun k_ => some k_ ≠ (v9 : Value).ownBlock ∧ some k_ ≠ ((.slice Ao10 t814.length co10) : Value).ownBlock ∧ some k_ ≠ ((.slice Ao16 t822.length co16) : Value).ownBlock) (.slice Ao23 t828.length co23) t828) ∧ Aside0 (w'.heap[gb820]? = some (.cells #[.int .i64 t813, (.slice Ao10 t814.length co10)] 46 (0, 0))) ∧ Aside0 (w'.heap[gb826]? = some (.cells #[.int .i64 t821, (.slice Ao16 t822.length co16)] 46 (0, 0))) ∧ Aside0 (w'.heap[gb832]? = some (.cells #[.int .i64 t827, (.slice Ao23 t828.length co23)] 46 (0, 0))) ∧ Aside0 (Below w.heap.size w w'))
        case atStart => exact ⟨(x9_2), (0), (z27_10), H', ⟨Nat.le_refl _⟩, ⟨by (with_reducible repeat (first | apply Kd.R_alloc | apply Kd.R_drewN | apply Kd.R_drew)); exact Kd.R_mono HO_9.out (fun _ hk => ⟨hk.2.1, ⟨hk.2.2.1, hk.2.2.2⟩⟩)⟩, ⟨by (with_reducible repeat (first | apply Kd.R_alloc | apply Kd.R_drewN | apply Kd.R_drew)); exact Kd.R_mono HO_821001.out (fun _ hk => ⟨hk.2.1, ⟨hk.2.2.1, hk.2.2.2⟩⟩)⟩, ⟨by (with_reducible repeat (first | apply Kd.R_alloc | apply Kd.R_drewN | apply Kd.R_drew)); exact Kd.R_mono HO_827001.out (fun _ hk => ⟨hk.2.1, ⟨hk.2.2.1, hk.2.2.2⟩⟩)⟩, ⟨by (with_reducible repeat (first | apply Kd.R_alloc | apply Kd.R_drewN | apply Kd.R_drew)); exact Kd.R_mono HO_833001.out (fun _ hk => ⟨hk.2.1, ⟨hk.2.2.1, hk.2.2.2⟩⟩)⟩, ⟨by (with_reducible repeat (first | refine blk_drewN ?_ _ | refine blk_drew ?_ | refine blk_alloc ?_ _)); exact BK820.out⟩, ⟨by (with_reducible repeat (first | refine blk_drewN ?_ _ | refine blk_drew ?_ | refine blk_alloc ?_ _)); exact BK826.out⟩, ⟨by (with_reducible repeat (first | refine blk_drewN ?_ _ | refine blk_drew ?_ | refine blk_alloc ?_ _)); exact BK832.out⟩, ⟨by repeat (first | (with_reducible first | exact HB.out | apply below_alloc | apply pw_below_drewN | apply below_drew1 | refine below_set ?_ GE820.out | refine below_set ?_ GE826.out | refine below_set ?_ GE832.out) | exact HB.out)⟩⟩
        case round =>
         clear H'
         try clear c1
         try clear c2
         try clear c2b0
         try clear c2b1
         try clear p2
         try clear c3
         try clear c4
         try clear c5
         try clear c6
         try clear p6
         try clear c7
         try clear p8
         try clear q8
         try clear hx8
         try clear c14
         try clear c17
         try clear c20
         try clear c21
         try clear c24
         try clear c24b0
         try clear c24b1
         try clear c26
         try clear c28
         try clear c29
         try clear c30
         try clear c32
         try clear c39
         try clear c40
         try clear c42
         try clear c47
         try clear c48
         try clear c50
         try clear c53
         try clear c54
         try clear c54b0
         try clear c54b1
         try clear c56
         try clear c57
         try clear c59
         try clear c64
         try clear c64b0
         try clear p64
         try clear c65
         try clear c65b0
         try clear c66
         try clear c68
         try clear c68b0
         try clear c69
         try clear c69b0
         try clear c70
         try clear c70b0
         try clear c72
         try clear c74
         try clear c74b0
         try clear c75
         try clear c75b0
         try clear c76
         try clear hcz15_0
         try clear hcz15_1
         try clear hcz17_0
         try clear hcz17_1
         try clear hcz22_0
         try clear hcz22_1
         try clear hcz31_0
         try clear hcz31_1
         try clear hcz33_0
         try clear hcz33_1
         try clear hcz35_0
         try clear hcz35_1
         try clear hcz37_0
         try clear hcz37_1
         try clear hcz38_0
         try clear hcz38_1
         try clear hcz41_0
         try clear hcz41_1
         try clear hcz43_0
         try clear hcz43_1
         try clear hcz45_0
         try clear hcz45_1
         try clear hcz49_0
         try clear hcz49_1
         try clear hcz51_0
         try clear hcz51_1
         try clear hcz58_0
         try clear hcz58_1
         try clear hcz60_0
         try clear hcz60_1
         try clear hcz9_0
         try clear hcz9_1
         try clear hfz15_0
         try clear hfz15_1
         try clear hfz17_0
         try clear hfz17_1
         try clear hfz22_0
         try clear hfz22_1
         try clear hfz31_0
         try clear hfz31_1
         try clear hfz33_0
         try clear hfz33_1
         try clear hfz35_0
         try clear hfz35_1
         try clear hfz37_0
         try clear hfz37_1
         try clear hfz38_0
         try clear hfz38_1
         try clear hfz41_0
         try clear hfz41_1
         try clear hfz43_0
         try clear hfz43_1
         try clear hfz45_0
         try clear hfz45_1
         try clear hfz49_0
         try clear hfz49_1
         try clear hfz51_0
         try clear hfz51_1
         try clear hfz58_0
         try clear hfz58_1
         try clear hfz60_0
         try clear hfz60_1
         try clear hfz9_0
         try clear hfz9_1
         try clear hx839_0
         try clear hx839_1
         try clear hx840_0
         try clear hx840_1
         try clear hx841_0
         try clear hx841_1
         try clear p2
         try clear p6
         try clear p64
         try clear p839
         try clear p840
         try clear p841
         try clear q839
         try clear q840
         try clear q841
         obtain ⟨x9_3, x13_3, rfl, HA, HK3, HO_9, HO_821001, HO_827001, HO_833001, BK820, BK826, BK832, HB⟩ := hrel
         cases gk with
         | zero => exact absurd HA.out (by simp [laws_FnPoolLast.l2])
         | succ k3 =>
          have H := HA.out
          clear HA
          simp only [laws_FnPoolLast.l2] at H
          by_cases c79 : x13_3 < (t814.length : Int)
          ·rw [if_pos c79] at H
           have c79b0 : decide (x13_3 < (t814.length : Int)) = true := decide_eq_true c79
           clear c79
           have H' := Aside0.mk H
           clear H
           have hnb80 := NB820_826.out
           have hnc80 := NB826_820.out
           have hnb81 := NB820_832.out
           have hnc81 := NB832_820.out
           have hcz82_0 : wr.cell? ⟨gb820, 0, none⟩ = some (.int .i64 t813) := (blk_cell BK820.out 0).trans rfl
           have hcz82_1 : wr.cell? ⟨gb820, 1, none⟩ = some (.slice Ao10 t814.length co10) := (blk_cell BK820.out 1).trans rfl
           have hfz82_0 := blk_frozen BK820.out 0
           have hfz82_1 := blk_frozen BK820.out 1
           go_wp2
           repeat (go_quiet (fail); try go_wp2)
           go_loopg [14, 15] k3 (fun kq v14 v15 w' => ∃ (x14_4 : Bool) (x15_4 : Int), v14 = .bool x14_4 ∧ v15 = .int .i64 x15_4 ∧ Aside0 (laws_FnPoolLast.l3 kq x9_3 x13_3 x14_4 x15_4 t813 t814 t821 t822 = some r) ∧ Aside0 (kq ≤ k3) ∧ Aside0 (Kd.R k25 25 w' w.heap.size (fun k_ => some k_ ≠ ((.slice Ao10 t814.length co10) : Value).ownBlock ∧ some k_ ≠ ((.slice Ao16 t822.length co16) : Value).ownBlock ∧ some k_ ≠ ((.slice Ao23 t828.length co23) : Value).ownBlock) u9 x9_3) ∧ Aside0 (Kd.R k25 25 w' w.heap.size (fun k_ => some k_ ≠ (u9 : Value).ownBlock ∧ some k_ ≠ ((.slice Ao16 t822.length co16) : Value).ownBlock ∧ some k_ ≠ ((.slice Ao23 t828.length co23) : Value).ownBlock) (.slice Ao10 t814.length co10) t814) ∧ Aside0 (Kd.R k25 25 w' w.heap.size (fun k_ => some k_ ≠ (u9 : Value).ownBlock ∧ some k_ ≠ ((.slice Ao10 t814.length co10) : Value).ownBlock ∧ some k_ ≠ ((.slice Ao23 t828.length co23) : Value).ownBlock) (.slice Ao16 t822.length co16) t822) ∧ Aside0 (Kd.R k25 25 w' w.heap.size (fun k_ => some k_ ≠ (u9 : Value).ownBlock ∧ some k_ ≠ ((.slice Ao10 t814.length co10) : Value).ownBlock ∧ some k_ ≠ ((.slice Ao16 t822.length co16) : Value).ownBlock) (.slice Ao23 t828.length co23) t828) ∧ Aside0 (w'.heap[gb820]? = some (.cells #[.int .i64 t813, (.slice Ao10 t814.length co10)] 46 (0, 0))) ∧ Aside0 (w'.heap[gb826]? = some (.cells #[.int .i64 t821, (.slice Ao16 t822.length co16)] 46 (0, 0))) ∧ Aside0 (w'.heap[gb832]? = some (.cells #[.int .i64 t827, (.slice Ao23 t828.length co23)] 46 (0, 0))) ∧ Aside0 (Below w.heap.size w w'))
           case atStart => exact ⟨(false), (0), (z27_10), (z27_10), H', ⟨Nat.le_refl _⟩, ⟨by (with_reducible repeat (first | apply Kd.R_alloc | apply Kd.R_drewN | apply Kd.R_drew)); exact HO_9.out⟩, ⟨by (with_reducible repeat (first | apply Kd.R_alloc | apply Kd.R_drewN | apply Kd.R_drew)); exact HO_821001.out⟩, ⟨by (with_reducible repeat (first | apply Kd.R_alloc | apply Kd.R_drewN | apply Kd.R_drew)); exact HO_827001.out⟩, ⟨by (with_reducible repeat (first | apply Kd.R_alloc | apply Kd.R_drewN | apply Kd.R_drew)); exact HO_833001.out⟩, ⟨by (with_reducible repeat (first | refine blk_drewN ?_ _ | refine blk_drew ?_ | refine blk_alloc ?_ _)); exact BK820.out⟩, ⟨by (with_reducible repeat (first | refine blk_drewN ?_ _ | refine blk_drew ?_ | refine blk_alloc ?_ _)); exact BK826.out⟩, ⟨by (with_reducible repeat (first | refine blk_drewN ?_ _ | refine blk_drew ?_ | refine blk_alloc ?_ _)); exact BK832.out⟩, ⟨by repeat (first | (with_reducible first | exact HB.out | apply below_alloc | apply pw_below_drewN | apply below_drew1 | refine below_set ?_ GE820.out | refine below_set ?_ GE826.out | refine below_set ?_ GE832.out) | exact HB.out)⟩⟩
           case round =>
            clear H'
            try clear c1
            try clear c2
            try clear c2b0
            try clear c2b1
            try clear p2
            try clear c3
            try clear c4
            try clear c5
            try clear c6
            try clear p6
            try clear c7
            try clear c8
            try clear p8
            try clear q8
            try clear hx8
            try clear c14
            try clear c17
            try clear c20
            try clear c21
            try clear c24
            try clear c24b0
            try clear c24b1
            try clear c26
            try clear c28
            try clear c29
            try clear c30
            try clear c32
            try clear c39
            try clear c40
            try clear c42
            try clear c47
            try clear c48
            try clear c50
            try clear c53
            try clear c54
            try clear c54b0
            try clear c54b1
            try clear c56
            try clear c57
            try clear c59
            try clear c64
            try clear c64b0
            try clear p64
            try clear c65
            try clear c65b0
            try clear c66
            try clear c68
            try clear c68b0
            try clear c69
            try clear c69b0
            try clear c70
            try clear c70b0
            try clear c72
            try clear c74
            try clear c74b0
            try clear c75
            try clear c75b0
            try clear c76
            try clear c79
            try clear c79b0
            try clear c80
            try clear c81
            try clear hcz15_0
            try clear hcz15_1
            try clear hcz17_0
            try clear hcz17_1
            try clear hcz22_0
            try clear hcz22_1
            try clear hcz31_0
            try clear hcz31_1
            try clear hcz33_0
            try clear hcz33_1
            try clear hcz35_0
            try clear hcz35_1
            try clear hcz37_0
            try clear hcz37_1
            try clear hcz38_0
            try clear hcz38_1
            try clear hcz41_0
            try clear hcz41_1
            try clear hcz43_0
            try clear hcz43_1
            try clear hcz45_0
            try clear hcz45_1
            try clear hcz49_0
            try clear hcz49_1
            try clear hcz51_0
            try clear hcz51_1
            try clear hcz58_0
            try clear hcz58_1
            try clear hcz60_0
            try clear hcz60_1
            try clear hcz82_0
            try clear hcz82_1
            try clear hcz9_0
            try clear hcz9_1
            try clear hfz15_0
            try clear hfz15_1
            try clear hfz17_0
            try clear hfz17_1
            try clear hfz22_0
            try clear hfz22_1
            try clear hfz31_0
            try clear hfz31_1
            try clear hfz33_0
            try clear hfz33_1
            try clear hfz35_0
            try clear hfz35_1
            try clear hfz37_0
            try clear hfz37_1
            try clear hfz38_0
            try clear hfz38_1
            try clear hfz41_0
            try clear hfz41_1
            try clear hfz43_0
            try clear hfz43_1
            try clear hfz45_0
            try clear hfz45_1
            try clear hfz49_0
            try clear hfz49_1
            try clear hfz51_0
            try clear hfz51_1
            try clear hfz58_0
            try clear hfz58_1
            try clear hfz60_0
            try clear hfz60_1
            try clear hfz82_0
            try clear hfz82_1
            try clear hfz9_0
            try clear hfz9_1
            try clear hx839_0
            try clear hx839_1
            try clear hx840_0
            try clear hx840_1
            try clear hx841_0
            try clear hx841_1
            try clear p2
            try clear p6
            try clear p64
            try clear p8
            try clear p839
            try clear p840
            try clear p841
            try clear q8
            try clear q839
            try clear q840
            try clear q841
            obtain ⟨x14_4, x15_4, rfl, rfl, HA, HK4, HO_9, HO_821001, HO_827001, HO_833001, BK820, BK826, BK832, HB⟩ := hrel
            cases gk with
            | zero => exact absurd HA.out (by simp [laws_FnPoolLast.l3])
            | succ k4 =>
             have H := HA.out
             clear HA
             simp only [laws_FnPoolLast.l3] at H
             by_cases c83 : x15_4 < (x9_3.length : Int)
             ·rw [if_pos c83] at H
              have c83b0 : decide (x15_4 < (x9_3.length : Int)) = true := decide_eq_true c83
              clear c83
              by_cases c84 : x14_4 = true
              ·subst c84
               have H1 : (laws_FnPoolLast.l3 k4 x9_3 x13_3 true (wrap64 (x15_4 + 1)) t813 t814 t821 t822) = some r := by rw [if_pos rfl] at H; exact H
               clear H
               have H := H1
               clear H1
               have H' := Aside0.mk H
               clear H
               obtain ⟨Ao85, co85, eo85⟩ := Kd.R_slice HO_9.out
               subst eo85
               go_wp2
               repeat (go_quiet (fail); try go_wp2)
               go_roundg k4
               case measure => have := HJ5.out; have := HK2.out; have := HK3.out; have := HK4.out; omega
               case rel => exact ⟨(true), (wrap64 (x15_4 + 1)), (z27_10), (z27_10), H', ⟨by have := HJ5.out; have := HK2.out; have := HK3.out; have := HK4.out; omega⟩, ⟨by (with_reducible repeat (first | apply Kd.R_alloc | apply Kd.R_drewN | apply Kd.R_drew)); exact HO_9.out⟩, ⟨by (with_reducible repeat (first | apply Kd.R_alloc | apply Kd.R_drewN | apply Kd.R_drew)); exact HO_821001.out⟩, ⟨by (with_reducible repeat (first | apply Kd.R_alloc | apply Kd.R_drewN | apply Kd.R_drew)); exact HO_827001.out⟩, ⟨by (with_reducible repeat (first | apply Kd.R_alloc | apply Kd.R_drewN | apply Kd.R_drew)); exact HO_833001.out⟩, ⟨by (with_reducible repeat (first | refine blk_drewN ?_ _ | refine blk_drew ?_ | refine blk_alloc ?_ _)); exact BK820.out⟩, ⟨by (with_reducible repeat (first | refine blk_drewN ?_ _ | refine blk_drew ?_ | refine blk_alloc ?_ _)); exact BK826.out⟩, ⟨by (with_reducible repeat (first | refine blk_drewN ?_ _ | refine blk_drew ?_ | refine blk_alloc ?_ _)); exact BK832.out⟩, ⟨by repeat (first | (with_reducible first | exact HB.out | apply below_alloc | apply pw_below_drewN | apply below_drew1 | refine below_set ?_ GE820.out | refine below_set ?_ GE826.out | refine below_set ?_ GE832.out) | exact HB.out)⟩⟩
              ·replace c84 := Bool.eq_false_iff.mpr c84
               subst c84
               have H1 : (if 0 ≤ x15_4 then (if 0 ≤ x13_3 then (if x13_3 < (t814.length : Int) then (laws_FnPoolLast.l3 k4 x9_3 x13_3 (((rd_T25 x9_3 x15_4).f0) == ((rd_T25 t814 x13_3).f0) && (((rd_T25 x9_3 x15_4).f1) == ((rd_T25 t814 x13_3).f1))) (wrap64 (x15_4 + 1)) t813 t814 t821 t822) else (none)) else (none)) else (none)) = some r := by rw [if_neg (show ¬ (false = true) by decide)] at H; exact H
               clear H
               have H := H1
               clear H1
               by_cases c86 : 0 ≤ x15_4
               ·rw [if_pos c86] at H
                have c86b0 : decide (0 ≤ x15_4) = true := decide_eq_true c86
                clear c86
                by_cases c87 : 0 ≤ x13_3
                ·rw [if_pos c87] at H
                 have c87b0 : decide (0 ≤ x13_3) = true := decide_eq_true c87
                 clear c87
                 by_cases c88 : x13_3 < (t814.length : Int)
                 ·rw [if_pos c88] at H
                  have c88b0 : decide (x13_3 < (t814.length : Int)) = true := decide_eq_true c88
                  clear c88
                  have H' := Aside0.mk H
                  clear H
                  obtain ⟨Ao89, co89, eo89⟩ := Kd.R_slice HO_9.out
                  subst eo89
                  have p850 : 0 ≤ (x15_4 : Int) := of_decide_eq_true (z27_9)
                  have q850 : x15_4 < (x9_3.length : Int) := of_decide_eq_true (z27_9)
                  obtain ⟨ad850, e850, hx850_0, hx850_1⟩ := at_T25 (Kd.R_reads' HO_9.out).2.2 x15_4 p850 q850
                  cases e850
                  replace p850 := eq_true p850
                  replace q850 := eq_true q850
                  have hnb90 := NB820_826.out
                  have hnc90 := NB826_820.out
                  have hnb91 := NB820_832.out
                  have hnc91 := NB832_820.out
                  have hcz92_0 : wr.cell? ⟨gb820, 0, none⟩ = some (.int .i64 t813) := (blk_cell BK820.out 0).trans rfl
                  have hcz92_1 : wr.cell? ⟨gb820, 1, none⟩ = some (.slice Ao10 t814.length co10) := (blk_cell BK820.out 1).trans rfl
                  have hfz92_0 := blk_frozen BK820.out 0
                  have hfz92_1 := blk_frozen BK820.out 1
                  have p851 : 0 ≤ (x13_3 : Int) := of_decide_eq_true (z27_9)
                  have q851 : x13_3 < (t814.length : Int) := of_decide_eq_true (z27_9)
                  obtain ⟨ad851, e851, hx851_0, hx851_1⟩ := at_T25 (Kd.R_reads' HO_821001.out).2.2 x13_3 p851 q851
                  cases e851
                  replace p851 := eq_true p851
                  replace q851 := eq_true q851
                  go_wp2
                  repeat (go_quiet (fail); try go_wp2)
                  go_roundg k4
                  case measure => have := HJ5.out; have := HK2.out; have := HK3.out; have := HK4.out; omega
                  case rel => exact ⟨((((rd_T25 x9_3 x15_4).f0) == ((rd_T25 t814 x13_3).f0) && (((rd_T25 x9_3 x15_4).f1) == ((rd_T25 t814 x13_3).f1)))), (wrap64 (x15_4 + 1)), (z27_10), (z27_10), H', ⟨by have := HJ5.out; have := HK2.out; have := HK3.out; have := HK4.out; omega⟩, ⟨by (with_reducible repeat (first | apply Kd.R_alloc | apply Kd.R_drewN | apply Kd.R_drew)); exact HO_9.out⟩, ⟨by (with_reducible repeat (first | apply Kd.R_alloc | apply Kd.R_drewN | apply Kd.R_drew)); exact HO_821001.out⟩, ⟨by (with_reducible repeat (first | apply Kd.R_alloc | apply Kd.R_drewN | apply Kd.R_drew)); exact HO_827001.out⟩, ⟨by (with_reducible repeat (first | apply Kd.R_alloc | apply Kd.R_drewN | apply Kd.R_drew)); exact HO_833001.out⟩, ⟨by (with_reducible repeat (first | refine blk_drewN ?_ _ | refine blk_drew ?_ | refine blk_alloc ?_ _)); exact BK820.out⟩, ⟨by (with_reducible repeat (first | refine blk_drewN ?_ _ | refine blk_drew ?_ | refine blk_alloc ?_ _)); exact BK826.out⟩, ⟨by (with_reducible repeat (first | refine blk_drewN ?_ _ | refine blk_drew ?_ | refine blk_alloc ?_ _)); exact BK832.out⟩, ⟨by repeat (first | (with_reducible first | exact HB.out | apply below_alloc | apply pw_below_drewN | apply below_drew1 | refine below_set ?_ GE820.out | refine below_set ?_ GE826.out | refine below_set ?_ GE832.out) | exact HB.out)⟩⟩
                 ·rw [if_neg c88] at H
                  exact absurd H (by simp)
                ·rw [if_neg c87] at H
                 exact absurd H (by simp)
               ·rw [if_neg c86] at H
                exact absurd H (by simp)
             ·rw [if_neg c83] at H
              have c83b0 : decide (x15_4 < (x9_3.length : Int)) = false := decide_eq_false c83
              clear c83
              by_cases c93 : x14_4 = true
              ·subst c93
               have H1 : (laws_FnPoolLast.l2 k4 x9_3 (wrap64 (x13_3 + 1)) t813 t814 t821 t822) = some r := by rw [if_pos rfl] at H; exact H
               clear H
               have H := H1
               clear H1
               have H' := Aside0.mk H
               clear H
               obtain ⟨Ao94, co94, eo94⟩ := Kd.R_slice HO_9.out
               subst eo94
               go_wp2
               repeat (go_quiet (fail); try go_wp2)
               go_roundg k4
               case measure => have := HJ5.out; have := HK2.out; have := HK3.out; have := HK4.out; omega
               case rel => exact ⟨(x9_3), (wrap64 (x13_3 + 1)), (z27_10), H', ⟨by have := HJ5.out; have := HK2.out; have := HK3.out; have := HK4.out; omega⟩, ⟨by (with_reducible repeat (first | apply Kd.R_alloc | apply Kd.R_drewN | apply Kd.R_drew)); exact HO_9.out⟩, ⟨by (with_reducible repeat (first | apply Kd.R_alloc | apply Kd.R_drewN | apply Kd.R_drew)); exact HO_821001.out⟩, ⟨by (with_reducible repeat (first | apply Kd.R_alloc | apply Kd.R_drewN | apply Kd.R_drew)); exact HO_827001.out⟩, ⟨by (with_reducible repeat (first | apply Kd.R_alloc | apply Kd.R_drewN | apply Kd.R_drew)); exact HO_833001.out⟩, ⟨by (with_reducible repeat (first | refine blk_drewN ?_ _ | refine blk_drew ?_ | refine blk_alloc ?_ _)); exact BK820.out⟩, ⟨by (with_reducible repeat (first | refine blk_drewN ?_ _ | refine blk_drew ?_ | refine blk_alloc ?_ _)); exact BK826.out⟩, ⟨by (with_reducible repeat (first | refine blk_drewN ?_ _ | refine blk_drew ?_ | refine blk_alloc ?_ _)); exact BK832.out⟩, ⟨by repeat (first | (with_reducible first | exact HB.out | apply below_alloc | apply pw_below_drewN | apply below_drew1 | refine below_set ?_ GE820.out | refine below_set ?_ GE826.out | refine below_set ?_ GE832.out) | exact HB.out)⟩⟩
              ·replace c93 := Bool.eq_false_iff.mpr c93
               subst c93
               have H1 : (if 0 ≤ x13_3 then (if x13_3 < (t814.length : Int) then (if x9_3.length < 8796093022208 then (laws_FnPoolLast.l2 k4 (x9_3 ++ [(⟨(rd_T25 t814 x13_3).f0, (rd_T25 t814 x13_3).f1⟩ : S25)]) (wrap64 (x13_3 + 1)) t813 t814 t821 t822) else (none)) else (none)) else (none)) = some r := by rw [if_neg (show ¬ (false = true) by decide)] at H; exact H
               clear H
               have H := H1
               clear H1
               by_cases c95 : 0 ≤ x13_3
               ·rw [if_pos c95] at H
                have c95b0 : decide (0 ≤ x13_3) = true := decide_eq_true c95
                clear c95
                by_cases c96 : x13_3 < (t814.length : Int)
                ·rw [if_pos c96] at H
                 have c96b0 : decide (x13_3 < (t814.length : Int)) = true := decide_eq_true c96
                 clear c96
                 by_cases c97 : x9_3.length < 8796093022208
                 ·rw [if_pos c97] at H
                  have LMc97 := Aside0.mk c97
                  clear c97
                  obtain ⟨y853, hy853⟩ : ∃ y_ : List (S25), y_ = (x9_3 ++ [(⟨(rd_T25 t814 x13_3).f0, (rd_T25 t814 x13_3).f1⟩ : S25)]) := ⟨_, rfl⟩
                  replace H : (laws_FnPoolLast.l2 k4 y853 (wrap64 (x13_3 + 1)) t813 t814 t821 t822) = some r := by first | (rw [hy853]; with_reducible exact H) | (have H2_ := (Option.bind_some _ _).symm.trans H; rw [hy853]; with_reducible exact H2_) | (have H2_ := (Option.bind_some _ _).symm.trans H; with_reducible exact H2_) | with_reducible exact H | (rw [hy853]; exact H) | exact H
                  have Ny853 := Aside0.mk hy853
                  clear hy853
                  have H' := Aside0.mk H
                  clear H
                  obtain ⟨Ao98, co98, eo98⟩ := Kd.R_slice HO_9.out
                  subst eo98
                  have hnb99 := NB820_826.out
                  have hnc99 := NB826_820.out
                  have hnb100 := NB820_832.out
                  have hnc100 := NB832_820.out
                  have hcz101_0 : wr.cell? ⟨gb820, 0, none⟩ = some (.int .i64 t813) := (blk_cell BK820.out 0).trans rfl
                  have hcz101_1 : wr.cell? ⟨gb820, 1, none⟩ = some (.slice Ao10 t814.length co10) := (blk_cell BK820.out 1).trans rfl
                  have hfz101_0 := blk_frozen BK820.out 0
                  have hfz101_1 := blk_frozen BK820.out 1
                  have p852 : 0 ≤ (x13_3 : Int) := of_decide_eq_true (z27_9)
                  have q852 : x13_3 < (t814.length : Int) := of_decide_eq_true (z27_9)
                  obtain ⟨ad852, e852, hx852_0, hx852_1⟩ := at_T25 (Kd.R_reads' HO_821001.out).2.2 x13_3 p852 q852
                  cases e852
                  replace p852 := eq_true p852
                  replace q852 := eq_true q852
                  go_wp2_with (first | ((with_reducible refine gate_builtin (b := .append) (xs := #[.tmp 128, .tmp 134]) rfl ?_); at_builtin; refine Kd.R_append k25 (w0 := w) w.heap.size rfl (.tmp 128) (.tmp 134) 28 25 (.agg #[(.int .i64 0), (.int .i64 0)]) 16 rfl Try.underlying28 info25 rfl (by decide) (by omega) (.slice Ao98 x9_3.length co98) x9_3 (⟨(rd_T25 t814 x13_3).f0, (rd_T25 t814 x13_3).f1⟩ : S25) [.int .i64 ((rd_T25 t814 x13_3).f0), .int .i64 ((rd_T25 t814 x13_3).f1)] (fun k_ => some k_ ≠ (.slice (some ad852) t814.length co10 : Value).ownBlock ∧ some k_ ≠ (.slice Ao16 t822.length co16 : Value).ownBlock ∧ some k_ ≠ (.slice Ao23 t828.length co23 : Value).ownBlock) (fun _ => False) rfl rfl ?aP (fun _ hk => hk.elim) ?aF ?aO ?aB ?aS ?aL ?_; (case aP => exact k25_mkM _ _ _ (⟨(rd_T25 t814 x13_3).f0, (rd_T25 t814 x13_3).f1⟩ : S25)); (case aB => exact (z27_2)); (case aF => exact (fun k_ hk => ⟨Kd.fresh' (Kd.R_lt (by (with_reducible repeat (first | apply Kd.R_alloc | apply Kd.R_drewN | apply Kd.R_drew)); exact HO_821001.out)) k_ hk, Kd.fresh' (Kd.R_lt (by (with_reducible repeat (first | apply Kd.R_alloc | apply Kd.R_drewN | apply Kd.R_drew)); exact HO_827001.out)) k_ hk, Kd.fresh' (Kd.R_lt (by (with_reducible repeat (first | apply Kd.R_alloc | apply Kd.R_drewN | apply Kd.R_drew)); exact HO_833001.out)) k_ hk⟩)); (case aO => exact (by (with_reducible repeat (first | apply Kd.R_alloc | apply Kd.R_drewN | apply Kd.R_drew)); exact HO_9.out)); (case aS => exact (below_size (z27_2))); (case aL => have := LMc97.out; omega); intro v854 w102 ho hb hg hat; rw [← Ny853.out] at ho; have n0_ := Aside0.mk (Kd.R_after (ok := (fun k_ => some k_ ≠ (.slice Ao16 t822.length co16 : Value).ownBlock ∧ some k_ ≠ (.slice Ao23 t828.length co23 : Value).ownBlock)) (by (with_reducible repeat (first | apply Kd.R_alloc | apply Kd.R_drewN | apply Kd.R_drew)); exact Kd.R_mono HO_821001.out (fun _ hk => ⟨⟨hk.2.1, hk.2.2⟩, hk.1⟩)) hg hat); have n1_ := Aside0.mk (Kd.R_after (ok := (fun k_ => some k_ ≠ (.slice (some ad852) t814.length co10 : Value).ownBlock ∧ some k_ ≠ (.slice Ao23 t828.length co23 : Value).ownBlock)) (by (with_reducible repeat (first | apply Kd.R_alloc | apply Kd.R_drewN | apply Kd.R_drew)); exact Kd.R_mono HO_827001.out (fun _ hk => ⟨⟨hk.2.1, hk.2.2⟩, hk.1⟩)) hg hat); have n2_ := Aside0.mk (Kd.R_after (ok := (fun k_ => some k_ ≠ (.slice (some ad852) t814.length co10 : Value).ownBlock ∧ some k_ ≠ (.slice Ao16 t822.length co16 : Value).ownBlock)) (by (with_reducible repeat (first | apply Kd.R_alloc | apply Kd.R_drewN | apply Kd.R_drew)); exact Kd.R_mono HO_833001.out (fun _ hk => ⟨⟨hk.2.1, hk.2.2⟩, hk.1⟩)) hg hat); have n3_ := Aside0.mk (blk_grown (g := gb820) (o := .cells #[.int .i64 t813, .slice (some ad852) t814.length co10] 46 (0, 0)) (z27_6) hg (Kd.R_ne HO_9.out BK820.out (by decide))); have n4_ := Aside0.mk (blk_grown (g := gb826) (o := .cells #[.int .i64 t821, .slice Ao16 t822.length co16] 46 (0, 0)) (z27_7) hg (Kd.R_ne HO_9.out BK826.out (by decide))); have n5_ := Aside0.mk (blk_grown (g := gb832) (o := .cells #[.int .i64 t827, .slice Ao23 t828.length co23] 46 (0, 0)) (z27_8) hg (Kd.R_ne HO_9.out BK832.out (by decide))); have n6_ := Aside0.mk (hb); have n7_ := Aside0.mk (ho); clear HO_821001; clear HO_827001; clear HO_833001; clear BK820; clear BK826; clear BK832; clear HB; clear HO_9; have HO_821001 := n0_; have HO_827001 := n1_; have HO_833001 := n2_; have BK820 := n3_; have BK826 := n4_; have BK832 := n5_; have HB := n6_; have HO855 := n7_; clear n0_ n1_ n2_ n3_ n4_ n5_ n6_ n7_; clear ho hb hg hat))
                  repeat (go_quiet (fail); try go_wp2)
                  go_roundg k4
                  case measure => have := HJ5.out; have := HK2.out; have := HK3.out; have := HK4.out; omega
                  case rel => exact ⟨(y853), (wrap64 (x13_3 + 1)), (z27_10), H', ⟨by have := HJ5.out; have := HK2.out; have := HK3.out; have := HK4.out; omega⟩, ⟨by (with_reducible repeat (first | apply Kd.R_alloc | apply Kd.R_drewN | apply Kd.R_drew)); exact HO855.out⟩, ⟨by (with_reducible repeat (first | apply Kd.R_alloc | apply Kd.R_drewN | apply Kd.R_drew)); exact Kd.R_mono HO_821001.out (fun _ hk => ⟨hk.2, ⟨hk.1.1, hk.1.2⟩⟩)⟩, ⟨by (with_reducible repeat (first | apply Kd.R_alloc | apply Kd.R_drewN | apply Kd.R_drew)); exact Kd.R_mono HO_827001.out (fun _ hk => ⟨hk.2, ⟨hk.1.1, hk.1.2⟩⟩)⟩, ⟨by (with_reducible repeat (first | apply Kd.R_alloc | apply Kd.R_drewN | apply Kd.R_drew)); exact Kd.R_mono HO_833001.out (fun _ hk => ⟨hk.2, ⟨hk.1.1, hk.1.2⟩⟩)⟩, ⟨by (with_reducible repeat (first | refine blk_drewN ?_ _ | refine blk_drew ?_ | refine blk_alloc ?_ _)); exact BK820.out⟩, ⟨by (with_reducible repeat (first | refine blk_drewN ?_ _ | refine blk_drew ?_ | refine blk_alloc ?_ _)); exact BK826.out⟩, ⟨by (with_reducible repeat (first | refine blk_drewN ?_ _ | refine blk_drew ?_ | refine blk_alloc ?_ _)); exact BK832.out⟩, ⟨by repeat (first | (with_reducible first | exact HB.out | apply below_alloc | apply pw_below_drewN | apply below_drew1 | refine below_set ?_ GE820.out | refine below_set ?_ GE826.out | refine below_set ?_ GE832.out) | exact HB.out)⟩⟩
                 ·rw [if_neg c97] at H
                  exact absurd H (by simp)
                ·rw [if_neg c96] at H
                 exact absurd H (by simp)
               ·rw [if_neg c95] at H
                exact absurd H (by simp)
          ·rw [if_neg c79] at H
           have c79b0 : decide (x13_3 < (t814.length : Int)) = false := decide_eq_false c79
           clear c79
           by_cases c103 : (x9_3.length : Int) > t813
           ·rw [if_pos c103] at H
            have c103b0 : decide (t813 < (x9_3.length : Int)) = true := decide_eq_true c103
            clear c103
            by_cases c104 : 0 ≤ t813
            ·rw [if_pos c104] at H
             have c104b0 := eq_true c104
             have c104b1 : decide (0 ≤ t813) = true := decide_eq_true c104
             clear c104
             by_cases c105 : t813 ≤ (x9_3.length : Int)
             ·rw [if_pos c105] at H
              have c105b0 := eq_true c105
              have c105b1 : decide (t813 ≤ (x9_3.length : Int)) = true := decide_eq_true c105
              clear c105
              obtain ⟨y845, hy845⟩ : ∃ y_ : List (S25), y_ = (x9_3.take (t813 : Int).toNat) := ⟨_, rfl⟩
              replace H : ((laws_wpPages.f k3 t822 y845).bind fun t848 => (some t848)) = some r := by first | (rw [hy845]; with_reducible exact H) | (have H2_ := (Option.bind_some _ _).symm.trans H; rw [hy845]; with_reducible exact H2_) | (have H2_ := (Option.bind_some _ _).symm.trans H; with_reducible exact H2_) | with_reducible exact H | (rw [hy845]; exact H) | exact H
              have Ny845 := Aside0.mk hy845
              clear hy845
              replace H := Option.bind_eq_some_iff.mp H
              obtain ⟨t848, A1060, H⟩ := H
              replace H : (some t848) = some r := H
              have A106 := Aside0.mk A1060
              clear A1060
              obtain rfl := Option.some.inj H
              have hnb107 := NB820_826.out
              have hnc107 := NB826_820.out
              have hnb108 := NB820_832.out
              have hnc108 := NB832_820.out
              have hcz109_0 : wr.cell? ⟨gb820, 0, none⟩ = some (.int .i64 t813) := (blk_cell BK820.out 0).trans rfl
              have hcz109_1 : wr.cell? ⟨gb820, 1, none⟩ = some (.slice Ao10 t814.length co10) := (blk_cell BK820.out 1).trans rfl
              have hfz109_0 := blk_frozen BK820.out 0
              have hfz109_1 := blk_frozen BK820.out 1
              obtain ⟨Ao110, co110, eo110⟩ := Kd.R_slice HO_9.out
              subst eo110
              have q111 : (t813 : Int) ≤ ((x9_3.length : Int) : Int) := of_decide_eq_true (z27_9)
              obtain ⟨i0111, hi0111, _, hsz111, _⟩ := info_parts info25
              have hcut111 := cut_to (P := Try.prog) 28 25 .i64 Try.underlying28 hi0111 Ao110 x9_3.length co110 t813 (of_decide_eq_true (z27_9)) q111 (Kd.R_reads' HO_9.out).2.1
              have hr111 := Kd.R_take (m := (t813 : Int).toNat) HO_9.out (by omega)
              have hy111 : y845.length = (t813 : Int).toNat := (by rw [Ny845.out, List.length_take]; omega)
              rw [← Ny845.out] at hr111
              rw [← hy111] at hr111 hcut111
              clear hy111 hi0111 hsz111 HO_9
              have HO847 := Aside0.mk hr111
              clear hr111
              replace q111 := eq_true q111
              have hnb112 := NB826_832.out
              have hnc112 := NB832_826.out
              have hcz113_0 : wr.cell? ⟨gb826, 0, none⟩ = some (.int .i64 t821) := (blk_cell BK826.out 0).trans rfl
              have hcz113_1 : wr.cell? ⟨gb826, 1, none⟩ = some (.slice Ao16 t822.length co16) := (blk_cell BK826.out 1).trans rfl
              have hfz113_0 := blk_frozen BK826.out 0
              have hfz113_1 := blk_frozen BK826.out 1
              go_wp2_with (first | (go_at_call 29; (with_reducible refine (laws_wpPages.calls k3 _ _ t822 _ _ y845 t848 _ ?side1 ?side2 ?side3 ?side4 A106.out).mono ?_); (case side1 => repeat (first | exact (Kd.R_reads' HO_827001.out).2.2 | (with_reducible refine Kd.C_alloc ?_ _) | (with_reducible refine Kd.C_drewN ?_ _) | (with_reducible refine Kd.C_drew ?_))); (case side2 => exact (Kd.R_reads' HO_827001.out).2.1); (case side3 => repeat (first | exact (Kd.R_reads' HO847.out).2.2 | (with_reducible refine Kd.C_alloc ?_ _) | (with_reducible refine Kd.C_drewN ?_ _) | (with_reducible refine Kd.C_drew ?_))); (case side4 => exact (Kd.R_reads' HO847.out).2.1); rintro e w' ⟨rfl, ⟨nd, rfl⟩⟩; (try first | exact ⟨rfl, _, World.drewN_drewN _ _ _⟩ | exact ⟨rfl, _, Eq.trans (World.drewN_drewN _ _ _) (congrArg (World.drewN _) (Nat.add_assoc _ _ _))⟩)))
              repeat (go_quiet (fail); try go_wp2)
              go_ret
              exact ⟨by first | rfl | (simp [errW_none, errW_some] <;> rfl) | (simp [*, errW_none, errW_some] <;> rfl), by repeat (first | (with_reducible first | exact HB.out | apply below_alloc | apply pw_below_drewN | apply below_drew1 | refine below_set ?_ GE820.out | refine below_set ?_ GE826.out | refine below_set ?_ GE832.out) | exact HB.out)⟩
             ·rw [if_neg c105] at H
              exact absurd H (by simp)
            ·rw [if_neg c104] at H
             exact absurd H (by simp)
           ·rw [if_neg c103] at H
            have c103b0 : decide (t813 < (x9_3.length : Int)) = false := decide_eq_false c103
            clear c103
            replace H := Option.bind_eq_some_iff.mp H
            obtain ⟨t849, A1140, H⟩ := H
            replace H : (some t849) = some r := H
            have A114 := Aside0.mk A1140
            clear A1140
            obtain rfl := Option.some.inj H
            have hnb115 := NB820_826.out
            have hnc115 := NB826_820.out
            have hnb116 := NB820_832.out
            have hnc116 := NB832_820.out
            have hcz117_0 : wr.cell? ⟨gb820, 0, none⟩ = some (.int .i64 t813) := (blk_cell BK820.out 0).trans rfl
            have hcz117_1 : wr.cell? ⟨gb820, 1, none⟩ = some (.slice Ao10 t814.length co10) := (blk_cell BK820.out 1).trans rfl
            have hfz117_0 := blk_frozen BK820.out 0
            have hfz117_1 := blk_frozen BK820.out 1
            obtain ⟨Ao118, co118, eo118⟩ := Kd.R_slice HO_9.out
            subst eo118
            have hnb119 := NB826_832.out
            have hnc119 := NB832_826.out
            have hcz120_0 : wr.cell? ⟨gb826, 0, none⟩ = some (.int .i64 t821) := (blk_cell BK826.out 0).trans rfl
            have hcz120_1 : wr.cell? ⟨gb826, 1, none⟩ = some (.slice Ao16 t822.length co16) := (blk_cell BK826.out 1).trans rfl
            have hfz120_0 := blk_frozen BK826.out 0
            have hfz120_1 := blk_frozen BK826.out 1
            go_wp2_with (first | (go_at_call 29; (with_reducible refine (laws_wpPages.calls k3 _ _ t822 _ _ x9_3 t849 _ ?side1 ?side2 ?side3 ?side4 A114.out).mono ?_); (case side1 => repeat (first | exact (Kd.R_reads' HO_827001.out).2.2 | (with_reducible refine Kd.C_alloc ?_ _) | (with_reducible refine Kd.C_drewN ?_ _) | (with_reducible refine Kd.C_drew ?_))); (case side2 => exact (Kd.R_reads' HO_827001.out).2.1); (case side3 => repeat (first | exact (Kd.R_reads' HO_9.out).2.2 | (with_reducible refine Kd.C_alloc ?_ _) | (with_reducible refine Kd.C_drewN ?_ _) | (with_reducible refine Kd.C_drew ?_))); (case side4 => exact (Kd.R_reads' HO_9.out).2.1); rintro e w' ⟨rfl, ⟨nd, rfl⟩⟩; (try first | exact ⟨rfl, _, World.drewN_drewN _ _ _⟩ | exact ⟨rfl, _, Eq.trans (World.drewN_drewN _ _ _) (congrArg (World.drewN _) (Nat.add_assoc _ _ _))⟩)))
            repeat (go_quiet (fail); try go_wp2)
            go_ret
            exact ⟨by first | rfl | (simp [errW_none, errW_some] <;> rfl) | (simp [*, errW_none, errW_some] <;> rfl), by repeat (first | (with_reducible first | exact HB.out | apply below_alloc | apply pw_below_drewN | apply below_drew1 | refine below_set ?_ GE820.out | refine below_set ?_ GE826.out | refine below_set ?_ GE832.out) | exact HB.out)⟩

/-- THE ONE PURE STATEMENT of laws_FnPoolLast: yours. -/
def laws_FnPoolLast.Pure : Prop := ∀ (l0 : List Int), l0.length ≤ maxLen → l0.length * 1 ≤ 140737488351232 → (∀ x ∈ l0, (Lit.int .u8 x).wf = true) → ∃ k, laws_FnPoolLast.f k l0 = some true
theorem laws_FnPoolLast.walk (P : laws_FnPoolLast.Pure) (a0 : Option Addr) (len0 cap0 : Nat) (z0 : List Int) (w : World) (w0 : (a0 = none ∧ len0 = 0 ∧ cap0 = 0 ∧ z0 = []) ∨ ∃ x, a0 = some x ∧ len0 ≤ cap0 ∧ cap0 ≤ maxLen ∧ z0.length = cap0 ∧ (∀ i, i < z0.length → w.cell? (x.add i) = some (.int .u8 (z0.getD i 0))) ∧ ∀ n ∈ z0, (Lit.int .u8 n).wf = true) (y0 : len0 * 1 ≤ 140737488351232) :
  Calls Try.prog 17 #[.slice a0 len0 cap0] w fun e w' => e = .returned (.bool true) ∧ Below w.heap.size w w' := by
 obtain ⟨l0, rfl, hr0, hm0, hw0, hc0⟩ := ReadsInt.ofRowC w0
 obtain ⟨k, h⟩ := P l0 hm0 y0 hw0
 refine (laws_FnPoolLast.calls k _ _ l0 true w (Kd.C_of_reads (d := (0 : Int)) (h1 := fun _ => rfl) hr0) hc0 rfl h).mono ?_
 rintro e w' ⟨rfl, hd⟩
 exact ⟨rfl, hd⟩

end Go.Proofs.Ytcobbpghipeoeaa.R
