/- The plain functions of the program's functions, printed by a program (the kit's print.py under reprint.py): what each comes to, with no memory in sight. -/
import Derived.Test.YtcobbpghipeoeaaR0
import Derived.Test.YtcobbpghipeoeaaR1
import Derived.Test.YtcobbpghipeoeaaF
import Derived.Test.YtcobbpghipeoeaaGC
namespace Go.Proofs.Ytcobbpghipeoeaa.R
open Go.RowKit Go.Proofs.YtcobbpghipeoeaaV.PrintWords Go.Proofs.YtcobbpghipeoeaaV.PrintLast Go.Proofs.YtcobbpghipeoeaaV.PrintMore
attribute [local go_sem] max2_int min2_int max_two min_two max_three min_three max_four min_four   -- for this text's walks alone
set_option linter.unusedVariables false
set_option linter.unusedSimpArgs false

attribute [local go_sem high] eqA25
theorem z22_0 {P : Prop} (h : P := by (with_reducible repeat (first | refine blk_drewN ?_ _ | refine blk_drew ?_ | refine blk_alloc ?_ _)); refine blk_far ?_ NB624_636.out _; (with_reducible repeat (first | refine blk_drewN ?_ _ | refine blk_drew ?_ | refine blk_alloc ?_ _)); refine blk_far ?_ NB624_636.out _; (with_reducible repeat (first | refine blk_drewN ?_ _ | refine blk_drew ?_ | refine blk_alloc ?_ _)); exact BK624.out) : P := h
theorem z22_1 {P : Prop} (h : P := by (with_reducible repeat (first | refine blk_drewN ?_ _ | refine blk_drew ?_ | refine blk_alloc ?_ _)); refine blk_far ?_ NB630_636.out _; (with_reducible repeat (first | refine blk_drewN ?_ _ | refine blk_drew ?_ | refine blk_alloc ?_ _)); refine blk_far ?_ NB630_636.out _; (with_reducible repeat (first | refine blk_drewN ?_ _ | refine blk_drew ?_ | refine blk_alloc ?_ _)); exact BK630.out) : P := h
theorem z22_2 {P : Prop} (h : P := by repeat (first | (with_reducible first | exact HB.out | apply below_alloc | apply pw_below_drewN | apply below_drew1 | refine below_set ?_ GE624.out | refine below_set ?_ GE630.out | refine below_set ?_ GE636.out | refine below_set ?_ GE649.out | refine below_set ?_ GE659.out) | exact HB.out)) : P := h
theorem z22_3 {P : Prop} (h : P := by repeat (first | (with_reducible first | exact HB.out | apply below_alloc | apply pw_below_drewN | apply below_drew1 | refine below_set ?_ GE624.out | refine below_set ?_ GE630.out | refine below_set ?_ GE636.out | refine below_set ?_ GE649.out) | exact HB.out)) : P := h
theorem z22_4 {P : Prop} (h : P := by repeat (first | (with_reducible first | exact HB.out | apply below_alloc | apply pw_below_drewN | apply below_drew1 | refine below_set ?_ GE624.out | refine below_set ?_ GE630.out | refine below_set ?_ GE636.out) | exact HB.out)) : P := h
theorem z22_5 {P : Prop} (h : P := by repeat (first | (with_reducible first | exact HB.out | apply below_alloc | apply pw_below_drewN | apply below_drew1 | refine below_set ?_ GE624.out | refine below_set ?_ GE630.out) | exact HB.out)) : P := h
theorem z22_6 {P : Prop} (h : P := by repeat (first | (with_reducible first | exact HB.out | apply below_alloc | apply pw_below_drewN | apply below_drew1 | refine below_set ?_ GE624.out) | exact HB.out)) : P := h
theorem z22_7 {P : Prop} (h : P := by (try simp only [List.map_toArray, List.map_cons, List.map_nil]); first | done | rfl | (simp only [List.length_drop, List.length_take]; rfl)) : P := h
theorem z22_8 {P : Prop} (h : P := by repeat (first | (with_reducible first | exact HB.out | apply below_alloc | apply pw_below_drewN | apply below_drew1) | exact HB.out)) : P := h
theorem z22_9 {P : Prop} (h : P := by (with_reducible repeat (first | refine blk_drewN ?_ _ | refine blk_drew ?_ | refine blk_alloc ?_ _)); exact BK624.out) : P := h
theorem z22_10 {P : Prop} (h : P := by (with_reducible repeat (first | refine blk_drewN ?_ _ | refine blk_drew ?_ | refine blk_alloc ?_ _)); exact BK630.out) : P := h
theorem z22_11 {P : Prop} (h : P := by (with_reducible repeat (first | refine blk_drewN ?_ _ | refine blk_drew ?_ | refine blk_alloc ?_ _)); exact BK636.out) : P := h
theorem z22_12 {P : Prop} (h : P := by (with_reducible repeat (first | refine blk_drewN ?_ _ | refine blk_drew ?_ | refine blk_alloc ?_ _)); exact BK649.out) : P := h
theorem z22_13 {P : Prop} (h : P := by (with_reducible repeat (first | refine blk_drewN ?_ _ | refine blk_drew ?_ | refine blk_alloc ?_ _)); exact BK659.out) : P := h
theorem z22_14 {P : Prop} (h : P := by simp only [putAll, Act.put, List.setIfInBounds_toArray, List.set_cons_zero, List.set_cons_succ]) : P := h
theorem z22_15 {P : Prop} (h : P := by first | (with_reducible assumption) | assumption) : P := h
theorem z22_16 {P : Prop} (h : P := by first | rfl | (simp; done) | (simp [*]; done)) : P := h
abbrev o221 : Bool := true
abbrev o220 : Bool := false
/-! ### laws_FnPoolAll: function 12 -/
mutual
def laws_FnPoolAll.j0 : Nat → List Int → List Int → Bool → Option (Bool)
 | 0, _, _, _ => none
 | k + 1, x0, x1, x28 => if x28 = true then (some true) else ((spec_DrawPoolAll.f k x0).bind fun bt617 => ((impl_PoolAll.f bt617.1 bt617.2.1 bt617.2.2).bind fun bt625 => ((spec_PoolAll.f k bt617.1 bt617.2.1 bt617.2.2).bind fun bt631 => (if bt625.2.2 = bt631.2.2 then ((impl_PoolSame.f k bt625.1 bt625.2.1 bt631.1 bt631.2.1).bind fun t637 => (if t637 = true then ((spec_PoolOk.f k bt617.1 bt617.2.1).bind fun t638 => (if t638 = true then (if (bt625.2.1.length : Int) = 0 then (laws_FnPoolAll.j1 k x1 bt617.2.2 bt625.2.2 bt631.2.2 (bt625.1 == 0) bt617.1 bt617.2.1 bt625.1 bt625.2.1 bt631.1 bt631.2.1) else (laws_FnPoolAll.j1 k x1 bt617.2.2 bt625.2.2 bt631.2.2 false bt617.1 bt617.2.1 bt625.1 bt625.2.1 bt631.1 bt631.2.1)) else (laws_FnPoolAll.j1 k x1 bt617.2.2 bt625.2.2 bt631.2.2 true bt617.1 bt617.2.1 bt625.1 bt625.2.1 bt631.1 bt631.2.1))) else (laws_FnPoolAll.j1 k x1 bt617.2.2 bt625.2.2 bt631.2.2 true bt617.1 bt617.2.1 bt625.1 bt625.2.1 bt631.1 bt631.2.1))) else (laws_FnPoolAll.j1 k x1 bt617.2.2 bt625.2.2 bt631.2.2 true bt617.1 bt617.2.1 bt625.1 bt625.2.1 bt631.1 bt631.2.1)))))
def laws_FnPoolAll.j1 : Nat → List Int → List (S25) → Int → Int → Bool → Int → List (S25) → Int → List (S25) → Int → List (S25) → Option (Bool)
 | 0, _, _, _, _, _, _, _, _, _, _, _ => none
 | k + 1, x1, x6, x8, x10, x70, x625000, x625001, x631000, x631001, x637000, x637001 => if x70 = true then (if x8 = x10 then ((impl_PoolSame.f k x631000 x631001 x637000 x637001).bind fun t639 => (some t639)) else (some false)) else (if (wrap64 ((x6.length : Int) + 1)) = 0 then (none) else (if 0 ≤ ((x1.length : Int) % (wrap64 ((x6.length : Int) + 1))) then (if ((x1.length : Int) % (wrap64 ((x6.length : Int) + 1))) ≤ (x6.length : Int) then ((impl_PoolAll.f x625000 x625001 (x6.take (((x1.length : Int) % (wrap64 ((x6.length : Int) + 1))) : Int).toNat)).bind fun bt644 => ((impl_PoolAll.f bt644.1 bt644.2.1 (x6.drop (((x1.length : Int) % (wrap64 ((x6.length : Int) + 1))) : Int).toNat)).bind fun bt654 => (laws_FnPoolAll.l0 k x6 x8 bt644.2.2 bt654.2.2 0 0 x625000 x625001 x631000 x631001 bt654.1 bt654.2.1))) else (none)) else (none)))
def laws_FnPoolAll.l0 : Nat → List (S25) → Int → Int → Int → Int → Int → Int → List (S25) → Int → List (S25) → Int → List (S25) → Option (Bool)
 | 0, _, _, _, _, _, _, _, _, _, _, _, _ => none
 | k + 1, x6, x8, x13, x15, x16, x17, x625000, x625001, x631000, x631001, x660000, x660001 => if x17 < (x6.length : Int) then (laws_FnPoolAll.l1 k x6 x8 x13 x15 x16 x17 false 0 x625000 x625001 x631000 x631001 x660000 x660001) else ((impl_PoolOk.f k x631000 x631001).bind fun t660 => (if t660 = true then ((impl_PoolSame.f k x660000 x660001 x631000 x631001).bind fun t661 => (if t661 = true then (if (wrap64 (x13 + x15)) = x8 then (if x8 ≥ x16 then (some (decide (x8 ≤ (x6.length : Int)))) else (some false)) else (some false)) else (some false))) else (some false)))
def laws_FnPoolAll.l1 : Nat → List (S25) → Int → Int → Int → Int → Int → Bool → Int → Int → List (S25) → Int → List (S25) → Int → List (S25) → Option (Bool)
 | 0, _, _, _, _, _, _, _, _, _, _, _, _, _, _ => none
 | k + 1, x6, x8, x13, x15, x16, x17, x18, x19, x625000, x625001, x631000, x631001, x660000, x660001 => if x19 < x17 then (if x18 = true then (laws_FnPoolAll.l1 k x6 x8 x13 x15 x16 x17 true (wrap64 (x19 + 1)) x625000 x625001 x631000 x631001 x660000 x660001) else (if 0 ≤ x19 then (if x19 < (x6.length : Int) then (if 0 ≤ x17 then (if x17 < (x6.length : Int) then (laws_FnPoolAll.l1 k x6 x8 x13 x15 x16 x17 (((rd_T25 x6 x19).f0) == ((rd_T25 x6 x17).f0) && (((rd_T25 x6 x19).f1) == ((rd_T25 x6 x17).f1))) (wrap64 (x19 + 1)) x625000 x625001 x631000 x631001 x660000 x660001) else (none)) else (none)) else (none)) else (none))) else (laws_FnPoolAll.l2 k x6 x8 x13 x15 x16 x17 x18 0 x625000 x625001 x631000 x631001 x660000 x660001)
def laws_FnPoolAll.l2 : Nat → List (S25) → Int → Int → Int → Int → Int → Bool → Int → Int → List (S25) → Int → List (S25) → Int → List (S25) → Option (Bool)
 | 0, _, _, _, _, _, _, _, _, _, _, _, _, _, _ => none
 | k + 1, x6, x8, x13, x15, x16, x17, x18, x20, x625000, x625001, x631000, x631001, x660000, x660001 => if x20 < (x625001.length : Int) then (if x18 = true then (laws_FnPoolAll.l2 k x6 x8 x13 x15 x16 x17 true (wrap64 (x20 + 1)) x625000 x625001 x631000 x631001 x660000 x660001) else (if 0 ≤ x20 then (if 0 ≤ x17 then (if x17 < (x6.length : Int) then (laws_FnPoolAll.l2 k x6 x8 x13 x15 x16 x17 (((rd_T25 x625001 x20).f0) == ((rd_T25 x6 x17).f0) && (((rd_T25 x625001 x20).f1) == ((rd_T25 x6 x17).f1))) (wrap64 (x20 + 1)) x625000 x625001 x631000 x631001 x660000 x660001) else (none)) else (none)) else (none))) else (if x18 = true then (laws_FnPoolAll.l0 k x6 x8 x13 x15 x16 (wrap64 (x17 + 1)) x625000 x625001 x631000 x631001 x660000 x660001) else (laws_FnPoolAll.l0 k x6 x8 x13 x15 (wrap64 (x16 + 1)) (wrap64 (x17 + 1)) x625000 x625001 x631000 x631001 x660000 x660001))
end
def laws_FnPoolAll.f (k : Nat) (l0 : List Int) (l1 : List Int) : Option (Bool) := if (l0.length : Int) > 1048576 then (laws_FnPoolAll.j0 k l0 l1 true) else (laws_FnPoolAll.j0 k l0 l1 (decide ((l1.length : Int) > 1048576)))
theorem laws_FnPoolAll.mono_l : ∀ k, (∀ y0 y1 y2, LeO (laws_FnPoolAll.j0 k y0 y1 y2) (laws_FnPoolAll.j0 (k + 1) y0 y1 y2)) ∧ (∀ y0 y1 y2 y3 y4 y5 y6 y7 y8 y9 y10, LeO (laws_FnPoolAll.j1 k y0 y1 y2 y3 y4 y5 y6 y7 y8 y9 y10) (laws_FnPoolAll.j1 (k + 1) y0 y1 y2 y3 y4 y5 y6 y7 y8 y9 y10)) ∧ (∀ y0 y1 y2 y3 y4 y5 y6 y7 y8 y9 y10 y11, LeO (laws_FnPoolAll.l0 k y0 y1 y2 y3 y4 y5 y6 y7 y8 y9 y10 y11) (laws_FnPoolAll.l0 (k + 1) y0 y1 y2 y3 y4 y5 y6 y7 y8 y9 y10 y11)) ∧ (∀ y0 y1 y2 y3 y4 y5 y6 y7 y8 y9 y10 y11 y12 y13, LeO (laws_FnPoolAll.l1 k y0 y1 y2 y3 y4 y5 y6 y7 y8 y9 y10 y11 y12 y13) (laws_FnPoolAll.l1 (k + 1) y0 y1 y2 y3 y4 y5 y6 y7 y8 y9 y10 y11 y12 y13)) ∧ (∀ y0 y1 y2 y3 y4 y5 y6 y7 y8 y9 y10 y11 y12 y13, LeO (laws_FnPoolAll.l2 k y0 y1 y2 y3 y4 y5 y6 y7 y8 y9 y10 y11 y12 y13) (laws_FnPoolAll.l2 (k + 1) y0 y1 y2 y3 y4 y5 y6 y7 y8 y9 y10 y11 y12 y13))
 | 0 => ⟨fun _ _ _ r h => by simp [laws_FnPoolAll.j0] at h, fun _ _ _ _ _ _ _ _ _ _ _ r h => by simp [laws_FnPoolAll.j1] at h, fun _ _ _ _ _ _ _ _ _ _ _ _ r h => by simp [laws_FnPoolAll.l0] at h, fun _ _ _ _ _ _ _ _ _ _ _ _ _ _ r h => by simp [laws_FnPoolAll.l1] at h, fun _ _ _ _ _ _ _ _ _ _ _ _ _ _ r h => by simp [laws_FnPoolAll.l2] at h⟩
 | k + 1 => by
  obtain ⟨ih0, ih1, ih2, ih3, ih4⟩ := laws_FnPoolAll.mono_l k
  refine ⟨?_, ?_, ?_, ?_, ?_⟩
  ·intro y0 y1 y2
   unfold laws_FnPoolAll.j0
   repeat' first
   | (with_reducible exact ih0 _ _ _)
   | (with_reducible exact ih1 _ _ _ _ _ _ _ _ _ _ _)
   | (with_reducible exact ih2 _ _ _ _ _ _ _ _ _ _ _ _)
   | (with_reducible exact ih3 _ _ _ _ _ _ _ _ _ _ _ _ _ _)
   | (with_reducible exact ih4 _ _ _ _ _ _ _ _ _ _ _ _ _ _)
   | (with_reducible exact impl_PoolOk.mono _ _ _)
   | (with_reducible exact impl_PoolSame.mono _ _ _ _ _)
   | (with_reducible exact spec_DrawPoolAll.mono _ _)
   | (with_reducible exact spec_PoolAll.mono _ _ _ _)
   | (with_reducible exact spec_PoolOk.mono _ _ _)
   | (with_reducible exact LeO.refl _)
   | (with_reducible exact LeO.none _)
   | (with_reducible refine LeO.ite ?_ ?_)
   | (with_reducible refine LeO.bind ?_ (fun _ => ?_))
   | exact ih0 _ _ _
   | exact ih1 _ _ _ _ _ _ _ _ _ _ _
   | exact ih2 _ _ _ _ _ _ _ _ _ _ _ _
   | exact ih3 _ _ _ _ _ _ _ _ _ _ _ _ _ _
   | exact ih4 _ _ _ _ _ _ _ _ _ _ _ _ _ _
   | exact impl_PoolOk.mono _ _ _
   | exact impl_PoolSame.mono _ _ _ _ _
   | exact spec_DrawPoolAll.mono _ _
   | exact spec_PoolAll.mono _ _ _ _
   | exact spec_PoolOk.mono _ _ _
   | exact LeO.none _
   | refine LeO.ite ?_ ?_
   | refine LeO.bind ?_ (fun _ => ?_)
  ·intro y0 y1 y2 y3 y4 y5 y6 y7 y8 y9 y10
   unfold laws_FnPoolAll.j1
   repeat' first
   | (with_reducible exact ih0 _ _ _)
   | (with_reducible exact ih1 _ _ _ _ _ _ _ _ _ _ _)
   | (with_reducible exact ih2 _ _ _ _ _ _ _ _ _ _ _ _)
   | (with_reducible exact ih3 _ _ _ _ _ _ _ _ _ _ _ _ _ _)
   | (with_reducible exact ih4 _ _ _ _ _ _ _ _ _ _ _ _ _ _)
   | (with_reducible exact impl_PoolOk.mono _ _ _)
   | (with_reducible exact impl_PoolSame.mono _ _ _ _ _)
   | (with_reducible exact spec_DrawPoolAll.mono _ _)
   | (with_reducible exact spec_PoolAll.mono _ _ _ _)
   | (with_reducible exact spec_PoolOk.mono _ _ _)
   | (with_reducible exact LeO.refl _)
   | (with_reducible exact LeO.none _)
   | (with_reducible refine LeO.ite ?_ ?_)
   | (with_reducible refine LeO.bind ?_ (fun _ => ?_))
   | exact ih0 _ _ _
   | exact ih1 _ _ _ _ _ _ _ _ _ _ _
   | exact ih2 _ _ _ _ _ _ _ _ _ _ _ _
   | exact ih3 _ _ _ _ _ _ _ _ _ _ _ _ _ _
   | exact ih4 _ _ _ _ _ _ _ _ _ _ _ _ _ _
   | exact impl_PoolOk.mono _ _ _
   | exact impl_PoolSame.mono _ _ _ _ _
   | exact spec_DrawPoolAll.mono _ _
   | exact spec_PoolAll.mono _ _ _ _
   | exact spec_PoolOk.mono _ _ _
   | exact LeO.none _
   | refine LeO.ite ?_ ?_
   | refine LeO.bind ?_ (fun _ => ?_)
  ·intro y0 y1 y2 y3 y4 y5 y6 y7 y8 y9 y10 y11
   unfold laws_FnPoolAll.l0
   repeat' first
   | (with_reducible exact ih0 _ _ _)
   | (with_reducible exact ih1 _ _ _ _ _ _ _ _ _ _ _)
   | (with_reducible exact ih2 _ _ _ _ _ _ _ _ _ _ _ _)
   | (with_reducible exact ih3 _ _ _ _ _ _ _ _ _ _ _ _ _ _)
   | (with_reducible exact ih4 _ _ _ _ _ _ _ _ _ _ _ _ _ _)
   | (with_reducible exact impl_PoolOk.mono _ _ _)
   | (with_reducible exact impl_PoolSame.mono _ _ _ _ _)
   | (with_reducible exact spec_DrawPoolAll.mono _ _)
   | (with_reducible exact spec_PoolAll.mono _ _ _ _)
   | (with_reducible exact spec_PoolOk.mono _ _ _)
   | (with_reducible exact LeO.refl _)
   | (with_reducible exact LeO.none _)
   | (with_reducible refine LeO.ite ?_ ?_)
   | (with_reducible refine LeO.bind ?_ (fun _ => ?_))
   | exact ih0 _ _ _
   | exact ih1 _ _ _ _ _ _ _ _ _ _ _
   | exact ih2 _ _ _ _ _ _ _ _ _ _ _ _
   | exact ih3 _ _ _ _ _ _ _ _ _ _ _ _ _ _
   | exact ih4 _ _ _ _ _ _ _ _ _ _ _ _ _ _
   | exact impl_PoolOk.mono _ _ _
   | exact impl_PoolSame.mono _ _ _ _ _
   | exact spec_DrawPoolAll.mono _ _
   | exact spec_PoolAll.mono _ _ _ _
   | exact spec_PoolOk.mono _ _ _
   | exact LeO.none _
   | refine LeO.ite ?_ ?_
   | refine LeO.bind ?_ (fun _ => ?_)
  ·intro y0 y1 y2 y3 y4 y5 y6 y7 y8 y9 y10 y11 y12 y13
   unfold laws_FnPoolAll.l1
   repeat' first
   | (with_reducible exact ih0 _ _ _)
   | (with_reducible exact ih1 _ _ _ _ _ _ _ _ _ _ _)
   | (with_reducible exact ih2 _ _ _ _ _ _ _ _ _ _ _ _)
   | (with_reducible exact ih3 _ _ _ _ _ _ _ _ _ _ _ _ _ _)
   | (with_reducible exact ih4 _ _ _ _ _ _ _ _ _ _ _ _ _ _)
   | (with_reducible exact impl_PoolOk.mono _ _ _)
   | (with_reducible exact impl_PoolSame.mono _ _ _ _ _)
   | (with_reducible exact spec_DrawPoolAll.mono _ _)
   | (with_reducible exact spec_PoolAll.mono _ _ _ _)
   | (with_reducible exact spec_PoolOk.mono _ _ _)
   | (with_reducible exact LeO.refl _)
   | (with_reducible exact LeO.none _)
   | (with_reducible refine LeO.ite ?_ ?_)
   | (with_reducible refine LeO.bind ?_ (fun _ => ?_))
   | exact ih0 _ _ _
   | exact ih1 _ _ _ _ _ _ _ _ _ _ _
   | exact ih2 _ _ _ _ _ _ _ _ _ _ _ _
   | exact ih3 _ _ _ _ _ _ _ _ _ _ _ _ _ _
   | exact ih4 _ _ _ _ _ _ _ _ _ _ _ _ _ _
   | exact impl_PoolOk.mono _ _ _
   | exact impl_PoolSame.mono _ _ _ _ _
   | exact spec_DrawPoolAll.mono _ _
   | exact spec_PoolAll.mono _ _ _ _
   | exact spec_PoolOk.mono _ _ _
   | exact LeO.none _
   | refine LeO.ite ?_ ?_
   | refine LeO.bind ?_ (fun _ => ?_)
  ·intro y0 y1 y2 y3 y4 y5 y6 y7 y8 y9 y10 y11 y12 y13
   unfold laws_FnPoolAll.l2
   repeat' first
   | (with_reducible exact ih0 _ _ _)
   | (with_reducible exact ih1 _ _ _ _ _ _ _ _ _ _ _)
   | (with_reducible exact ih2 _ _ _ _ _ _ _ _ _ _ _ _)
   | (with_reducible exact ih3 _ _ _ _ _ _ _ _ _ _ _ _ _ _)
   | (with_reducible exact ih4 _ _ _ _ _ _ _ _ _ _ _ _ _ _)
   | (with_reducible exact impl_PoolOk.mono _ _ _)
   | (with_reducible exact impl_PoolSame.mono _ _ _ _ _)
   | (with_reducible exact spec_DrawPoolAll.mono _ _)
   | (with_reducible exact spec_PoolAll.mono _ _ _ _)
   | (with_reducible exact spec_PoolOk.mono _ _ _)
   | (with_reducible exact LeO.refl _)
   | (with_reducible exact LeO.none _)
   | (with_reducible refine LeO.ite ?_ ?_)
   | (with_reducible refine LeO.bind ?_ (fun _ => ?_))
   | exact ih0 _ _ _
   | exact ih1 _ _ _ _ _ _ _ _ _ _ _
   | exact ih2 _ _ _ _ _ _ _ _ _ _ _ _
   | exact ih3 _ _ _ _ _ _ _ _ _ _ _ _ _ _
   | exact ih4 _ _ _ _ _ _ _ _ _ _ _ _ _ _
   | exact impl_PoolOk.mono _ _ _
   | exact impl_PoolSame.mono _ _ _ _ _
   | exact spec_DrawPoolAll.mono _ _
   | exact spec_PoolAll.mono _ _ _ _
   | exact spec_PoolOk.mono _ _ _
   | exact LeO.none _
   | refine LeO.ite ?_ ?_
   | refine LeO.bind ?_ (fun _ => ?_)
theorem laws_FnPoolAll.mono : ∀ a0 a1 k, LeO (laws_FnPoolAll.f k a0 a1) (laws_FnPoolAll.f (k + 1) a0 a1) := by
 intro a0 a1 k
 obtain ⟨ih0, ih1, ih2, ih3, ih4⟩ := laws_FnPoolAll.mono_l k
 unfold laws_FnPoolAll.f
 repeat' first
   | (with_reducible exact ih0 _ _ _)
   | (with_reducible exact ih1 _ _ _ _ _ _ _ _ _ _ _)
   | (with_reducible exact ih2 _ _ _ _ _ _ _ _ _ _ _ _)
   | (with_reducible exact ih3 _ _ _ _ _ _ _ _ _ _ _ _ _ _)
   | (with_reducible exact ih4 _ _ _ _ _ _ _ _ _ _ _ _ _ _)
   | (with_reducible exact impl_PoolOk.mono _ _ _)
   | (with_reducible exact impl_PoolSame.mono _ _ _ _ _)
   | (with_reducible exact spec_DrawPoolAll.mono _ _)
   | (with_reducible exact spec_PoolAll.mono _ _ _ _)
   | (with_reducible exact spec_PoolOk.mono _ _ _)
   | (with_reducible exact LeO.refl _)
   | (with_reducible exact LeO.none _)
   | (with_reducible refine LeO.ite ?_ ?_)
   | (with_reducible refine LeO.bind ?_ (fun _ => ?_))
   | exact ih0 _ _ _
   | exact ih1 _ _ _ _ _ _ _ _ _ _ _
   | exact ih2 _ _ _ _ _ _ _ _ _ _ _ _
   | exact ih3 _ _ _ _ _ _ _ _ _ _ _ _ _ _
   | exact ih4 _ _ _ _ _ _ _ _ _ _ _ _ _ _
   | exact impl_PoolOk.mono _ _ _
   | exact impl_PoolSame.mono _ _ _ _ _
   | exact spec_DrawPoolAll.mono _ _
   | exact spec_PoolAll.mono _ _ _ _
   | exact spec_PoolOk.mono _ _ _
   | exact LeO.none _
   | refine LeO.ite ?_ ?_
   | refine LeO.bind ?_ (fun _ => ?_)
def laws_FnPoolAll.Pure : Prop := ∀ (l0 : List Int) (l1 : List Int), l0.length ≤ maxLen → l0.length * 1 ≤ 140737488351232 → (∀ x ∈ l0, (Lit.int .u8 x).wf = true) → l1.length ≤ maxLen → l1.length * 1 ≤ 140737488351232 → (∀ x ∈ l1, (Lit.int .u8 x).wf = true) → ∃ k, laws_FnPoolAll.f k l0 l1 = some true
def laws_FnPoolAll.T9 : Bool × List (List Nat × List Nat) := (true, [([], []), ([], []), ([], []), ([1, 2], [1, 2]), ([0, 3], [0, 3]), ([4], [4]), ([5], [5]), ([5], [5]), ([], []), ([8, 6, 4, 0, 1, 2, 3, 4, 5, 6, 8], [6, 8]), ([7, 9, 0, 1, 2, 3, 4, 5, 6, 7, 8, 9], [7])])
def laws_FnPoolAll.B9 : List Nat := [0, 0, 0, 6, 15, 31, 63, 63, 0, 383, 1023]
theorem laws_FnPoolAll.tab9 : rtab .any (opsOf Try.f12 9) = laws_FnPoolAll.T9 := by kernel_rfl
theorem laws_FnPoolAll.bits9 : waitsOk laws_FnPoolAll.T9.2 laws_FnPoolAll.B9 = true := by kernel_rfl
def laws_FnPoolAll.T10 : Bool × List (List Nat × List Nat) := (true, [([], []), ([], []), ([], []), ([1, 2], [1, 2]), ([0, 3], [0, 3]), ([4], [4]), ([5], [5]), ([5], [5]), ([], []), ([8, 6, 4, 0, 1, 2, 3, 4, 5, 6, 8], [6, 8]), ([7, 9, 0, 1, 2, 3, 4, 5, 6, 7, 8, 9], [7])])
def laws_FnPoolAll.B10 : List Nat := [0, 0, 0, 6, 15, 31, 63, 63, 0, 383, 1023]
theorem laws_FnPoolAll.tab10 : rtab .any (opsOf Try.f12 10) = laws_FnPoolAll.T10 := by kernel_rfl
theorem laws_FnPoolAll.bits10 : waitsOk laws_FnPoolAll.T10.2 laws_FnPoolAll.B10 = true := by kernel_rfl
def laws_FnPoolAll.T19 : Bool × List (List Nat × List Nat) := (true, [([], []), ([0], [0]), ([1], [1]), ([1], [1]), ([2, 3, 1], [1, 2, 3]), ([4, 1], [1, 4]), ([1], [1]), ([1], [1]), ([6, 7, 1], [1, 6, 7]), ([8, 1], [1, 8]), ([5, 9, 1], [1, 5, 9]), ([1, 10], [1, 10]), ([11, 1, 0, 1, 2, 3, 4, 5, 6, 7, 8, 9, 10, 11], [0, 11])])
def laws_FnPoolAll.B19 : List Nat := [0, 1, 3, 3, 15, 31, 3, 3, 195, 451, 1023, 2047, 4095]
theorem laws_FnPoolAll.tab19 : rtab .any (opsOf Try.f12 19) = laws_FnPoolAll.T19 := by kernel_rfl
theorem laws_FnPoolAll.bits19 : waitsOk laws_FnPoolAll.T19.2 laws_FnPoolAll.B19 = true := by kernel_rfl
def laws_FnPoolAll.T23 : Bool × List (List Nat × List Nat) := (true, [([], []), ([0], [0]), ([1], [1]), ([2, 1], [1, 2]), ([1], [1]), ([3, 4, 1], [1, 3, 4]), ([5, 1], [1, 5]), ([1], [1]), ([1], [1]), ([7, 8, 1], [1, 7, 8]), ([9, 1], [1, 9]), ([6, 10, 1], [1, 6, 10]), ([1, 11], [1, 11]), ([12, 1, 0, 1, 2, 3, 4, 5, 6, 7, 8, 9, 10, 11, 12], [0, 12])])
def laws_FnPoolAll.B23 : List Nat := [0, 1, 3, 7, 3, 31, 63, 3, 3, 387, 899, 2047, 4095, 8191]
theorem laws_FnPoolAll.tab23 : rtab .any (opsOf Try.f12 23) = laws_FnPoolAll.T23 := by kernel_rfl
theorem laws_FnPoolAll.bits23 : waitsOk laws_FnPoolAll.T23.2 laws_FnPoolAll.B23 = true := by kernel_rfl
end Go.Proofs.Ytcobbpghipeoeaa.R
