/- The plain functions of the program's functions, printed by a program (the kit's print.py under reprint.py): what each comes to, with no memory in sight. -/
import Derived.Test.YtcobbpghipeoeaaR0
import Derived.Test.YtcobbpghipeoeaaR1
import Derived.Test.YtcobbpghipeoeaaF
import Derived.Test.YtcobbpghipeoeaaGB
namespace Go.Proofs.Ytcobbpghipeoeaa.R
open Go.RowKit Go.Proofs.YtcobbpghipeoeaaV.PrintWords Go.Proofs.YtcobbpghipeoeaaV.PrintLast Go.Proofs.YtcobbpghipeoeaaV.PrintMore
attribute [local go_sem] max2_int min2_int max_two min_two max_three min_three max_four min_four   -- for this text's walks alone
set_option linter.unusedVariables false
set_option linter.unusedSimpArgs false

theorem z26_0 {P : Prop} (h : P := by repeat (first | (with_reducible first | exact HB.out | apply below_alloc | apply pw_below_drewN | apply below_drew1 | refine below_set ?_ GE759.out | refine below_set ?_ GE760.out | refine below_set ?_ GE773.out | refine below_set ?_ GE778.out | refine below_set ?_ GE786.out | refine below_set ?_ GE810.out) | exact HB.out)) : P := h
theorem z26_1 {P : Prop} (h : P := by repeat (first | (with_reducible first | exact HB.out | apply below_alloc | apply pw_below_drewN | apply below_drew1 | refine below_set ?_ GE759.out | refine below_set ?_ GE760.out | refine below_set ?_ GE773.out | refine below_set ?_ GE778.out | refine below_set ?_ GE786.out) | exact HB.out)) : P := h
theorem z26_2 {P : Prop} (h : P := by repeat (first | (with_reducible first | exact HB.out | apply below_alloc | apply pw_below_drewN | apply below_drew1 | refine below_set ?_ GE759.out | refine below_set ?_ GE760.out | refine below_set ?_ GE773.out | refine below_set ?_ GE778.out) | exact HB.out)) : P := h
theorem z26_3 {P : Prop} (h : P := by repeat (first | (with_reducible first | exact HB.out | apply below_alloc | apply pw_below_drewN | apply below_drew1 | refine below_set ?_ GE759.out | refine below_set ?_ GE760.out | refine below_set ?_ GE773.out) | exact HB.out)) : P := h
theorem z26_4 {P : Prop} (h : P := by repeat (first | (with_reducible first | exact HB.out | apply below_alloc | apply pw_below_drewN | apply below_drew1 | refine below_set ?_ GE759.out | refine below_set ?_ GE760.out) | exact HB.out)) : P := h
theorem z26_5 {P : Prop} (h : P := by repeat (first | (with_reducible first | exact HB.out | apply below_alloc | apply pw_below_drewN | apply below_drew1 | refine below_set ?_ GE759.out) | exact HB.out)) : P := h
theorem z26_6 {P : Prop} (h : P := by (try simp only [List.map_toArray, List.map_cons, List.map_nil]); first | done | rfl | (simp only [List.length_drop, List.length_take]; rfl)) : P := h
theorem z26_7 {P : Prop} (h : P := by repeat (first | (with_reducible first | exact HB.out | apply below_alloc | apply pw_below_drewN | apply below_drew1) | exact HB.out)) : P := h
theorem z26_8 {P : Prop} (h : P := by (with_reducible repeat (first | refine blk_drewN ?_ _ | refine blk_drew ?_ | refine blk_alloc ?_ _)); exact BK759.out) : P := h
theorem z26_9 {P : Prop} (h : P := by (with_reducible repeat (first | refine blk_drewN ?_ _ | refine blk_drew ?_ | refine blk_alloc ?_ _)); exact BK760.out) : P := h
theorem z26_10 {P : Prop} (h : P := by (with_reducible repeat (first | refine blk_drewN ?_ _ | refine blk_drew ?_ | refine blk_alloc ?_ _)); exact BK773.out) : P := h
theorem z26_11 {P : Prop} (h : P := by (with_reducible repeat (first | refine blk_drewN ?_ _ | refine blk_drew ?_ | refine blk_alloc ?_ _)); exact BK778.out) : P := h
theorem z26_12 {P : Prop} (h : P := by (with_reducible repeat (first | refine blk_drewN ?_ _ | refine blk_drew ?_ | refine blk_alloc ?_ _)); exact BK786.out) : P := h
theorem z26_13 {P : Prop} (h : P := by (with_reducible repeat (first | refine blk_drewN ?_ _ | refine blk_drew ?_ | refine blk_alloc ?_ _)); exact BK810.out) : P := h
theorem z26_14 {P : Prop} (h : P := by simp only [putAll, Act.put, List.setIfInBounds_toArray, List.set_cons_zero, List.set_cons_succ]) : P := h
theorem z26_15 {P : Prop} (h : P := by first | rfl | (simp; done) | (simp [*]; done)) : P := h
abbrev o261 : Bool := true
abbrev o260 : Bool := false
/-! ### laws_FnExactPoolUse: function 16 -/
mutual
def laws_FnExactPoolUse.j0 : Nat → Bool → Bool → Bool → Int → List (S23) → Int → Int → Int → List (S25) → Int → List (S25) → Int → List (S25) → Option (Bool)
 | 0, _, _, _, _, _, _, _, _, _, _, _, _, _ => none
 | k + 1, x7, x10, x46, x760000, x760001, x761000, x761001, x774000, x774001, x779000, x779001, x787000, x787001 => if x46 = true then (some false) else ((laws_toPool.f k x760000 x760001).bind fun bt788 => ((laws_eqPool.f k x779000 x779001 bt788.1 bt788.2).bind fun t792 => (if t792 = true then ((laws_markPool.f k x779000 x779001 1).bind fun bt793 => (if bt793.1 < 0 then (laws_FnExactPoolUse.j1 k x7 true x760000 x760001 x761000 x761001 x774000 x774001 x787000 x787001) else ((laws_eqPool.f k x787000 x787001 x774000 x774001).bind fun t795 => (if t795 = true then (laws_FnExactPoolUse.j1 k x7 (x10 != x7) x760000 x760001 x761000 x761001 x774000 x774001 x787000 x787001) else (laws_FnExactPoolUse.j1 k x7 true x760000 x760001 x761000 x761001 x774000 x774001 x787000 x787001))))) else (some false))))
def laws_FnExactPoolUse.j1 : Nat → Bool → Bool → Int → List (S23) → Int → Int → Int → List (S25) → Int → List (S25) → Option (Bool)
 | 0, _, _, _, _, _, _, _, _, _, _ => none
 | k + 1, x7, x67, x760000, x760001, x761000, x761001, x774000, x774001, x787000, x787001 => if x67 = true then (some false) else ((laws_markPool.f k x787000 x787001 1).bind fun bt796 => ((laws_heldPool.f k x787000 bt796.2 1).bind fun t798 => (if t798 < 0 then (some false) else (if t798 = bt796.1 then ((laws_toPool.f k x760000 x760001).bind fun bt799 => ((laws_toPage.f x761000 x761001).bind fun bt803 => ((impl_PoolUse.f bt799.1 bt799.2 bt803.1 bt803.2).bind fun bt805 => ((laws_eqPool.f k bt805.1 bt805.2.1 x774000 x774001).bind fun t811 => (if t811 = true then (laws_FnExactPoolUse.j2 k bt796.1 (bt805.2.2 != x7) x787000 bt796.2) else (laws_FnExactPoolUse.j2 k bt796.1 true x787000 bt796.2)))))) else (some false)))))
def laws_FnExactPoolUse.j2 : Nat → Int → Bool → Int → List (S25) → Option (Bool)
 | 0, _, _, _, _ => none
 | k + 1, x12, x95, x787000, x787001 => if x95 = true then (some false) else ((laws_heldPool.f k x787000 x787001 1).bind fun t812 => (if t812 < 0 then (some false) else (if t812 = x12 then (some true) else (some false))))
end
def laws_FnExactPoolUse.f (k : Nat) (a0_0 : Int) (l0_1 : List (S23)) (a1_0 : Int) (a1_1 : Int) : Option (Bool) := (laws_szPool.f a0_0 l0_1 1048576).bind fun t761 => (if t761 < 0 then (some true) else ((laws_toPool.f k a0_0 l0_1).bind fun bt762 => ((laws_toPage.f a1_0 a1_1).bind fun bt766 => ((spec_PoolUse.f k bt762.1 bt762.2 bt766.1 bt766.2).bind fun bt768 => ((laws_toPool.f k a0_0 l0_1).bind fun bt774 => ((laws_toPage.f a1_0 a1_1).bind fun bt779 => ((impl_PoolUse.f bt774.1 bt774.2 bt779.1 bt779.2).bind fun bt781 => ((laws_eqPool.f k bt781.1 bt781.2.1 bt768.1 bt768.2.1).bind fun t787 => (if t787 = true then (laws_FnExactPoolUse.j0 k bt768.2.2 bt781.2.2 (bt781.2.2 != bt768.2.2) a0_0 l0_1 a1_0 a1_1 bt768.1 bt768.2.1 bt774.1 bt774.2 bt781.1 bt781.2.1) else (laws_FnExactPoolUse.j0 k bt768.2.2 bt781.2.2 true a0_0 l0_1 a1_0 a1_1 bt768.1 bt768.2.1 bt774.1 bt774.2 bt781.1 bt781.2.1))))))))))
theorem laws_FnExactPoolUse.mono_l : ∀ k, (∀ y0 y1 y2 y3 y4 y5 y6 y7 y8 y9 y10 y11 y12, LeO (laws_FnExactPoolUse.j0 k y0 y1 y2 y3 y4 y5 y6 y7 y8 y9 y10 y11 y12) (laws_FnExactPoolUse.j0 (k + 1) y0 y1 y2 y3 y4 y5 y6 y7 y8 y9 y10 y11 y12)) ∧ (∀ y0 y1 y2 y3 y4 y5 y6 y7 y8 y9, LeO (laws_FnExactPoolUse.j1 k y0 y1 y2 y3 y4 y5 y6 y7 y8 y9) (laws_FnExactPoolUse.j1 (k + 1) y0 y1 y2 y3 y4 y5 y6 y7 y8 y9)) ∧ (∀ y0 y1 y2 y3, LeO (laws_FnExactPoolUse.j2 k y0 y1 y2 y3) (laws_FnExactPoolUse.j2 (k + 1) y0 y1 y2 y3))
 | 0 => ⟨fun _ _ _ _ _ _ _ _ _ _ _ _ _ r h => by simp [laws_FnExactPoolUse.j0] at h, fun _ _ _ _ _ _ _ _ _ _ r h => by simp [laws_FnExactPoolUse.j1] at h, fun _ _ _ _ r h => by simp [laws_FnExactPoolUse.j2] at h⟩
 | k + 1 => by
  obtain ⟨ih0, ih1, ih2⟩ := laws_FnExactPoolUse.mono_l k
  refine ⟨?_, ?_, ?_⟩
  ·intro y0 y1 y2 y3 y4 y5 y6 y7 y8 y9 y10 y11 y12
   unfold laws_FnExactPoolUse.j0
   repeat' first
   | (with_reducible exact ih0 _ _ _ _ _ _ _ _ _ _ _ _ _)
   | (with_reducible exact ih1 _ _ _ _ _ _ _ _ _ _)
   | (with_reducible exact ih2 _ _ _ _)
   | (with_reducible exact laws_eqPool.mono _ _ _ _ _)
   | (with_reducible exact laws_heldPool.mono _ _ _ _)
   | (with_reducible exact laws_markPool.mono _ _ _ _)
   | (with_reducible exact laws_toPool.mono _ _ _)
   | (with_reducible exact spec_PoolUse.mono _ _ _ _ _)
   | (with_reducible exact LeO.refl _)
   | (with_reducible exact LeO.none _)
   | (with_reducible refine LeO.ite ?_ ?_)
   | (with_reducible refine LeO.bind ?_ (fun _ => ?_))
   | exact ih0 _ _ _ _ _ _ _ _ _ _ _ _ _
   | exact ih1 _ _ _ _ _ _ _ _ _ _
   | exact ih2 _ _ _ _
   | exact laws_eqPool.mono _ _ _ _ _
   | exact laws_heldPool.mono _ _ _ _
   | exact laws_markPool.mono _ _ _ _
   | exact laws_toPool.mono _ _ _
   | exact spec_PoolUse.mono _ _ _ _ _
   | exact LeO.none _
   | refine LeO.ite ?_ ?_
   | refine LeO.bind ?_ (fun _ => ?_)
  ·intro y0 y1 y2 y3 y4 y5 y6 y7 y8 y9
   unfold laws_FnExactPoolUse.j1
   repeat' first
   | (with_reducible exact ih0 _ _ _ _ _ _ _ _ _ _ _ _ _)
   | (with_reducible exact ih1 _ _ _ _ _ _ _ _ _ _)
   | (with_reducible exact ih2 _ _ _ _)
   | (with_reducible exact laws_eqPool.mono _ _ _ _ _)
   | (with_reducible exact laws_heldPool.mono _ _ _ _)
   | (with_reducible exact laws_markPool.mono _ _ _ _)
   | (with_reducible exact laws_toPool.mono _ _ _)
   | (with_reducible exact spec_PoolUse.mono _ _ _ _ _)
   | (with_reducible exact LeO.refl _)
   | (with_reducible exact LeO.none _)
   | (with_reducible refine LeO.ite ?_ ?_)
   | (with_reducible refine LeO.bind ?_ (fun _ => ?_))
   | exact ih0 _ _ _ _ _ _ _ _ _ _ _ _ _
   | exact ih1 _ _ _ _ _ _ _ _ _ _
   | exact ih2 _ _ _ _
   | exact laws_eqPool.mono _ _ _ _ _
   | exact laws_heldPool.mono _ _ _ _
   | exact laws_markPool.mono _ _ _ _
   | exact laws_toPool.mono _ _ _
   | exact spec_PoolUse.mono _ _ _ _ _
   | exact LeO.none _
   | refine LeO.ite ?_ ?_
   | refine LeO.bind ?_ (fun _ => ?_)
  ·intro y0 y1 y2 y3
   unfold laws_FnExactPoolUse.j2
   repeat' first
   | (with_reducible exact ih0 _ _ _ _ _ _ _ _ _ _ _ _ _)
   | (with_reducible exact ih1 _ _ _ _ _ _ _ _ _ _)
   | (with_reducible exact ih2 _ _ _ _)
   | (with_reducible exact laws_eqPool.mono _ _ _ _ _)
   | (with_reducible exact laws_heldPool.mono _ _ _ _)
   | (with_reducible exact laws_markPool.mono _ _ _ _)
   | (with_reducible exact laws_toPool.mono _ _ _)
   | (with_reducible exact spec_PoolUse.mono _ _ _ _ _)
   | (with_reducible exact LeO.refl _)
   | (with_reducible exact LeO.none _)
   | (with_reducible refine LeO.ite ?_ ?_)
   | (with_reducible refine LeO.bind ?_ (fun _ => ?_))
   | exact ih0 _ _ _ _ _ _ _ _ _ _ _ _ _
   | exact ih1 _ _ _ _ _ _ _ _ _ _
   | exact ih2 _ _ _ _
   | exact laws_eqPool.mono _ _ _ _ _
   | exact laws_heldPool.mono _ _ _ _
   | exact laws_markPool.mono _ _ _ _
   | exact laws_toPool.mono _ _ _
   | exact spec_PoolUse.mono _ _ _ _ _
   | exact LeO.none _
   | refine LeO.ite ?_ ?_
   | refine LeO.bind ?_ (fun _ => ?_)
theorem laws_FnExactPoolUse.mono : ∀ a0 a1 a2 a3 k, LeO (laws_FnExactPoolUse.f k a0 a1 a2 a3) (laws_FnExactPoolUse.f (k + 1) a0 a1 a2 a3) := by
 intro a0 a1 a2 a3 k
 obtain ⟨ih0, ih1, ih2⟩ := laws_FnExactPoolUse.mono_l k
 unfold laws_FnExactPoolUse.f
 repeat' first
   | (with_reducible exact ih0 _ _ _ _ _ _ _ _ _ _ _ _ _)
   | (with_reducible exact ih1 _ _ _ _ _ _ _ _ _ _)
   | (with_reducible exact ih2 _ _ _ _)
   | (with_reducible exact laws_eqPool.mono _ _ _ _ _)
   | (with_reducible exact laws_heldPool.mono _ _ _ _)
   | (with_reducible exact laws_markPool.mono _ _ _ _)
   | (with_reducible exact laws_toPool.mono _ _ _)
   | (with_reducible exact spec_PoolUse.mono _ _ _ _ _)
   | (with_reducible exact LeO.refl _)
   | (with_reducible exact LeO.none _)
   | (with_reducible refine LeO.ite ?_ ?_)
   | (with_reducible refine LeO.bind ?_ (fun _ => ?_))
   | exact ih0 _ _ _ _ _ _ _ _ _ _ _ _ _
   | exact ih1 _ _ _ _ _ _ _ _ _ _
   | exact ih2 _ _ _ _
   | exact laws_eqPool.mono _ _ _ _ _
   | exact laws_heldPool.mono _ _ _ _
   | exact laws_markPool.mono _ _ _ _
   | exact laws_toPool.mono _ _ _
   | exact spec_PoolUse.mono _ _ _ _ _
   | exact LeO.none _
   | refine LeO.ite ?_ ?_
   | refine LeO.bind ?_ (fun _ => ?_)
def laws_FnExactPoolUse.T5 : Bool × List (List Nat × List Nat) := (true, [([], []), ([0], [0]), ([], []), ([2, 1], [2]), ([1, 3, 3], [1, 3]), ([4], [4]), ([5], [5]), ([5], [5]), ([], []), ([8, 6, 4, 0, 1, 2, 3, 4, 5, 6, 8], [6, 8]), ([7, 9, 0, 1, 2, 3, 4, 5, 6, 7, 8, 9], [7])])
def laws_FnExactPoolUse.B5 : List Nat := [0, 1, 0, 7, 15, 31, 63, 63, 0, 383, 1023]
theorem laws_FnExactPoolUse.tab5 : rtab .any (opsOf Try.f16 5) = laws_FnExactPoolUse.T5 := by kernel_rfl
theorem laws_FnExactPoolUse.bits5 : waitsOk laws_FnExactPoolUse.T5.2 laws_FnExactPoolUse.B5 = true := by kernel_rfl
def laws_FnExactPoolUse.T7 : Bool × List (List Nat × List Nat) := (true, [([], []), ([], []), ([1], [1]), ([0, 2, 2], [0, 2]), ([3], [3]), ([4], [4]), ([4], [4]), ([], []), ([7, 5, 3, 0, 1, 2, 3, 4, 5, 7], [5, 7]), ([6, 8, 0, 1, 2, 3, 4, 5, 6, 7, 8], [6])])
def laws_FnExactPoolUse.B7 : List Nat := [0, 0, 2, 7, 15, 31, 31, 0, 191, 511]
theorem laws_FnExactPoolUse.tab7 : rtab .any (opsOf Try.f16 7) = laws_FnExactPoolUse.T7 := by kernel_rfl
theorem laws_FnExactPoolUse.bits7 : waitsOk laws_FnExactPoolUse.T7.2 laws_FnExactPoolUse.B7 = true := by kernel_rfl
def laws_FnExactPoolUse.T24 : Bool × List (List Nat × List Nat) := (true, [([], []), ([0], [0]), ([], []), ([2, 1], [2]), ([1, 3, 3], [1, 3]), ([4], [4]), ([5], [5]), ([5], [5]), ([], []), ([8, 6, 4, 0, 1, 2, 3, 4, 5, 6, 8], [6, 8]), ([7, 9, 0, 1, 2, 3, 4, 5, 6, 7, 8, 9], [7])])
def laws_FnExactPoolUse.B24 : List Nat := [0, 1, 0, 7, 15, 31, 63, 63, 0, 383, 1023]
theorem laws_FnExactPoolUse.tab24 : rtab .any (opsOf Try.f16 24) = laws_FnExactPoolUse.T24 := by kernel_rfl
theorem laws_FnExactPoolUse.bits24 : waitsOk laws_FnExactPoolUse.T24.2 laws_FnExactPoolUse.B24 = true := by kernel_rfl
end Go.Proofs.Ytcobbpghipeoeaa.R
