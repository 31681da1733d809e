/- Contracts of Go functions, printed by a program (the kit's print.py under reprint.py) and shortened (post.py): each call comes to what the plain function of its name tells. Where that tells nothing, nothing is said. -/
import Derived.Test.YtcobbpghipeoeaaR0
import Derived.Test.YtcobbpghipeoeaaR2
import Derived.Test.YtcobbpghipeoeaaR5
import Derived.Test.YtcobbpghipeoeaaR12
import Derived.Test.YtcobbpghipeoeaaGC
namespace Go.Proofs.Ytcobbpghipeoeaa.R
open Go.RowKit Go.Proofs.YtcobbpghipeoeaaV.PrintWords Go.Proofs.YtcobbpghipeoeaaV.PrintLast Go.Proofs.YtcobbpghipeoeaaV.PrintMore
attribute [local go_sem] max2_int min2_int max_two min_two max_three min_three max_four min_four   -- for this text's walks alone
set_option linter.unusedVariables false
set_option linter.unusedSimpArgs false
theorem z23_0 {P : Prop} (h : P := by repeat (first | (with_reducible first | exact HB.out | apply below_alloc | apply pw_below_drewN | apply below_drew1 | refine below_set ?_ GE673.out | refine below_set ?_ GE679.out | refine below_set ?_ GE685.out) | exact HB.out)) : P := h
theorem z23_1 {P : Prop} (h : P := by repeat (first | (with_reducible first | exact HB.out | apply below_alloc | apply pw_below_drewN | apply below_drew1 | refine below_set ?_ GE673.out | refine below_set ?_ GE679.out) | exact HB.out)) : P := h
theorem z23_2 {P : Prop} (h : P := by repeat (first | (with_reducible first | exact HB.out | apply below_alloc | apply pw_below_drewN | apply below_drew1 | refine below_set ?_ GE673.out) | exact HB.out)) : P := h
theorem z23_3 {P : Prop} (h : P := by (try simp only [List.map_toArray, List.map_cons, List.map_nil]); first | done | rfl | (simp only [List.length_drop, List.length_take]; rfl)) : P := h
theorem z23_4 {P : Prop} (h : P := by repeat (first | (with_reducible first | exact HB.out | apply below_alloc | apply pw_below_drewN | apply below_drew1) | exact HB.out)) : P := h
theorem z23_5 {P : Prop} (h : P := by (with_reducible repeat (first | refine blk_drewN ?_ _ | refine blk_drew ?_ | refine blk_alloc ?_ _)); exact BK673.out) : P := h
theorem z23_6 {P : Prop} (h : P := by (with_reducible repeat (first | refine blk_drewN ?_ _ | refine blk_drew ?_ | refine blk_alloc ?_ _)); exact BK679.out) : P := h
theorem z23_7 {P : Prop} (h : P := by (with_reducible repeat (first | refine blk_drewN ?_ _ | refine blk_drew ?_ | refine blk_alloc ?_ _)); exact BK685.out) : P := h

/-! ### laws_FnPoolNone: function 13 -/
mutual
def laws_FnPoolNone.j0 : Nat → List (S25) → Int → Bool → Int → List (S25) → Option (Bool)
 | 0, _, _, _, _, _ => none
 | k + 1, x4, x6, x40, x680000, x680001 => if x40 = true then (some false) else (laws_FnPoolNone.l0 k x4 x6 0 x680000 x680001)
def laws_FnPoolNone.l0 : Nat → List (S25) → Int → Int → Int → List (S25) → Option (Bool)
 | 0, _, _, _, _, _ => none
 | k + 1, x4, x6, x9, x680000, x680001 => if x9 < (x4.length : Int) then (if 0 ≤ x9 then ((impl_PageOk.f ((rd_T25 x4 x9).f0) ((rd_T25 x4 x9).f1)).bind fun t688 => (if t688 = true then (laws_FnPoolNone.l0 k x4 x6 (wrap64 (x9 + 1)) x680000 x680001) else (if x6 = 0 then (some ((x680001.length : Int) == 0)) else (some false)))) else (none)) else ((impl_PoolAll.f 12 ([] : List (S25)) x4).bind fun bt689 => (if x6 = (x4.length : Int) then (if (x680001.length : Int) = 0 then (if bt689.2.2 ≤ x6 then (if ((decide (bt689.2.2 > 0)) == (decide (x6 > 0))) = true then (some (decide ((bt689.2.1.length : Int) ≤ bt689.2.2))) else (some false)) else (some false)) else (some false)) else (some false)))
end
def laws_FnPoolNone.f (k : Nat) (l0 : List Int) : Option (Bool) := if (l0.length : Int) > 1048576 then (some true) else ((spec_DrawPoolAll.f k l0).bind fun bt666 => ((impl_PoolAll.f 0 ([] : List (S25)) bt666.2.2).bind fun bt674 => ((spec_PoolAll.f k 0 ([] : List (S25)) bt666.2.2).bind fun bt680 => (if bt674.2.2 = bt680.2.2 then ((impl_PoolSame.f k bt674.1 bt674.2.1 bt680.1 bt680.2.1).bind fun t686 => (laws_FnPoolNone.j0 k bt666.2.2 bt674.2.2 (!t686) bt674.1 bt674.2.1)) else (laws_FnPoolNone.j0 k bt666.2.2 bt674.2.2 true bt674.1 bt674.2.1)))))
theorem laws_FnPoolNone.mono_l : ∀ k, (∀ y0 y1 y2 y3 y4, LeO (laws_FnPoolNone.j0 k y0 y1 y2 y3 y4) (laws_FnPoolNone.j0 (k + 1) y0 y1 y2 y3 y4)) ∧ (∀ y0 y1 y2 y3 y4, LeO (laws_FnPoolNone.l0 k y0 y1 y2 y3 y4) (laws_FnPoolNone.l0 (k + 1) y0 y1 y2 y3 y4))
 | 0 => ⟨fun _ _ _ _ _ r h => by simp [laws_FnPoolNone.j0] at h, fun _ _ _ _ _ r h => by simp [laws_FnPoolNone.l0] at h⟩
 | k + 1 => by
  obtain ⟨ih0, ih1⟩ := laws_FnPoolNone.mono_l k
  refine ⟨?_, ?_⟩
  ·intro y0 y1 y2 y3 y4
   unfold laws_FnPoolNone.j0
   repeat' first
   | (with_reducible exact ih0 _ _ _ _ _)
   | (with_reducible exact ih1 _ _ _ _ _)
   | (with_reducible exact impl_PoolSame.mono _ _ _ _ _)
   | (with_reducible exact spec_DrawPoolAll.mono _ _)
   | (with_reducible exact spec_PoolAll.mono _ _ _ _)
   | (with_reducible exact LeO.refl _)
   | (with_reducible exact LeO.none _)
   | (with_reducible refine LeO.ite ?_ ?_)
   | (with_reducible refine LeO.bind ?_ (fun _ => ?_))
   | exact ih0 _ _ _ _ _
   | exact ih1 _ _ _ _ _
   | exact impl_PoolSame.mono _ _ _ _ _
   | exact spec_DrawPoolAll.mono _ _
   | exact spec_PoolAll.mono _ _ _ _
   | exact LeO.none _
   | refine LeO.ite ?_ ?_
   | refine LeO.bind ?_ (fun _ => ?_)
  ·intro y0 y1 y2 y3 y4
   unfold laws_FnPoolNone.l0
   repeat' first
   | (with_reducible exact ih0 _ _ _ _ _)
   | (with_reducible exact ih1 _ _ _ _ _)
   | (with_reducible exact impl_PoolSame.mono _ _ _ _ _)
   | (with_reducible exact spec_DrawPoolAll.mono _ _)
   | (with_reducible exact spec_PoolAll.mono _ _ _ _)
   | (with_reducible exact LeO.refl _)
   | (with_reducible exact LeO.none _)
   | (with_reducible refine LeO.ite ?_ ?_)
   | (with_reducible refine LeO.bind ?_ (fun _ => ?_))
   | exact ih0 _ _ _ _ _
   | exact ih1 _ _ _ _ _
   | exact impl_PoolSame.mono _ _ _ _ _
   | exact spec_DrawPoolAll.mono _ _
   | exact spec_PoolAll.mono _ _ _ _
   | exact LeO.none _
   | refine LeO.ite ?_ ?_
   | refine LeO.bind ?_ (fun _ => ?_)
theorem laws_FnPoolNone.mono : ∀ a0 k, LeO (laws_FnPoolNone.f k a0) (laws_FnPoolNone.f (k + 1) a0) := by
 intro a0 k
 obtain ⟨ih0, ih1⟩ := laws_FnPoolNone.mono_l k
 unfold laws_FnPoolNone.f
 repeat' first
   | (with_reducible exact ih0 _ _ _ _ _)
   | (with_reducible exact ih1 _ _ _ _ _)
   | (with_reducible exact impl_PoolSame.mono _ _ _ _ _)
   | (with_reducible exact spec_DrawPoolAll.mono _ _)
   | (with_reducible exact spec_PoolAll.mono _ _ _ _)
   | (with_reducible exact LeO.refl _)
   | (with_reducible exact LeO.none _)
   | (with_reducible refine LeO.ite ?_ ?_)
   | (with_reducible refine LeO.bind ?_ (fun _ => ?_))
   | exact ih0 _ _ _ _ _
   | exact ih1 _ _ _ _ _
   | exact impl_PoolSame.mono _ _ _ _ _
   | exact spec_DrawPoolAll.mono _ _
   | exact spec_PoolAll.mono _ _ _ _
   | exact LeO.none _
   | refine LeO.ite ?_ ?_
   | refine LeO.bind ?_ (fun _ => ?_)
set_option maxHeartbeats 8000000 in
set_option maxRecDepth 100000 in
theorem laws_FnPoolNone.calls (k : Nat) (A0 : Option Addr) (c0 : Nat) (l0 : List Int) (r : Bool) (w : World) (hr0 : Kd.C (Kd.int .u8) w A0 l0.length l0) (hc0 : l0.length ≤ c0) (hT : r = true) (h : laws_FnPoolNone.f k l0 = some r) :
  Calls Try.prog 13 #[.slice A0 l0.length c0] w fun e w' => e = .returned (.bool r) ∧ Below w.heap.size w w' := by
 have hu46 := Try.underlying46
 have hu25 := Try.underlying25
 have HR0 := Aside0.mk hr0
 have HC0 := Aside0.mk hc0
 clear hr0 hc0
 have HB := Aside0.mk (Below.refl w.heap.size w)
 have H : (if (l0.length : Int) > 1048576 then (some true) else ((spec_DrawPoolAll.f k l0).bind fun bt666 => ((impl_PoolAll.f 0 ([] : List (S25)) bt666.2.2).bind fun bt674 => ((spec_PoolAll.f k 0 ([] : List (S25)) bt666.2.2).bind fun bt680 => (if bt674.2.2 = bt680.2.2 then ((impl_PoolSame.f k bt674.1 bt674.2.1 bt680.1 bt680.2.1).bind fun t686 => (laws_FnPoolNone.j0 k bt666.2.2 bt674.2.2 (!t686) bt674.1 bt674.2.1)) else (laws_FnPoolNone.j0 k bt666.2.2 bt674.2.2 true bt674.1 bt674.2.1)))))) = some r := h
 clear h
 by_cases c2 : (l0.length : Int) > 1048576
 ·rw [if_pos c2] at H
  have c2b0 : decide (1048576 < (l0.length : Int)) = true := decide_eq_true c2
  have c2b1 : decide (1048576 < l0.length) = true := decide_eq_true (by omega)
  clear c2
  obtain rfl := Option.some.inj H
  go_enter Try.func13, Try.ntmps13
  go_wp2
  go_ret
  exact ⟨by first | rfl | (simp [errW_none, errW_some] <;> rfl) | (simp [*, errW_none, errW_some] <;> rfl), by repeat (first | (with_reducible first | exact HB.out | apply below_alloc | apply pw_below_drewN | apply below_drew1) | exact HB.out)⟩
 ·rw [if_neg c2] at H
  have c2b0 : decide (1048576 < (l0.length : Int)) = false := decide_eq_false c2
  have c2b1 : decide (1048576 < l0.length) = false := decide_eq_false (by omega)
  clear c2
  replace H := Option.bind_eq_some_iff.mp H
  obtain ⟨⟨t666, t667, t670⟩, A30, H⟩ := H
  replace H : ((impl_PoolAll.f 0 ([] : List (S25)) t670).bind fun bt674 => ((spec_PoolAll.f k 0 ([] : List (S25)) t670).bind fun bt680 => (if bt674.2.2 = bt680.2.2 then ((impl_PoolSame.f k bt674.1 bt674.2.1 bt680.1 bt680.2.1).bind fun t686 => (laws_FnPoolNone.j0 k t670 bt674.2.2 (!t686) bt674.1 bt674.2.1)) else (laws_FnPoolNone.j0 k t670 bt674.2.2 true bt674.1 bt674.2.1)))) = some r := H
  have A3 := Aside0.mk A30
  clear A30
  replace H := Option.bind_eq_some_iff.mp H
  obtain ⟨⟨t674, t675, t678⟩, A40, H⟩ := H
  replace H : ((spec_PoolAll.f k 0 ([] : List (S25)) t670).bind fun bt680 => (if t678 = bt680.2.2 then ((impl_PoolSame.f k t674 t675 bt680.1 bt680.2.1).bind fun t686 => (laws_FnPoolNone.j0 k t670 t678 (!t686) t674 t675)) else (laws_FnPoolNone.j0 k t670 t678 true t674 t675))) = some r := H
  have A4 := Aside0.mk A40
  clear A40
  replace H := Option.bind_eq_some_iff.mp H
  obtain ⟨⟨t680, t681, t684⟩, A50, H⟩ := H
  replace H : (if t678 = t684 then ((impl_PoolSame.f k t674 t675 t680 t681).bind fun t686 => (laws_FnPoolNone.j0 k t670 t678 (!t686) t674 t675)) else (laws_FnPoolNone.j0 k t670 t678 true t674 t675)) = some r := H
  have A5 := Aside0.mk A50
  clear A50
  have HC6 := Aside0.mk H
  clear H
  go_enter Try.func13, Try.ntmps13
  go_upto_region 6 with (first | ((with_reducible refine gate_callee (f := 44) rfl ?_); refine goesL_ (some 17) rfl rfl Try.func44 (by kernel_rfl) rfl #[.slice A0 l0.length c0] rfl (z23_3) ?_; (with_reducible refine (spec_DrawPoolAll.calls k _ _ l0 t666 t667 t670 _ ?side1 ?side2 A3.out).mono ?_); (case side1 => repeat (first | exact HR0.out | (with_reducible refine Kd.C_alloc ?_ _) | (with_reducible refine Kd.C_drewN ?_ _) | (with_reducible refine Kd.C_drew ?_))); (case side2 => exact HC0.out); rintro e w7 ⟨v668, v671, rfl, ho0, ho1, hb⟩; refine ⟨_, rfl, ?_⟩; have n0_ := Aside0.mk (Kd.R_lower ho0 (below_size (z23_4))); have n1_ := Aside0.mk (Kd.R_lower ho1 (below_size (z23_4))); have n2_ := Aside0.mk (below_step (z23_4) hb); clear HB; have HO669 := n0_; have HO672 := n1_; have HB := n2_; clear n0_ n1_ n2_; (try clear hb); (try clear hb2); (try clear hk); (try clear hi); (try clear ho0); (try clear ho1)) | ((with_reducible refine gate_dst (N := 3) rfl ?_); (try (refine gate_guard (by rfl) ?_; dsimp only)); refine box_event ?hg (N := 3) ?hd (cs := #[.int .i64 0, .slice none 0 0]) (t := 46) ?hr ?_; (case hd => rfl); (case hg => rfl); (case hr => first | (go_simp; done) | (go_simp; rfl)); intro gb673 hg w8 hbox hb; have n0_ := Aside0.mk (Kd.R_below (by (with_reducible repeat (first | apply Kd.R_alloc | apply Kd.R_drewN | apply Kd.R_drew)); exact HO669.out) hb); have n1_ := Aside0.mk (Kd.R_below (by (with_reducible repeat (first | apply Kd.R_alloc | apply Kd.R_drewN | apply Kd.R_drew)); exact HO672.out) hb); have n2_ := Aside0.mk (below_step (z23_4) hb); have n3_ := Aside0.mk (hbox); have n4_ := Aside0.mk ((by rw [hg]; exact (below_size (z23_4)) : w.heap.size ≤ gb673)); have n5_ := Aside0.mk ((by rw [hg]; exact (below_size (z23_4)) : w.heap.size ≤ gb673)); clear HO669; clear HO672; clear HB; have HO669 := n0_; have HO672 := n1_; have HB := n2_; have BK673 := n3_; have GW673 := n4_; have GE673 := n5_; clear n0_ n1_ n2_ n3_ n4_ n5_; clear hb hbox hg; have hcz9_0 : w8.cell? ⟨gb673, 0, none⟩ = some (.int .i64 0) := (blk_cell BK673.out 0).trans rfl; have hcz9_1 : w8.cell? ⟨gb673, 1, none⟩ = some (.slice none 0 0) := (blk_cell BK673.out 1).trans rfl; have hfz9_0 := blk_frozen BK673.out 0; have hfz9_1 := blk_frozen BK673.out 1; obtain ⟨Ao10, co10, eo10⟩ := Kd.R_slice HO669.out; subst eo10; obtain ⟨Ao11, co11, eo11⟩ := Kd.R_slice HO672.out; subst eo11) | ((with_reducible refine gate_callee (f := 45) rfl ?_); refine goesL_ (some 23) rfl rfl Try.func45 (by kernel_rfl) rfl #[.agg #[.int .i64 0, .slice none 0 0], .slice Ao11 t670.length co11] rfl (z23_3) ?_; (refine (impl_PoolAll.calls 0 _ _ ([] : List (S25)) _ _ t670 t674 t675 t678 _ ?side1 ?side2 ?side3 ?side4 A4.out).mono ?_); (case side1 => exact Kd.C_nil _ _); (case side2 => exact Nat.le_refl _); (case side3 => refine (Kd.R_reads' (e := 25) (base := w.heap.size) (ok := fun k_ => some k_ ≠ (.slice Ao10 t667.length co10 : Value).ownBlock) (n := t670.length) (c := co11) ?_).2.2; exact (by (with_reducible repeat (first | apply Kd.R_alloc | apply Kd.R_drewN | apply Kd.R_drew)); exact (Kd.R_mono (Kd.R_far (p := ⟨gb673, 1, none⟩) (Kd.R_far (p := ⟨gb673, 0, none⟩) (Kd.R_types HO672.out BK673.out (by decide)) (fun _ hk => hk.2) (.int .i64 t666)) (fun _ hk => hk.2) (.slice Ao10 t667.length co10)) (fun _ h_ => h_.1)))); (case side4 => exact (Kd.R_reads' HO672.out).2.1); rintro e w12 ⟨v676, rfl, ho0, hb⟩; refine ⟨_, rfl, ?_⟩; have n0_ := Aside0.mk (Kd.R_elder' (by (with_reducible repeat (first | apply Kd.R_alloc | apply Kd.R_drewN | apply Kd.R_drew)); exact (Kd.R_mono (Kd.R_far (p := ⟨gb673, 1, none⟩) (Kd.R_far (p := ⟨gb673, 0, none⟩) (Kd.R_types HO669.out BK673.out (by decide)) (fun _ hk => hk.2) (.int .i64 t666)) (fun _ hk => hk.2) (.slice Ao10 t667.length co10)) (fun _ h_ => h_.1))) (Kd.R_base ho0) hb); have n1_ := Aside0.mk (Kd.R_elder' (by (with_reducible repeat (first | apply Kd.R_alloc | apply Kd.R_drewN | apply Kd.R_drew)); exact (Kd.R_mono (Kd.R_far (p := ⟨gb673, 1, none⟩) (Kd.R_far (p := ⟨gb673, 0, none⟩) (Kd.R_types HO672.out BK673.out (by decide)) (fun _ hk => hk.2) (.int .i64 t666)) (fun _ hk => hk.2) (.slice Ao10 t667.length co10)) (fun _ h_ => h_.1))) (Kd.R_base ho0) hb); have n2_ := Aside0.mk (Kd.R_lower (Kd.R_new' (Kd.R_new' ho0 (Kd.R_lt (by (with_reducible repeat (first | apply Kd.R_alloc | apply Kd.R_drewN | apply Kd.R_drew)); exact (Kd.R_mono (Kd.R_far (p := ⟨gb673, 1, none⟩) (Kd.R_far (p := ⟨gb673, 0, none⟩) (Kd.R_types HO669.out BK673.out (by decide)) (fun _ hk => hk.2) (.int .i64 t666)) (fun _ hk => hk.2) (.slice Ao10 t667.length co10)) (fun _ h_ => h_.1))))) (Kd.R_lt (by (with_reducible repeat (first | apply Kd.R_alloc | apply Kd.R_drewN | apply Kd.R_drew)); exact (Kd.R_mono (Kd.R_far (p := ⟨gb673, 1, none⟩) (Kd.R_far (p := ⟨gb673, 0, none⟩) (Kd.R_types HO672.out BK673.out (by decide)) (fun _ hk => hk.2) (.int .i64 t666)) (fun _ hk => hk.2) (.slice Ao10 t667.length co10)) (fun _ h_ => h_.1))))) (below_size (z23_2))); have n3_ := Aside0.mk (blk_below (g := gb673) (o := .cells #[.int .i64 t666, .slice Ao10 t667.length co10] 46 (0, 0)) (by (with_reducible repeat (first | refine blk_drewN ?_ _ | refine blk_drew ?_ | refine blk_alloc ?_ _)); refine blk_put (cs := #[.int .i64 t666, .slice none 0 0]) ?_ 1 _ rfl; (with_reducible repeat (first | refine blk_drewN ?_ _ | refine blk_drew ?_ | refine blk_alloc ?_ _)); refine blk_put (cs := #[.int .i64 0, .slice none 0 0]) ?_ 0 _ rfl; (with_reducible repeat (first | refine blk_drewN ?_ _ | refine blk_drew ?_ | refine blk_alloc ?_ _)); exact BK673.out) hb); have n4_ := Aside0.mk (below_step (z23_2) hb); clear HO669; clear HO672; clear BK673; clear HB; have HO669 := n0_; have HO672 := n1_; have HO677 := n2_; have BK673 := n3_; have HB := n4_; clear n0_ n1_ n2_ n3_ n4_; (try clear hb); (try clear hb2); (try clear hk); (try clear hi); (try clear ho0)) | ((with_reducible refine gate_dst (N := 5) rfl ?_); (try (refine gate_guard (by rfl) ?_; dsimp only)); refine box_event ?hg (N := 5) ?hd (cs := #[.int .i64 0, .slice none 0 0]) (t := 46) ?hr ?_; (case hd => rfl); (case hg => rfl); (case hr => first | (go_simp; done) | (go_simp; rfl)); intro gb679 hg w13 hbox hb; have n0_ := Aside0.mk (Kd.R_below (by (with_reducible repeat (first | apply Kd.R_alloc | apply Kd.R_drewN | apply Kd.R_drew)); exact HO669.out) hb); have n1_ := Aside0.mk (Kd.R_below (by (with_reducible repeat (first | apply Kd.R_alloc | apply Kd.R_drewN | apply Kd.R_drew)); exact HO672.out) hb); have n2_ := Aside0.mk (Kd.R_below (by (with_reducible repeat (first | apply Kd.R_alloc | apply Kd.R_drewN | apply Kd.R_drew)); exact HO677.out) hb); have n3_ := Aside0.mk (blk_below (g := gb673) (o := .cells #[.int .i64 t666, .slice Ao10 t667.length co10] 46 (0, 0)) (z23_5) hb); have n4_ := Aside0.mk (below_step (z23_2) hb); have n5_ := Aside0.mk (hbox); have n6_ := Aside0.mk ((by rw [hg]; exact (below_size (z23_2)) : w.heap.size ≤ gb679)); have n7_ := Aside0.mk ((by rw [hg]; exact (below_size (z23_2)) : w.heap.size ≤ gb679)); have n8_ := Aside0.mk ((by rw [hg]; exact Nat.ne_of_lt (blk_lt (g := gb673) (o := .cells #[.int .i64 t666, .slice Ao10 t667.length co10] 46 (0, 0)) (z23_5)) : gb673 ≠ gb679)); have n9_ := Aside0.mk ((by rw [hg]; exact Nat.ne_of_gt (blk_lt (g := gb673) (o := .cells #[.int .i64 t666, .slice Ao10 t667.length co10] 46 (0, 0)) (z23_5)) : gb679 ≠ gb673)); clear HO669; clear HO672; clear HO677; clear BK673; clear HB; have HO669 := n0_; have HO672 := n1_; have HO677 := n2_; have BK673 := n3_; have HB := n4_; have BK679 := n5_; have GW679 := n6_; have GE679 := n7_; have NB673_679 := n8_; have NB679_673 := n9_; clear n0_ n1_ n2_ n3_ n4_ n5_ n6_ n7_ n8_ n9_; clear hb hbox hg; have hnb14 := NB679_673.out; have hnc14 := NB673_679.out; have hcz15_0 : w13.cell? ⟨gb679, 0, none⟩ = some (.int .i64 0) := (blk_cell BK679.out 0).trans rfl; have hcz15_1 : w13.cell? ⟨gb679, 1, none⟩ = some (.slice none 0 0) := (blk_cell BK679.out 1).trans rfl; have hfz15_0 := blk_frozen BK679.out 0; have hfz15_1 := blk_frozen BK679.out 1; obtain ⟨Ao16, co16, eo16⟩ := Kd.R_slice HO677.out; subst eo16) | ((with_reducible refine gate_callee (f := 46) rfl ?_); refine goesL_ (some 29) rfl rfl Try.func46 (by kernel_rfl) rfl #[.agg #[.int .i64 0, .slice none 0 0], .slice Ao11 t670.length co11] rfl (z23_3) ?_; (refine (spec_PoolAll.calls k 0 _ _ ([] : List (S25)) _ _ t670 t680 t681 t684 _ ?side1 ?side2 ?side3 ?side4 A5.out).mono ?_); (case side1 => exact Kd.C_nil _ _); (case side2 => exact Nat.le_refl _); (case side3 => refine (Kd.R_reads' (e := 25) (base := w.heap.size) (ok := fun k_ => (some k_ ≠ (.slice Ao10 t667.length co10 : Value).ownBlock ∧ some k_ ≠ (.slice Ao16 t675.length co16 : Value).ownBlock)) (n := t670.length) (c := co11) ?_).2.2; exact (by (with_reducible repeat (first | apply Kd.R_alloc | apply Kd.R_drewN | apply Kd.R_drew)); exact (Kd.R_mono (Kd.R_far (p := ⟨gb679, 1, none⟩) (Kd.R_far (p := ⟨gb679, 0, none⟩) (Kd.R_types HO672.out BK679.out (by decide)) (fun _ hk => hk.2) (.int .i64 t674)) (fun _ hk => hk.2) (.slice Ao16 t675.length co16)) (fun _ h_ => h_.1)))); (case side4 => exact (Kd.R_reads' HO672.out).2.1); rintro e w17 ⟨v682, rfl, ho0, hb⟩; refine ⟨_, rfl, ?_⟩; have n0_ := Aside0.mk (Kd.R_elder' (by (with_reducible repeat (first | apply Kd.R_alloc | apply Kd.R_drewN | apply Kd.R_drew)); exact (Kd.R_mono (Kd.R_far (p := ⟨gb679, 1, none⟩) (Kd.R_far (p := ⟨gb679, 0, none⟩) (Kd.R_types HO669.out BK679.out (by decide)) (fun _ hk => hk.2) (.int .i64 t674)) (fun _ hk => hk.2) (.slice Ao16 t675.length co16)) (fun _ h_ => h_.1))) (Kd.R_base ho0) hb); have n1_ := Aside0.mk (Kd.R_elder' (by (with_reducible repeat (first | apply Kd.R_alloc | apply Kd.R_drewN | apply Kd.R_drew)); exact (Kd.R_mono (Kd.R_far (p := ⟨gb679, 1, none⟩) (Kd.R_far (p := ⟨gb679, 0, none⟩) (Kd.R_types HO672.out BK679.out (by decide)) (fun _ hk => hk.2) (.int .i64 t674)) (fun _ hk => hk.2) (.slice Ao16 t675.length co16)) (fun _ h_ => h_.1))) (Kd.R_base ho0) hb); have n2_ := Aside0.mk (Kd.R_elder' (by (with_reducible repeat (first | apply Kd.R_alloc | apply Kd.R_drewN | apply Kd.R_drew)); exact (Kd.R_mono (Kd.R_far (p := ⟨gb679, 1, none⟩) (Kd.R_far (p := ⟨gb679, 0, none⟩) (Kd.R_types HO677.out BK679.out (by decide)) (fun _ hk => hk.2) (.int .i64 t674)) (fun _ hk => hk.2) (.slice Ao16 t675.length co16)) (fun _ h_ => h_.1))) (Kd.R_base ho0) hb); have n3_ := Aside0.mk (Kd.R_lower (Kd.R_new' (Kd.R_new' (Kd.R_new' ho0 (Kd.R_lt (by (with_reducible repeat (first | apply Kd.R_alloc | apply Kd.R_drewN | apply Kd.R_drew)); exact (Kd.R_mono (Kd.R_far (p := ⟨gb679, 1, none⟩) (Kd.R_far (p := ⟨gb679, 0, none⟩) (Kd.R_types HO669.out BK679.out (by decide)) (fun _ hk => hk.2) (.int .i64 t674)) (fun _ hk => hk.2) (.slice Ao16 t675.length co16)) (fun _ h_ => h_.1))))) (Kd.R_lt (by (with_reducible repeat (first | apply Kd.R_alloc | apply Kd.R_drewN | apply Kd.R_drew)); exact (Kd.R_mono (Kd.R_far (p := ⟨gb679, 1, none⟩) (Kd.R_far (p := ⟨gb679, 0, none⟩) (Kd.R_types HO672.out BK679.out (by decide)) (fun _ hk => hk.2) (.int .i64 t674)) (fun _ hk => hk.2) (.slice Ao16 t675.length co16)) (fun _ h_ => h_.1))))) (Kd.R_lt (by (with_reducible repeat (first | apply Kd.R_alloc | apply Kd.R_drewN | apply Kd.R_drew)); exact (Kd.R_mono (Kd.R_far (p := ⟨gb679, 1, none⟩) (Kd.R_far (p := ⟨gb679, 0, none⟩) (Kd.R_types HO677.out BK679.out (by decide)) (fun _ hk => hk.2) (.int .i64 t674)) (fun _ hk => hk.2) (.slice Ao16 t675.length co16)) (fun _ h_ => h_.1))))) (below_size (z23_1))); have n4_ := Aside0.mk (blk_below (g := gb673) (o := .cells #[.int .i64 t666, .slice Ao10 t667.length co10] 46 (0, 0)) (by (with_reducible repeat (first | refine blk_drewN ?_ _ | refine blk_drew ?_ | refine blk_alloc ?_ _)); refine blk_far ?_ NB673_679.out _; (with_reducible repeat (first | refine blk_drewN ?_ _ | refine blk_drew ?_ | refine blk_alloc ?_ _)); refine blk_far ?_ NB673_679.out _; (with_reducible repeat (first | refine blk_drewN ?_ _ | refine blk_drew ?_ | refine blk_alloc ?_ _)); exact BK673.out) hb); have n5_ := Aside0.mk (blk_below (g := gb679) (o := .cells #[.int .i64 t674, .slice Ao16 t675.length co16] 46 (0, 0)) (by (with_reducible repeat (first | refine blk_drewN ?_ _ | refine blk_drew ?_ | refine blk_alloc ?_ _)); refine blk_put (cs := #[.int .i64 t674, .slice none 0 0]) ?_ 1 _ rfl; (with_reducible repeat (first | refine blk_drewN ?_ _ | refine blk_drew ?_ | refine blk_alloc ?_ _)); refine blk_put (cs := #[.int .i64 0, .slice none 0 0]) ?_ 0 _ rfl; (with_reducible repeat (first | refine blk_drewN ?_ _ | refine blk_drew ?_ | refine blk_alloc ?_ _)); exact BK679.out) hb); have n6_ := Aside0.mk (below_step (z23_1) hb); clear HO669; clear HO672; clear HO677; clear BK673; clear BK679; clear HB; have HO669 := n0_; have HO672 := n1_; have HO677 := n2_; have HO683 := n3_; have BK673 := n4_; have BK679 := n5_; have HB := n6_; clear n0_ n1_ n2_ n3_ n4_ n5_ n6_; (try clear hb); (try clear hb2); (try clear hk); (try clear hi); (try clear ho0)) | ((with_reducible refine gate_dst (N := 7) rfl ?_); (try (refine gate_guard (by rfl) ?_; dsimp only)); refine box_event ?hg (N := 7) ?hd (cs := #[.int .i64 0, .slice none 0 0]) (t := 46) ?hr ?_; (case hd => rfl); (case hg => rfl); (case hr => first | (go_simp; done) | (go_simp; rfl)); intro gb685 hg w18 hbox hb; have n0_ := Aside0.mk (Kd.R_below (by (with_reducible repeat (first | apply Kd.R_alloc | apply Kd.R_drewN | apply Kd.R_drew)); exact HO669.out) hb); have n1_ := Aside0.mk (Kd.R_below (by (with_reducible repeat (first | apply Kd.R_alloc | apply Kd.R_drewN | apply Kd.R_drew)); exact HO672.out) hb); have n2_ := Aside0.mk (Kd.R_below (by (with_reducible repeat (first | apply Kd.R_alloc | apply Kd.R_drewN | apply Kd.R_drew)); exact HO677.out) hb); have n3_ := Aside0.mk (Kd.R_below (by (with_reducible repeat (first | apply Kd.R_alloc | apply Kd.R_drewN | apply Kd.R_drew)); exact HO683.out) hb); have n4_ := Aside0.mk (blk_below (g := gb673) (o := .cells #[.int .i64 t666, .slice Ao10 t667.length co10] 46 (0, 0)) (z23_5) hb); have n5_ := Aside0.mk (blk_below (g := gb679) (o := .cells #[.int .i64 t674, .slice Ao16 t675.length co16] 46 (0, 0)) (z23_6) hb); have n6_ := Aside0.mk (below_step (z23_1) hb); have n7_ := Aside0.mk (hbox); have n8_ := Aside0.mk ((by rw [hg]; exact (below_size (z23_1)) : w.heap.size ≤ gb685)); have n9_ := Aside0.mk ((by rw [hg]; exact (below_size (z23_1)) : w.heap.size ≤ gb685)); have n10_ := Aside0.mk ((by rw [hg]; exact Nat.ne_of_lt (blk_lt (g := gb673) (o := .cells #[.int .i64 t666, .slice Ao10 t667.length co10] 46 (0, 0)) (z23_5)) : gb673 ≠ gb685)); have n11_ := Aside0.mk ((by rw [hg]; exact Nat.ne_of_gt (blk_lt (g := gb673) (o := .cells #[.int .i64 t666, .slice Ao10 t667.length co10] 46 (0, 0)) (z23_5)) : gb685 ≠ gb673)); have n12_ := Aside0.mk ((by rw [hg]; exact Nat.ne_of_lt (blk_lt (g := gb679) (o := .cells #[.int .i64 t674, .slice Ao16 t675.length co16] 46 (0, 0)) (z23_6)) : gb679 ≠ gb685)); have n13_ := Aside0.mk ((by rw [hg]; exact Nat.ne_of_gt (blk_lt (g := gb679) (o := .cells #[.int .i64 t674, .slice Ao16 t675.length co16] 46 (0, 0)) (z23_6)) : gb685 ≠ gb679)); clear HO669; clear HO672; clear HO677; clear HO683; clear BK673; clear BK679; clear HB; have HO669 := n0_; have HO672 := n1_; have HO677 := n2_; have HO683 := n3_; have BK673 := n4_; have BK679 := n5_; have HB := n6_; have BK685 := n7_; have GW685 := n8_; have GE685 := n9_; have NB673_685 := n10_; have NB685_673 := n11_; have NB679_685 := n12_; have NB685_679 := n13_; clear n0_ n1_ n2_ n3_ n4_ n5_ n6_ n7_ n8_ n9_ n10_ n11_ n12_ n13_; clear hb hbox hg; have hnb19 := NB685_673.out; have hnc19 := NB673_685.out; have hnb20 := NB685_679.out; have hnc20 := NB679_685.out; have hcz21_0 : w18.cell? ⟨gb685, 0, none⟩ = some (.int .i64 0) := (blk_cell BK685.out 0).trans rfl; have hcz21_1 : w18.cell? ⟨gb685, 1, none⟩ = some (.slice none 0 0) := (blk_cell BK685.out 1).trans rfl; have hfz21_0 := blk_frozen BK685.out 0; have hfz21_1 := blk_frozen BK685.out 1; obtain ⟨Ao22, co22, eo22⟩ := Kd.R_slice HO683.out; subst eo22))
  (try simp only [Act.put, List.setIfInBounds_toArray, List.set_cons_zero, List.set_cons_succ])
  go_cut [40] (fun v40 wc => ∃ (kq : Nat) (x40_5 : Bool), v40 = .bool x40_5 ∧ Aside0 (laws_FnPoolNone.j0 kq t670 t678 x40_5 t674 t675 = some r) ∧ Aside0 (kq ≤ k) ∧ Aside0 (Kd.R k25 25 wc w.heap.size (fun k_ => some k_ ≠ ((.slice Ao10 t667.length co10) : Value).ownBlock ∧ some k_ ≠ ((.slice Ao16 t675.length co16) : Value).ownBlock ∧ some k_ ≠ ((.slice Ao22 t681.length co22) : Value).ownBlock) (.slice Ao11 t670.length co11) t670) ∧ Aside0 (Kd.R k25 25 wc w.heap.size (fun k_ => some k_ ≠ ((.slice Ao11 t670.length co11) : Value).ownBlock ∧ some k_ ≠ ((.slice Ao16 t675.length co16) : Value).ownBlock ∧ some k_ ≠ ((.slice Ao22 t681.length co22) : Value).ownBlock) (.slice Ao10 t667.length co10) t667) ∧ Aside0 (Kd.R k25 25 wc w.heap.size (fun k_ => some k_ ≠ ((.slice Ao11 t670.length co11) : Value).ownBlock ∧ some k_ ≠ ((.slice Ao10 t667.length co10) : Value).ownBlock ∧ some k_ ≠ ((.slice Ao22 t681.length co22) : Value).ownBlock) (.slice Ao16 t675.length co16) t675) ∧ Aside0 (Kd.R k25 25 wc w.heap.size (fun k_ => some k_ ≠ ((.slice Ao11 t670.length co11) : Value).ownBlock ∧ some k_ ≠ ((.slice Ao10 t667.length co10) : Value).ownBlock ∧ some k_ ≠ ((.slice Ao16 t675.length co16) : Value).ownBlock) (.slice Ao22 t681.length co22) t681) ∧ Aside0 (wc.heap[gb673]? = some (.cells #[.int .i64 t666, (.slice Ao10 t667.length co10)] 46 (0, 0))) ∧ Aside0 (wc.heap[gb679]? = some (.cells #[.int .i64 t674, (.slice Ao16 t675.length co16)] 46 (0, 0))) ∧ Aside0 (wc.heap[gb685]? = some (.cells #[.int .i64 t680, (.slice Ao22 t681.length co22)] 46 (0, 0))) ∧ Aside0 (Below w.heap.size w wc))
  case first =>
   have H := HC6.out
   clear HC6
   by_cases c23 : t678 = t684
   ·rw [if_pos c23] at H
    have c23b0 : (t678 == t684) = true := beq_iff_eq.mpr c23
    have c23b1 : (t678 != t684) = false := bne_eq_false_iff_eq.mpr c23
    clear c23
    (first | rw [c23b0] | (simp only [i64_w, i32_w]; rw [c23b0]) | skip)
    replace H := Option.bind_eq_some_iff.mp H
    obtain ⟨t686, A240, H⟩ := H
    replace H : (laws_FnPoolNone.j0 k t670 t678 (!t686) t674 t675) = some r := H
    have A24 := Aside0.mk A240
    clear A240
    have H' := Aside0.mk H
    clear H
    have hnb25 := NB679_673.out
    have hnc25 := NB673_679.out
    have hnb26 := NB679_685.out
    have hnc26 := NB685_679.out
    have hcz27_0 : w18.cell? ⟨gb679, 0, none⟩ = some (.int .i64 t674) := (blk_cell BK679.out 0).trans rfl
    have hcz27_1 : w18.cell? ⟨gb679, 1, none⟩ = some (.slice Ao16 t675.length co16) := (blk_cell BK679.out 1).trans rfl
    have hfz27_0 := blk_frozen BK679.out 0
    have hfz27_1 := blk_frozen BK679.out 1
    have hnb28 := NB685_673.out
    have hnc28 := NB673_685.out
    have hcz29_0 : w18.cell? ⟨gb685, 0, none⟩ = some (.int .i64 0) := (blk_cell BK685.out 0).trans rfl
    have hcz29_1 : w18.cell? ⟨gb685, 1, none⟩ = some (.slice none 0 0) := (blk_cell BK685.out 1).trans rfl
    have hfz29_0 := blk_frozen BK685.out 0
    have hfz29_1 := blk_frozen BK685.out 1
    go_wp2_with (first | (go_at_call 35; (with_reducible refine (impl_PoolSame.calls k t674 _ _ t675 t680 _ _ t681 t686 _ ?side1 ?side2 ?side3 ?side4 A24.out).mono ?_); (case side1 => refine (Kd.R_reads' (e := 25) (base := w.heap.size) (ok := fun k_ => (((True ∧ some k_ ≠ (.slice Ao10 t667.length co10 : Value).ownBlock) ∧ some k_ ≠ (.slice Ao11 t670.length co11 : Value).ownBlock) ∧ some k_ ≠ (.slice Ao22 t681.length co22 : Value).ownBlock)) (n := t675.length) (c := co16) ?_).2.2; exact (by (with_reducible repeat (first | apply Kd.R_alloc | apply Kd.R_drewN | apply Kd.R_drew)); exact (Kd.R_mono (Kd.R_far (p := ⟨gb685, 1, none⟩) (Kd.R_far (p := ⟨gb685, 0, none⟩) (Kd.R_types HO677.out BK685.out (by decide)) (fun _ hk => hk.2) (.int .i64 t680)) (fun _ hk => hk.2) (.slice Ao22 t681.length co22)) (fun _ h_ => h_.1)))); (case side2 => exact (Kd.R_reads' HO677.out).2.1); (case side3 => refine (Kd.R_reads' (e := 25) (base := w.heap.size) (ok := fun k_ => (((True ∧ some k_ ≠ (.slice Ao10 t667.length co10 : Value).ownBlock) ∧ some k_ ≠ (.slice Ao11 t670.length co11 : Value).ownBlock) ∧ some k_ ≠ (.slice Ao16 t675.length co16 : Value).ownBlock)) (n := t681.length) (c := co22) ?_).2.2; exact (by (with_reducible repeat (first | apply Kd.R_alloc | apply Kd.R_drewN | apply Kd.R_drew)); exact (Kd.R_mono (Kd.R_far (p := ⟨gb685, 1, none⟩) (Kd.R_far (p := ⟨gb685, 0, none⟩) (Kd.R_types HO683.out BK685.out (by decide)) (fun _ hk => hk.2) (.int .i64 t680)) (fun _ hk => hk.2) (.slice Ao22 t681.length co22)) (fun _ h_ => h_.1)))); (case side4 => exact (Kd.R_reads' HO683.out).2.1); rintro e w30 ⟨rfl, hb⟩; have n0_ := Aside0.mk (Kd.R_below (by (with_reducible repeat (first | apply Kd.R_alloc | apply Kd.R_drewN | apply Kd.R_drew)); exact (Kd.R_mono (Kd.R_far (p := ⟨gb685, 1, none⟩) (Kd.R_far (p := ⟨gb685, 0, none⟩) (Kd.R_types HO669.out BK685.out (by decide)) (fun _ hk => hk.2) (.int .i64 t680)) (fun _ hk => hk.2) (.slice Ao22 t681.length co22)) (fun _ h_ => h_.1))) hb); have n1_ := Aside0.mk (Kd.R_below (by (with_reducible repeat (first | apply Kd.R_alloc | apply Kd.R_drewN | apply Kd.R_drew)); exact (Kd.R_mono (Kd.R_far (p := ⟨gb685, 1, none⟩) (Kd.R_far (p := ⟨gb685, 0, none⟩) (Kd.R_types HO672.out BK685.out (by decide)) (fun _ hk => hk.2) (.int .i64 t680)) (fun _ hk => hk.2) (.slice Ao22 t681.length co22)) (fun _ h_ => h_.1))) hb); have n2_ := Aside0.mk (Kd.R_below (by (with_reducible repeat (first | apply Kd.R_alloc | apply Kd.R_drewN | apply Kd.R_drew)); exact (Kd.R_mono (Kd.R_far (p := ⟨gb685, 1, none⟩) (Kd.R_far (p := ⟨gb685, 0, none⟩) (Kd.R_types HO677.out BK685.out (by decide)) (fun _ hk => hk.2) (.int .i64 t680)) (fun _ hk => hk.2) (.slice Ao22 t681.length co22)) (fun _ h_ => h_.1))) hb); have n3_ := Aside0.mk (Kd.R_below (by (with_reducible repeat (first | apply Kd.R_alloc | apply Kd.R_drewN | apply Kd.R_drew)); exact (Kd.R_mono (Kd.R_far (p := ⟨gb685, 1, none⟩) (Kd.R_far (p := ⟨gb685, 0, none⟩) (Kd.R_types HO683.out BK685.out (by decide)) (fun _ hk => hk.2) (.int .i64 t680)) (fun _ hk => hk.2) (.slice Ao22 t681.length co22)) (fun _ h_ => h_.1))) hb); have n4_ := Aside0.mk (blk_below (g := gb673) (o := .cells #[.int .i64 t666, .slice Ao10 t667.length co10] 46 (0, 0)) (by (with_reducible repeat (first | refine blk_drewN ?_ _ | refine blk_drew ?_ | refine blk_alloc ?_ _)); refine blk_far ?_ NB673_685.out _; (with_reducible repeat (first | refine blk_drewN ?_ _ | refine blk_drew ?_ | refine blk_alloc ?_ _)); refine blk_far ?_ NB673_685.out _; (with_reducible repeat (first | refine blk_drewN ?_ _ | refine blk_drew ?_ | refine blk_alloc ?_ _)); exact BK673.out) hb); have n5_ := Aside0.mk (blk_below (g := gb679) (o := .cells #[.int .i64 t674, .slice Ao16 t675.length co16] 46 (0, 0)) (by (with_reducible repeat (first | refine blk_drewN ?_ _ | refine blk_drew ?_ | refine blk_alloc ?_ _)); refine blk_far ?_ NB679_685.out _; (with_reducible repeat (first | refine blk_drewN ?_ _ | refine blk_drew ?_ | refine blk_alloc ?_ _)); refine blk_far ?_ NB679_685.out _; (with_reducible repeat (first | refine blk_drewN ?_ _ | refine blk_drew ?_ | refine blk_alloc ?_ _)); exact BK679.out) hb); have n6_ := Aside0.mk (blk_below (g := gb685) (o := .cells #[.int .i64 t680, .slice Ao22 t681.length co22] 46 (0, 0)) (by (with_reducible repeat (first | refine blk_drewN ?_ _ | refine blk_drew ?_ | refine blk_alloc ?_ _)); refine blk_put (cs := #[.int .i64 t680, .slice none 0 0]) ?_ 1 _ rfl; (with_reducible repeat (first | refine blk_drewN ?_ _ | refine blk_drew ?_ | refine blk_alloc ?_ _)); refine blk_put (cs := #[.int .i64 0, .slice none 0 0]) ?_ 0 _ rfl; (with_reducible repeat (first | refine blk_drewN ?_ _ | refine blk_drew ?_ | refine blk_alloc ?_ _)); exact BK685.out) hb); have n7_ := Aside0.mk (below_step (z23_0) hb); clear HO669; clear HO672; clear HO677; clear HO683; clear BK673; clear BK679; clear BK685; clear HB; have HO669 := n0_; have HO672 := n1_; have HO677 := n2_; have HO683 := n3_; have BK673 := n4_; have BK679 := n5_; have BK685 := n6_; have HB := n7_; clear n0_ n1_ n2_ n3_ n4_ n5_ n6_ n7_; (try clear hb); (try clear hb2); (try clear hk); (try clear hi)))
    go_meet
    case rel => exact ⟨_, (!t686), (by first | rfl | (simp; done) | (simp [*]; done)), H', ⟨by first | omega | exact Nat.le_refl _⟩, ⟨by (with_reducible repeat (first | apply Kd.R_alloc | apply Kd.R_drewN | apply Kd.R_drew)); exact Kd.R_mono HO672.out (fun _ hk => ⟨hk.1.1, ⟨hk.1.2, hk.2⟩⟩)⟩, ⟨by (with_reducible repeat (first | apply Kd.R_alloc | apply Kd.R_drewN | apply Kd.R_drew)); exact Kd.R_mono HO669.out (fun _ hk => ⟨hk.1.1, ⟨hk.1.2, hk.2⟩⟩)⟩, ⟨by (with_reducible repeat (first | apply Kd.R_alloc | apply Kd.R_drewN | apply Kd.R_drew)); exact Kd.R_mono HO677.out (fun _ hk => ⟨hk.1.2, ⟨hk.1.1.2, hk.2⟩⟩)⟩, ⟨by (with_reducible repeat (first | apply Kd.R_alloc | apply Kd.R_drewN | apply Kd.R_drew)); exact Kd.R_mono HO683.out (fun _ hk => ⟨hk.1.2, ⟨hk.1.1.2, hk.2⟩⟩)⟩, ⟨by (with_reducible repeat (first | refine blk_drewN ?_ _ | refine blk_drew ?_ | refine blk_alloc ?_ _)); exact BK673.out⟩, ⟨by (with_reducible repeat (first | refine blk_drewN ?_ _ | refine blk_drew ?_ | refine blk_alloc ?_ _)); exact BK679.out⟩, ⟨by (with_reducible repeat (first | refine blk_drewN ?_ _ | refine blk_drew ?_ | refine blk_alloc ?_ _)); exact BK685.out⟩, ⟨by repeat (first | (with_reducible first | exact HB.out | apply below_alloc | apply pw_below_drewN | apply below_drew1 | refine below_set ?_ GE673.out | refine below_set ?_ GE679.out | refine below_set ?_ GE685.out) | exact HB.out)⟩⟩
   ·rw [if_neg c23] at H
    have c23b0 : (t678 == t684) = false := beq_eq_false_iff_ne.mpr c23
    have c23b1 : (t678 != t684) = true := bne_iff_ne.mpr c23
    (first | rw [c23b0] | (simp only [i64_w, i32_w]; rw [c23b0]) | skip)
    have H' := Aside0.mk H
    clear H
    go_wp2
    go_meet
    case rel => exact ⟨_, (true), (by first | rfl | (simp; done) | (simp [*]; done)), H', ⟨by first | omega | exact Nat.le_refl _⟩, ⟨by (with_reducible repeat (first | apply Kd.R_alloc | apply Kd.R_drewN | apply Kd.R_drew)); exact Kd.R_mono (Kd.R_far (p := ⟨gb685, 1, none⟩) (Kd.R_far (p := ⟨gb685, 0, none⟩) (Kd.R_types HO672.out BK685.out (by decide)) (fun _ hk => hk.2) (.int .i64 t680)) (fun _ hk => hk.2) (.slice Ao22 t681.length co22)) (fun _ hk => ⟨hk.1.1.1, ⟨hk.1.1.2, hk.1.2⟩⟩)⟩, ⟨by (with_reducible repeat (first | apply Kd.R_alloc | apply Kd.R_drewN | apply Kd.R_drew)); exact Kd.R_mono (Kd.R_far (p := ⟨gb685, 1, none⟩) (Kd.R_far (p := ⟨gb685, 0, none⟩) (Kd.R_types HO669.out BK685.out (by decide)) (fun _ hk => hk.2) (.int .i64 t680)) (fun _ hk => hk.2) (.slice Ao22 t681.length co22)) (fun _ hk => ⟨hk.1.1.1, ⟨hk.1.1.2, hk.1.2⟩⟩)⟩, ⟨by (with_reducible repeat (first | apply Kd.R_alloc | apply Kd.R_drewN | apply Kd.R_drew)); exact Kd.R_mono (Kd.R_far (p := ⟨gb685, 1, none⟩) (Kd.R_far (p := ⟨gb685, 0, none⟩) (Kd.R_types HO677.out BK685.out (by decide)) (fun _ hk => hk.2) (.int .i64 t680)) (fun _ hk => hk.2) (.slice Ao22 t681.length co22)) (fun _ hk => ⟨hk.1.1.2, ⟨hk.1.1.1.2, hk.1.2⟩⟩)⟩, ⟨by (with_reducible repeat (first | apply Kd.R_alloc | apply Kd.R_drewN | apply Kd.R_drew)); exact Kd.R_mono (Kd.R_far (p := ⟨gb685, 1, none⟩) (Kd.R_far (p := ⟨gb685, 0, none⟩) (Kd.R_types HO683.out BK685.out (by decide)) (fun _ hk => hk.2) (.int .i64 t680)) (fun _ hk => hk.2) (.slice Ao22 t681.length co22)) (fun _ hk => ⟨hk.1.1.2, ⟨hk.1.1.1.2, hk.1.2⟩⟩)⟩, ⟨by (with_reducible repeat (first | refine blk_drewN ?_ _ | refine blk_drew ?_ | refine blk_alloc ?_ _)); refine blk_far ?_ NB673_685.out _; (with_reducible repeat (first | refine blk_drewN ?_ _ | refine blk_drew ?_ | refine blk_alloc ?_ _)); refine blk_far ?_ NB673_685.out _; (with_reducible repeat (first | refine blk_drewN ?_ _ | refine blk_drew ?_ | refine blk_alloc ?_ _)); exact BK673.out⟩, ⟨by (with_reducible repeat (first | refine blk_drewN ?_ _ | refine blk_drew ?_ | refine blk_alloc ?_ _)); refine blk_far ?_ NB679_685.out _; (with_reducible repeat (first | refine blk_drewN ?_ _ | refine blk_drew ?_ | refine blk_alloc ?_ _)); refine blk_far ?_ NB679_685.out _; (with_reducible repeat (first | refine blk_drewN ?_ _ | refine blk_drew ?_ | refine blk_alloc ?_ _)); exact BK679.out⟩, ⟨by (with_reducible repeat (first | refine blk_drewN ?_ _ | refine blk_drew ?_ | refine blk_alloc ?_ _)); refine blk_put (cs := #[.int .i64 t680, .slice none 0 0]) ?_ 1 _ rfl; (with_reducible repeat (first | refine blk_drewN ?_ _ | refine blk_drew ?_ | refine blk_alloc ?_ _)); refine blk_put (cs := #[.int .i64 0, .slice none 0 0]) ?_ 0 _ rfl; (with_reducible repeat (first | refine blk_drewN ?_ _ | refine blk_drew ?_ | refine blk_alloc ?_ _)); exact BK685.out⟩, ⟨by repeat (first | (with_reducible first | exact HB.out | apply below_alloc | apply pw_below_drewN | apply below_drew1 | refine below_set ?_ GE673.out | refine below_set ?_ GE679.out | refine below_set ?_ GE685.out) | exact HB.out)⟩⟩
  case rest =>
   clear HC6
   try clear c1
   try clear c2
   try clear c2b0
   try clear c2b1
   try clear p2
   try clear c4
   try clear c13
   try clear c14
   try clear c19
   try clear c20
   try clear c23
   try clear c23b0
   try clear c23b1
   try clear c25
   try clear c26
   try clear c28
   try clear hcz15_0
   try clear hcz15_1
   try clear hcz21_0
   try clear hcz21_1
   try clear hcz27_0
   try clear hcz27_1
   try clear hcz29_0
   try clear hcz29_1
   try clear hcz9_0
   try clear hcz9_1
   try clear hfz15_0
   try clear hfz15_1
   try clear hfz21_0
   try clear hfz21_1
   try clear hfz27_0
   try clear hfz27_1
   try clear hfz29_0
   try clear hfz29_1
   try clear hfz9_0
   try clear hfz9_1
   obtain ⟨kq, x40_5, rfl, HA, HJ5, HO_4, HO_674001, HO_680001, HO_686001, BK673, BK679, BK685, HB⟩ := hcut
   cases kq with
   | zero => exact absurd HA.out (by simp [laws_FnPoolNone.j0])
   | succ kj5 =>
    have H := HA.out
    clear HA
    simp only [laws_FnPoolNone.j0] at H
    by_cases c31 : x40_5 = true
    ·subst c31
     have H1 : (some false) = some r := by rw [if_pos rfl] at H; exact H
     clear H
     have H := H1
     clear H1
     exact absurd ((Option.some.inj H).trans hT) (by simp)
    ·replace c31 := Bool.eq_false_iff.mpr c31
     subst c31
     have H1 : (laws_FnPoolNone.l0 kj5 t670 t678 0 t674 t675) = some r := by rw [if_neg (show ¬ (false = true) by decide)] at H; exact H
     clear H
     have H := H1
     clear H1
     have H' := Aside0.mk H
     clear H
     go_wp2
     go_loopg [9] kj5 (fun kq v9 w' => ∃ (x9_2 : Int), v9 = .int .i64 x9_2 ∧ Aside0 (laws_FnPoolNone.l0 kq t670 t678 x9_2 t674 t675 = some r) ∧ Aside0 (kq ≤ kj5) ∧ Aside0 (Kd.R k25 25 w' w.heap.size (fun k_ => some k_ ≠ ((.slice Ao10 t667.length co10) : Value).ownBlock ∧ some k_ ≠ ((.slice Ao16 t675.length co16) : Value).ownBlock ∧ some k_ ≠ ((.slice Ao22 t681.length co22) : Value).ownBlock) (.slice Ao11 t670.length co11) t670) ∧ Aside0 (Kd.R k25 25 w' w.heap.size (fun k_ => some k_ ≠ ((.slice Ao11 t670.length co11) : Value).ownBlock ∧ some k_ ≠ ((.slice Ao16 t675.length co16) : Value).ownBlock ∧ some k_ ≠ ((.slice Ao22 t681.length co22) : Value).ownBlock) (.slice Ao10 t667.length co10) t667) ∧ Aside0 (Kd.R k25 25 w' w.heap.size (fun k_ => some k_ ≠ ((.slice Ao11 t670.length co11) : Value).ownBlock ∧ some k_ ≠ ((.slice Ao10 t667.length co10) : Value).ownBlock ∧ some k_ ≠ ((.slice Ao22 t681.length co22) : Value).ownBlock) (.slice Ao16 t675.length co16) t675) ∧ Aside0 (Kd.R k25 25 w' w.heap.size (fun k_ => some k_ ≠ ((.slice Ao11 t670.length co11) : Value).ownBlock ∧ some k_ ≠ ((.slice Ao10 t667.length co10) : Value).ownBlock ∧ some k_ ≠ ((.slice Ao16 t675.length co16) : Value).ownBlock) (.slice Ao22 t681.length co22) t681) ∧ Aside0 (w'.heap[gb673]? = some (.cells #[.int .i64 t666, (.slice Ao10 t667.length co10)] 46 (0, 0))) ∧ Aside0 (w'.heap[gb679]? = some (.cells #[.int .i64 t674, (.slice Ao16 t675.length co16)] 46 (0, 0))) ∧ Aside0 (w'.heap[gb685]? = some (.cells #[.int .i64 t680, (.slice Ao22 t681.length co22)] 46 (0, 0))) ∧ Aside0 (Below w.heap.size w w'))
     case atStart => exact ⟨(0), (by first | rfl | (simp; done) | (simp [*]; done)), H', ⟨Nat.le_refl _⟩, ⟨by (with_reducible repeat (first | apply Kd.R_alloc | apply Kd.R_drewN | apply Kd.R_drew)); exact HO_4.out⟩, ⟨by (with_reducible repeat (first | apply Kd.R_alloc | apply Kd.R_drewN | apply Kd.R_drew)); exact HO_674001.out⟩, ⟨by (with_reducible repeat (first | apply Kd.R_alloc | apply Kd.R_drewN | apply Kd.R_drew)); exact HO_680001.out⟩, ⟨by (with_reducible repeat (first | apply Kd.R_alloc | apply Kd.R_drewN | apply Kd.R_drew)); exact HO_686001.out⟩, ⟨by (with_reducible repeat (first | refine blk_drewN ?_ _ | refine blk_drew ?_ | refine blk_alloc ?_ _)); exact BK673.out⟩, ⟨by (with_reducible repeat (first | refine blk_drewN ?_ _ | refine blk_drew ?_ | refine blk_alloc ?_ _)); exact BK679.out⟩, ⟨by (with_reducible repeat (first | refine blk_drewN ?_ _ | refine blk_drew ?_ | refine blk_alloc ?_ _)); exact BK685.out⟩, ⟨by repeat (first | (with_reducible first | exact HB.out | apply below_alloc | apply pw_below_drewN | apply below_drew1 | refine below_set ?_ GE673.out | refine below_set ?_ GE679.out | refine below_set ?_ GE685.out) | exact HB.out)⟩⟩
     case round =>
      clear H'
      try clear c1
      try clear c2
      try clear c2b0
      try clear c2b1
      try clear p2
      try clear c3
      try clear c4
      try clear c13
      try clear c14
      try clear c19
      try clear c20
      try clear c23
      try clear c23b0
      try clear c23b1
      try clear c25
      try clear c26
      try clear c28
      try clear c31
      try clear hcz15_0
      try clear hcz15_1
      try clear hcz21_0
      try clear hcz21_1
      try clear hcz27_0
      try clear hcz27_1
      try clear hcz29_0
      try clear hcz29_1
      try clear hcz9_0
      try clear hcz9_1
      try clear hfz15_0
      try clear hfz15_1
      try clear hfz21_0
      try clear hfz21_1
      try clear hfz27_0
      try clear hfz27_1
      try clear hfz29_0
      try clear hfz29_1
      try clear hfz9_0
      try clear hfz9_1
      try clear p2
      obtain ⟨x9_2, rfl, HA, HK2, HO_4, HO_674001, HO_680001, HO_686001, BK673, BK679, BK685, HB⟩ := hrel
      cases gk with
      | zero => exact absurd HA.out (by simp [laws_FnPoolNone.l0])
      | succ k2 =>
       have H := HA.out
       clear HA
       simp only [laws_FnPoolNone.l0] at H
       by_cases c32 : x9_2 < (t670.length : Int)
       ·rw [if_pos c32] at H
        have c32b0 : decide (x9_2 < (t670.length : Int)) = true := decide_eq_true c32
        clear c32
        by_cases c33 : 0 ≤ x9_2
        ·rw [if_pos c33] at H
         have c33b0 : decide (0 ≤ x9_2) = true := decide_eq_true c33
         clear c33
         replace H := Option.bind_eq_some_iff.mp H
         obtain ⟨t688, A340, H⟩ := H
         replace H : (if t688 = true then (laws_FnPoolNone.l0 k2 t670 t678 (wrap64 (x9_2 + 1)) t674 t675) else (if t678 = 0 then (some ((t675.length : Int) == 0)) else (some false))) = some r := H
         have A34 := Aside0.mk A340
         clear A340
         by_cases c35 : t688 = true
         ·subst c35
          have H1 : (laws_FnPoolNone.l0 k2 t670 t678 (wrap64 (x9_2 + 1)) t674 t675) = some r := by rw [if_pos rfl] at H; exact H
          clear H
          have H := H1
          clear H1
          have H' := Aside0.mk H
          clear H
          have p687 : 0 ≤ (x9_2 : Int) := of_decide_eq_true (by first | (with_reducible assumption) | assumption)
          have q687 : x9_2 < (t670.length : Int) := of_decide_eq_true (by first | (with_reducible assumption) | assumption)
          obtain ⟨ad687, e687, hx687_0, hx687_1⟩ := at_T25 (Kd.R_reads' HO_4.out).2.2 x9_2 p687 q687
          cases e687
          replace p687 := eq_true p687
          replace q687 := eq_true q687
          go_wp2_with (first | ((with_reducible refine gate_callee (f := 22) rfl ?_); refine goesL_ (some 51) rfl rfl Try.func22 (by kernel_rfl) rfl #[.agg #[.int .i64 ((rd_T25 t670 x9_2).f0), .int .i64 ((rd_T25 t670 x9_2).f1)]] rfl (z23_3) ?_; (with_reducible refine (impl_PageOk.calls ((rd_T25 t670 x9_2).f0) ((rd_T25 t670 x9_2).f1) true _ A34.out).mono ?_); rintro e w36 ⟨rfl, hb⟩; refine ⟨_, rfl, ?_⟩; have n0_ := Aside0.mk (Kd.R_below (by (with_reducible repeat (first | apply Kd.R_alloc | apply Kd.R_drewN | apply Kd.R_drew)); exact HO_4.out) hb); have n1_ := Aside0.mk (Kd.R_below (by (with_reducible repeat (first | apply Kd.R_alloc | apply Kd.R_drewN | apply Kd.R_drew)); exact HO_674001.out) hb); have n2_ := Aside0.mk (Kd.R_below (by (with_reducible repeat (first | apply Kd.R_alloc | apply Kd.R_drewN | apply Kd.R_drew)); exact HO_680001.out) hb); have n3_ := Aside0.mk (Kd.R_below (by (with_reducible repeat (first | apply Kd.R_alloc | apply Kd.R_drewN | apply Kd.R_drew)); exact HO_686001.out) hb); have n4_ := Aside0.mk (blk_below (g := gb673) (o := .cells #[.int .i64 t666, .slice Ao10 t667.length co10] 46 (0, 0)) (z23_5) hb); have n5_ := Aside0.mk (blk_below (g := gb679) (o := .cells #[.int .i64 t674, .slice Ao16 t675.length co16] 46 (0, 0)) (z23_6) hb); have n6_ := Aside0.mk (blk_below (g := gb685) (o := .cells #[.int .i64 t680, .slice Ao22 t681.length co22] 46 (0, 0)) (z23_7) hb); have n7_ := Aside0.mk (below_step (z23_0) hb); clear HO_4; clear HO_674001; clear HO_680001; clear HO_686001; clear BK673; clear BK679; clear BK685; clear HB; have HO_4 := n0_; have HO_674001 := n1_; have HO_680001 := n2_; have HO_686001 := n3_; have BK673 := n4_; have BK679 := n5_; have BK685 := n6_; have HB := n7_; clear n0_ n1_ n2_ n3_ n4_ n5_ n6_ n7_; (try clear hb); (try clear hb2); (try clear hk); (try clear hi)))
          go_roundg k2
          case measure => have := HJ5.out; have := HK2.out; omega
          case rel => exact ⟨(wrap64 (x9_2 + 1)), (by first | rfl | (simp; done) | (simp [*]; done)), H', ⟨by have := HJ5.out; have := HK2.out; omega⟩, ⟨by (with_reducible repeat (first | apply Kd.R_alloc | apply Kd.R_drewN | apply Kd.R_drew)); exact HO_4.out⟩, ⟨by (with_reducible repeat (first | apply Kd.R_alloc | apply Kd.R_drewN | apply Kd.R_drew)); exact HO_674001.out⟩, ⟨by (with_reducible repeat (first | apply Kd.R_alloc | apply Kd.R_drewN | apply Kd.R_drew)); exact HO_680001.out⟩, ⟨by (with_reducible repeat (first | apply Kd.R_alloc | apply Kd.R_drewN | apply Kd.R_drew)); exact HO_686001.out⟩, ⟨by (with_reducible repeat (first | refine blk_drewN ?_ _ | refine blk_drew ?_ | refine blk_alloc ?_ _)); exact BK673.out⟩, ⟨by (with_reducible repeat (first | refine blk_drewN ?_ _ | refine blk_drew ?_ | refine blk_alloc ?_ _)); exact BK679.out⟩, ⟨by (with_reducible repeat (first | refine blk_drewN ?_ _ | refine blk_drew ?_ | refine blk_alloc ?_ _)); exact BK685.out⟩, ⟨by repeat (first | (with_reducible first | exact HB.out | apply below_alloc | apply pw_below_drewN | apply below_drew1 | refine below_set ?_ GE673.out | refine below_set ?_ GE679.out | refine below_set ?_ GE685.out) | exact HB.out)⟩⟩
         ·replace c35 := Bool.eq_false_iff.mpr c35
          subst c35
          have H1 : (if t678 = 0 then (some ((t675.length : Int) == 0)) else (some false)) = some r := by rw [if_neg (show ¬ (false = true) by decide)] at H; exact H
          clear H
          have H := H1
          clear H1
          by_cases c37 : t678 = 0
          ·rw [if_pos c37] at H
           have c37b0 : (t678 == 0) = true := beq_iff_eq.mpr c37
           have c37b1 : (t678 != 0) = false := bne_eq_false_iff_eq.mpr c37
           clear c37
           obtain rfl := Option.some.inj H
           have p687 : 0 ≤ (x9_2 : Int) := of_decide_eq_true (by first | (with_reducible assumption) | assumption)
           have q687 : x9_2 < (t670.length : Int) := of_decide_eq_true (by first | (with_reducible assumption) | assumption)
           obtain ⟨ad687, e687, hx687_0, hx687_1⟩ := at_T25 (Kd.R_reads' HO_4.out).2.2 x9_2 p687 q687
           cases e687
           replace p687 := eq_true p687
           replace q687 := eq_true q687
           go_wp2_with (first | ((with_reducible refine gate_callee (f := 22) rfl ?_); refine goesL_ (some 51) rfl rfl Try.func22 (by kernel_rfl) rfl #[.agg #[.int .i64 ((rd_T25 t670 x9_2).f0), .int .i64 ((rd_T25 t670 x9_2).f1)]] rfl (z23_3) ?_; (with_reducible refine (impl_PageOk.calls ((rd_T25 t670 x9_2).f0) ((rd_T25 t670 x9_2).f1) false _ A34.out).mono ?_); rintro e w38 ⟨rfl, hb⟩; refine ⟨_, rfl, ?_⟩; have n0_ := Aside0.mk (Kd.R_below (by (with_reducible repeat (first | apply Kd.R_alloc | apply Kd.R_drewN | apply Kd.R_drew)); exact HO_4.out) hb); have n1_ := Aside0.mk (Kd.R_below (by (with_reducible repeat (first | apply Kd.R_alloc | apply Kd.R_drewN | apply Kd.R_drew)); exact HO_674001.out) hb); have n2_ := Aside0.mk (Kd.R_below (by (with_reducible repeat (first | apply Kd.R_alloc | apply Kd.R_drewN | apply Kd.R_drew)); exact HO_680001.out) hb); have n3_ := Aside0.mk (Kd.R_below (by (with_reducible repeat (first | apply Kd.R_alloc | apply Kd.R_drewN | apply Kd.R_drew)); exact HO_686001.out) hb); have n4_ := Aside0.mk (blk_below (g := gb673) (o := .cells #[.int .i64 t666, .slice Ao10 t667.length co10] 46 (0, 0)) (z23_5) hb); have n5_ := Aside0.mk (blk_below (g := gb679) (o := .cells #[.int .i64 t674, .slice Ao16 t675.length co16] 46 (0, 0)) (z23_6) hb); have n6_ := Aside0.mk (blk_below (g := gb685) (o := .cells #[.int .i64 t680, .slice Ao22 t681.length co22] 46 (0, 0)) (z23_7) hb); have n7_ := Aside0.mk (below_step (z23_0) hb); clear HO_4; clear HO_674001; clear HO_680001; clear HO_686001; clear BK673; clear BK679; clear BK685; clear HB; have HO_4 := n0_; have HO_674001 := n1_; have HO_680001 := n2_; have HO_686001 := n3_; have BK673 := n4_; have BK679 := n5_; have BK685 := n6_; have HB := n7_; clear n0_ n1_ n2_ n3_ n4_ n5_ n6_ n7_; (try clear hb); (try clear hb2); (try clear hk); (try clear hi); have hnb39 := NB679_673.out; have hnc39 := NB673_679.out; have hnb40 := NB679_685.out; have hnc40 := NB685_679.out; have hcz41_0 : w38.cell? ⟨gb679, 0, none⟩ = some (.int .i64 t674) := (blk_cell BK679.out 0).trans rfl; have hcz41_1 : w38.cell? ⟨gb679, 1, none⟩ = some (.slice Ao16 t675.length co16) := (blk_cell BK679.out 1).trans rfl; have hfz41_0 := blk_frozen BK679.out 0; have hfz41_1 := blk_frozen BK679.out 1))
           go_ret
           exact ⟨by first | rfl | (simp [errW_none, errW_some] <;> rfl) | (simp [*, errW_none, errW_some] <;> rfl), by repeat (first | (with_reducible first | exact HB.out | apply below_alloc | apply pw_below_drewN | apply below_drew1 | refine below_set ?_ GE673.out | refine below_set ?_ GE679.out | refine below_set ?_ GE685.out) | exact HB.out)⟩
          ·rw [if_neg c37] at H
           have c37b0 : (t678 == 0) = false := beq_eq_false_iff_ne.mpr c37
           have c37b1 : (t678 != 0) = true := bne_iff_ne.mpr c37
           exact absurd ((Option.some.inj H).trans hT) (by simp)
        ·rw [if_neg c33] at H
         exact absurd H (by simp)
       ·rw [if_neg c32] at H
        have c32b0 : decide (x9_2 < (t670.length : Int)) = false := decide_eq_false c32
        clear c32
        replace H := Option.bind_eq_some_iff.mp H
        obtain ⟨⟨t689, t690, t693⟩, A420, H⟩ := H
        replace H : (if t678 = (t670.length : Int) then (if (t675.length : Int) = 0 then (if t693 ≤ t678 then (if ((decide (t693 > 0)) == (decide (t678 > 0))) = true then (some (decide ((t690.length : Int) ≤ t693))) else (some false)) else (some false)) else (some false)) else (some false)) = some r := H
        have A42 := Aside0.mk A420
        clear A420
        by_cases c43 : t678 = (t670.length : Int)
        ·rw [if_pos c43] at H
         have c43b0 : (t678 == (t670.length : Int)) = true := beq_iff_eq.mpr c43
         have c43b1 : (t678 != (t670.length : Int)) = false := bne_eq_false_iff_eq.mpr c43
         clear c43
         by_cases c44 : (t675.length : Int) = 0
         ·rw [if_pos c44] at H
          have c44b0 : ((t675.length : Int) == 0) = true := beq_iff_eq.mpr c44
          have c44b1 : ((t675.length : Int) != 0) = false := bne_eq_false_iff_eq.mpr c44
          clear c44
          by_cases c45 : t693 ≤ t678
          ·rw [if_pos c45] at H
           have c45b0 : decide (t693 ≤ t678) = true := decide_eq_true c45
           clear c45
           by_cases c46 : ((decide (t693 > 0)) == (decide (t678 > 0))) = true
           ·rw [if_pos c46] at H
            have c46b0 : ((decide (t693 > 0)) == (decide (t678 > 0))) = true := c46
            (try (have c46b1 : decide ((decide (t693 > 0)) = (decide (t678 > 0))) = true := by simpa using c46))
            (try (have c46b2 : ((decide (t693 > 0)) == (decide (t678 > 0))) = true := by simpa using c46))
            clear c46
            obtain rfl := Option.some.inj H
            go_wp2_with (first | ((with_reducible refine gate_callee (f := 45) rfl ?_); refine goesL_ (some 64) rfl rfl Try.func45 (by kernel_rfl) rfl #[.agg #[.int .i64 12, .slice none 0 0], .slice Ao11 t670.length co11] rfl (z23_3) ?_; (refine (impl_PoolAll.calls 12 _ _ ([] : List (S25)) _ _ t670 t689 t690 t693 _ ?side1 ?side2 ?side3 ?side4 A42.out).mono ?_); (case side1 => exact Kd.C_nil _ _); (case side2 => exact Nat.le_refl _); (case side3 => repeat (first | exact (Kd.R_reads' HO_4.out).2.2 | (with_reducible refine Kd.C_alloc ?_ _) | (with_reducible refine Kd.C_drewN ?_ _) | (with_reducible refine Kd.C_drew ?_))); (case side4 => exact (Kd.R_reads' HO_4.out).2.1); rintro e w47 ⟨v691, rfl, ho0, hb⟩; refine ⟨_, rfl, ?_⟩; have n0_ := Aside0.mk (Kd.R_elder' (by (with_reducible repeat (first | apply Kd.R_alloc | apply Kd.R_drewN | apply Kd.R_drew)); exact HO_4.out) (Kd.R_base ho0) hb); have n1_ := Aside0.mk (Kd.R_elder' (by (with_reducible repeat (first | apply Kd.R_alloc | apply Kd.R_drewN | apply Kd.R_drew)); exact HO_674001.out) (Kd.R_base ho0) hb); have n2_ := Aside0.mk (Kd.R_elder' (by (with_reducible repeat (first | apply Kd.R_alloc | apply Kd.R_drewN | apply Kd.R_drew)); exact HO_680001.out) (Kd.R_base ho0) hb); have n3_ := Aside0.mk (Kd.R_elder' (by (with_reducible repeat (first | apply Kd.R_alloc | apply Kd.R_drewN | apply Kd.R_drew)); exact HO_686001.out) (Kd.R_base ho0) hb); have n4_ := Aside0.mk (Kd.R_lower (Kd.R_new' (Kd.R_new' (Kd.R_new' (Kd.R_new' ho0 (Kd.R_lt (by (with_reducible repeat (first | apply Kd.R_alloc | apply Kd.R_drewN | apply Kd.R_drew)); exact HO_4.out))) (Kd.R_lt (by (with_reducible repeat (first | apply Kd.R_alloc | apply Kd.R_drewN | apply Kd.R_drew)); exact HO_674001.out))) (Kd.R_lt (by (with_reducible repeat (first | apply Kd.R_alloc | apply Kd.R_drewN | apply Kd.R_drew)); exact HO_680001.out))) (Kd.R_lt (by (with_reducible repeat (first | apply Kd.R_alloc | apply Kd.R_drewN | apply Kd.R_drew)); exact HO_686001.out))) (below_size (z23_0))); have n5_ := Aside0.mk (blk_below (g := gb673) (o := .cells #[.int .i64 t666, .slice Ao10 t667.length co10] 46 (0, 0)) (z23_5) hb); have n6_ := Aside0.mk (blk_below (g := gb679) (o := .cells #[.int .i64 t674, .slice Ao16 t675.length co16] 46 (0, 0)) (z23_6) hb); have n7_ := Aside0.mk (blk_below (g := gb685) (o := .cells #[.int .i64 t680, .slice Ao22 t681.length co22] 46 (0, 0)) (z23_7) hb); have n8_ := Aside0.mk (below_step (z23_0) hb); clear HO_4; clear HO_674001; clear HO_680001; clear HO_686001; clear BK673; clear BK679; clear BK685; clear HB; have HO_4 := n0_; have HO_674001 := n1_; have HO_680001 := n2_; have HO_686001 := n3_; have HO692 := n4_; have BK673 := n5_; have BK679 := n6_; have BK685 := n7_; have HB := n8_; clear n0_ n1_ n2_ n3_ n4_ n5_ n6_ n7_ n8_; (try clear hb); (try clear hb2); (try clear hk); (try clear hi); (try clear ho0)) | ((with_reducible refine gate_dst (N := 10) rfl ?_); (try (refine gate_guard (by rfl) ?_; dsimp only)); refine box_event ?hg (N := 10) ?hd (cs := #[.int .i64 0, .slice none 0 0]) (t := 46) ?hr ?_; (case hd => rfl); (case hg => rfl); (case hr => first | (go_simp; done) | (go_simp; rfl)); intro gb694 hg w48 hbox hb; have n0_ := Aside0.mk (Kd.R_below (by (with_reducible repeat (first | apply Kd.R_alloc | apply Kd.R_drewN | apply Kd.R_drew)); exact HO_4.out) hb); have n1_ := Aside0.mk (Kd.R_below (by (with_reducible repeat (first | apply Kd.R_alloc | apply Kd.R_drewN | apply Kd.R_drew)); exact HO_674001.out) hb); have n2_ := Aside0.mk (Kd.R_below (by (with_reducible repeat (first | apply Kd.R_alloc | apply Kd.R_drewN | apply Kd.R_drew)); exact HO_680001.out) hb); have n3_ := Aside0.mk (Kd.R_below (by (with_reducible repeat (first | apply Kd.R_alloc | apply Kd.R_drewN | apply Kd.R_drew)); exact HO_686001.out) hb); have n4_ := Aside0.mk (Kd.R_below (by (with_reducible repeat (first | apply Kd.R_alloc | apply Kd.R_drewN | apply Kd.R_drew)); exact HO692.out) hb); have n5_ := Aside0.mk (blk_below (g := gb673) (o := .cells #[.int .i64 t666, .slice Ao10 t667.length co10] 46 (0, 0)) (z23_5) hb); have n6_ := Aside0.mk (blk_below (g := gb679) (o := .cells #[.int .i64 t674, .slice Ao16 t675.length co16] 46 (0, 0)) (z23_6) hb); have n7_ := Aside0.mk (blk_below (g := gb685) (o := .cells #[.int .i64 t680, .slice Ao22 t681.length co22] 46 (0, 0)) (z23_7) hb); have n8_ := Aside0.mk (below_step (z23_0) hb); have n9_ := Aside0.mk (hbox); have n10_ := Aside0.mk ((by rw [hg]; exact (below_size (z23_0)) : w.heap.size ≤ gb694)); have n11_ := Aside0.mk ((by rw [hg]; exact (below_size (z23_0)) : w.heap.size ≤ gb694)); have n12_ := Aside0.mk ((by rw [hg]; exact Nat.ne_of_lt (blk_lt (g := gb673) (o := .cells #[.int .i64 t666, .slice Ao10 t667.length co10] 46 (0, 0)) (z23_5)) : gb673 ≠ gb694)); have n13_ := Aside0.mk ((by rw [hg]; exact Nat.ne_of_gt (blk_lt (g := gb673) (o := .cells #[.int .i64 t666, .slice Ao10 t667.length co10] 46 (0, 0)) (z23_5)) : gb694 ≠ gb673)); have n14_ := Aside0.mk ((by rw [hg]; exact Nat.ne_of_lt (blk_lt (g := gb679) (o := .cells #[.int .i64 t674, .slice Ao16 t675.length co16] 46 (0, 0)) (z23_6)) : gb679 ≠ gb694)); have n15_ := Aside0.mk ((by rw [hg]; exact Nat.ne_of_gt (blk_lt (g := gb679) (o := .cells #[.int .i64 t674, .slice Ao16 t675.length co16] 46 (0, 0)) (z23_6)) : gb694 ≠ gb679)); have n16_ := Aside0.mk ((by rw [hg]; exact Nat.ne_of_lt (blk_lt (g := gb685) (o := .cells #[.int .i64 t680, .slice Ao22 t681.length co22] 46 (0, 0)) (z23_7)) : gb685 ≠ gb694)); have n17_ := Aside0.mk ((by rw [hg]; exact Nat.ne_of_gt (blk_lt (g := gb685) (o := .cells #[.int .i64 t680, .slice Ao22 t681.length co22] 46 (0, 0)) (z23_7)) : gb694 ≠ gb685)); clear HO_4; clear HO_674001; clear HO_680001; clear HO_686001; clear HO692; clear BK673; clear BK679; clear BK685; clear HB; have HO_4 := n0_; have HO_674001 := n1_; have HO_680001 := n2_; have HO_686001 := n3_; have HO692 := n4_; have BK673 := n5_; have BK679 := n6_; have BK685 := n7_; have HB := n8_; have BK694 := n9_; have GW694 := n10_; have GE694 := n11_; have NB673_694 := n12_; have NB694_673 := n13_; have NB679_694 := n14_; have NB694_679 := n15_; have NB685_694 := n16_; have NB694_685 := n17_; clear n0_ n1_ n2_ n3_ n4_ n5_ n6_ n7_ n8_ n9_ n10_ n11_ n12_ n13_ n14_ n15_ n16_ n17_; clear hb hbox hg; have hnb49 := NB694_673.out; have hnc49 := NB673_694.out; have hnb50 := NB694_679.out; have hnc50 := NB679_694.out; have hnb51 := NB694_685.out; have hnc51 := NB685_694.out; have hcz52_0 : w48.cell? ⟨gb694, 0, none⟩ = some (.int .i64 0) := (blk_cell BK694.out 0).trans rfl; have hcz52_1 : w48.cell? ⟨gb694, 1, none⟩ = some (.slice none 0 0) := (blk_cell BK694.out 1).trans rfl; have hfz52_0 := blk_frozen BK694.out 0; have hfz52_1 := blk_frozen BK694.out 1; obtain ⟨Ao53, co53, eo53⟩ := Kd.R_slice HO692.out; subst eo53; have hnb54 := NB679_673.out; have hnc54 := NB673_679.out; have hnb55 := NB679_685.out; have hnc55 := NB685_679.out; have hcz56_0 : w48.cell? ⟨gb679, 0, none⟩ = some (.int .i64 t674) := (blk_cell BK679.out 0).trans rfl; have hcz56_1 : w48.cell? ⟨gb679, 1, none⟩ = some (.slice Ao16 t675.length co16) := (blk_cell BK679.out 1).trans rfl; have hfz56_0 := blk_frozen BK679.out 0; have hfz56_1 := blk_frozen BK679.out 1))
            go_ret
            exact ⟨by first | rfl | (simp [errW_none, errW_some] <;> rfl) | (simp [*, errW_none, errW_some] <;> rfl), by repeat (first | (with_reducible first | exact HB.out | apply below_alloc | apply pw_below_drewN | apply below_drew1 | refine below_set ?_ GE673.out | refine below_set ?_ GE679.out | refine below_set ?_ GE685.out | refine below_set ?_ GE694.out) | exact HB.out)⟩
           ·rw [if_neg c46] at H
            have c46b0 : ((decide (t693 > 0)) == (decide (t678 > 0))) = false := by simpa using c46
            (try (have c46b1 : decide ((decide (t693 > 0)) = (decide (t678 > 0))) = false := by simpa using c46))
            (try (have c46b2 : ((decide (t693 > 0)) == (decide (t678 > 0))) = false := by simpa using c46))
            (try (have c46b3 : ¬ ((decide (t693 > 0)) = (decide (t678 > 0))) := by simpa using c46))
            clear c46
            exact absurd ((Option.some.inj H).trans hT) (by simp)
          ·rw [if_neg c45] at H
           have c45b0 : decide (t693 ≤ t678) = false := decide_eq_false c45
           clear c45
           exact absurd ((Option.some.inj H).trans hT) (by simp)
         ·rw [if_neg c44] at H
          have c44b0 : ((t675.length : Int) == 0) = false := beq_eq_false_iff_ne.mpr c44
          have c44b1 : ((t675.length : Int) != 0) = true := bne_iff_ne.mpr c44
          have c44b2 : ¬ (t675 = []) := fun h_ => c44 (by rw [h_]; rfl)
          exact absurd ((Option.some.inj H).trans hT) (by simp)
        ·rw [if_neg c43] at H
         have c43b0 : (t678 == (t670.length : Int)) = false := beq_eq_false_iff_ne.mpr c43
         have c43b1 : (t678 != (t670.length : Int)) = true := bne_iff_ne.mpr c43
         exact absurd ((Option.some.inj H).trans hT) (by simp)

/-- THE ONE PURE STATEMENT of laws_FnPoolNone: yours. -/
def laws_FnPoolNone.Pure : Prop := ∀ (l0 : List Int), l0.length ≤ maxLen → l0.length * 1 ≤ 140737488351232 → (∀ x ∈ l0, (Lit.int .u8 x).wf = true) → ∃ k, laws_FnPoolNone.f k l0 = some true
theorem laws_FnPoolNone.walk (P : laws_FnPoolNone.Pure) (a0 : Option Addr) (len0 cap0 : Nat) (z0 : List Int) (w : World) (w0 : (a0 = none ∧ len0 = 0 ∧ cap0 = 0 ∧ z0 = []) ∨ ∃ x, a0 = some x ∧ len0 ≤ cap0 ∧ cap0 ≤ maxLen ∧ z0.length = cap0 ∧ (∀ i, i < z0.length → w.cell? (x.add i) = some (.int .u8 (z0.getD i 0))) ∧ ∀ n ∈ z0, (Lit.int .u8 n).wf = true) (y0 : len0 * 1 ≤ 140737488351232) :
  Calls Try.prog 13 #[.slice a0 len0 cap0] w fun e w' => e = .returned (.bool true) ∧ Below w.heap.size w w' := by
 obtain ⟨l0, rfl, hr0, hm0, hw0, hc0⟩ := ReadsInt.ofRowC w0
 obtain ⟨k, h⟩ := P l0 hm0 y0 hw0
 refine (laws_FnPoolNone.calls k _ _ l0 true w (Kd.C_of_reads (d := (0 : Int)) (h1 := fun _ => rfl) hr0) hc0 rfl h).mono ?_
 rintro e w' ⟨rfl, hd⟩
 exact ⟨rfl, hd⟩

end Go.Proofs.Ytcobbpghipeoeaa.R
