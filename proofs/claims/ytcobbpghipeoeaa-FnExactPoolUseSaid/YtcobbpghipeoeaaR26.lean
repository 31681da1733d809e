/- Contracts of Go functions, printed by a program (the kit's print.py under reprint.py) and shortened (post.py): each call comes to what the plain function of its name tells. Where that tells nothing, nothing is said. -/
import Derived.Test.YtcobbpghipeoeaaR0
import Derived.Test.YtcobbpghipeoeaaR1
import Derived.Test.YtcobbpghipeoeaaF
import Derived.Test.YtcobbpghipeoeaaH26
import Derived.Test.YtcobbpghipeoeaaC32
import Derived.Test.YtcobbpghipeoeaaC34
import Derived.Test.YtcobbpghipeoeaaC21
import Derived.Test.YtcobbpghipeoeaaC43
import Derived.Test.YtcobbpghipeoeaaGB
import Derived.Test.YtcobbpghipeoeaaC36
import Derived.Test.YtcobbpghipeoeaaC47
import Derived.Test.YtcobbpghipeoeaaC48
namespace Go.Proofs.Ytcobbpghipeoeaa.R
open Go.RowKit Go.Proofs.YtcobbpghipeoeaaV.PrintWords Go.Proofs.YtcobbpghipeoeaaV.PrintLast Go.Proofs.YtcobbpghipeoeaaV.PrintMore
attribute [local go_sem] max2_int min2_int max_two min_two max_three min_three max_four min_four   -- for this text's walks alone
set_option linter.unusedVariables false
set_option linter.unusedSimpArgs false

set_option maxHeartbeats 8000000 in
set_option maxRecDepth 100000 in
theorem laws_FnExactPoolUse.calls (k : Nat) (a0_0 : Int) (A0_1 : Option Addr) (c0_1 : Nat) (l0_1 : List (S23)) (a1_0 : Int) (a1_1 : Int) (r : Bool) (w : World) (hr0_1 : Kd.C k23 w A0_1 l0_1.length l0_1) (hc0_1 : l0_1.length ≤ c0_1) (hT : r = true) (h : laws_FnExactPoolUse.f k a0_0 l0_1 a1_0 a1_1 = some r) :
  Calls Try.prog 16 #[.agg #[.int .i64 a0_0, .slice A0_1 l0_1.length c0_1], .agg #[.int .i64 a1_0, .int .i64 a1_1]] w fun e w' => e = .returned (.bool r) ∧ Below w.heap.size w w' := by
 have hu42 := Try.underlying42
 have hu23 := Try.underlying23
 have hu46 := Try.underlying46
 have HR0_1 := Aside0.mk hr0_1
 have HC0_1 := Aside0.mk hc0_1
 clear hr0_1 hc0_1
 have HB := Aside0.mk (Below.refl w.heap.size w)
 have H : ((laws_szPool.f a0_0 l0_1 1048576).bind fun t761 => (if t761 < 0 then (some true) else ((laws_toPool.f k a0_0 l0_1).bind fun bt762 => ((laws_toPage.f a1_0 a1_1).bind fun bt766 => ((spec_PoolUse.f k bt762.1 bt762.2 bt766.1 bt766.2).bind fun bt768 => ((laws_toPool.f k a0_0 l0_1).bind fun bt774 => ((laws_toPage.f a1_0 a1_1).bind fun bt779 => ((impl_PoolUse.f bt774.1 bt774.2 bt779.1 bt779.2).bind fun bt781 => ((laws_eqPool.f k bt781.1 bt781.2.1 bt768.1 bt768.2.1).bind fun t787 => (if t787 = true then (laws_FnExactPoolUse.j0 k bt768.2.2 bt781.2.2 (bt781.2.2 != bt768.2.2) a0_0 l0_1 a1_0 a1_1 bt768.1 bt768.2.1 bt774.1 bt774.2 bt781.1 bt781.2.1) else (laws_FnExactPoolUse.j0 k bt768.2.2 bt781.2.2 true a0_0 l0_1 a1_0 a1_1 bt768.1 bt768.2.1 bt774.1 bt774.2 bt781.1 bt781.2.1))))))))))) = some r := h
 clear h
 replace H := Option.bind_eq_some_iff.mp H
 obtain ⟨t761, A30, H⟩ := H
 replace H : (if t761 < 0 then (some true) else ((laws_toPool.f k a0_0 l0_1).bind fun bt762 => ((laws_toPage.f a1_0 a1_1).bind fun bt766 => ((spec_PoolUse.f k bt762.1 bt762.2 bt766.1 bt766.2).bind fun bt768 => ((laws_toPool.f k a0_0 l0_1).bind fun bt774 => ((laws_toPage.f a1_0 a1_1).bind fun bt779 => ((impl_PoolUse.f bt774.1 bt774.2 bt779.1 bt779.2).bind fun bt781 => ((laws_eqPool.f k bt781.1 bt781.2.1 bt768.1 bt768.2.1).bind fun t787 => (if t787 = true then (laws_FnExactPoolUse.j0 k bt768.2.2 bt781.2.2 (bt781.2.2 != bt768.2.2) a0_0 l0_1 a1_0 a1_1 bt768.1 bt768.2.1 bt774.1 bt774.2 bt781.1 bt781.2.1) else (laws_FnExactPoolUse.j0 k bt768.2.2 bt781.2.2 true a0_0 l0_1 a1_0 a1_1 bt768.1 bt768.2.1 bt774.1 bt774.2 bt781.1 bt781.2.1)))))))))) = some r := H
 have A3 := Aside0.mk A30
 clear A30
 by_cases c4 : t761 < 0
 ·rw [if_pos c4] at H
  have c4b0 : decide (t761 < 0) = true := decide_eq_true c4
  clear c4
  obtain rfl := Option.some.inj H
  go_enter Try.func16, Try.ntmps16
  go_wp2_with (first | ((with_reducible refine gate_dst (N := 2) rfl ?_); refine box_event ?hg (N := 2) ?hd (cs := #[.int .i64 a0_0, .slice A0_1 l0_1.length c0_1]) (t := 42) ?hr ?_; (case hd => rfl); (case hg => rfl); (case hr => first | (go_simp; done) | (go_simp; rfl)); intro gb759 hg w5 hbox hb; have n0_ := Aside0.mk (below_step (z26_7) hb); have n1_ := Aside0.mk (hbox); have n2_ := Aside0.mk ((by rw [hg]; exact (below_size (z26_7)) : w.heap.size ≤ gb759)); have n3_ := Aside0.mk ((by rw [hg]; exact (below_size (z26_7)) : w.heap.size ≤ gb759)); clear HB; have HB := n0_; have BK759 := n1_; have GW759 := n2_; have GE759 := n3_; clear n0_ n1_ n2_ n3_; clear hb hbox hg) | ((with_reducible refine gate_dst (N := 3) rfl ?_); refine box_event ?hg (N := 3) ?hd (cs := #[.int .i64 a1_0, .int .i64 a1_1]) (t := 23) ?hr ?_; (case hd => rfl); (case hg => rfl); (case hr => first | (go_simp; done) | (go_simp; rfl)); intro gb760 hg w6 hbox hb; have n0_ := Aside0.mk (blk_below (g := gb759) (o := .cells #[.int .i64 a0_0, .slice A0_1 l0_1.length c0_1] 42 (0, 0)) (z26_8) hb); have n1_ := Aside0.mk (below_step (z26_5) hb); have n2_ := Aside0.mk (hbox); have n3_ := Aside0.mk ((by rw [hg]; exact (below_size (z26_5)) : w.heap.size ≤ gb760)); have n4_ := Aside0.mk ((by rw [hg]; exact (below_size (z26_5)) : w.heap.size ≤ gb760)); have n5_ := Aside0.mk ((by rw [hg]; exact Nat.ne_of_lt (blk_lt (g := gb759) (o := .cells #[.int .i64 a0_0, .slice A0_1 l0_1.length c0_1] 42 (0, 0)) (z26_8)) : gb759 ≠ gb760)); have n6_ := Aside0.mk ((by rw [hg]; exact Nat.ne_of_gt (blk_lt (g := gb759) (o := .cells #[.int .i64 a0_0, .slice A0_1 l0_1.length c0_1] 42 (0, 0)) (z26_8)) : gb760 ≠ gb759)); clear BK759; clear HB; have BK759 := n0_; have HB := n1_; have BK760 := n2_; have GW760 := n3_; have GE760 := n4_; have NB759_760 := n5_; have NB760_759 := n6_; clear n0_ n1_ n2_ n3_ n4_ n5_ n6_; clear hb hbox hg; have hnb7 := NB759_760.out; have hnc7 := NB760_759.out; have hcz8_0 : w6.cell? ⟨gb759, 0, none⟩ = some (.int .i64 a0_0) := (blk_cell BK759.out 0).trans rfl; have hcz8_1 : w6.cell? ⟨gb759, 1, none⟩ = some (.slice A0_1 l0_1.length c0_1) := (blk_cell BK759.out 1).trans rfl; have hfz8_0 := blk_frozen BK759.out 0; have hfz8_1 := blk_frozen BK759.out 1) | ((with_reducible refine gate_callee (f := 32) rfl ?_); refine goesL_ (some 18) rfl rfl Try.func32 (by kernel_rfl) rfl #[.agg #[.int .i64 a0_0, .slice A0_1 l0_1.length c0_1], .int .i64 1048576] rfl (z26_6) ?_; (with_reducible refine (laws_szPool.calls a0_0 _ _ l0_1 1048576 t761 _ ?side1 ?side2 A3.out).mono ?_); (case side1 => repeat (first | exact (Kd.C_below HR0_1.out HB.out) | (with_reducible refine Kd.C_alloc ?_ _) | (with_reducible refine Kd.C_drewN ?_ _) | (with_reducible refine Kd.C_drew ?_))); (case side2 => exact HC0_1.out); rintro e w9 ⟨rfl, hb⟩; refine ⟨_, rfl, ?_⟩; have n0_ := Aside0.mk (blk_below (g := gb759) (o := .cells #[.int .i64 a0_0, .slice A0_1 l0_1.length c0_1] 42 (0, 0)) (z26_8) hb); have n1_ := Aside0.mk (blk_below (g := gb760) (o := .cells #[.int .i64 a1_0, .int .i64 a1_1] 23 (0, 0)) (z26_9) hb); have n2_ := Aside0.mk (below_step (z26_4) hb); clear BK759; clear BK760; clear HB; have BK759 := n0_; have BK760 := n1_; have HB := n2_; clear n0_ n1_ n2_; (try clear hb); (try clear hb2); (try clear hk); (try clear hi)))
  go_ret
  exact ⟨by first | rfl | (simp [errW_none, errW_some] <;> rfl) | (simp [*, errW_none, errW_some] <;> rfl), by repeat (first | (with_reducible first | exact HB.out | apply below_alloc | apply pw_below_drewN | apply below_drew1 | refine below_set ?_ GE759.out | refine below_set ?_ GE760.out) | exact HB.out)⟩
 ·rw [if_neg c4] at H
  have c4b0 : decide (t761 < 0) = false := decide_eq_false c4
  clear c4
  replace H := Option.bind_eq_some_iff.mp H
  obtain ⟨⟨t762, t763⟩, A100, H⟩ := H
  replace H : ((laws_toPage.f a1_0 a1_1).bind fun bt766 => ((spec_PoolUse.f k t762 t763 bt766.1 bt766.2).bind fun bt768 => ((laws_toPool.f k a0_0 l0_1).bind fun bt774 => ((laws_toPage.f a1_0 a1_1).bind fun bt779 => ((impl_PoolUse.f bt774.1 bt774.2 bt779.1 bt779.2).bind fun bt781 => ((laws_eqPool.f k bt781.1 bt781.2.1 bt768.1 bt768.2.1).bind fun t787 => (if t787 = true then (laws_FnExactPoolUse.j0 k bt768.2.2 bt781.2.2 (bt781.2.2 != bt768.2.2) a0_0 l0_1 a1_0 a1_1 bt768.1 bt768.2.1 bt774.1 bt774.2 bt781.1 bt781.2.1) else (laws_FnExactPoolUse.j0 k bt768.2.2 bt781.2.2 true a0_0 l0_1 a1_0 a1_1 bt768.1 bt768.2.1 bt774.1 bt774.2 bt781.1 bt781.2.1)))))))) = some r := H
  have A10 := Aside0.mk A100
  clear A100
  replace H := Option.bind_eq_some_iff.mp H
  obtain ⟨⟨t766, t767⟩, A110, H⟩ := H
  replace H : ((spec_PoolUse.f k t762 t763 t766 t767).bind fun bt768 => ((laws_toPool.f k a0_0 l0_1).bind fun bt774 => ((laws_toPage.f a1_0 a1_1).bind fun bt779 => ((impl_PoolUse.f bt774.1 bt774.2 bt779.1 bt779.2).bind fun bt781 => ((laws_eqPool.f k bt781.1 bt781.2.1 bt768.1 bt768.2.1).bind fun t787 => (if t787 = true then (laws_FnExactPoolUse.j0 k bt768.2.2 bt781.2.2 (bt781.2.2 != bt768.2.2) a0_0 l0_1 a1_0 a1_1 bt768.1 bt768.2.1 bt774.1 bt774.2 bt781.1 bt781.2.1) else (laws_FnExactPoolUse.j0 k bt768.2.2 bt781.2.2 true a0_0 l0_1 a1_0 a1_1 bt768.1 bt768.2.1 bt774.1 bt774.2 bt781.1 bt781.2.1))))))) = some r := H
  have A11 := Aside0.mk A110
  clear A110
  replace H := Option.bind_eq_some_iff.mp H
  obtain ⟨⟨t768, t769, t772⟩, A120, H⟩ := H
  replace H : ((laws_toPool.f k a0_0 l0_1).bind fun bt774 => ((laws_toPage.f a1_0 a1_1).bind fun bt779 => ((impl_PoolUse.f bt774.1 bt774.2 bt779.1 bt779.2).bind fun bt781 => ((laws_eqPool.f k bt781.1 bt781.2.1 t768 t769).bind fun t787 => (if t787 = true then (laws_FnExactPoolUse.j0 k t772 bt781.2.2 (bt781.2.2 != t772) a0_0 l0_1 a1_0 a1_1 t768 t769 bt774.1 bt774.2 bt781.1 bt781.2.1) else (laws_FnExactPoolUse.j0 k t772 bt781.2.2 true a0_0 l0_1 a1_0 a1_1 t768 t769 bt774.1 bt774.2 bt781.1 bt781.2.1)))))) = some r := H
  have A12 := Aside0.mk A120
  clear A120
  replace H := Option.bind_eq_some_iff.mp H
  obtain ⟨⟨t774, t775⟩, A130, H⟩ := H
  replace H : ((laws_toPage.f a1_0 a1_1).bind fun bt779 => ((impl_PoolUse.f t774 t775 bt779.1 bt779.2).bind fun bt781 => ((laws_eqPool.f k bt781.1 bt781.2.1 t768 t769).bind fun t787 => (if t787 = true then (laws_FnExactPoolUse.j0 k t772 bt781.2.2 (bt781.2.2 != t772) a0_0 l0_1 a1_0 a1_1 t768 t769 t774 t775 bt781.1 bt781.2.1) else (laws_FnExactPoolUse.j0 k t772 bt781.2.2 true a0_0 l0_1 a1_0 a1_1 t768 t769 t774 t775 bt781.1 bt781.2.1))))) = some r := H
  have A13 := Aside0.mk A130
  clear A130
  replace H := Option.bind_eq_some_iff.mp H
  obtain ⟨⟨t779, t780⟩, A140, H⟩ := H
  replace H : ((impl_PoolUse.f t774 t775 t779 t780).bind fun bt781 => ((laws_eqPool.f k bt781.1 bt781.2.1 t768 t769).bind fun t787 => (if t787 = true then (laws_FnExactPoolUse.j0 k t772 bt781.2.2 (bt781.2.2 != t772) a0_0 l0_1 a1_0 a1_1 t768 t769 t774 t775 bt781.1 bt781.2.1) else (laws_FnExactPoolUse.j0 k t772 bt781.2.2 true a0_0 l0_1 a1_0 a1_1 t768 t769 t774 t775 bt781.1 bt781.2.1)))) = some r := H
  have A14 := Aside0.mk A140
  clear A140
  replace H := Option.bind_eq_some_iff.mp H
  obtain ⟨⟨t781, t782, t785⟩, A150, H⟩ := H
  replace H : ((laws_eqPool.f k t781 t782 t768 t769).bind fun t787 => (if t787 = true then (laws_FnExactPoolUse.j0 k t772 t785 (t785 != t772) a0_0 l0_1 a1_0 a1_1 t768 t769 t774 t775 t781 t782) else (laws_FnExactPoolUse.j0 k t772 t785 true a0_0 l0_1 a1_0 a1_1 t768 t769 t774 t775 t781 t782))) = some r := H
  have A15 := Aside0.mk A150
  clear A150
  have HC16 := Aside0.mk H
  clear H
  go_enter Try.func16, Try.ntmps16
  try go_wp2_with (first | ((with_reducible refine gate_dst (N := 2) rfl ?_); refine box_event ?hg (N := 2) ?hd (cs := #[.int .i64 a0_0, .slice A0_1 l0_1.length c0_1]) (t := 42) ?hr ?_; (case hd => rfl); (case hg => rfl); (case hr => first | (go_simp; done) | (go_simp; rfl)); intro gb759 hg w17 hbox hb; have n0_ := Aside0.mk (below_step (z26_7) hb); have n1_ := Aside0.mk (hbox); have n2_ := Aside0.mk ((by rw [hg]; exact (below_size (z26_7)) : w.heap.size ≤ gb759)); have n3_ := Aside0.mk ((by rw [hg]; exact (below_size (z26_7)) : w.heap.size ≤ gb759)); clear HB; have HB := n0_; have BK759 := n1_; have GW759 := n2_; have GE759 := n3_; clear n0_ n1_ n2_ n3_; clear hb hbox hg) | ((with_reducible refine gate_dst (N := 3) rfl ?_); refine box_event ?hg (N := 3) ?hd (cs := #[.int .i64 a1_0, .int .i64 a1_1]) (t := 23) ?hr ?_; (case hd => rfl); (case hg => rfl); (case hr => first | (go_simp; done) | (go_simp; rfl)); intro gb760 hg w18 hbox hb; have n0_ := Aside0.mk (blk_below (g := gb759) (o := .cells #[.int .i64 a0_0, .slice A0_1 l0_1.length c0_1] 42 (0, 0)) (z26_8) hb); have n1_ := Aside0.mk (below_step (z26_5) hb); have n2_ := Aside0.mk (hbox); have n3_ := Aside0.mk ((by rw [hg]; exact (below_size (z26_5)) : w.heap.size ≤ gb760)); have n4_ := Aside0.mk ((by rw [hg]; exact (below_size (z26_5)) : w.heap.size ≤ gb760)); have n5_ := Aside0.mk ((by rw [hg]; exact Nat.ne_of_lt (blk_lt (g := gb759) (o := .cells #[.int .i64 a0_0, .slice A0_1 l0_1.length c0_1] 42 (0, 0)) (z26_8)) : gb759 ≠ gb760)); have n6_ := Aside0.mk ((by rw [hg]; exact Nat.ne_of_gt (blk_lt (g := gb759) (o := .cells #[.int .i64 a0_0, .slice A0_1 l0_1.length c0_1] 42 (0, 0)) (z26_8)) : gb760 ≠ gb759)); clear BK759; clear HB; have BK759 := n0_; have HB := n1_; have BK760 := n2_; have GW760 := n3_; have GE760 := n4_; have NB759_760 := n5_; have NB760_759 := n6_; clear n0_ n1_ n2_ n3_ n4_ n5_ n6_; clear hb hbox hg; have hnb19 := NB759_760.out; have hnc19 := NB760_759.out; have hcz20_0 : w18.cell? ⟨gb759, 0, none⟩ = some (.int .i64 a0_0) := (blk_cell BK759.out 0).trans rfl; have hcz20_1 : w18.cell? ⟨gb759, 1, none⟩ = some (.slice A0_1 l0_1.length c0_1) := (blk_cell BK759.out 1).trans rfl; have hfz20_0 := blk_frozen BK759.out 0; have hfz20_1 := blk_frozen BK759.out 1) | ((with_reducible refine gate_callee (f := 32) rfl ?_); refine goesL_ (some 18) rfl rfl Try.func32 (by kernel_rfl) rfl #[.agg #[.int .i64 a0_0, .slice A0_1 l0_1.length c0_1], .int .i64 1048576] rfl (z26_6) ?_; (with_reducible refine (laws_szPool.calls a0_0 _ _ l0_1 1048576 t761 _ ?side1 ?side2 A3.out).mono ?_); (case side1 => repeat (first | exact (Kd.C_below HR0_1.out HB.out) | (with_reducible refine Kd.C_alloc ?_ _) | (with_reducible refine Kd.C_drewN ?_ _) | (with_reducible refine Kd.C_drew ?_))); (case side2 => exact HC0_1.out); rintro e w21 ⟨rfl, hb⟩; refine ⟨_, rfl, ?_⟩; have n0_ := Aside0.mk (blk_below (g := gb759) (o := .cells #[.int .i64 a0_0, .slice A0_1 l0_1.length c0_1] 42 (0, 0)) (z26_8) hb); have n1_ := Aside0.mk (blk_below (g := gb760) (o := .cells #[.int .i64 a1_0, .int .i64 a1_1] 23 (0, 0)) (z26_9) hb); have n2_ := Aside0.mk (below_step (z26_4) hb); clear BK759; clear BK760; clear HB; have BK759 := n0_; have BK760 := n1_; have HB := n2_; clear n0_ n1_ n2_; (try clear hb); (try clear hb2); (try clear hk); (try clear hi)))
  have n0_ := Aside0.mk (blk_drew BK759.out)
  have n1_ := Aside0.mk (blk_drew BK760.out)
  have n2_ := Aside0.mk (below_drew1 HB.out)
  clear BK759
  clear BK760
  clear HB
  have BK759 := n0_
  have BK760 := n1_
  have HB := n2_
  clear n0_ n1_ n2_
  refine start_ (n := 11) (S := fun w' => w'.cell? ⟨gb759, 0, none⟩ = some (.int .i64 a0_0) ∧ w'.cell? ⟨gb759, 1, none⟩ = some (.slice A0_1 l0_1.length c0_1) ∧ w'.cell? ⟨gb760, 0, none⟩ = some (.int .i64 a1_0) ∧ w'.cell? ⟨gb760, 1, none⟩ = some (.int .i64 a1_1)) (ds := []) #[ff,ff,ff,ff,ff,ff,ff,ff,ff,ff,ff] (by kernel_rfl) rfl rfl ⟨(blk_cell BK759.out 0).trans rfl, (blk_cell BK759.out 1).trans rfl, (blk_cell BK760.out 0).trans rfl, (blk_cell BK760.out 1).trans rfl⟩ (fun hHeld => ?_); refine with_tabW laws_FnExactPoolUse.tab5 laws_FnExactPoolUse.bits5 (fun HT_ HW_ => ?_)
  generalize w21.drew = w22 at BK759 BK760 HB hHeld ⊢
  refine take_ (i := 0) (N := some 22) (v := ?_) (a' := ?_) #[tt,ff,ff,ff,ff,ff,ff,ff,ff,ff,ff] rfl rfl (take_ofW HT_.out HW_.out (by kernel_rfl)) (fun _ _ _ h => h) (Or.inl ⟨by rfl, ?_⟩) hHeld ?_ ?_
  rotate_left
  ·rintro w' ⟨s0, s1, s2, s3⟩
   go_simp
   with_reducible rfl
  rotate_left
  ·simp only [Act.put, List.setIfInBounds_toArray, List.set_cons_zero, List.set_cons_succ, i64_w, i32_w]
   rfl
  refine take_ (i := 2) (N := some 24) (v := ?_) (a' := ?_) #[tt,ff,tt,ff,ff,ff,ff,ff,ff,ff,ff] rfl rfl (take_ofW HT_.out HW_.out (by kernel_rfl)) (fun _ _ _ h => h) (Or.inl ⟨by rfl, ?_⟩) hHeld ?_ ?_
  rotate_left
  ·rintro w' ⟨s0, s1, s2, s3⟩
   go_simp
   with_reducible rfl
  rotate_left
  ·simp only [Act.put, List.setIfInBounds_toArray, List.set_cons_zero, List.set_cons_succ, i64_w, i32_w]
   rfl
  refine join_ (σ := Value × Value × Nat) 2 #[tt,tt,tt,tt,tt,tt,tt,tt,tt,ff,ff] (fun s_ => [(23, .agg #[.int .i64 t762, s_.1]), (25, .agg #[.int .i64 t766, .int .i64 t767]), (26, .tuple #[.agg #[.int .i64 t768, s_.2.1], .bool t772]), (6, .pointer (some ⟨s_.2.2, 0, none⟩)), (21, .tuple #[.agg #[.int .i64 t768, s_.2.1], .bool t772]), (27, .agg #[.int .i64 t768, s_.2.1]), (28, .bool t772)]) (fun s_ w' => (w'.cell? ⟨gb759, 0, none⟩ = some (.int .i64 a0_0) ∧ w'.cell? ⟨gb759, 1, none⟩ = some (.slice A0_1 l0_1.length c0_1) ∧ w'.cell? ⟨gb760, 0, none⟩ = some (.int .i64 a1_0) ∧ w'.cell? ⟨gb760, 1, none⟩ = some (.int .i64 a1_1)) ∧ (Kd.R k25 25 w' w.heap.size (fun k_ => some k_ ≠ (s_.2.1 : Value).ownBlock) s_.1 t763) ∧ (Kd.R k25 25 w' w.heap.size (fun k_ => some k_ ≠ (s_.1 : Value).ownBlock) s_.2.1 t769) ∧ (w'.heap[gb759]? = some (.cells #[.int .i64 a0_0, .slice A0_1 l0_1.length c0_1] 42 (0, 0))) ∧ (w'.heap[gb760]? = some (.cells #[.int .i64 a1_0, .int .i64 a1_1] 23 (0, 0))) ∧ (w'.heap[s_.2.2]? = some (.cells #[.int .i64 0, .slice none 0 0] 46 (0, 0))) ∧ (w.heap.size ≤ s_.2.2) ∧ (w.heap.size ≤ s_.2.2) ∧ (gb759 ≠ s_.2.2) ∧ (s_.2.2 ≠ gb759) ∧ (gb760 ≠ s_.2.2) ∧ (s_.2.2 ≠ gb760) ∧ (Below w.heap.size w w')) ?_ ?_
  rotate_left
  ·intro hCont
   refine two_ (i := 1) (j := 8) (Ni := some 23) (Nj := some 6) #[tt,tt,tt,ff,ff,ff,ff,ff,ff,ff,ff] #[tt,ff,tt,ff,ff,ff,ff,ff,tt,ff,ff] rfl rfl rfl rfl (two_of HT_.out (by kernel_rfl)) (by decide) (by decide) (fun K hK => ?_) (fun K hK => ?_)
   ·skip
    refine goes_ Try.func34 (by kernel_rfl) rfl #[.agg #[.int .i64 a0_0, .slice A0_1 l0_1.length c0_1]] (by rfl) rfl rfl (z26_6) ?_
    with_reducible refine (laws_toPool.calls k a0_0 _ _ l0_1 t762 t763 _ ?side1 ?side2 A10.out).mono ?_
    (case side1 => repeat (first | exact (Kd.C_below HR0_1.out HB.out) | (with_reducible refine Kd.C_alloc ?_ _) | (with_reducible refine Kd.C_drewN ?_ _) | (with_reducible refine Kd.C_drew ?_)))
    (case side2 => exact HC0_1.out)
    rintro e w23 ⟨v764, rfl, ho0, hb⟩
    refine ⟨_, rfl, ?_⟩
    have n0_ := Aside0.mk (Kd.R_lower ho0 (below_size (z26_4)))
    have n1_ := Aside0.mk (blk_below (g := gb759) (o := .cells #[.int .i64 a0_0, .slice A0_1 l0_1.length c0_1] 42 (0, 0)) (z26_8) hb)
    have n2_ := Aside0.mk (blk_below (g := gb760) (o := .cells #[.int .i64 a1_0, .int .i64 a1_1] 23 (0, 0)) (z26_9) hb)
    have n3_ := Aside0.mk (below_step (z26_4) hb)
    clear BK759
    clear BK760
    clear HB
    have HO765 := n0_
    have BK759 := n1_
    have BK760 := n2_
    have HB := n3_
    clear n0_ n1_ n2_ n3_
    (try clear hb)
    (try clear hb2)
    (try clear hk)
    (try clear hi)
    (try clear ho0)
    refine hK.out _ _ ⟨(blk_cell BK759.out 0).trans rfl, (blk_cell BK759.out 1).trans rfl, (blk_cell BK760.out 0).trans rfl, (blk_cell BK760.out 1).trans rfl⟩ (fun hHeld => ?_)
    clear hK K
    refine norm_ (a' := ?_) ?_ ?_
    rotate_left
    ·show Act.put _ (some 23) _ = _
     simp only [Act.put, List.setIfInBounds_toArray, List.set_cons_zero, List.set_cons_succ, i64_w, i32_w]
     rfl
    refine two_ (i := 3) (j := 8) (Ni := some 25) (Nj := some 6) #[tt,tt,tt,tt,ff,ff,ff,ff,ff,ff,ff] #[tt,tt,tt,ff,ff,ff,ff,ff,tt,ff,ff] rfl rfl rfl rfl (two_of HT_.out (by kernel_rfl)) (by decide) (by decide) (fun K hK => ?_) (fun K hK => ?_)
    ·skip
     refine goes_ Try.func21 (by kernel_rfl) rfl #[.agg #[.int .i64 a1_0, .int .i64 a1_1]] (by rfl) rfl rfl (z26_6) ?_
     with_reducible refine (laws_toPage.calls a1_0 a1_1 t766 t767 _ A11.out).mono ?_
     rintro e w24 ⟨rfl, hb⟩
     refine ⟨_, rfl, ?_⟩
     have n0_ := Aside0.mk (Kd.R_below (by (with_reducible repeat (first | apply ra | apply rb | apply rc)); exact HO765.out) hb)
     have n1_ := Aside0.mk (blk_below (g := gb759) (o := .cells #[.int .i64 a0_0, .slice A0_1 l0_1.length c0_1] 42 (0, 0)) (z26_8) hb)
     have n2_ := Aside0.mk (blk_below (g := gb760) (o := .cells #[.int .i64 a1_0, .int .i64 a1_1] 23 (0, 0)) (z26_9) hb)
     have n3_ := Aside0.mk (below_step (z26_4) hb)
     clear HO765
     clear BK759
     clear BK760
     clear HB
     have HO765 := n0_
     have BK759 := n1_
     have BK760 := n2_
     have HB := n3_
     clear n0_ n1_ n2_ n3_
     (try clear hb)
     (try clear hb2)
     (try clear hk)
     (try clear hi)
     obtain ⟨Ao25, co25, eo25⟩ := Kd.R_slice HO765.out
     (first | subst eo25 | (injection eo25 with f1_ f2_ f3_; have f4_ := f1_.symm; have f5_ := f3_.symm; clear f1_ f2_ f3_; subst f4_; subst f5_))
     refine hK.out _ _ ⟨(blk_cell BK759.out 0).trans rfl, (blk_cell BK759.out 1).trans rfl, (blk_cell BK760.out 0).trans rfl, (blk_cell BK760.out 1).trans rfl⟩ (fun hHeld => ?_)
     clear hK K
     refine norm_ (a' := ?_) ?_ ?_
     rotate_left
     ·show Act.put _ (some 25) _ = _
      simp only [Act.put, List.setIfInBounds_toArray, List.set_cons_zero, List.set_cons_succ, i64_w, i32_w]
      rfl
     refine two_ (i := 4) (j := 8) (Ni := some 26) (Nj := some 6) #[tt,tt,tt,tt,tt,ff,ff,ff,ff,ff,ff] #[tt,tt,tt,tt,ff,ff,ff,ff,tt,ff,ff] rfl rfl rfl rfl (two_of HT_.out (by kernel_rfl)) (by decide) (by decide) (fun K hK => ?_) (fun K hK => ?_)
     ·skip
      refine goes_ Try.func43 (by kernel_rfl) rfl #[.agg #[.int .i64 t762, .slice Ao25 t763.length co25], .agg #[.int .i64 t766, .int .i64 t767]] (by rfl) rfl rfl (z26_6) ?_
      with_reducible refine (spec_PoolUse.calls k t762 _ _ t763 t766 t767 t768 t769 t772 _ ?side1 ?side2 A12.out).mono ?_
      (case side1 => repeat (first | exact (Kd.R_reads' HO765.out).2.2 | (with_reducible refine Kd.C_alloc ?_ _) | (with_reducible refine Kd.C_drewN ?_ _) | (with_reducible refine Kd.C_drew ?_)))
      (case side2 => exact (Kd.R_reads' HO765.out).2.1)
      rintro e w26 ⟨v770, rfl, ho0, hb⟩
      refine ⟨_, rfl, ?_⟩
      have n0_ := Aside0.mk (Kd.R_elder' (by (with_reducible repeat (first | apply ra | apply rb | apply rc)); exact HO765.out) (Kd.R_base ho0) hb)
      have n1_ := Aside0.mk (Kd.R_lower (Kd.R_new' ho0 (Kd.R_lt (by (with_reducible repeat (first | apply ra | apply rb | apply rc)); exact HO765.out))) (below_size (z26_4)))
      have n2_ := Aside0.mk (blk_below (g := gb759) (o := .cells #[.int .i64 a0_0, .slice A0_1 l0_1.length c0_1] 42 (0, 0)) (z26_8) hb)
      have n3_ := Aside0.mk (blk_below (g := gb760) (o := .cells #[.int .i64 a1_0, .int .i64 a1_1] 23 (0, 0)) (z26_9) hb)
      have n4_ := Aside0.mk (below_step (z26_4) hb)
      clear HO765
      clear BK759
      clear BK760
      clear HB
      have HO765 := n0_
      have HO771 := n1_
      have BK759 := n2_
      have BK760 := n3_
      have HB := n4_
      clear n0_ n1_ n2_ n3_ n4_
      (try clear hb)
      (try clear hb2)
      (try clear hk)
      (try clear hi)
      (try clear ho0)
      refine hK.out _ _ ⟨(blk_cell BK759.out 0).trans rfl, (blk_cell BK759.out 1).trans rfl, (blk_cell BK760.out 0).trans rfl, (blk_cell BK760.out 1).trans rfl⟩ (fun hHeld => ?_)
      clear hK K
      refine norm_ (a' := ?_) ?_ ?_
      rotate_left
      ·show Act.put _ (some 26) _ = _
       simp only [Act.put, List.setIfInBounds_toArray, List.set_cons_zero, List.set_cons_succ, i64_w, i32_w]
       rfl
      refine pure_ (i := 5) (N := some 21) (v := ?_) (a' := ?_) #[tt,tt,tt,tt,tt,tt,ff,ff,ff,ff,ff] rfl rfl (any_of HT_.out (by kernel_rfl)) (fun _ _ _ h => h) (Or.inl ⟨by rfl, ?_⟩) ?_ ?_
      rotate_left
      ·intro w'
       go_simp
       with_reducible rfl
      rotate_left
      ·simp only [Act.put, List.setIfInBounds_toArray, List.set_cons_zero, List.set_cons_succ, i64_w, i32_w]
       rfl
      refine pure_ (i := 6) (N := some 27) (v := ?_) (a' := ?_) #[tt,tt,tt,tt,tt,tt,tt,ff,ff,ff,ff] rfl rfl (any_of HT_.out (by kernel_rfl)) (fun _ _ _ h => h) (Or.inl ⟨by rfl, ?_⟩) ?_ ?_
      rotate_left
      ·intro w'
       go_simp
       with_reducible rfl
      rotate_left
      ·simp only [Act.put, List.setIfInBounds_toArray, List.set_cons_zero, List.set_cons_succ, i64_w, i32_w]
       rfl
      refine pure_ (i := 7) (N := some 28) (v := ?_) (a' := ?_) #[tt,tt,tt,tt,tt,tt,tt,tt,ff,ff,ff] rfl rfl (any_of HT_.out (by kernel_rfl)) (fun _ _ _ h => h) (Or.inl ⟨by rfl, ?_⟩) ?_ ?_
      rotate_left
      ·intro w'
       go_simp
       with_reducible rfl
      rotate_left
      ·simp only [Act.put, List.setIfInBounds_toArray, List.set_cons_zero, List.set_cons_succ, i64_w, i32_w]
       rfl
      refine one_ (i := 8) (N := some 6) #[tt,tt,tt,tt,tt,tt,tt,tt,tt,ff,ff] rfl rfl (one_of HT_.out (by kernel_rfl)) (by decide) (fun K hK => ?_)
      refine box_step ?hg (N := 6) ?hd (cs := #[.int .i64 0, .slice none 0 0]) (t := 46) ?hr ?_; (case hd => rfl); (case hg => rfl); (case hr => first | (go_simp; done) | (go_simp; rfl))
      intro gb773 hg w27 hbox hb
      have n0_ := Aside0.mk (Kd.R_below (by (with_reducible repeat (first | apply ra | apply rb | apply rc)); exact HO765.out) hb)
      have n1_ := Aside0.mk (Kd.R_below (by (with_reducible repeat (first | apply ra | apply rb | apply rc)); exact HO771.out) hb)
      have n2_ := Aside0.mk (blk_below (g := gb759) (o := .cells #[.int .i64 a0_0, .slice A0_1 l0_1.length c0_1] 42 (0, 0)) (z26_8) hb)
      have n3_ := Aside0.mk (blk_below (g := gb760) (o := .cells #[.int .i64 a1_0, .int .i64 a1_1] 23 (0, 0)) (z26_9) hb)
      have n4_ := Aside0.mk (below_step (z26_4) hb)
      have n5_ := Aside0.mk (hbox)
      have n6_ := Aside0.mk ((by rw [hg]; exact (below_size (z26_4)) : w.heap.size ≤ gb773))
      have n7_ := Aside0.mk ((by rw [hg]; exact (below_size (z26_4)) : w.heap.size ≤ gb773))
      have n8_ := Aside0.mk ((by rw [hg]; exact Nat.ne_of_lt (blk_lt (g := gb759) (o := .cells #[.int .i64 a0_0, .slice A0_1 l0_1.length c0_1] 42 (0, 0)) (z26_8)) : gb759 ≠ gb773))
      have n9_ := Aside0.mk ((by rw [hg]; exact Nat.ne_of_gt (blk_lt (g := gb759) (o := .cells #[.int .i64 a0_0, .slice A0_1 l0_1.length c0_1] 42 (0, 0)) (z26_8)) : gb773 ≠ gb759))
      have n10_ := Aside0.mk ((by rw [hg]; exact Nat.ne_of_lt (blk_lt (g := gb760) (o := .cells #[.int .i64 a1_0, .int .i64 a1_1] 23 (0, 0)) (z26_9)) : gb760 ≠ gb773))
      have n11_ := Aside0.mk ((by rw [hg]; exact Nat.ne_of_gt (blk_lt (g := gb760) (o := .cells #[.int .i64 a1_0, .int .i64 a1_1] 23 (0, 0)) (z26_9)) : gb773 ≠ gb760))
      clear HO765
      clear HO771
      clear BK759
      clear BK760
      clear HB
      have HO765 := n0_
      have HO771 := n1_
      have BK759 := n2_
      have BK760 := n3_
      have HB := n4_
      have BK773 := n5_
      have GW773 := n6_
      have GE773 := n7_
      have NB759_773 := n8_
      have NB773_759 := n9_
      have NB760_773 := n10_
      have NB773_760 := n11_
      clear n0_ n1_ n2_ n3_ n4_ n5_ n6_ n7_ n8_ n9_ n10_ n11_
      clear hb hbox hg
      refine hK.out _ _ ⟨(blk_cell BK759.out 0).trans rfl, (blk_cell BK759.out 1).trans rfl, (blk_cell BK760.out 0).trans rfl, (blk_cell BK760.out 1).trans rfl⟩ (fun hHeld => ?_)
      clear hK K
      refine norm_ (a' := ?_) ?_ ?_
      rotate_left
      ·show Act.put _ (some 6) _ = _
       simp only [Act.put, List.setIfInBounds_toArray, List.set_cons_zero, List.set_cons_succ, i64_w, i32_w]
       rfl
      exact norm_ (z26_14) (hCont (.slice Ao25 t763.length co25, v770, gb773) _ ⟨hHeld, (by (with_reducible repeat (first | apply ra | apply rb | apply rc)); exact Kd.R_mono HO765.out (fun _ hk => hk.2)), (by (with_reducible repeat (first | apply ra | apply rb | apply rc)); exact Kd.R_mono HO771.out (fun _ hk => hk.2)), (z26_8), (z26_9), (z26_10), GW773.out, GE773.out, NB759_773.out, NB773_759.out, NB760_773.out, NB773_760.out, (z26_3)⟩)
     ·skip
      refine box_step ?hg (N := 6) ?hd (cs := #[.int .i64 0, .slice none 0 0]) (t := 46) ?hr ?_; (case hd => rfl); (case hg => rfl); (case hr => first | (go_simp; done) | (go_simp; rfl))
      intro gb773 hg w25 hbox hb
      have n0_ := Aside0.mk (Kd.R_below (by (with_reducible repeat (first | apply ra | apply rb | apply rc)); exact HO765.out) hb)
      have n1_ := Aside0.mk (blk_below (g := gb759) (o := .cells #[.int .i64 a0_0, .slice A0_1 l0_1.length c0_1] 42 (0, 0)) (z26_8) hb)
      have n2_ := Aside0.mk (blk_below (g := gb760) (o := .cells #[.int .i64 a1_0, .int .i64 a1_1] 23 (0, 0)) (z26_9) hb)
      have n3_ := Aside0.mk (below_step (z26_4) hb)
      have n4_ := Aside0.mk (hbox)
      have n5_ := Aside0.mk ((by rw [hg]; exact (below_size (z26_4)) : w.heap.size ≤ gb773))
      have n6_ := Aside0.mk ((by rw [hg]; exact (below_size (z26_4)) : w.heap.size ≤ gb773))
      have n7_ := Aside0.mk ((by rw [hg]; exact Nat.ne_of_lt (blk_lt (g := gb759) (o := .cells #[.int .i64 a0_0, .slice A0_1 l0_1.length c0_1] 42 (0, 0)) (z26_8)) : gb759 ≠ gb773))
      have n8_ := Aside0.mk ((by rw [hg]; exact Nat.ne_of_gt (blk_lt (g := gb759) (o := .cells #[.int .i64 a0_0, .slice A0_1 l0_1.length c0_1] 42 (0, 0)) (z26_8)) : gb773 ≠ gb759))
      have n9_ := Aside0.mk ((by rw [hg]; exact Nat.ne_of_lt (blk_lt (g := gb760) (o := .cells #[.int .i64 a1_0, .int .i64 a1_1] 23 (0, 0)) (z26_9)) : gb760 ≠ gb773))
      have n10_ := Aside0.mk ((by rw [hg]; exact Nat.ne_of_gt (blk_lt (g := gb760) (o := .cells #[.int .i64 a1_0, .int .i64 a1_1] 23 (0, 0)) (z26_9)) : gb773 ≠ gb760))
      clear HO765
      clear BK759
      clear BK760
      clear HB
      have HO765 := n0_
      have BK759 := n1_
      have BK760 := n2_
      have HB := n3_
      have BK773 := n4_
      have GW773 := n5_
      have GE773 := n6_
      have NB759_773 := n7_
      have NB773_759 := n8_
      have NB760_773 := n9_
      have NB773_760 := n10_
      clear n0_ n1_ n2_ n3_ n4_ n5_ n6_ n7_ n8_ n9_ n10_
      clear hb hbox hg
      obtain ⟨Ao26, co26, eo26⟩ := Kd.R_slice HO765.out
      (first | subst eo26 | (injection eo26 with f1_ f2_ f3_; have f4_ := f1_.symm; have f5_ := f3_.symm; clear f1_ f2_ f3_; subst f4_; subst f5_))
      refine hK.out _ _ ⟨(blk_cell BK759.out 0).trans rfl, (blk_cell BK759.out 1).trans rfl, (blk_cell BK760.out 0).trans rfl, (blk_cell BK760.out 1).trans rfl⟩ (fun hHeld => ?_)
      clear hK K
      refine norm_ (a' := ?_) ?_ ?_
      rotate_left
      ·show Act.put _ (some 6) _ = _
       simp only [Act.put, List.setIfInBounds_toArray, List.set_cons_zero, List.set_cons_succ, i64_w, i32_w]
       rfl
      refine one_ (i := 4) (N := some 26) #[tt,tt,tt,tt,tt,ff,ff,ff,tt,ff,ff] rfl rfl (one_of HT_.out (by kernel_rfl)) (by decide) (fun K hK => ?_)
      refine goes_ Try.func43 (by kernel_rfl) rfl #[.agg #[.int .i64 t762, .slice Ao26 t763.length co26], .agg #[.int .i64 t766, .int .i64 t767]] (by rfl) rfl rfl (z26_6) ?_
      with_reducible refine (spec_PoolUse.calls k t762 _ _ t763 t766 t767 t768 t769 t772 _ ?side1 ?side2 A12.out).mono ?_
      (case side1 => repeat (first | exact (Kd.R_reads' HO765.out).2.2 | (with_reducible refine Kd.C_alloc ?_ _) | (with_reducible refine Kd.C_drewN ?_ _) | (with_reducible refine Kd.C_drew ?_)))
      (case side2 => exact (Kd.R_reads' HO765.out).2.1)
      rintro e w27 ⟨v770, rfl, ho0, hb⟩
      refine ⟨_, rfl, ?_⟩
      have n0_ := Aside0.mk (Kd.R_elder' (by (with_reducible repeat (first | apply ra | apply rb | apply rc)); exact HO765.out) (Kd.R_base ho0) hb)
      have n1_ := Aside0.mk (Kd.R_lower (Kd.R_new' ho0 (Kd.R_lt (by (with_reducible repeat (first | apply ra | apply rb | apply rc)); exact HO765.out))) (below_size (z26_3)))
      have n2_ := Aside0.mk (blk_below (g := gb759) (o := .cells #[.int .i64 a0_0, .slice A0_1 l0_1.length c0_1] 42 (0, 0)) (z26_8) hb)
      have n3_ := Aside0.mk (blk_below (g := gb760) (o := .cells #[.int .i64 a1_0, .int .i64 a1_1] 23 (0, 0)) (z26_9) hb)
      have n4_ := Aside0.mk (blk_below (g := gb773) (o := .cells #[.int .i64 0, .slice none 0 0] 46 (0, 0)) (z26_10) hb)
      have n5_ := Aside0.mk (below_step (z26_3) hb)
      clear HO765
      clear BK759
      clear BK760
      clear BK773
      clear HB
      have HO765 := n0_
      have HO771 := n1_
      have BK759 := n2_
      have BK760 := n3_
      have BK773 := n4_
      have HB := n5_
      clear n0_ n1_ n2_ n3_ n4_ n5_
      (try clear hb)
      (try clear hb2)
      (try clear hk)
      (try clear hi)
      (try clear ho0)
      refine hK.out _ _ ⟨(blk_cell BK759.out 0).trans rfl, (blk_cell BK759.out 1).trans rfl, (blk_cell BK760.out 0).trans rfl, (blk_cell BK760.out 1).trans rfl⟩ (fun hHeld => ?_)
      clear hK K
      refine norm_ (a' := ?_) ?_ ?_
      rotate_left
      ·show Act.put _ (some 26) _ = _
       simp only [Act.put, List.setIfInBounds_toArray, List.set_cons_zero, List.set_cons_succ, i64_w, i32_w]
       rfl
      refine pure_ (i := 5) (N := some 21) (v := ?_) (a' := ?_) #[tt,tt,tt,tt,tt,tt,ff,ff,tt,ff,ff] rfl rfl (any_of HT_.out (by kernel_rfl)) (fun _ _ _ h => h) (Or.inl ⟨by rfl, ?_⟩) ?_ ?_
      rotate_left
      ·intro w'
       go_simp
       with_reducible rfl
      rotate_left
      ·simp only [Act.put, List.setIfInBounds_toArray, List.set_cons_zero, List.set_cons_succ, i64_w, i32_w]
       rfl
      refine pure_ (i := 6) (N := some 27) (v := ?_) (a' := ?_) #[tt,tt,tt,tt,tt,tt,tt,ff,tt,ff,ff] rfl rfl (any_of HT_.out (by kernel_rfl)) (fun _ _ _ h => h) (Or.inl ⟨by rfl, ?_⟩) ?_ ?_
      rotate_left
      ·intro w'
       go_simp
       with_reducible rfl
      rotate_left
      ·simp only [Act.put, List.setIfInBounds_toArray, List.set_cons_zero, List.set_cons_succ, i64_w, i32_w]
       rfl
      refine pure_ (i := 7) (N := some 28) (v := ?_) (a' := ?_) #[tt,tt,tt,tt,tt,tt,tt,tt,tt,ff,ff] rfl rfl (any_of HT_.out (by kernel_rfl)) (fun _ _ _ h => h) (Or.inl ⟨by rfl, ?_⟩) ?_ ?_
      rotate_left
      ·intro w'
       go_simp
       with_reducible rfl
      rotate_left
      ·simp only [Act.put, List.setIfInBounds_toArray, List.set_cons_zero, List.set_cons_succ, i64_w, i32_w]
       rfl
      exact norm_ (z26_14) (hCont (.slice Ao26 t763.length co26, v770, gb773) _ ⟨hHeld, (by (with_reducible repeat (first | apply ra | apply rb | apply rc)); exact Kd.R_mono HO765.out (fun _ hk => hk.2)), (by (with_reducible repeat (first | apply ra | apply rb | apply rc)); exact Kd.R_mono HO771.out (fun _ hk => hk.2)), (z26_8), (z26_9), (z26_10), GW773.out, GE773.out, NB759_773.out, NB773_759.out, NB760_773.out, NB773_760.out, (z26_3)⟩)
    ·skip
     refine box_step ?hg (N := 6) ?hd (cs := #[.int .i64 0, .slice none 0 0]) (t := 46) ?hr ?_; (case hd => rfl); (case hg => rfl); (case hr => first | (go_simp; done) | (go_simp; rfl))
     intro gb773 hg w24 hbox hb
     have n0_ := Aside0.mk (Kd.R_below (by (with_reducible repeat (first | apply ra | apply rb | apply rc)); exact HO765.out) hb)
     have n1_ := Aside0.mk (blk_below (g := gb759) (o := .cells #[.int .i64 a0_0, .slice A0_1 l0_1.length c0_1] 42 (0, 0)) (z26_8) hb)
     have n2_ := Aside0.mk (blk_below (g := gb760) (o := .cells #[.int .i64 a1_0, .int .i64 a1_1] 23 (0, 0)) (z26_9) hb)
     have n3_ := Aside0.mk (below_step (z26_4) hb)
     have n4_ := Aside0.mk (hbox)
     have n5_ := Aside0.mk ((by rw [hg]; exact (below_size (z26_4)) : w.heap.size ≤ gb773))
     have n6_ := Aside0.mk ((by rw [hg]; exact (below_size (z26_4)) : w.heap.size ≤ gb773))
     have n7_ := Aside0.mk ((by rw [hg]; exact Nat.ne_of_lt (blk_lt (g := gb759) (o := .cells #[.int .i64 a0_0, .slice A0_1 l0_1.length c0_1] 42 (0, 0)) (z26_8)) : gb759 ≠ gb773))
     have n8_ := Aside0.mk ((by rw [hg]; exact Nat.ne_of_gt (blk_lt (g := gb759) (o := .cells #[.int .i64 a0_0, .slice A0_1 l0_1.length c0_1] 42 (0, 0)) (z26_8)) : gb773 ≠ gb759))
     have n9_ := Aside0.mk ((by rw [hg]; exact Nat.ne_of_lt (blk_lt (g := gb760) (o := .cells #[.int .i64 a1_0, .int .i64 a1_1] 23 (0, 0)) (z26_9)) : gb760 ≠ gb773))
     have n10_ := Aside0.mk ((by rw [hg]; exact Nat.ne_of_gt (blk_lt (g := gb760) (o := .cells #[.int .i64 a1_0, .int .i64 a1_1] 23 (0, 0)) (z26_9)) : gb773 ≠ gb760))
     clear HO765
     clear BK759
     clear BK760
     clear HB
     have HO765 := n0_
     have BK759 := n1_
     have BK760 := n2_
     have HB := n3_
     have BK773 := n4_
     have GW773 := n5_
     have GE773 := n6_
     have NB759_773 := n7_
     have NB773_759 := n8_
     have NB760_773 := n9_
     have NB773_760 := n10_
     clear n0_ n1_ n2_ n3_ n4_ n5_ n6_ n7_ n8_ n9_ n10_
     clear hb hbox hg
     refine hK.out _ _ ⟨(blk_cell BK759.out 0).trans rfl, (blk_cell BK759.out 1).trans rfl, (blk_cell BK760.out 0).trans rfl, (blk_cell BK760.out 1).trans rfl⟩ (fun hHeld => ?_)
     clear hK K
     refine norm_ (a' := ?_) ?_ ?_
     rotate_left
     ·show Act.put _ (some 6) _ = _
      simp only [Act.put, List.setIfInBounds_toArray, List.set_cons_zero, List.set_cons_succ, i64_w, i32_w]
      rfl
     refine one_ (i := 3) (N := some 25) #[tt,tt,tt,tt,ff,ff,ff,ff,tt,ff,ff] rfl rfl (one_of HT_.out (by kernel_rfl)) (by decide) (fun K hK => ?_)
     refine goes_ Try.func21 (by kernel_rfl) rfl #[.agg #[.int .i64 a1_0, .int .i64 a1_1]] (by rfl) rfl rfl (z26_6) ?_
     with_reducible refine (laws_toPage.calls a1_0 a1_1 t766 t767 _ A11.out).mono ?_
     rintro e w25 ⟨rfl, hb⟩
     refine ⟨_, rfl, ?_⟩
     have n0_ := Aside0.mk (Kd.R_below (by (with_reducible repeat (first | apply ra | apply rb | apply rc)); exact HO765.out) hb)
     have n1_ := Aside0.mk (blk_below (g := gb759) (o := .cells #[.int .i64 a0_0, .slice A0_1 l0_1.length c0_1] 42 (0, 0)) (z26_8) hb)
     have n2_ := Aside0.mk (blk_below (g := gb760) (o := .cells #[.int .i64 a1_0, .int .i64 a1_1] 23 (0, 0)) (z26_9) hb)
     have n3_ := Aside0.mk (blk_below (g := gb773) (o := .cells #[.int .i64 0, .slice none 0 0] 46 (0, 0)) (z26_10) hb)
     have n4_ := Aside0.mk (below_step (z26_3) hb)
     clear HO765
     clear BK759
     clear BK760
     clear BK773
     clear HB
     have HO765 := n0_
     have BK759 := n1_
     have BK760 := n2_
     have BK773 := n3_
     have HB := n4_
     clear n0_ n1_ n2_ n3_ n4_
     (try clear hb)
     (try clear hb2)
     (try clear hk)
     (try clear hi)
     obtain ⟨Ao26, co26, eo26⟩ := Kd.R_slice HO765.out
     (first | subst eo26 | (injection eo26 with f1_ f2_ f3_; have f4_ := f1_.symm; have f5_ := f3_.symm; clear f1_ f2_ f3_; subst f4_; subst f5_))
     refine hK.out _ _ ⟨(blk_cell BK759.out 0).trans rfl, (blk_cell BK759.out 1).trans rfl, (blk_cell BK760.out 0).trans rfl, (blk_cell BK760.out 1).trans rfl⟩ (fun hHeld => ?_)
     clear hK K
     refine norm_ (a' := ?_) ?_ ?_
     rotate_left
     ·show Act.put _ (some 25) _ = _
      simp only [Act.put, List.setIfInBounds_toArray, List.set_cons_zero, List.set_cons_succ, i64_w, i32_w]
      rfl
     refine one_ (i := 4) (N := some 26) #[tt,tt,tt,tt,tt,ff,ff,ff,tt,ff,ff] rfl rfl (one_of HT_.out (by kernel_rfl)) (by decide) (fun K hK => ?_)
     refine goes_ Try.func43 (by kernel_rfl) rfl #[.agg #[.int .i64 t762, .slice Ao26 t763.length co26], .agg #[.int .i64 t766, .int .i64 t767]] (by rfl) rfl rfl (z26_6) ?_
     with_reducible refine (spec_PoolUse.calls k t762 _ _ t763 t766 t767 t768 t769 t772 _ ?side1 ?side2 A12.out).mono ?_
     (case side1 => repeat (first | exact (Kd.R_reads' HO765.out).2.2 | (with_reducible refine Kd.C_alloc ?_ _) | (with_reducible refine Kd.C_drewN ?_ _) | (with_reducible refine Kd.C_drew ?_)))
     (case side2 => exact (Kd.R_reads' HO765.out).2.1)
     rintro e w27 ⟨v770, rfl, ho0, hb⟩
     refine ⟨_, rfl, ?_⟩
     have n0_ := Aside0.mk (Kd.R_elder' (by (with_reducible repeat (first | apply ra | apply rb | apply rc)); exact HO765.out) (Kd.R_base ho0) hb)
     have n1_ := Aside0.mk (Kd.R_lower (Kd.R_new' ho0 (Kd.R_lt (by (with_reducible repeat (first | apply ra | apply rb | apply rc)); exact HO765.out))) (below_size (z26_3)))
     have n2_ := Aside0.mk (blk_below (g := gb759) (o := .cells #[.int .i64 a0_0, .slice A0_1 l0_1.length c0_1] 42 (0, 0)) (z26_8) hb)
     have n3_ := Aside0.mk (blk_below (g := gb760) (o := .cells #[.int .i64 a1_0, .int .i64 a1_1] 23 (0, 0)) (z26_9) hb)
     have n4_ := Aside0.mk (blk_below (g := gb773) (o := .cells #[.int .i64 0, .slice none 0 0] 46 (0, 0)) (z26_10) hb)
     have n5_ := Aside0.mk (below_step (z26_3) hb)
     clear HO765
     clear BK759
     clear BK760
     clear BK773
     clear HB
     have HO765 := n0_
     have HO771 := n1_
     have BK759 := n2_
     have BK760 := n3_
     have BK773 := n4_
     have HB := n5_
     clear n0_ n1_ n2_ n3_ n4_ n5_
     (try clear hb)
     (try clear hb2)
     (try clear hk)
     (try clear hi)
     (try clear ho0)
     refine hK.out _ _ ⟨(blk_cell BK759.out 0).trans rfl, (blk_cell BK759.out 1).trans rfl, (blk_cell BK760.out 0).trans rfl, (blk_cell BK760.out 1).trans rfl⟩ (fun hHeld => ?_)
     clear hK K
     refine norm_ (a' := ?_) ?_ ?_
     rotate_left
     ·show Act.put _ (some 26) _ = _
      simp only [Act.put, List.setIfInBounds_toArray, List.set_cons_zero, List.set_cons_succ, i64_w, i32_w]
      rfl
     refine pure_ (i := 5) (N := some 21) (v := ?_) (a' := ?_) #[tt,tt,tt,tt,tt,tt,ff,ff,tt,ff,ff] rfl rfl (any_of HT_.out (by kernel_rfl)) (fun _ _ _ h => h) (Or.inl ⟨by rfl, ?_⟩) ?_ ?_
     rotate_left
     ·intro w'
      go_simp
      with_reducible rfl
     rotate_left
     ·simp only [Act.put, List.setIfInBounds_toArray, List.set_cons_zero, List.set_cons_succ, i64_w, i32_w]
      rfl
     refine pure_ (i := 6) (N := some 27) (v := ?_) (a' := ?_) #[tt,tt,tt,tt,tt,tt,tt,ff,tt,ff,ff] rfl rfl (any_of HT_.out (by kernel_rfl)) (fun _ _ _ h => h) (Or.inl ⟨by rfl, ?_⟩) ?_ ?_
     rotate_left
     ·intro w'
      go_simp
      with_reducible rfl
     rotate_left
     ·simp only [Act.put, List.setIfInBounds_toArray, List.set_cons_zero, List.set_cons_succ, i64_w, i32_w]
      rfl
     refine pure_ (i := 7) (N := some 28) (v := ?_) (a' := ?_) #[tt,tt,tt,tt,tt,tt,tt,tt,tt,ff,ff] rfl rfl (any_of HT_.out (by kernel_rfl)) (fun _ _ _ h => h) (Or.inl ⟨by rfl, ?_⟩) ?_ ?_
     rotate_left
     ·intro w'
      go_simp
      with_reducible rfl
     rotate_left
     ·simp only [Act.put, List.setIfInBounds_toArray, List.set_cons_zero, List.set_cons_succ, i64_w, i32_w]
      rfl
     exact norm_ (z26_14) (hCont (.slice Ao26 t763.length co26, v770, gb773) _ ⟨hHeld, (by (with_reducible repeat (first | apply ra | apply rb | apply rc)); exact Kd.R_mono HO765.out (fun _ hk => hk.2)), (by (with_reducible repeat (first | apply ra | apply rb | apply rc)); exact Kd.R_mono HO771.out (fun _ hk => hk.2)), (z26_8), (z26_9), (z26_10), GW773.out, GE773.out, NB759_773.out, NB773_759.out, NB760_773.out, NB773_760.out, (z26_3)⟩)
   ·skip
    refine box_step ?hg (N := 6) ?hd (cs := #[.int .i64 0, .slice none 0 0]) (t := 46) ?hr ?_; (case hd => rfl); (case hg => rfl); (case hr => first | (go_simp; done) | (go_simp; rfl))
    intro gb773 hg w23 hbox hb
    have n0_ := Aside0.mk (blk_below (g := gb759) (o := .cells #[.int .i64 a0_0, .slice A0_1 l0_1.length c0_1] 42 (0, 0)) (z26_8) hb)
    have n1_ := Aside0.mk (blk_below (g := gb760) (o := .cells #[.int .i64 a1_0, .int .i64 a1_1] 23 (0, 0)) (z26_9) hb)
    have n2_ := Aside0.mk (below_step (z26_4) hb)
    have n3_ := Aside0.mk (hbox)
    have n4_ := Aside0.mk ((by rw [hg]; exact (below_size (z26_4)) : w.heap.size ≤ gb773))
    have n5_ := Aside0.mk ((by rw [hg]; exact (below_size (z26_4)) : w.heap.size ≤ gb773))
    have n6_ := Aside0.mk ((by rw [hg]; exact Nat.ne_of_lt (blk_lt (g := gb759) (o := .cells #[.int .i64 a0_0, .slice A0_1 l0_1.length c0_1] 42 (0, 0)) (z26_8)) : gb759 ≠ gb773))
    have n7_ := Aside0.mk ((by rw [hg]; exact Nat.ne_of_gt (blk_lt (g := gb759) (o := .cells #[.int .i64 a0_0, .slice A0_1 l0_1.length c0_1] 42 (0, 0)) (z26_8)) : gb773 ≠ gb759))
    have n8_ := Aside0.mk ((by rw [hg]; exact Nat.ne_of_lt (blk_lt (g := gb760) (o := .cells #[.int .i64 a1_0, .int .i64 a1_1] 23 (0, 0)) (z26_9)) : gb760 ≠ gb773))
    have n9_ := Aside0.mk ((by rw [hg]; exact Nat.ne_of_gt (blk_lt (g := gb760) (o := .cells #[.int .i64 a1_0, .int .i64 a1_1] 23 (0, 0)) (z26_9)) : gb773 ≠ gb760))
    clear BK759
    clear BK760
    clear HB
    have BK759 := n0_
    have BK760 := n1_
    have HB := n2_
    have BK773 := n3_
    have GW773 := n4_
    have GE773 := n5_
    have NB759_773 := n6_
    have NB773_759 := n7_
    have NB760_773 := n8_
    have NB773_760 := n9_
    clear n0_ n1_ n2_ n3_ n4_ n5_ n6_ n7_ n8_ n9_
    clear hb hbox hg
    refine hK.out _ _ ⟨(blk_cell BK759.out 0).trans rfl, (blk_cell BK759.out 1).trans rfl, (blk_cell BK760.out 0).trans rfl, (blk_cell BK760.out 1).trans rfl⟩ (fun hHeld => ?_)
    clear hK K
    refine norm_ (a' := ?_) ?_ ?_
    rotate_left
    ·show Act.put _ (some 6) _ = _
     simp only [Act.put, List.setIfInBounds_toArray, List.set_cons_zero, List.set_cons_succ, i64_w, i32_w]
     rfl
    refine one_ (i := 1) (N := some 23) #[tt,tt,tt,ff,ff,ff,ff,ff,tt,ff,ff] rfl rfl (one_of HT_.out (by kernel_rfl)) (by decide) (fun K hK => ?_)
    refine goes_ Try.func34 (by kernel_rfl) rfl #[.agg #[.int .i64 a0_0, .slice A0_1 l0_1.length c0_1]] (by rfl) rfl rfl (z26_6) ?_
    with_reducible refine (laws_toPool.calls k a0_0 _ _ l0_1 t762 t763 _ ?side1 ?side2 A10.out).mono ?_
    (case side1 => repeat (first | exact (Kd.C_below HR0_1.out HB.out) | (with_reducible refine Kd.C_alloc ?_ _) | (with_reducible refine Kd.C_drewN ?_ _) | (with_reducible refine Kd.C_drew ?_)))
    (case side2 => exact HC0_1.out)
    rintro e w24 ⟨v764, rfl, ho0, hb⟩
    refine ⟨_, rfl, ?_⟩
    have n0_ := Aside0.mk (Kd.R_lower ho0 (below_size (z26_3)))
    have n1_ := Aside0.mk (blk_below (g := gb759) (o := .cells #[.int .i64 a0_0, .slice A0_1 l0_1.length c0_1] 42 (0, 0)) (z26_8) hb)
    have n2_ := Aside0.mk (blk_below (g := gb760) (o := .cells #[.int .i64 a1_0, .int .i64 a1_1] 23 (0, 0)) (z26_9) hb)
    have n3_ := Aside0.mk (blk_below (g := gb773) (o := .cells #[.int .i64 0, .slice none 0 0] 46 (0, 0)) (z26_10) hb)
    have n4_ := Aside0.mk (below_step (z26_3) hb)
    clear BK759
    clear BK760
    clear BK773
    clear HB
    have HO765 := n0_
    have BK759 := n1_
    have BK760 := n2_
    have BK773 := n3_
    have HB := n4_
    clear n0_ n1_ n2_ n3_ n4_
    (try clear hb)
    (try clear hb2)
    (try clear hk)
    (try clear hi)
    (try clear ho0)
    refine hK.out _ _ ⟨(blk_cell BK759.out 0).trans rfl, (blk_cell BK759.out 1).trans rfl, (blk_cell BK760.out 0).trans rfl, (blk_cell BK760.out 1).trans rfl⟩ (fun hHeld => ?_)
    clear hK K
    refine norm_ (a' := ?_) ?_ ?_
    rotate_left
    ·show Act.put _ (some 23) _ = _
     simp only [Act.put, List.setIfInBounds_toArray, List.set_cons_zero, List.set_cons_succ, i64_w, i32_w]
     rfl
    refine one_ (i := 3) (N := some 25) #[tt,tt,tt,tt,ff,ff,ff,ff,tt,ff,ff] rfl rfl (one_of HT_.out (by kernel_rfl)) (by decide) (fun K hK => ?_)
    refine goes_ Try.func21 (by kernel_rfl) rfl #[.agg #[.int .i64 a1_0, .int .i64 a1_1]] (by rfl) rfl rfl (z26_6) ?_
    with_reducible refine (laws_toPage.calls a1_0 a1_1 t766 t767 _ A11.out).mono ?_
    rintro e w25 ⟨rfl, hb⟩
    refine ⟨_, rfl, ?_⟩
    have n0_ := Aside0.mk (Kd.R_below (by (with_reducible repeat (first | apply ra | apply rb | apply rc)); exact HO765.out) hb)
    have n1_ := Aside0.mk (blk_below (g := gb759) (o := .cells #[.int .i64 a0_0, .slice A0_1 l0_1.length c0_1] 42 (0, 0)) (z26_8) hb)
    have n2_ := Aside0.mk (blk_below (g := gb760) (o := .cells #[.int .i64 a1_0, .int .i64 a1_1] 23 (0, 0)) (z26_9) hb)
    have n3_ := Aside0.mk (blk_below (g := gb773) (o := .cells #[.int .i64 0, .slice none 0 0] 46 (0, 0)) (z26_10) hb)
    have n4_ := Aside0.mk (below_step (z26_3) hb)
    clear HO765
    clear BK759
    clear BK760
    clear BK773
    clear HB
    have HO765 := n0_
    have BK759 := n1_
    have BK760 := n2_
    have BK773 := n3_
    have HB := n4_
    clear n0_ n1_ n2_ n3_ n4_
    (try clear hb)
    (try clear hb2)
    (try clear hk)
    (try clear hi)
    obtain ⟨Ao26, co26, eo26⟩ := Kd.R_slice HO765.out
    (first | subst eo26 | (injection eo26 with f1_ f2_ f3_; have f4_ := f1_.symm; have f5_ := f3_.symm; clear f1_ f2_ f3_; subst f4_; subst f5_))
    refine hK.out _ _ ⟨(blk_cell BK759.out 0).trans rfl, (blk_cell BK759.out 1).trans rfl, (blk_cell BK760.out 0).trans rfl, (blk_cell BK760.out 1).trans rfl⟩ (fun hHeld => ?_)
    clear hK K
    refine norm_ (a' := ?_) ?_ ?_
    rotate_left
    ·show Act.put _ (some 25) _ = _
     simp only [Act.put, List.setIfInBounds_toArray, List.set_cons_zero, List.set_cons_succ, i64_w, i32_w]
     rfl
    refine one_ (i := 4) (N := some 26) #[tt,tt,tt,tt,tt,ff,ff,ff,tt,ff,ff] rfl rfl (one_of HT_.out (by kernel_rfl)) (by decide) (fun K hK => ?_)
    refine goes_ Try.func43 (by kernel_rfl) rfl #[.agg #[.int .i64 t762, .slice Ao26 t763.length co26], .agg #[.int .i64 t766, .int .i64 t767]] (by rfl) rfl rfl (z26_6) ?_
    with_reducible refine (spec_PoolUse.calls k t762 _ _ t763 t766 t767 t768 t769 t772 _ ?side1 ?side2 A12.out).mono ?_
    (case side1 => repeat (first | exact (Kd.R_reads' HO765.out).2.2 | (with_reducible refine Kd.C_alloc ?_ _) | (with_reducible refine Kd.C_drewN ?_ _) | (with_reducible refine Kd.C_drew ?_)))
    (case side2 => exact (Kd.R_reads' HO765.out).2.1)
    rintro e w27 ⟨v770, rfl, ho0, hb⟩
    refine ⟨_, rfl, ?_⟩
    have n0_ := Aside0.mk (Kd.R_elder' (by (with_reducible repeat (first | apply ra | apply rb | apply rc)); exact HO765.out) (Kd.R_base ho0) hb)
    have n1_ := Aside0.mk (Kd.R_lower (Kd.R_new' ho0 (Kd.R_lt (by (with_reducible repeat (first | apply ra | apply rb | apply rc)); exact HO765.out))) (below_size (z26_3)))
    have n2_ := Aside0.mk (blk_below (g := gb759) (o := .cells #[.int .i64 a0_0, .slice A0_1 l0_1.length c0_1] 42 (0, 0)) (z26_8) hb)
    have n3_ := Aside0.mk (blk_below (g := gb760) (o := .cells #[.int .i64 a1_0, .int .i64 a1_1] 23 (0, 0)) (z26_9) hb)
    have n4_ := Aside0.mk (blk_below (g := gb773) (o := .cells #[.int .i64 0, .slice none 0 0] 46 (0, 0)) (z26_10) hb)
    have n5_ := Aside0.mk (below_step (z26_3) hb)
    clear HO765
    clear BK759
    clear BK760
    clear BK773
    clear HB
    have HO765 := n0_
    have HO771 := n1_
    have BK759 := n2_
    have BK760 := n3_
    have BK773 := n4_
    have HB := n5_
    clear n0_ n1_ n2_ n3_ n4_ n5_
    (try clear hb)
    (try clear hb2)
    (try clear hk)
    (try clear hi)
    (try clear ho0)
    refine hK.out _ _ ⟨(blk_cell BK759.out 0).trans rfl, (blk_cell BK759.out 1).trans rfl, (blk_cell BK760.out 0).trans rfl, (blk_cell BK760.out 1).trans rfl⟩ (fun hHeld => ?_)
    clear hK K
    refine norm_ (a' := ?_) ?_ ?_
    rotate_left
    ·show Act.put _ (some 26) _ = _
     simp only [Act.put, List.setIfInBounds_toArray, List.set_cons_zero, List.set_cons_succ, i64_w, i32_w]
     rfl
    refine pure_ (i := 5) (N := some 21) (v := ?_) (a' := ?_) #[tt,tt,tt,tt,tt,tt,ff,ff,tt,ff,ff] rfl rfl (any_of HT_.out (by kernel_rfl)) (fun _ _ _ h => h) (Or.inl ⟨by rfl, ?_⟩) ?_ ?_
    rotate_left
    ·intro w'
     go_simp
     with_reducible rfl
    rotate_left
    ·simp only [Act.put, List.setIfInBounds_toArray, List.set_cons_zero, List.set_cons_succ, i64_w, i32_w]
     rfl
    refine pure_ (i := 6) (N := some 27) (v := ?_) (a' := ?_) #[tt,tt,tt,tt,tt,tt,tt,ff,tt,ff,ff] rfl rfl (any_of HT_.out (by kernel_rfl)) (fun _ _ _ h => h) (Or.inl ⟨by rfl, ?_⟩) ?_ ?_
    rotate_left
    ·intro w'
     go_simp
     with_reducible rfl
    rotate_left
    ·simp only [Act.put, List.setIfInBounds_toArray, List.set_cons_zero, List.set_cons_succ, i64_w, i32_w]
     rfl
    refine pure_ (i := 7) (N := some 28) (v := ?_) (a' := ?_) #[tt,tt,tt,tt,tt,tt,tt,tt,tt,ff,ff] rfl rfl (any_of HT_.out (by kernel_rfl)) (fun _ _ _ h => h) (Or.inl ⟨by rfl, ?_⟩) ?_ ?_
    rotate_left
    ·intro w'
     go_simp
     with_reducible rfl
    rotate_left
    ·simp only [Act.put, List.setIfInBounds_toArray, List.set_cons_zero, List.set_cons_succ, i64_w, i32_w]
     rfl
    exact norm_ (z26_14) (hCont (.slice Ao26 t763.length co26, v770, gb773) _ ⟨hHeld, (by (with_reducible repeat (first | apply ra | apply rb | apply rc)); exact Kd.R_mono HO765.out (fun _ hk => hk.2)), (by (with_reducible repeat (first | apply ra | apply rb | apply rc)); exact Kd.R_mono HO771.out (fun _ hk => hk.2)), (z26_8), (z26_9), (z26_10), GW773.out, GE773.out, NB759_773.out, NB773_759.out, NB760_773.out, NB773_760.out, (z26_3)⟩)
  rintro ⟨v764, v770, gb773⟩ w28 ⟨hS_, h0_, h1_, h2_, h3_, h4_, h5_, h6_, h7_, h8_, h9_, h10_, h11_⟩
  have n0_ : Aside0 (Kd.R k25 25 w28 w.heap.size (fun k_ => some k_ ≠ (v770 : Value).ownBlock) v764 t763) := ⟨h0_⟩
  have n1_ : Aside0 (Kd.R k25 25 w28 w.heap.size (fun k_ => some k_ ≠ (v764 : Value).ownBlock) v770 t769) := ⟨h1_⟩
  have n2_ : Aside0 (w28.heap[gb759]? = some (.cells #[.int .i64 a0_0, .slice A0_1 l0_1.length c0_1] 42 (0, 0))) := ⟨h2_⟩
  have n3_ : Aside0 (w28.heap[gb760]? = some (.cells #[.int .i64 a1_0, .int .i64 a1_1] 23 (0, 0))) := ⟨h3_⟩
  have n4_ : Aside0 (w28.heap[gb773]? = some (.cells #[.int .i64 0, .slice none 0 0] 46 (0, 0))) := ⟨h4_⟩
  have n5_ : Aside0 (w.heap.size ≤ gb773) := ⟨h5_⟩
  have n6_ : Aside0 (w.heap.size ≤ gb773) := ⟨h6_⟩
  have n7_ : Aside0 (gb759 ≠ gb773) := ⟨h7_⟩
  have n8_ : Aside0 (gb773 ≠ gb759) := ⟨h8_⟩
  have n9_ : Aside0 (gb760 ≠ gb773) := ⟨h9_⟩
  have n10_ : Aside0 (gb773 ≠ gb760) := ⟨h10_⟩
  have n11_ : Aside0 (Below w.heap.size w w28) := ⟨h11_⟩
  clear BK759
  clear BK760
  clear HB
  clear h0_ h1_ h2_ h3_ h4_ h5_ h6_ h7_ h8_ h9_ h10_ h11_
  have HO765 := n0_
  have HO771 := n1_
  have BK759 := n2_
  have BK760 := n3_
  have BK773 := n4_
  have GW773 := n5_
  have GE773 := n6_
  have NB759_773 := n7_
  have NB773_759 := n8_
  have NB760_773 := n9_
  have NB773_760 := n10_
  have HB := n11_
  clear n0_ n1_ n2_ n3_ n4_ n5_ n6_ n7_ n8_ n9_ n10_ n11_
  have hHeld : w28.cell? ⟨gb759, 0, none⟩ = some (.int .i64 a0_0) ∧ w28.cell? ⟨gb759, 1, none⟩ = some (.slice A0_1 l0_1.length c0_1) ∧ w28.cell? ⟨gb760, 0, none⟩ = some (.int .i64 a1_0) ∧ w28.cell? ⟨gb760, 1, none⟩ = some (.int .i64 a1_1) := hS_
  obtain ⟨Ao30, co30, eo30⟩ := Kd.R_slice HO771.out
  (first | subst eo30 | (injection eo30 with f1_ f2_ f3_; have f4_ := f1_.symm; have f5_ := f3_.symm; clear f1_ f2_ f3_; subst f4_; subst f5_))
  refine norm_ (a' := ?_) ?_ ?_
  rotate_left
  ·simp only [putAll, Act.put, List.setIfInBounds_toArray, List.set_cons_zero, List.set_cons_succ]
   rfl
  refine one_ (i := 9) (N := none) #[tt,tt,tt,tt,tt,tt,tt,tt,tt,tt,ff] rfl rfl (one_of HT_.out (by kernel_rfl)) (by decide) (fun K hK => ?_)
  have hs29 : w28.cell? ⟨gb773, 0, none⟩ = some (.int .i64 0) := (blk_cell BK773.out 0).trans rfl
  have hfs29 := blk_frozen BK773.out 0
  have hns29_0 := NB759_773.out
  have hns29_1 := NB760_773.out
  have hms29_0 := NB773_759.out
  have hms29_1 := NB773_760.out
  have hs31 : w28.cell? ⟨gb773, 1, none⟩ = some (.slice none 0 0) := (blk_cell BK773.out 1).trans rfl
  have hfs31 := blk_frozen BK773.out 1
  have hns31_0 := NB759_773.out
  have hns31_1 := NB760_773.out
  have hms31_0 := NB773_759.out
  have hms31_1 := NB773_760.out
  refine skip_ (w1 := ?_) (by rfl) rfl ?_ ?_
  rotate_left
  ·go_simp
   rfl
  refine hK.out _ _ ⟨((cell_far (p := ⟨gb773, _, none⟩) NB759_773.out _).trans (((cell_far (p := ⟨gb773, _, none⟩) NB759_773.out _).trans (hHeld.1)))), ((cell_far (p := ⟨gb773, _, none⟩) NB759_773.out _).trans (((cell_far (p := ⟨gb773, _, none⟩) NB759_773.out _).trans (hHeld.2.1)))), ((cell_far (p := ⟨gb773, _, none⟩) NB760_773.out _).trans (((cell_far (p := ⟨gb773, _, none⟩) NB760_773.out _).trans (hHeld.2.2.1)))), ((cell_far (p := ⟨gb773, _, none⟩) NB760_773.out _).trans (((cell_far (p := ⟨gb773, _, none⟩) NB760_773.out _).trans (hHeld.2.2.2))))⟩ (fun hHeld => ?_)
  clear hK K
  refine pure_ (i := 10) (N := some 7) (v := ?_) (a' := ?_) #[tt,tt,tt,tt,tt,tt,tt,tt,tt,tt,tt] rfl rfl (any_of HT_.out (by kernel_rfl)) (fun _ _ _ h => h) (Or.inl ⟨by rfl, ?_⟩) ?_ ?_
  rotate_left
  ·intro w'
   go_simp
   with_reducible rfl
  rotate_left
  ·simp only [Act.put, List.setIfInBounds_toArray, List.set_cons_zero, List.set_cons_succ, i64_w, i32_w]
   rfl
  refine done_ (done_of HT_.out (by kernel_rfl)) ?_
  have hnb32 := NB759_773.out
  have hnc32 := NB773_759.out
  have hcz33_0 : w28.cell? ⟨gb759, 0, none⟩ = some (.int .i64 a0_0) := (blk_cell BK759.out 0).trans rfl
  have hcz33_1 : w28.cell? ⟨gb759, 1, none⟩ = some (.slice A0_1 l0_1.length c0_1) := (blk_cell BK759.out 1).trans rfl
  have hfz33_0 := blk_frozen BK759.out 0
  have hfz33_1 := blk_frozen BK759.out 1
  try go_wp2_with (first | ((with_reducible refine gate_callee (f := 34) rfl ?_); refine goesL_ (some 30) rfl rfl Try.func34 (by kernel_rfl) rfl #[.agg #[.int .i64 a0_0, .slice A0_1 l0_1.length c0_1]] rfl (z26_6) ?_; (with_reducible refine (laws_toPool.calls k a0_0 _ _ l0_1 t774 t775 _ ?side1 ?side2 A13.out).mono ?_); (case side1 => exact Kd.C_below HR0_1.out (z26_3)); (case side2 => exact HC0_1.out); rintro e w34 ⟨v776, rfl, ho0, hb⟩; refine ⟨_, rfl, ?_⟩; have n0_ := Aside0.mk (Kd.R_elder' (by (with_reducible repeat (first | apply ra | apply rb | apply rc)); exact (Kd.R_mono (Kd.R_far (p := ⟨gb773, 1, none⟩) (Kd.R_far (p := ⟨gb773, 0, none⟩) (Kd.R_types HO765.out BK773.out (by decide)) (fun _ hk => hk.2) (.int .i64 t768)) (fun _ hk => hk.2) (.slice Ao30 t769.length co30)) (fun _ h_ => h_.1))) (Kd.R_base ho0) hb); have n1_ := Aside0.mk (Kd.R_elder' (by (with_reducible repeat (first | apply ra | apply rb | apply rc)); exact (Kd.R_mono (Kd.R_far (p := ⟨gb773, 1, none⟩) (Kd.R_far (p := ⟨gb773, 0, none⟩) (Kd.R_types HO771.out BK773.out (by decide)) (fun _ hk => hk.2) (.int .i64 t768)) (fun _ hk => hk.2) (.slice Ao30 t769.length co30)) (fun _ h_ => h_.1))) (Kd.R_base ho0) hb); have n2_ := Aside0.mk (Kd.R_lower (Kd.R_new' (Kd.R_new' ho0 (Kd.R_lt (by (with_reducible repeat (first | apply ra | apply rb | apply rc)); exact (Kd.R_mono (Kd.R_far (p := ⟨gb773, 1, none⟩) (Kd.R_far (p := ⟨gb773, 0, none⟩) (Kd.R_types HO765.out BK773.out (by decide)) (fun _ hk => hk.2) (.int .i64 t768)) (fun _ hk => hk.2) (.slice Ao30 t769.length co30)) (fun _ h_ => h_.1))))) (Kd.R_lt (by (with_reducible repeat (first | apply ra | apply rb | apply rc)); exact (Kd.R_mono (Kd.R_far (p := ⟨gb773, 1, none⟩) (Kd.R_far (p := ⟨gb773, 0, none⟩) (Kd.R_types HO771.out BK773.out (by decide)) (fun _ hk => hk.2) (.int .i64 t768)) (fun _ hk => hk.2) (.slice Ao30 t769.length co30)) (fun _ h_ => h_.1))))) (below_size (z26_3))); have n3_ := Aside0.mk (blk_below (g := gb759) (o := .cells #[.int .i64 a0_0, .slice A0_1 l0_1.length c0_1] 42 (0, 0)) (by (with_reducible repeat (first | refine ba ?_ _ | refine bb ?_ | refine bc ?_ _)); refine blk_far ?_ NB759_773.out _; (with_reducible repeat (first | refine ba ?_ _ | refine bb ?_ | refine bc ?_ _)); refine blk_far ?_ NB759_773.out _; (with_reducible repeat (first | refine ba ?_ _ | refine bb ?_ | refine bc ?_ _)); exact BK759.out) hb); have n4_ := Aside0.mk (blk_below (g := gb760) (o := .cells #[.int .i64 a1_0, .int .i64 a1_1] 23 (0, 0)) (by (with_reducible repeat (first | refine ba ?_ _ | refine bb ?_ | refine bc ?_ _)); refine blk_far ?_ NB760_773.out _; (with_reducible repeat (first | refine ba ?_ _ | refine bb ?_ | refine bc ?_ _)); refine blk_far ?_ NB760_773.out _; (with_reducible repeat (first | refine ba ?_ _ | refine bb ?_ | refine bc ?_ _)); exact BK760.out) hb); have n5_ := Aside0.mk (blk_below (g := gb773) (o := .cells #[.int .i64 t768, .slice Ao30 t769.length co30] 46 (0, 0)) (by (with_reducible repeat (first | refine ba ?_ _ | refine bb ?_ | refine bc ?_ _)); refine blk_put (cs := #[.int .i64 t768, .slice none 0 0]) ?_ 1 _ rfl; (with_reducible repeat (first | refine ba ?_ _ | refine bb ?_ | refine bc ?_ _)); refine blk_put (cs := #[.int .i64 0, .slice none 0 0]) ?_ 0 _ rfl; (with_reducible repeat (first | refine ba ?_ _ | refine bb ?_ | refine bc ?_ _)); exact BK773.out) hb); have n6_ := Aside0.mk (below_step (z26_3) hb); clear HO765; clear HO771; clear BK759; clear BK760; clear BK773; clear HB; have HO765 := n0_; have HO771 := n1_; have HO777 := n2_; have BK759 := n3_; have BK760 := n4_; have BK773 := n5_; have HB := n6_; clear n0_ n1_ n2_ n3_ n4_ n5_ n6_; (try clear hb); (try clear hb2); (try clear hk); (try clear hi); (try clear ho0)) | ((with_reducible refine gate_dst (N := 8) rfl ?_); refine box_event ?hg (N := 8) ?hd (cs := #[.int .i64 0, .slice none 0 0]) (t := 46) ?hr ?_; (case hd => rfl); (case hg => rfl); (case hr => first | (go_simp; done) | (go_simp; rfl)); intro gb778 hg w35 hbox hb; have n0_ := Aside0.mk (Kd.R_below (by (with_reducible repeat (first | apply ra | apply rb | apply rc)); exact HO765.out) hb); have n1_ := Aside0.mk (Kd.R_below (by (with_reducible repeat (first | apply ra | apply rb | apply rc)); exact HO771.out) hb); have n2_ := Aside0.mk (Kd.R_below (by (with_reducible repeat (first | apply ra | apply rb | apply rc)); exact HO777.out) hb); have n3_ := Aside0.mk (blk_below (g := gb759) (o := .cells #[.int .i64 a0_0, .slice A0_1 l0_1.length c0_1] 42 (0, 0)) (z26_8) hb); have n4_ := Aside0.mk (blk_below (g := gb760) (o := .cells #[.int .i64 a1_0, .int .i64 a1_1] 23 (0, 0)) (z26_9) hb); have n5_ := Aside0.mk (blk_below (g := gb773) (o := .cells #[.int .i64 t768, .slice Ao30 t769.length co30] 46 (0, 0)) (z26_10) hb); have n6_ := Aside0.mk (below_step (z26_3) hb); have n7_ := Aside0.mk (hbox); have n8_ := Aside0.mk ((by rw [hg]; exact (below_size (z26_3)) : w.heap.size ≤ gb778)); have n9_ := Aside0.mk ((by rw [hg]; exact (below_size (z26_3)) : w.heap.size ≤ gb778)); have n10_ := Aside0.mk ((by rw [hg]; exact Nat.ne_of_lt (blk_lt (g := gb759) (o := .cells #[.int .i64 a0_0, .slice A0_1 l0_1.length c0_1] 42 (0, 0)) (z26_8)) : gb759 ≠ gb778)); have n11_ := Aside0.mk ((by rw [hg]; exact Nat.ne_of_gt (blk_lt (g := gb759) (o := .cells #[.int .i64 a0_0, .slice A0_1 l0_1.length c0_1] 42 (0, 0)) (z26_8)) : gb778 ≠ gb759)); have n12_ := Aside0.mk ((by rw [hg]; exact Nat.ne_of_lt (blk_lt (g := gb760) (o := .cells #[.int .i64 a1_0, .int .i64 a1_1] 23 (0, 0)) (z26_9)) : gb760 ≠ gb778)); have n13_ := Aside0.mk ((by rw [hg]; exact Nat.ne_of_gt (blk_lt (g := gb760) (o := .cells #[.int .i64 a1_0, .int .i64 a1_1] 23 (0, 0)) (z26_9)) : gb778 ≠ gb760)); have n14_ := Aside0.mk ((by rw [hg]; exact Nat.ne_of_lt (blk_lt (g := gb773) (o := .cells #[.int .i64 t768, .slice Ao30 t769.length co30] 46 (0, 0)) (z26_10)) : gb773 ≠ gb778)); have n15_ := Aside0.mk ((by rw [hg]; exact Nat.ne_of_gt (blk_lt (g := gb773) (o := .cells #[.int .i64 t768, .slice Ao30 t769.length co30] 46 (0, 0)) (z26_10)) : gb778 ≠ gb773)); clear HO765; clear HO771; clear HO777; clear BK759; clear BK760; clear BK773; clear HB; have HO765 := n0_; have HO771 := n1_; have HO777 := n2_; have BK759 := n3_; have BK760 := n4_; have BK773 := n5_; have HB := n6_; have BK778 := n7_; have GW778 := n8_; have GE778 := n9_; have NB759_778 := n10_; have NB778_759 := n11_; have NB760_778 := n12_; have NB778_760 := n13_; have NB773_778 := n14_; have NB778_773 := n15_; clear n0_ n1_ n2_ n3_ n4_ n5_ n6_ n7_ n8_ n9_ n10_ n11_ n12_ n13_ n14_ n15_; clear hb hbox hg; have hnb36 := NB778_759.out; have hnc36 := NB759_778.out; have hnb37 := NB778_760.out; have hnc37 := NB760_778.out; have hnb38 := NB778_773.out; have hnc38 := NB773_778.out; have hcz39_0 : w35.cell? ⟨gb778, 0, none⟩ = some (.int .i64 0) := (blk_cell BK778.out 0).trans rfl; have hcz39_1 : w35.cell? ⟨gb778, 1, none⟩ = some (.slice none 0 0) := (blk_cell BK778.out 1).trans rfl; have hfz39_0 := blk_frozen BK778.out 0; have hfz39_1 := blk_frozen BK778.out 1; obtain ⟨Ao40, co40, eo40⟩ := Kd.R_slice HO777.out; subst eo40))
  have n0_ : Aside0 (Kd.R k25 25 ((w35.setCell ⟨gb778, 0, none⟩ (.int .i64 t774)).setCell ⟨gb778, 1, none⟩ (.slice Ao40 t775.length co40)) w.heap.size (fun k_ => some k_ ≠ (.slice Ao30 t769.length co30 : Value).ownBlock ∧ some k_ ≠ (.slice Ao40 t775.length co40 : Value).ownBlock) v764 t763) := ⟨by (with_reducible repeat (first | apply ra | apply rb | apply rc)); exact Kd.R_mono (Kd.R_far (p := ⟨gb778, 1, none⟩) (Kd.R_far (p := ⟨gb778, 0, none⟩) (Kd.R_types HO765.out BK778.out (by decide)) (fun _ hk => hk.2) (.int .i64 t774)) (fun _ hk => hk.2) (.slice Ao40 t775.length co40)) (fun _ hk => ⟨hk.1.1, hk.1.2⟩)⟩
  have n1_ : Aside0 (Kd.R k25 25 ((w35.setCell ⟨gb778, 0, none⟩ (.int .i64 t774)).setCell ⟨gb778, 1, none⟩ (.slice Ao40 t775.length co40)) w.heap.size (fun k_ => some k_ ≠ (v764 : Value).ownBlock ∧ some k_ ≠ (.slice Ao40 t775.length co40 : Value).ownBlock) (.slice Ao30 t769.length co30) t769) := ⟨by (with_reducible repeat (first | apply ra | apply rb | apply rc)); exact Kd.R_mono (Kd.R_far (p := ⟨gb778, 1, none⟩) (Kd.R_far (p := ⟨gb778, 0, none⟩) (Kd.R_types HO771.out BK778.out (by decide)) (fun _ hk => hk.2) (.int .i64 t774)) (fun _ hk => hk.2) (.slice Ao40 t775.length co40)) (fun _ hk => ⟨hk.1.1, hk.1.2⟩)⟩
  have n2_ : Aside0 (Kd.R k25 25 ((w35.setCell ⟨gb778, 0, none⟩ (.int .i64 t774)).setCell ⟨gb778, 1, none⟩ (.slice Ao40 t775.length co40)) w.heap.size (fun k_ => some k_ ≠ (v764 : Value).ownBlock ∧ some k_ ≠ (.slice Ao30 t769.length co30 : Value).ownBlock) (.slice Ao40 t775.length co40) t775) := ⟨by (with_reducible repeat (first | apply ra | apply rb | apply rc)); exact Kd.R_mono (Kd.R_far (p := ⟨gb778, 1, none⟩) (Kd.R_far (p := ⟨gb778, 0, none⟩) (Kd.R_types HO777.out BK778.out (by decide)) (fun _ hk => hk.2) (.int .i64 t774)) (fun _ hk => hk.2) (.slice Ao40 t775.length co40)) (fun _ hk => ⟨hk.1.1.2, hk.1.2⟩)⟩
  have n3_ : Aside0 (((w35.setCell ⟨gb778, 0, none⟩ (.int .i64 t774)).setCell ⟨gb778, 1, none⟩ (.slice Ao40 t775.length co40)).heap[gb759]? = some (.cells #[.int .i64 a0_0, .slice A0_1 l0_1.length c0_1] 42 (0, 0))) := ⟨by (with_reducible repeat (first | refine ba ?_ _ | refine bb ?_ | refine bc ?_ _)); refine blk_far ?_ NB759_778.out _; (with_reducible repeat (first | refine ba ?_ _ | refine bb ?_ | refine bc ?_ _)); refine blk_far ?_ NB759_778.out _; (with_reducible repeat (first | refine ba ?_ _ | refine bb ?_ | refine bc ?_ _)); exact BK759.out⟩
  have n4_ : Aside0 (((w35.setCell ⟨gb778, 0, none⟩ (.int .i64 t774)).setCell ⟨gb778, 1, none⟩ (.slice Ao40 t775.length co40)).heap[gb760]? = some (.cells #[.int .i64 a1_0, .int .i64 a1_1] 23 (0, 0))) := ⟨by (with_reducible repeat (first | refine ba ?_ _ | refine bb ?_ | refine bc ?_ _)); refine blk_far ?_ NB760_778.out _; (with_reducible repeat (first | refine ba ?_ _ | refine bb ?_ | refine bc ?_ _)); refine blk_far ?_ NB760_778.out _; (with_reducible repeat (first | refine ba ?_ _ | refine bb ?_ | refine bc ?_ _)); exact BK760.out⟩
  have n5_ : Aside0 (((w35.setCell ⟨gb778, 0, none⟩ (.int .i64 t774)).setCell ⟨gb778, 1, none⟩ (.slice Ao40 t775.length co40)).heap[gb773]? = some (.cells #[.int .i64 t768, .slice Ao30 t769.length co30] 46 (0, 0))) := ⟨by (with_reducible repeat (first | refine ba ?_ _ | refine bb ?_ | refine bc ?_ _)); refine blk_far ?_ NB773_778.out _; (with_reducible repeat (first | refine ba ?_ _ | refine bb ?_ | refine bc ?_ _)); refine blk_far ?_ NB773_778.out _; (with_reducible repeat (first | refine ba ?_ _ | refine bb ?_ | refine bc ?_ _)); exact BK773.out⟩
  have n6_ : Aside0 (((w35.setCell ⟨gb778, 0, none⟩ (.int .i64 t774)).setCell ⟨gb778, 1, none⟩ (.slice Ao40 t775.length co40)).heap[gb778]? = some (.cells #[.int .i64 t774, .slice Ao40 t775.length co40] 46 (0, 0))) := ⟨by (with_reducible repeat (first | refine ba ?_ _ | refine bb ?_ | refine bc ?_ _)); refine blk_put (cs := #[.int .i64 t774, .slice none 0 0]) ?_ 1 _ rfl; (with_reducible repeat (first | refine ba ?_ _ | refine bb ?_ | refine bc ?_ _)); refine blk_put (cs := #[.int .i64 0, .slice none 0 0]) ?_ 0 _ rfl; (with_reducible repeat (first | refine ba ?_ _ | refine bb ?_ | refine bc ?_ _)); exact BK778.out⟩
  have n7_ : Aside0 (Below w.heap.size w ((w35.setCell ⟨gb778, 0, none⟩ (.int .i64 t774)).setCell ⟨gb778, 1, none⟩ (.slice Ao40 t775.length co40))) := ⟨by repeat (first | (with_reducible first | exact HB.out | apply below_alloc | apply pw_below_drewN | apply below_drew1 | refine below_set ?_ GE759.out | refine below_set ?_ GE760.out | refine below_set ?_ GE773.out | refine below_set ?_ GE778.out) | exact HB.out)⟩
  (try clear HO765)
  (try clear HO771)
  (try clear HO777)
  (try clear BK759)
  (try clear BK760)
  (try clear BK773)
  (try clear BK778)
  (try clear HB)
  generalize ((w35.setCell ⟨gb778, 0, none⟩ (.int .i64 t774)).setCell ⟨gb778, 1, none⟩ (.slice Ao40 t775.length co40)) = w41 at n0_ n1_ n2_ n3_ n4_ n5_ n6_ n7_ ⊢
  have HO765 := n0_
  have HO771 := n1_
  have HO777 := n2_
  have BK759 := n3_
  have BK760 := n4_
  have BK773 := n5_
  have BK778 := n6_
  have HB := n7_
  clear n0_ n1_ n2_ n3_ n4_ n5_ n6_ n7_
  have n0_ := Aside0.mk (Kd.R_drew HO765.out)
  have n1_ := Aside0.mk (Kd.R_drew HO771.out)
  have n2_ := Aside0.mk (Kd.R_drew HO777.out)
  have n3_ := Aside0.mk (blk_drew BK759.out)
  have n4_ := Aside0.mk (blk_drew BK760.out)
  have n5_ := Aside0.mk (blk_drew BK773.out)
  have n6_ := Aside0.mk (blk_drew BK778.out)
  have n7_ := Aside0.mk (below_drew1 HB.out)
  clear HO765
  clear HO771
  clear HO777
  clear BK759
  clear BK760
  clear BK773
  clear BK778
  clear HB
  have HO765 := n0_
  have HO771 := n1_
  have HO777 := n2_
  have BK759 := n3_
  have BK760 := n4_
  have BK773 := n5_
  have BK778 := n6_
  have HB := n7_
  clear n0_ n1_ n2_ n3_ n4_ n5_ n6_ n7_
  refine start_ (n := 10) (S := fun w' => w'.cell? ⟨gb778, 0, none⟩ = some (.int .i64 t774) ∧ w'.cell? ⟨gb778, 1, none⟩ = some (.slice Ao40 t775.length co40) ∧ w'.cell? ⟨gb760, 0, none⟩ = some (.int .i64 a1_0) ∧ w'.cell? ⟨gb760, 1, none⟩ = some (.int .i64 a1_1)) (ds := []) #[ff,ff,ff,ff,ff,ff,ff,ff,ff,ff] (by kernel_rfl) rfl rfl ⟨(blk_cell BK778.out 0).trans rfl, (blk_cell BK778.out 1).trans rfl, (blk_cell BK760.out 0).trans rfl, (blk_cell BK760.out 1).trans rfl⟩ (fun hHeld => ?_); refine with_tabW laws_FnExactPoolUse.tab7 laws_FnExactPoolUse.bits7 (fun HT_ HW_ => ?_)
  generalize w41.drew = w42 at HO765 HO771 HO777 BK759 BK760 BK773 BK778 HB hHeld ⊢
  refine take_ (i := 0) (N := some 32) (v := ?_) (a' := ?_) #[tt,ff,ff,ff,ff,ff,ff,ff,ff,ff] rfl rfl (take_ofW HT_.out HW_.out (by kernel_rfl)) (fun _ _ _ h => h) (Or.inl ⟨by rfl, ?_⟩) hHeld ?_ ?_
  rotate_left
  ·rintro w' ⟨s0, s1, s2, s3⟩
   go_simp
   with_reducible rfl
  rotate_left
  ·simp only [Act.put, List.setIfInBounds_toArray, List.set_cons_zero, List.set_cons_succ, i64_w, i32_w]
   rfl
  refine take_ (i := 1) (N := some 33) (v := ?_) (a' := ?_) #[tt,tt,ff,ff,ff,ff,ff,ff,ff,ff] rfl rfl (take_ofW HT_.out HW_.out (by kernel_rfl)) (fun _ _ _ h => h) (Or.inl ⟨by rfl, ?_⟩) hHeld ?_ ?_
  rotate_left
  ·rintro w' ⟨s0, s1, s2, s3⟩
   go_simp
   with_reducible rfl
  rotate_left
  ·simp only [Act.put, List.setIfInBounds_toArray, List.set_cons_zero, List.set_cons_succ, i64_w, i32_w]
   rfl
  refine join_ (σ := Value × Nat) 2 #[tt,tt,tt,tt,tt,tt,tt,tt,ff,ff] (fun s_ => [(34, .agg #[.int .i64 t779, .int .i64 t780]), (35, .tuple #[.agg #[.int .i64 t781, s_.1], .bool t785]), (9, .pointer (some ⟨s_.2, 0, none⟩)), (31, .tuple #[.agg #[.int .i64 t781, s_.1], .bool t785]), (36, .agg #[.int .i64 t781, s_.1]), (37, .bool t785)]) (fun s_ w' => (w'.cell? ⟨gb778, 0, none⟩ = some (.int .i64 t774) ∧ w'.cell? ⟨gb778, 1, none⟩ = some (.slice Ao40 t775.length co40) ∧ w'.cell? ⟨gb760, 0, none⟩ = some (.int .i64 a1_0) ∧ w'.cell? ⟨gb760, 1, none⟩ = some (.int .i64 a1_1)) ∧ (Kd.R k25 25 w' w.heap.size (fun k_ => some k_ ≠ (.slice Ao30 t769.length co30 : Value).ownBlock ∧ some k_ ≠ (.slice Ao40 t775.length co40 : Value).ownBlock ∧ some k_ ≠ (s_.1 : Value).ownBlock) v764 t763) ∧ (Kd.R k25 25 w' w.heap.size (fun k_ => some k_ ≠ (v764 : Value).ownBlock ∧ some k_ ≠ (.slice Ao40 t775.length co40 : Value).ownBlock ∧ some k_ ≠ (s_.1 : Value).ownBlock) (.slice Ao30 t769.length co30) t769) ∧ (Kd.R k25 25 w' w.heap.size (fun k_ => some k_ ≠ (v764 : Value).ownBlock ∧ some k_ ≠ (.slice Ao30 t769.length co30 : Value).ownBlock ∧ some k_ ≠ (s_.1 : Value).ownBlock) (.slice Ao40 t775.length co40) t775) ∧ (Kd.R k25 25 w' w.heap.size (fun k_ => some k_ ≠ (v764 : Value).ownBlock ∧ some k_ ≠ (.slice Ao30 t769.length co30 : Value).ownBlock ∧ some k_ ≠ (.slice Ao40 t775.length co40 : Value).ownBlock) s_.1 t782) ∧ (w'.heap[gb759]? = some (.cells #[.int .i64 a0_0, .slice A0_1 l0_1.length c0_1] 42 (0, 0))) ∧ (w'.heap[gb760]? = some (.cells #[.int .i64 a1_0, .int .i64 a1_1] 23 (0, 0))) ∧ (w'.heap[gb773]? = some (.cells #[.int .i64 t768, .slice Ao30 t769.length co30] 46 (0, 0))) ∧ (w'.heap[gb778]? = some (.cells #[.int .i64 t774, .slice Ao40 t775.length co40] 46 (0, 0))) ∧ (w'.heap[s_.2]? = some (.cells #[.int .i64 0, .slice none 0 0] 46 (0, 0))) ∧ (w.heap.size ≤ s_.2) ∧ (w.heap.size ≤ s_.2) ∧ (gb759 ≠ s_.2) ∧ (s_.2 ≠ gb759) ∧ (gb760 ≠ s_.2) ∧ (s_.2 ≠ gb760) ∧ (gb773 ≠ s_.2) ∧ (s_.2 ≠ gb773) ∧ (gb778 ≠ s_.2) ∧ (s_.2 ≠ gb778) ∧ (Below w.heap.size w w')) ?_ ?_
  rotate_left
  ·intro hCont
   refine two_ (i := 2) (j := 7) (Ni := some 34) (Nj := some 9) #[tt,tt,tt,ff,ff,ff,ff,ff,ff,ff] #[tt,tt,ff,ff,ff,ff,ff,tt,ff,ff] rfl rfl rfl rfl (two_of HT_.out (by kernel_rfl)) (by decide) (by decide) (fun K hK => ?_) (fun K hK => ?_)
   ·skip
    refine goes_ Try.func21 (by kernel_rfl) rfl #[.agg #[.int .i64 a1_0, .int .i64 a1_1]] (by rfl) rfl rfl (z26_6) ?_
    with_reducible refine (laws_toPage.calls a1_0 a1_1 t779 t780 _ A14.out).mono ?_
    rintro e w43 ⟨rfl, hb⟩
    refine ⟨_, rfl, ?_⟩
    have n0_ := Aside0.mk (Kd.R_below (by (with_reducible repeat (first | apply ra | apply rb | apply rc)); exact HO765.out) hb)
    have n1_ := Aside0.mk (Kd.R_below (by (with_reducible repeat (first | apply ra | apply rb | apply rc)); exact HO771.out) hb)
    have n2_ := Aside0.mk (Kd.R_below (by (with_reducible repeat (first | apply ra | apply rb | apply rc)); exact HO777.out) hb)
    have n3_ := Aside0.mk (blk_below (g := gb759) (o := .cells #[.int .i64 a0_0, .slice A0_1 l0_1.length c0_1] 42 (0, 0)) (z26_8) hb)
    have n4_ := Aside0.mk (blk_below (g := gb760) (o := .cells #[.int .i64 a1_0, .int .i64 a1_1] 23 (0, 0)) (z26_9) hb)
    have n5_ := Aside0.mk (blk_below (g := gb773) (o := .cells #[.int .i64 t768, .slice Ao30 t769.length co30] 46 (0, 0)) (z26_10) hb)
    have n6_ := Aside0.mk (blk_below (g := gb778) (o := .cells #[.int .i64 t774, .slice Ao40 t775.length co40] 46 (0, 0)) (z26_11) hb)
    have n7_ := Aside0.mk (below_step (z26_2) hb)
    clear HO765
    clear HO771
    clear HO777
    clear BK759
    clear BK760
    clear BK773
    clear BK778
    clear HB
    have HO765 := n0_
    have HO771 := n1_
    have HO777 := n2_
    have BK759 := n3_
    have BK760 := n4_
    have BK773 := n5_
    have BK778 := n6_
    have HB := n7_
    clear n0_ n1_ n2_ n3_ n4_ n5_ n6_ n7_
    (try clear hb)
    (try clear hb2)
    (try clear hk)
    (try clear hi)
    refine hK.out _ _ ⟨(blk_cell BK778.out 0).trans rfl, (blk_cell BK778.out 1).trans rfl, (blk_cell BK760.out 0).trans rfl, (blk_cell BK760.out 1).trans rfl⟩ (fun hHeld => ?_)
    clear hK K
    refine norm_ (a' := ?_) ?_ ?_
    rotate_left
    ·show Act.put _ (some 34) _ = _
     simp only [Act.put, List.setIfInBounds_toArray, List.set_cons_zero, List.set_cons_succ, i64_w, i32_w]
     rfl
    refine two_ (i := 3) (j := 7) (Ni := some 35) (Nj := some 9) #[tt,tt,tt,tt,ff,ff,ff,ff,ff,ff] #[tt,tt,tt,ff,ff,ff,ff,tt,ff,ff] rfl rfl rfl rfl (two_of HT_.out (by kernel_rfl)) (by decide) (by decide) (fun K hK => ?_) (fun K hK => ?_)
    ·skip
     refine goes_ Try.func42 (by kernel_rfl) rfl #[.agg #[.int .i64 t774, .slice Ao40 t775.length co40], .agg #[.int .i64 t779, .int .i64 t780]] (by rfl) rfl rfl (z26_6) ?_
     with_reducible refine (impl_PoolUse.calls t774 _ _ t775 t779 t780 t781 t782 t785 _ ?side1 ?side2 A15.out).mono ?_
     (case side1 => repeat (first | exact (Kd.R_reads' HO777.out).2.2 | (with_reducible refine Kd.C_alloc ?_ _) | (with_reducible refine Kd.C_drewN ?_ _) | (with_reducible refine Kd.C_drew ?_)))
     (case side2 => exact (Kd.R_reads' HO777.out).2.1)
     rintro e w44 ⟨v783, rfl, ho0, hb⟩
     refine ⟨_, rfl, ?_⟩
     have n0_ := Aside0.mk (Kd.R_elder' (by (with_reducible repeat (first | apply ra | apply rb | apply rc)); exact HO765.out) (Kd.R_base ho0) hb)
     have n1_ := Aside0.mk (Kd.R_elder' (by (with_reducible repeat (first | apply ra | apply rb | apply rc)); exact HO771.out) (Kd.R_base ho0) hb)
     have n2_ := Aside0.mk (Kd.R_elder' (by (with_reducible repeat (first | apply ra | apply rb | apply rc)); exact HO777.out) (Kd.R_base ho0) hb)
     have n3_ := Aside0.mk (Kd.R_lower (Kd.R_new' (Kd.R_new' (Kd.R_new' ho0 (Kd.R_lt (by (with_reducible repeat (first | apply ra | apply rb | apply rc)); exact HO765.out))) (Kd.R_lt (by (with_reducible repeat (first | apply ra | apply rb | apply rc)); exact HO771.out))) (Kd.R_lt (by (with_reducible repeat (first | apply ra | apply rb | apply rc)); exact HO777.out))) (below_size (z26_2)))
     have n4_ := Aside0.mk (blk_below (g := gb759) (o := .cells #[.int .i64 a0_0, .slice A0_1 l0_1.length c0_1] 42 (0, 0)) (z26_8) hb)
     have n5_ := Aside0.mk (blk_below (g := gb760) (o := .cells #[.int .i64 a1_0, .int .i64 a1_1] 23 (0, 0)) (z26_9) hb)
     have n6_ := Aside0.mk (blk_below (g := gb773) (o := .cells #[.int .i64 t768, .slice Ao30 t769.length co30] 46 (0, 0)) (z26_10) hb)
     have n7_ := Aside0.mk (blk_below (g := gb778) (o := .cells #[.int .i64 t774, .slice Ao40 t775.length co40] 46 (0, 0)) (z26_11) hb)
     have n8_ := Aside0.mk (below_step (z26_2) hb)
     clear HO765
     clear HO771
     clear HO777
     clear BK759
     clear BK760
     clear BK773
     clear BK778
     clear HB
     have HO765 := n0_
     have HO771 := n1_
     have HO777 := n2_
     have HO784 := n3_
     have BK759 := n4_
     have BK760 := n5_
     have BK773 := n6_
     have BK778 := n7_
     have HB := n8_
     clear n0_ n1_ n2_ n3_ n4_ n5_ n6_ n7_ n8_
     (try clear hb)
     (try clear hb2)
     (try clear hk)
     (try clear hi)
     (try clear ho0)
     refine hK.out _ _ ⟨(blk_cell BK778.out 0).trans rfl, (blk_cell BK778.out 1).trans rfl, (blk_cell BK760.out 0).trans rfl, (blk_cell BK760.out 1).trans rfl⟩ (fun hHeld => ?_)
     clear hK K
     refine norm_ (a' := ?_) ?_ ?_
     rotate_left
     ·show Act.put _ (some 35) _ = _
      simp only [Act.put, List.setIfInBounds_toArray, List.set_cons_zero, List.set_cons_succ, i64_w, i32_w]
      rfl
     refine pure_ (i := 4) (N := some 31) (v := ?_) (a' := ?_) #[tt,tt,tt,tt,tt,ff,ff,ff,ff,ff] rfl rfl (any_of HT_.out (by kernel_rfl)) (fun _ _ _ h => h) (Or.inl ⟨by rfl, ?_⟩) ?_ ?_
     rotate_left
     ·intro w'
      go_simp
      with_reducible rfl
     rotate_left
     ·simp only [Act.put, List.setIfInBounds_toArray, List.set_cons_zero, List.set_cons_succ, i64_w, i32_w]
      rfl
     refine pure_ (i := 5) (N := some 36) (v := ?_) (a' := ?_) #[tt,tt,tt,tt,tt,tt,ff,ff,ff,ff] rfl rfl (any_of HT_.out (by kernel_rfl)) (fun _ _ _ h => h) (Or.inl ⟨by rfl, ?_⟩) ?_ ?_
     rotate_left
     ·intro w'
      go_simp
      with_reducible rfl
     rotate_left
     ·simp only [Act.put, List.setIfInBounds_toArray, List.set_cons_zero, List.set_cons_succ, i64_w, i32_w]
      rfl
     refine pure_ (i := 6) (N := some 37) (v := ?_) (a' := ?_) #[tt,tt,tt,tt,tt,tt,tt,ff,ff,ff] rfl rfl (any_of HT_.out (by kernel_rfl)) (fun _ _ _ h => h) (Or.inl ⟨by rfl, ?_⟩) ?_ ?_
     rotate_left
     ·intro w'
      go_simp
      with_reducible rfl
     rotate_left
     ·simp only [Act.put, List.setIfInBounds_toArray, List.set_cons_zero, List.set_cons_succ, i64_w, i32_w]
      rfl
     refine one_ (i := 7) (N := some 9) #[tt,tt,tt,tt,tt,tt,tt,tt,ff,ff] rfl rfl (one_of HT_.out (by kernel_rfl)) (by decide) (fun K hK => ?_)
     refine box_step ?hg (N := 9) ?hd (cs := #[.int .i64 0, .slice none 0 0]) (t := 46) ?hr ?_; (case hd => rfl); (case hg => rfl); (case hr => first | (go_simp; done) | (go_simp; rfl))
     intro gb786 hg w45 hbox hb
     have n0_ := Aside0.mk (Kd.R_below (by (with_reducible repeat (first | apply ra | apply rb | apply rc)); exact HO765.out) hb)
     have n1_ := Aside0.mk (Kd.R_below (by (with_reducible repeat (first | apply ra | apply rb | apply rc)); exact HO771.out) hb)
     have n2_ := Aside0.mk (Kd.R_below (by (with_reducible repeat (first | apply ra | apply rb | apply rc)); exact HO777.out) hb)
     have n3_ := Aside0.mk (Kd.R_below (by (with_reducible repeat (first | apply ra | apply rb | apply rc)); exact HO784.out) hb)
     have n4_ := Aside0.mk (blk_below (g := gb759) (o := .cells #[.int .i64 a0_0, .slice A0_1 l0_1.length c0_1] 42 (0, 0)) (z26_8) hb)
     have n5_ := Aside0.mk (blk_below (g := gb760) (o := .cells #[.int .i64 a1_0, .int .i64 a1_1] 23 (0, 0)) (z26_9) hb)
     have n6_ := Aside0.mk (blk_below (g := gb773) (o := .cells #[.int .i64 t768, .slice Ao30 t769.length co30] 46 (0, 0)) (z26_10) hb)
     have n7_ := Aside0.mk (blk_below (g := gb778) (o := .cells #[.int .i64 t774, .slice Ao40 t775.length co40] 46 (0, 0)) (z26_11) hb)
     have n8_ := Aside0.mk (below_step (z26_2) hb)
     have n9_ := Aside0.mk (hbox)
     have n10_ := Aside0.mk ((by rw [hg]; exact (below_size (z26_2)) : w.heap.size ≤ gb786))
     have n11_ := Aside0.mk ((by rw [hg]; exact (below_size (z26_2)) : w.heap.size ≤ gb786))
     have n12_ := Aside0.mk ((by rw [hg]; exact Nat.ne_of_lt (blk_lt (g := gb759) (o := .cells #[.int .i64 a0_0, .slice A0_1 l0_1.length c0_1] 42 (0, 0)) (z26_8)) : gb759 ≠ gb786))
     have n13_ := Aside0.mk ((by rw [hg]; exact Nat.ne_of_gt (blk_lt (g := gb759) (o := .cells #[.int .i64 a0_0, .slice A0_1 l0_1.length c0_1] 42 (0, 0)) (z26_8)) : gb786 ≠ gb759))
     have n14_ := Aside0.mk ((by rw [hg]; exact Nat.ne_of_lt (blk_lt (g := gb760) (o := .cells #[.int .i64 a1_0, .int .i64 a1_1] 23 (0, 0)) (z26_9)) : gb760 ≠ gb786))
     have n15_ := Aside0.mk ((by rw [hg]; exact Nat.ne_of_gt (blk_lt (g := gb760) (o := .cells #[.int .i64 a1_0, .int .i64 a1_1] 23 (0, 0)) (z26_9)) : gb786 ≠ gb760))
     have n16_ := Aside0.mk ((by rw [hg]; exact Nat.ne_of_lt (blk_lt (g := gb773) (o := .cells #[.int .i64 t768, .slice Ao30 t769.length co30] 46 (0, 0)) (z26_10)) : gb773 ≠ gb786))
     have n17_ := Aside0.mk ((by rw [hg]; exact Nat.ne_of_gt (blk_lt (g := gb773) (o := .cells #[.int .i64 t768, .slice Ao30 t769.length co30] 46 (0, 0)) (z26_10)) : gb786 ≠ gb773))
     have n18_ := Aside0.mk ((by rw [hg]; exact Nat.ne_of_lt (blk_lt (g := gb778) (o := .cells #[.int .i64 t774, .slice Ao40 t775.length co40] 46 (0, 0)) (z26_11)) : gb778 ≠ gb786))
     have n19_ := Aside0.mk ((by rw [hg]; exact Nat.ne_of_gt (blk_lt (g := gb778) (o := .cells #[.int .i64 t774, .slice Ao40 t775.length co40] 46 (0, 0)) (z26_11)) : gb786 ≠ gb778))
     clear HO765
     clear HO771
     clear HO777
     clear HO784
     clear BK759
     clear BK760
     clear BK773
     clear BK778
     clear HB
     have HO765 := n0_
     have HO771 := n1_
     have HO777 := n2_
     have HO784 := n3_
     have BK759 := n4_
     have BK760 := n5_
     have BK773 := n6_
     have BK778 := n7_
     have HB := n8_
     have BK786 := n9_
     have GW786 := n10_
     have GE786 := n11_
     have NB759_786 := n12_
     have NB786_759 := n13_
     have NB760_786 := n14_
     have NB786_760 := n15_
     have NB773_786 := n16_
     have NB786_773 := n17_
     have NB778_786 := n18_
     have NB786_778 := n19_
     clear n0_ n1_ n2_ n3_ n4_ n5_ n6_ n7_ n8_ n9_ n10_ n11_ n12_ n13_ n14_ n15_ n16_ n17_ n18_ n19_
     clear hb hbox hg
     refine hK.out _ _ ⟨(blk_cell BK778.out 0).trans rfl, (blk_cell BK778.out 1).trans rfl, (blk_cell BK760.out 0).trans rfl, (blk_cell BK760.out 1).trans rfl⟩ (fun hHeld => ?_)
     clear hK K
     refine norm_ (a' := ?_) ?_ ?_
     rotate_left
     ·show Act.put _ (some 9) _ = _
      simp only [Act.put, List.setIfInBounds_toArray, List.set_cons_zero, List.set_cons_succ, i64_w, i32_w]
      rfl
     exact norm_ (z26_14) (hCont (v783, gb786) _ ⟨hHeld, (by (with_reducible repeat (first | apply ra | apply rb | apply rc)); exact Kd.R_mono HO765.out (fun _ hk => ⟨hk.1.1, ⟨hk.1.2, hk.2⟩⟩)), (by (with_reducible repeat (first | apply ra | apply rb | apply rc)); exact Kd.R_mono HO771.out (fun _ hk => ⟨hk.1.1, ⟨hk.1.2, hk.2⟩⟩)), (by (with_reducible repeat (first | apply ra | apply rb | apply rc)); exact Kd.R_mono HO777.out (fun _ hk => ⟨hk.1.1, ⟨hk.1.2, hk.2⟩⟩)), (by (with_reducible repeat (first | apply ra | apply rb | apply rc)); exact Kd.R_mono HO784.out (fun _ hk => ⟨hk.1.1.2, ⟨hk.1.2, hk.2⟩⟩)), (z26_8), (z26_9), (z26_10), (z26_11), (z26_12), GW786.out, GE786.out, NB759_786.out, NB786_759.out, NB760_786.out, NB786_760.out, NB773_786.out, NB786_773.out, NB778_786.out, NB786_778.out, (z26_1)⟩)
    ·skip
     refine box_step ?hg (N := 9) ?hd (cs := #[.int .i64 0, .slice none 0 0]) (t := 46) ?hr ?_; (case hd => rfl); (case hg => rfl); (case hr => first | (go_simp; done) | (go_simp; rfl))
     intro gb786 hg w44 hbox hb
     have n0_ := Aside0.mk (Kd.R_below (by (with_reducible repeat (first | apply ra | apply rb | apply rc)); exact HO765.out) hb)
     have n1_ := Aside0.mk (Kd.R_below (by (with_reducible repeat (first | apply ra | apply rb | apply rc)); exact HO771.out) hb)
     have n2_ := Aside0.mk (Kd.R_below (by (with_reducible repeat (first | apply ra | apply rb | apply rc)); exact HO777.out) hb)
     have n3_ := Aside0.mk (blk_below (g := gb759) (o := .cells #[.int .i64 a0_0, .slice A0_1 l0_1.length c0_1] 42 (0, 0)) (z26_8) hb)
     have n4_ := Aside0.mk (blk_below (g := gb760) (o := .cells #[.int .i64 a1_0, .int .i64 a1_1] 23 (0, 0)) (z26_9) hb)
     have n5_ := Aside0.mk (blk_below (g := gb773) (o := .cells #[.int .i64 t768, .slice Ao30 t769.length co30] 46 (0, 0)) (z26_10) hb)
     have n6_ := Aside0.mk (blk_below (g := gb778) (o := .cells #[.int .i64 t774, .slice Ao40 t775.length co40] 46 (0, 0)) (z26_11) hb)
     have n7_ := Aside0.mk (below_step (z26_2) hb)
     have n8_ := Aside0.mk (hbox)
     have n9_ := Aside0.mk ((by rw [hg]; exact (below_size (z26_2)) : w.heap.size ≤ gb786))
     have n10_ := Aside0.mk ((by rw [hg]; exact (below_size (z26_2)) : w.heap.size ≤ gb786))
     have n11_ := Aside0.mk ((by rw [hg]; exact Nat.ne_of_lt (blk_lt (g := gb759) (o := .cells #[.int .i64 a0_0, .slice A0_1 l0_1.length c0_1] 42 (0, 0)) (z26_8)) : gb759 ≠ gb786))
     have n12_ := Aside0.mk ((by rw [hg]; exact Nat.ne_of_gt (blk_lt (g := gb759) (o := .cells #[.int .i64 a0_0, .slice A0_1 l0_1.length c0_1] 42 (0, 0)) (z26_8)) : gb786 ≠ gb759))
     have n13_ := Aside0.mk ((by rw [hg]; exact Nat.ne_of_lt (blk_lt (g := gb760) (o := .cells #[.int .i64 a1_0, .int .i64 a1_1] 23 (0, 0)) (z26_9)) : gb760 ≠ gb786))
     have n14_ := Aside0.mk ((by rw [hg]; exact Nat.ne_of_gt (blk_lt (g := gb760) (o := .cells #[.int .i64 a1_0, .int .i64 a1_1] 23 (0, 0)) (z26_9)) : gb786 ≠ gb760))
     have n15_ := Aside0.mk ((by rw [hg]; exact Nat.ne_of_lt (blk_lt (g := gb773) (o := .cells #[.int .i64 t768, .slice Ao30 t769.length co30] 46 (0, 0)) (z26_10)) : gb773 ≠ gb786))
     have n16_ := Aside0.mk ((by rw [hg]; exact Nat.ne_of_gt (blk_lt (g := gb773) (o := .cells #[.int .i64 t768, .slice Ao30 t769.length co30] 46 (0, 0)) (z26_10)) : gb786 ≠ gb773))
     have n17_ := Aside0.mk ((by rw [hg]; exact Nat.ne_of_lt (blk_lt (g := gb778) (o := .cells #[.int .i64 t774, .slice Ao40 t775.length co40] 46 (0, 0)) (z26_11)) : gb778 ≠ gb786))
     have n18_ := Aside0.mk ((by rw [hg]; exact Nat.ne_of_gt (blk_lt (g := gb778) (o := .cells #[.int .i64 t774, .slice Ao40 t775.length co40] 46 (0, 0)) (z26_11)) : gb786 ≠ gb778))
     clear HO765
     clear HO771
     clear HO777
     clear BK759
     clear BK760
     clear BK773
     clear BK778
     clear HB
     have HO765 := n0_
     have HO771 := n1_
     have HO777 := n2_
     have BK759 := n3_
     have BK760 := n4_
     have BK773 := n5_
     have BK778 := n6_
     have HB := n7_
     have BK786 := n8_
     have GW786 := n9_
     have GE786 := n10_
     have NB759_786 := n11_
     have NB786_759 := n12_
     have NB760_786 := n13_
     have NB786_760 := n14_
     have NB773_786 := n15_
     have NB786_773 := n16_
     have NB778_786 := n17_
     have NB786_778 := n18_
     clear n0_ n1_ n2_ n3_ n4_ n5_ n6_ n7_ n8_ n9_ n10_ n11_ n12_ n13_ n14_ n15_ n16_ n17_ n18_
     clear hb hbox hg
     refine hK.out _ _ ⟨(blk_cell BK778.out 0).trans rfl, (blk_cell BK778.out 1).trans rfl, (blk_cell BK760.out 0).trans rfl, (blk_cell BK760.out 1).trans rfl⟩ (fun hHeld => ?_)
     clear hK K
     refine norm_ (a' := ?_) ?_ ?_
     rotate_left
     ·show Act.put _ (some 9) _ = _
      simp only [Act.put, List.setIfInBounds_toArray, List.set_cons_zero, List.set_cons_succ, i64_w, i32_w]
      rfl
     refine one_ (i := 3) (N := some 35) #[tt,tt,tt,tt,ff,ff,ff,tt,ff,ff] rfl rfl (one_of HT_.out (by kernel_rfl)) (by decide) (fun K hK => ?_)
     refine goes_ Try.func42 (by kernel_rfl) rfl #[.agg #[.int .i64 t774, .slice Ao40 t775.length co40], .agg #[.int .i64 t779, .int .i64 t780]] (by rfl) rfl rfl (z26_6) ?_
     with_reducible refine (impl_PoolUse.calls t774 _ _ t775 t779 t780 t781 t782 t785 _ ?side1 ?side2 A15.out).mono ?_
     (case side1 => repeat (first | exact (Kd.R_reads' HO777.out).2.2 | (with_reducible refine Kd.C_alloc ?_ _) | (with_reducible refine Kd.C_drewN ?_ _) | (with_reducible refine Kd.C_drew ?_)))
     (case side2 => exact (Kd.R_reads' HO777.out).2.1)
     rintro e w45 ⟨v783, rfl, ho0, hb⟩
     refine ⟨_, rfl, ?_⟩
     have n0_ := Aside0.mk (Kd.R_elder' (by (with_reducible repeat (first | apply ra | apply rb | apply rc)); exact HO765.out) (Kd.R_base ho0) hb)
     have n1_ := Aside0.mk (Kd.R_elder' (by (with_reducible repeat (first | apply ra | apply rb | apply rc)); exact HO771.out) (Kd.R_base ho0) hb)
     have n2_ := Aside0.mk (Kd.R_elder' (by (with_reducible repeat (first | apply ra | apply rb | apply rc)); exact HO777.out) (Kd.R_base ho0) hb)
     have n3_ := Aside0.mk (Kd.R_lower (Kd.R_new' (Kd.R_new' (Kd.R_new' ho0 (Kd.R_lt (by (with_reducible repeat (first | apply ra | apply rb | apply rc)); exact HO765.out))) (Kd.R_lt (by (with_reducible repeat (first | apply ra | apply rb | apply rc)); exact HO771.out))) (Kd.R_lt (by (with_reducible repeat (first | apply ra | apply rb | apply rc)); exact HO777.out))) (below_size (z26_1)))
     have n4_ := Aside0.mk (blk_below (g := gb759) (o := .cells #[.int .i64 a0_0, .slice A0_1 l0_1.length c0_1] 42 (0, 0)) (z26_8) hb)
     have n5_ := Aside0.mk (blk_below (g := gb760) (o := .cells #[.int .i64 a1_0, .int .i64 a1_1] 23 (0, 0)) (z26_9) hb)
     have n6_ := Aside0.mk (blk_below (g := gb773) (o := .cells #[.int .i64 t768, .slice Ao30 t769.length co30] 46 (0, 0)) (z26_10) hb)
     have n7_ := Aside0.mk (blk_below (g := gb778) (o := .cells #[.int .i64 t774, .slice Ao40 t775.length co40] 46 (0, 0)) (z26_11) hb)
     have n8_ := Aside0.mk (blk_below (g := gb786) (o := .cells #[.int .i64 0, .slice none 0 0] 46 (0, 0)) (z26_12) hb)
     have n9_ := Aside0.mk (below_step (z26_1) hb)
     clear HO765
     clear HO771
     clear HO777
     clear BK759
     clear BK760
     clear BK773
     clear BK778
     clear BK786
     clear HB
     have HO765 := n0_
     have HO771 := n1_
     have HO777 := n2_
     have HO784 := n3_
     have BK759 := n4_
     have BK760 := n5_
     have BK773 := n6_
     have BK778 := n7_
     have BK786 := n8_
     have HB := n9_
     clear n0_ n1_ n2_ n3_ n4_ n5_ n6_ n7_ n8_ n9_
     (try clear hb)
     (try clear hb2)
     (try clear hk)
     (try clear hi)
     (try clear ho0)
     refine hK.out _ _ ⟨(blk_cell BK778.out 0).trans rfl, (blk_cell BK778.out 1).trans rfl, (blk_cell BK760.out 0).trans rfl, (blk_cell BK760.out 1).trans rfl⟩ (fun hHeld => ?_)
     clear hK K
     refine norm_ (a' := ?_) ?_ ?_
     rotate_left
     ·show Act.put _ (some 35) _ = _
      simp only [Act.put, List.setIfInBounds_toArray, List.set_cons_zero, List.set_cons_succ, i64_w, i32_w]
      rfl
     refine pure_ (i := 4) (N := some 31) (v := ?_) (a' := ?_) #[tt,tt,tt,tt,tt,ff,ff,tt,ff,ff] rfl rfl (any_of HT_.out (by kernel_rfl)) (fun _ _ _ h => h) (Or.inl ⟨by rfl, ?_⟩) ?_ ?_
     rotate_left
     ·intro w'
      go_simp
      with_reducible rfl
     rotate_left
     ·simp only [Act.put, List.setIfInBounds_toArray, List.set_cons_zero, List.set_cons_succ, i64_w, i32_w]
      rfl
     refine pure_ (i := 5) (N := some 36) (v := ?_) (a' := ?_) #[tt,tt,tt,tt,tt,tt,ff,tt,ff,ff] rfl rfl (any_of HT_.out (by kernel_rfl)) (fun _ _ _ h => h) (Or.inl ⟨by rfl, ?_⟩) ?_ ?_
     rotate_left
     ·intro w'
      go_simp
      with_reducible rfl
     rotate_left
     ·simp only [Act.put, List.setIfInBounds_toArray, List.set_cons_zero, List.set_cons_succ, i64_w, i32_w]
      rfl
     refine pure_ (i := 6) (N := some 37) (v := ?_) (a' := ?_) #[tt,tt,tt,tt,tt,tt,tt,tt,ff,ff] rfl rfl (any_of HT_.out (by kernel_rfl)) (fun _ _ _ h => h) (Or.inl ⟨by rfl, ?_⟩) ?_ ?_
     rotate_left
     ·intro w'
      go_simp
      with_reducible rfl
     rotate_left
     ·simp only [Act.put, List.setIfInBounds_toArray, List.set_cons_zero, List.set_cons_succ, i64_w, i32_w]
      rfl
     exact norm_ (z26_14) (hCont (v783, gb786) _ ⟨hHeld, (by (with_reducible repeat (first | apply ra | apply rb | apply rc)); exact Kd.R_mono HO765.out (fun _ hk => ⟨hk.1.1, ⟨hk.1.2, hk.2⟩⟩)), (by (with_reducible repeat (first | apply ra | apply rb | apply rc)); exact Kd.R_mono HO771.out (fun _ hk => ⟨hk.1.1, ⟨hk.1.2, hk.2⟩⟩)), (by (with_reducible repeat (first | apply ra | apply rb | apply rc)); exact Kd.R_mono HO777.out (fun _ hk => ⟨hk.1.1, ⟨hk.1.2, hk.2⟩⟩)), (by (with_reducible repeat (first | apply ra | apply rb | apply rc)); exact Kd.R_mono HO784.out (fun _ hk => ⟨hk.1.1.2, ⟨hk.1.2, hk.2⟩⟩)), (z26_8), (z26_9), (z26_10), (z26_11), (z26_12), GW786.out, GE786.out, NB759_786.out, NB786_759.out, NB760_786.out, NB786_760.out, NB773_786.out, NB786_773.out, NB778_786.out, NB786_778.out, (z26_1)⟩)
   ·skip
    refine box_step ?hg (N := 9) ?hd (cs := #[.int .i64 0, .slice none 0 0]) (t := 46) ?hr ?_; (case hd => rfl); (case hg => rfl); (case hr => first | (go_simp; done) | (go_simp; rfl))
    intro gb786 hg w43 hbox hb
    have n0_ := Aside0.mk (Kd.R_below (by (with_reducible repeat (first | apply ra | apply rb | apply rc)); exact HO765.out) hb)
    have n1_ := Aside0.mk (Kd.R_below (by (with_reducible repeat (first | apply ra | apply rb | apply rc)); exact HO771.out) hb)
    have n2_ := Aside0.mk (Kd.R_below (by (with_reducible repeat (first | apply ra | apply rb | apply rc)); exact HO777.out) hb)
    have n3_ := Aside0.mk (blk_below (g := gb759) (o := .cells #[.int .i64 a0_0, .slice A0_1 l0_1.length c0_1] 42 (0, 0)) (z26_8) hb)
    have n4_ := Aside0.mk (blk_below (g := gb760) (o := .cells #[.int .i64 a1_0, .int .i64 a1_1] 23 (0, 0)) (z26_9) hb)
    have n5_ := Aside0.mk (blk_below (g := gb773) (o := .cells #[.int .i64 t768, .slice Ao30 t769.length co30] 46 (0, 0)) (z26_10) hb)
    have n6_ := Aside0.mk (blk_below (g := gb778) (o := .cells #[.int .i64 t774, .slice Ao40 t775.length co40] 46 (0, 0)) (z26_11) hb)
    have n7_ := Aside0.mk (below_step (z26_2) hb)
    have n8_ := Aside0.mk (hbox)
    have n9_ := Aside0.mk ((by rw [hg]; exact (below_size (z26_2)) : w.heap.size ≤ gb786))
    have n10_ := Aside0.mk ((by rw [hg]; exact (below_size (z26_2)) : w.heap.size ≤ gb786))
    have n11_ := Aside0.mk ((by rw [hg]; exact Nat.ne_of_lt (blk_lt (g := gb759) (o := .cells #[.int .i64 a0_0, .slice A0_1 l0_1.length c0_1] 42 (0, 0)) (z26_8)) : gb759 ≠ gb786))
    have n12_ := Aside0.mk ((by rw [hg]; exact Nat.ne_of_gt (blk_lt (g := gb759) (o := .cells #[.int .i64 a0_0, .slice A0_1 l0_1.length c0_1] 42 (0, 0)) (z26_8)) : gb786 ≠ gb759))
    have n13_ := Aside0.mk ((by rw [hg]; exact Nat.ne_of_lt (blk_lt (g := gb760) (o := .cells #[.int .i64 a1_0, .int .i64 a1_1] 23 (0, 0)) (z26_9)) : gb760 ≠ gb786))
    have n14_ := Aside0.mk ((by rw [hg]; exact Nat.ne_of_gt (blk_lt (g := gb760) (o := .cells #[.int .i64 a1_0, .int .i64 a1_1] 23 (0, 0)) (z26_9)) : gb786 ≠ gb760))
    have n15_ := Aside0.mk ((by rw [hg]; exact Nat.ne_of_lt (blk_lt (g := gb773) (o := .cells #[.int .i64 t768, .slice Ao30 t769.length co30] 46 (0, 0)) (z26_10)) : gb773 ≠ gb786))
    have n16_ := Aside0.mk ((by rw [hg]; exact Nat.ne_of_gt (blk_lt (g := gb773) (o := .cells #[.int .i64 t768, .slice Ao30 t769.length co30] 46 (0, 0)) (z26_10)) : gb786 ≠ gb773))
    have n17_ := Aside0.mk ((by rw [hg]; exact Nat.ne_of_lt (blk_lt (g := gb778) (o := .cells #[.int .i64 t774, .slice Ao40 t775.length co40] 46 (0, 0)) (z26_11)) : gb778 ≠ gb786))
    have n18_ := Aside0.mk ((by rw [hg]; exact Nat.ne_of_gt (blk_lt (g := gb778) (o := .cells #[.int .i64 t774, .slice Ao40 t775.length co40] 46 (0, 0)) (z26_11)) : gb786 ≠ gb778))
    clear HO765
    clear HO771
    clear HO777
    clear BK759
    clear BK760
    clear BK773
    clear BK778
    clear HB
    have HO765 := n0_
    have HO771 := n1_
    have HO777 := n2_
    have BK759 := n3_
    have BK760 := n4_
    have BK773 := n5_
    have BK778 := n6_
    have HB := n7_
    have BK786 := n8_
    have GW786 := n9_
    have GE786 := n10_
    have NB759_786 := n11_
    have NB786_759 := n12_
    have NB760_786 := n13_
    have NB786_760 := n14_
    have NB773_786 := n15_
    have NB786_773 := n16_
    have NB778_786 := n17_
    have NB786_778 := n18_
    clear n0_ n1_ n2_ n3_ n4_ n5_ n6_ n7_ n8_ n9_ n10_ n11_ n12_ n13_ n14_ n15_ n16_ n17_ n18_
    clear hb hbox hg
    refine hK.out _ _ ⟨(blk_cell BK778.out 0).trans rfl, (blk_cell BK778.out 1).trans rfl, (blk_cell BK760.out 0).trans rfl, (blk_cell BK760.out 1).trans rfl⟩ (fun hHeld => ?_)
    clear hK K
    refine norm_ (a' := ?_) ?_ ?_
    rotate_left
    ·show Act.put _ (some 9) _ = _
     simp only [Act.put, List.setIfInBounds_toArray, List.set_cons_zero, List.set_cons_succ, i64_w, i32_w]
     rfl
    refine one_ (i := 2) (N := some 34) #[tt,tt,tt,ff,ff,ff,ff,tt,ff,ff] rfl rfl (one_of HT_.out (by kernel_rfl)) (by decide) (fun K hK => ?_)
    refine goes_ Try.func21 (by kernel_rfl) rfl #[.agg #[.int .i64 a1_0, .int .i64 a1_1]] (by rfl) rfl rfl (z26_6) ?_
    with_reducible refine (laws_toPage.calls a1_0 a1_1 t779 t780 _ A14.out).mono ?_
    rintro e w44 ⟨rfl, hb⟩
    refine ⟨_, rfl, ?_⟩
    have n0_ := Aside0.mk (Kd.R_below (by (with_reducible repeat (first | apply ra | apply rb | apply rc)); exact HO765.out) hb)
    have n1_ := Aside0.mk (Kd.R_below (by (with_reducible repeat (first | apply ra | apply rb | apply rc)); exact HO771.out) hb)
    have n2_ := Aside0.mk (Kd.R_below (by (with_reducible repeat (first | apply ra | apply rb | apply rc)); exact HO777.out) hb)
    have n3_ := Aside0.mk (blk_below (g := gb759) (o := .cells #[.int .i64 a0_0, .slice A0_1 l0_1.length c0_1] 42 (0, 0)) (z26_8) hb)
    have n4_ := Aside0.mk (blk_below (g := gb760) (o := .cells #[.int .i64 a1_0, .int .i64 a1_1] 23 (0, 0)) (z26_9) hb)
    have n5_ := Aside0.mk (blk_below (g := gb773) (o := .cells #[.int .i64 t768, .slice Ao30 t769.length co30] 46 (0, 0)) (z26_10) hb)
    have n6_ := Aside0.mk (blk_below (g := gb778) (o := .cells #[.int .i64 t774, .slice Ao40 t775.length co40] 46 (0, 0)) (z26_11) hb)
    have n7_ := Aside0.mk (blk_below (g := gb786) (o := .cells #[.int .i64 0, .slice none 0 0] 46 (0, 0)) (z26_12) hb)
    have n8_ := Aside0.mk (below_step (z26_1) hb)
    clear HO765
    clear HO771
    clear HO777
    clear BK759
    clear BK760
    clear BK773
    clear BK778
    clear BK786
    clear HB
    have HO765 := n0_
    have HO771 := n1_
    have HO777 := n2_
    have BK759 := n3_
    have BK760 := n4_
    have BK773 := n5_
    have BK778 := n6_
    have BK786 := n7_
    have HB := n8_
    clear n0_ n1_ n2_ n3_ n4_ n5_ n6_ n7_ n8_
    (try clear hb)
    (try clear hb2)
    (try clear hk)
    (try clear hi)
    refine hK.out _ _ ⟨(blk_cell BK778.out 0).trans rfl, (blk_cell BK778.out 1).trans rfl, (blk_cell BK760.out 0).trans rfl, (blk_cell BK760.out 1).trans rfl⟩ (fun hHeld => ?_)
    clear hK K
    refine norm_ (a' := ?_) ?_ ?_
    rotate_left
    ·show Act.put _ (some 34) _ = _
     simp only [Act.put, List.setIfInBounds_toArray, List.set_cons_zero, List.set_cons_succ, i64_w, i32_w]
     rfl
    refine one_ (i := 3) (N := some 35) #[tt,tt,tt,tt,ff,ff,ff,tt,ff,ff] rfl rfl (one_of HT_.out (by kernel_rfl)) (by decide) (fun K hK => ?_)
    refine goes_ Try.func42 (by kernel_rfl) rfl #[.agg #[.int .i64 t774, .slice Ao40 t775.length co40], .agg #[.int .i64 t779, .int .i64 t780]] (by rfl) rfl rfl (z26_6) ?_
    with_reducible refine (impl_PoolUse.calls t774 _ _ t775 t779 t780 t781 t782 t785 _ ?side1 ?side2 A15.out).mono ?_
    (case side1 => repeat (first | exact (Kd.R_reads' HO777.out).2.2 | (with_reducible refine Kd.C_alloc ?_ _) | (with_reducible refine Kd.C_drewN ?_ _) | (with_reducible refine Kd.C_drew ?_)))
    (case side2 => exact (Kd.R_reads' HO777.out).2.1)
    rintro e w45 ⟨v783, rfl, ho0, hb⟩
    refine ⟨_, rfl, ?_⟩
    have n0_ := Aside0.mk (Kd.R_elder' (by (with_reducible repeat (first | apply ra | apply rb | apply rc)); exact HO765.out) (Kd.R_base ho0) hb)
    have n1_ := Aside0.mk (Kd.R_elder' (by (with_reducible repeat (first | apply ra | apply rb | apply rc)); exact HO771.out) (Kd.R_base ho0) hb)
    have n2_ := Aside0.mk (Kd.R_elder' (by (with_reducible repeat (first | apply ra | apply rb | apply rc)); exact HO777.out) (Kd.R_base ho0) hb)
    have n3_ := Aside0.mk (Kd.R_lower (Kd.R_new' (Kd.R_new' (Kd.R_new' ho0 (Kd.R_lt (by (with_reducible repeat (first | apply ra | apply rb | apply rc)); exact HO765.out))) (Kd.R_lt (by (with_reducible repeat (first | apply ra | apply rb | apply rc)); exact HO771.out))) (Kd.R_lt (by (with_reducible repeat (first | apply ra | apply rb | apply rc)); exact HO777.out))) (below_size (z26_1)))
    have n4_ := Aside0.mk (blk_below (g := gb759) (o := .cells #[.int .i64 a0_0, .slice A0_1 l0_1.length c0_1] 42 (0, 0)) (z26_8) hb)
    have n5_ := Aside0.mk (blk_below (g := gb760) (o := .cells #[.int .i64 a1_0, .int .i64 a1_1] 23 (0, 0)) (z26_9) hb)
    have n6_ := Aside0.mk (blk_below (g := gb773) (o := .cells #[.int .i64 t768, .slice Ao30 t769.length co30] 46 (0, 0)) (z26_10) hb)
    have n7_ := Aside0.mk (blk_below (g := gb778) (o := .cells #[.int .i64 t774, .slice Ao40 t775.length co40] 46 (0, 0)) (z26_11) hb)
    have n8_ := Aside0.mk (blk_below (g := gb786) (o := .cells #[.int .i64 0, .slice none 0 0] 46 (0, 0)) (z26_12) hb)
    have n9_ := Aside0.mk (below_step (z26_1) hb)
    clear HO765
    clear HO771
    clear HO777
    clear BK759
    clear BK760
    clear BK773
    clear BK778
    clear BK786
    clear HB
    have HO765 := n0_
    have HO771 := n1_
    have HO777 := n2_
    have HO784 := n3_
    have BK759 := n4_
    have BK760 := n5_
    have BK773 := n6_
    have BK778 := n7_
    have BK786 := n8_
    have HB := n9_
    clear n0_ n1_ n2_ n3_ n4_ n5_ n6_ n7_ n8_ n9_
    (try clear hb)
    (try clear hb2)
    (try clear hk)
    (try clear hi)
    (try clear ho0)
    refine hK.out _ _ ⟨(blk_cell BK778.out 0).trans rfl, (blk_cell BK778.out 1).trans rfl, (blk_cell BK760.out 0).trans rfl, (blk_cell BK760.out 1).trans rfl⟩ (fun hHeld => ?_)
    clear hK K
    refine norm_ (a' := ?_) ?_ ?_
    rotate_left
    ·show Act.put _ (some 35) _ = _
     simp only [Act.put, List.setIfInBounds_toArray, List.set_cons_zero, List.set_cons_succ, i64_w, i32_w]
     rfl
    refine pure_ (i := 4) (N := some 31) (v := ?_) (a' := ?_) #[tt,tt,tt,tt,tt,ff,ff,tt,ff,ff] rfl rfl (any_of HT_.out (by kernel_rfl)) (fun _ _ _ h => h) (Or.inl ⟨by rfl, ?_⟩) ?_ ?_
    rotate_left
    ·intro w'
     go_simp
     with_reducible rfl
    rotate_left
    ·simp only [Act.put, List.setIfInBounds_toArray, List.set_cons_zero, List.set_cons_succ, i64_w, i32_w]
     rfl
    refine pure_ (i := 5) (N := some 36) (v := ?_) (a' := ?_) #[tt,tt,tt,tt,tt,tt,ff,tt,ff,ff] rfl rfl (any_of HT_.out (by kernel_rfl)) (fun _ _ _ h => h) (Or.inl ⟨by rfl, ?_⟩) ?_ ?_
    rotate_left
    ·intro w'
     go_simp
     with_reducible rfl
    rotate_left
    ·simp only [Act.put, List.setIfInBounds_toArray, List.set_cons_zero, List.set_cons_succ, i64_w, i32_w]
     rfl
    refine pure_ (i := 6) (N := some 37) (v := ?_) (a' := ?_) #[tt,tt,tt,tt,tt,tt,tt,tt,ff,ff] rfl rfl (any_of HT_.out (by kernel_rfl)) (fun _ _ _ h => h) (Or.inl ⟨by rfl, ?_⟩) ?_ ?_
    rotate_left
    ·intro w'
     go_simp
     with_reducible rfl
    rotate_left
    ·simp only [Act.put, List.setIfInBounds_toArray, List.set_cons_zero, List.set_cons_succ, i64_w, i32_w]
     rfl
    exact norm_ (z26_14) (hCont (v783, gb786) _ ⟨hHeld, (by (with_reducible repeat (first | apply ra | apply rb | apply rc)); exact Kd.R_mono HO765.out (fun _ hk => ⟨hk.1.1, ⟨hk.1.2, hk.2⟩⟩)), (by (with_reducible repeat (first | apply ra | apply rb | apply rc)); exact Kd.R_mono HO771.out (fun _ hk => ⟨hk.1.1, ⟨hk.1.2, hk.2⟩⟩)), (by (with_reducible repeat (first | apply ra | apply rb | apply rc)); exact Kd.R_mono HO777.out (fun _ hk => ⟨hk.1.1, ⟨hk.1.2, hk.2⟩⟩)), (by (with_reducible repeat (first | apply ra | apply rb | apply rc)); exact Kd.R_mono HO784.out (fun _ hk => ⟨hk.1.1.2, ⟨hk.1.2, hk.2⟩⟩)), (z26_8), (z26_9), (z26_10), (z26_11), (z26_12), GW786.out, GE786.out, NB759_786.out, NB786_759.out, NB760_786.out, NB786_760.out, NB773_786.out, NB786_773.out, NB778_786.out, NB786_778.out, (z26_1)⟩)
  rintro ⟨v783, gb786⟩ w46 ⟨hS_, h0_, h1_, h2_, h3_, h4_, h5_, h6_, h7_, h8_, h9_, h10_, h11_, h12_, h13_, h14_, h15_, h16_, h17_, h18_, h19_⟩
  have n0_ : Aside0 (Kd.R k25 25 w46 w.heap.size (fun k_ => some k_ ≠ (.slice Ao30 t769.length co30 : Value).ownBlock ∧ some k_ ≠ (.slice Ao40 t775.length co40 : Value).ownBlock ∧ some k_ ≠ (v783 : Value).ownBlock) v764 t763) := ⟨h0_⟩
  have n1_ : Aside0 (Kd.R k25 25 w46 w.heap.size (fun k_ => some k_ ≠ (v764 : Value).ownBlock ∧ some k_ ≠ (.slice Ao40 t775.length co40 : Value).ownBlock ∧ some k_ ≠ (v783 : Value).ownBlock) (.slice Ao30 t769.length co30) t769) := ⟨h1_⟩
  have n2_ : Aside0 (Kd.R k25 25 w46 w.heap.size (fun k_ => some k_ ≠ (v764 : Value).ownBlock ∧ some k_ ≠ (.slice Ao30 t769.length co30 : Value).ownBlock ∧ some k_ ≠ (v783 : Value).ownBlock) (.slice Ao40 t775.length co40) t775) := ⟨h2_⟩
  have n3_ : Aside0 (Kd.R k25 25 w46 w.heap.size (fun k_ => some k_ ≠ (v764 : Value).ownBlock ∧ some k_ ≠ (.slice Ao30 t769.length co30 : Value).ownBlock ∧ some k_ ≠ (.slice Ao40 t775.length co40 : Value).ownBlock) v783 t782) := ⟨h3_⟩
  have n4_ : Aside0 (w46.heap[gb759]? = some (.cells #[.int .i64 a0_0, .slice A0_1 l0_1.length c0_1] 42 (0, 0))) := ⟨h4_⟩
  have n5_ : Aside0 (w46.heap[gb760]? = some (.cells #[.int .i64 a1_0, .int .i64 a1_1] 23 (0, 0))) := ⟨h5_⟩
  have n6_ : Aside0 (w46.heap[gb773]? = some (.cells #[.int .i64 t768, .slice Ao30 t769.length co30] 46 (0, 0))) := ⟨h6_⟩
  have n7_ : Aside0 (w46.heap[gb778]? = some (.cells #[.int .i64 t774, .slice Ao40 t775.length co40] 46 (0, 0))) := ⟨h7_⟩
  have n8_ : Aside0 (w46.heap[gb786]? = some (.cells #[.int .i64 0, .slice none 0 0] 46 (0, 0))) := ⟨h8_⟩
  have n9_ : Aside0 (w.heap.size ≤ gb786) := ⟨h9_⟩
  have n10_ : Aside0 (w.heap.size ≤ gb786) := ⟨h10_⟩
  have n11_ : Aside0 (gb759 ≠ gb786) := ⟨h11_⟩
  have n12_ : Aside0 (gb786 ≠ gb759) := ⟨h12_⟩
  have n13_ : Aside0 (gb760 ≠ gb786) := ⟨h13_⟩
  have n14_ : Aside0 (gb786 ≠ gb760) := ⟨h14_⟩
  have n15_ : Aside0 (gb773 ≠ gb786) := ⟨h15_⟩
  have n16_ : Aside0 (gb786 ≠ gb773) := ⟨h16_⟩
  have n17_ : Aside0 (gb778 ≠ gb786) := ⟨h17_⟩
  have n18_ : Aside0 (gb786 ≠ gb778) := ⟨h18_⟩
  have n19_ : Aside0 (Below w.heap.size w w46) := ⟨h19_⟩
  clear HO765
  clear HO771
  clear HO777
  clear BK759
  clear BK760
  clear BK773
  clear BK778
  clear HB
  clear h0_ h1_ h2_ h3_ h4_ h5_ h6_ h7_ h8_ h9_ h10_ h11_ h12_ h13_ h14_ h15_ h16_ h17_ h18_ h19_
  have HO765 := n0_
  have HO771 := n1_
  have HO777 := n2_
  have HO784 := n3_
  have BK759 := n4_
  have BK760 := n5_
  have BK773 := n6_
  have BK778 := n7_
  have BK786 := n8_
  have GW786 := n9_
  have GE786 := n10_
  have NB759_786 := n11_
  have NB786_759 := n12_
  have NB760_786 := n13_
  have NB786_760 := n14_
  have NB773_786 := n15_
  have NB786_773 := n16_
  have NB778_786 := n17_
  have NB786_778 := n18_
  have HB := n19_
  clear n0_ n1_ n2_ n3_ n4_ n5_ n6_ n7_ n8_ n9_ n10_ n11_ n12_ n13_ n14_ n15_ n16_ n17_ n18_ n19_
  have hHeld : w46.cell? ⟨gb778, 0, none⟩ = some (.int .i64 t774) ∧ w46.cell? ⟨gb778, 1, none⟩ = some (.slice Ao40 t775.length co40) ∧ w46.cell? ⟨gb760, 0, none⟩ = some (.int .i64 a1_0) ∧ w46.cell? ⟨gb760, 1, none⟩ = some (.int .i64 a1_1) := hS_
  obtain ⟨Ao48, co48, eo48⟩ := Kd.R_slice HO784.out
  (first | subst eo48 | (injection eo48 with f1_ f2_ f3_; have f4_ := f1_.symm; have f5_ := f3_.symm; clear f1_ f2_ f3_; subst f4_; subst f5_))
  refine norm_ (a' := ?_) ?_ ?_
  rotate_left
  ·simp only [putAll, Act.put, List.setIfInBounds_toArray, List.set_cons_zero, List.set_cons_succ]
   rfl
  refine one_ (i := 8) (N := none) #[tt,tt,tt,tt,tt,tt,tt,tt,tt,ff] rfl rfl (one_of HT_.out (by kernel_rfl)) (by decide) (fun K hK => ?_)
  have hs47 : w46.cell? ⟨gb786, 0, none⟩ = some (.int .i64 0) := (blk_cell BK786.out 0).trans rfl
  have hfs47 := blk_frozen BK786.out 0
  have hns47_0 := NB759_786.out
  have hns47_1 := NB760_786.out
  have hns47_2 := NB773_786.out
  have hns47_3 := NB778_786.out
  have hms47_0 := NB786_759.out
  have hms47_1 := NB786_760.out
  have hms47_2 := NB786_773.out
  have hms47_3 := NB786_778.out
  have hs49 : w46.cell? ⟨gb786, 1, none⟩ = some (.slice none 0 0) := (blk_cell BK786.out 1).trans rfl
  have hfs49 := blk_frozen BK786.out 1
  have hns49_0 := NB759_786.out
  have hns49_1 := NB760_786.out
  have hns49_2 := NB773_786.out
  have hns49_3 := NB778_786.out
  have hms49_0 := NB786_759.out
  have hms49_1 := NB786_760.out
  have hms49_2 := NB786_773.out
  have hms49_3 := NB786_778.out
  refine skip_ (w1 := ?_) (by rfl) rfl ?_ ?_
  rotate_left
  ·go_simp
   rfl
  refine hK.out _ _ ⟨((cell_far (p := ⟨gb786, _, none⟩) NB778_786.out _).trans (((cell_far (p := ⟨gb786, _, none⟩) NB778_786.out _).trans (hHeld.1)))), ((cell_far (p := ⟨gb786, _, none⟩) NB778_786.out _).trans (((cell_far (p := ⟨gb786, _, none⟩) NB778_786.out _).trans (hHeld.2.1)))), ((cell_far (p := ⟨gb786, _, none⟩) NB760_786.out _).trans (((cell_far (p := ⟨gb786, _, none⟩) NB760_786.out _).trans (hHeld.2.2.1)))), ((cell_far (p := ⟨gb786, _, none⟩) NB760_786.out _).trans (((cell_far (p := ⟨gb786, _, none⟩) NB760_786.out _).trans (hHeld.2.2.2))))⟩ (fun hHeld => ?_)
  clear hK K
  refine pure_ (i := 9) (N := some 10) (v := ?_) (a' := ?_) #[tt,tt,tt,tt,tt,tt,tt,tt,tt,tt] rfl rfl (any_of HT_.out (by kernel_rfl)) (fun _ _ _ h => h) (Or.inl ⟨by rfl, ?_⟩) ?_ ?_
  rotate_left
  ·intro w'
   go_simp
   with_reducible rfl
  rotate_left
  ·simp only [Act.put, List.setIfInBounds_toArray, List.set_cons_zero, List.set_cons_succ, i64_w, i32_w]
   rfl
  refine done_ (done_of HT_.out (by kernel_rfl)) ?_
  go_upto_region 8 with (fail)
  go_cut [46] (fun v46 wc => ∃ (kq : Nat) (x46_15 : Bool), v46 = .bool x46_15 ∧ Aside0 (laws_FnExactPoolUse.j0 kq t772 t785 x46_15 a0_0 l0_1 a1_0 a1_1 t768 t769 t774 t775 t781 t782 = some r) ∧ Aside0 (kq ≤ k) ∧ Aside0 (Kd.R k25 25 wc w.heap.size (fun k_ => some k_ ≠ ((.slice Ao40 t775.length co40) : Value).ownBlock ∧ some k_ ≠ ((.slice Ao48 t782.length co48) : Value).ownBlock) (.slice Ao30 t769.length co30) t769) ∧ Aside0 (Kd.R k25 25 wc w.heap.size (fun k_ => some k_ ≠ ((.slice Ao30 t769.length co30) : Value).ownBlock ∧ some k_ ≠ ((.slice Ao48 t782.length co48) : Value).ownBlock) (.slice Ao40 t775.length co40) t775) ∧ Aside0 (Kd.R k25 25 wc w.heap.size (fun k_ => some k_ ≠ ((.slice Ao30 t769.length co30) : Value).ownBlock ∧ some k_ ≠ ((.slice Ao40 t775.length co40) : Value).ownBlock) (.slice Ao48 t782.length co48) t782) ∧ Aside0 (wc.heap[gb759]? = some (.cells #[.int .i64 a0_0, (.slice A0_1 l0_1.length c0_1)] 42 (0, 0))) ∧ Aside0 (wc.heap[gb760]? = some (.cells #[.int .i64 a1_0, .int .i64 a1_1] 23 (0, 0))) ∧ Aside0 (wc.heap[gb773]? = some (.cells #[.int .i64 t768, (.slice Ao30 t769.length co30)] 46 (0, 0))) ∧ Aside0 (wc.heap[gb778]? = some (.cells #[.int .i64 t774, (.slice Ao40 t775.length co40)] 46 (0, 0))) ∧ Aside0 (wc.heap[gb786]? = some (.cells #[.int .i64 t781, (.slice Ao48 t782.length co48)] 46 (0, 0))) ∧ Aside0 (Below w.heap.size w wc))
  case first =>
   have H := HC16.out
   clear HC16
   replace H := Option.bind_eq_some_iff.mp H
   obtain ⟨t787, A500, H⟩ := H
   replace H : (if t787 = true then (laws_FnExactPoolUse.j0 k t772 t785 (t785 != t772) a0_0 l0_1 a1_0 a1_1 t768 t769 t774 t775 t781 t782) else (laws_FnExactPoolUse.j0 k t772 t785 true a0_0 l0_1 a1_0 a1_1 t768 t769 t774 t775 t781 t782)) = some r := H
   have A50 := Aside0.mk A500
   clear A500
   by_cases c51 : t787 = true
   ·subst c51
    have H1 : (laws_FnExactPoolUse.j0 k t772 t785 (t785 != t772) a0_0 l0_1 a1_0 a1_1 t768 t769 t774 t775 t781 t782) = some r := by rw [if_pos rfl] at H; exact H
    clear H
    have H := H1
    clear H1
    have H' := Aside0.mk H
    clear H
    have hnb52 := NB786_759.out
    have hnc52 := NB759_786.out
    have hnb53 := NB786_760.out
    have hnc53 := NB760_786.out
    have hnb54 := NB786_773.out
    have hnc54 := NB773_786.out
    have hnb55 := NB786_778.out
    have hnc55 := NB778_786.out
    have hcz56_0 : w46.cell? ⟨gb786, 0, none⟩ = some (.int .i64 0) := (blk_cell BK786.out 0).trans rfl
    have hcz56_1 : w46.cell? ⟨gb786, 1, none⟩ = some (.slice none 0 0) := (blk_cell BK786.out 1).trans rfl
    have hfz56_0 := blk_frozen BK786.out 0
    have hfz56_1 := blk_frozen BK786.out 1
    have hnb57 := NB773_759.out
    have hnc57 := NB759_773.out
    have hnb58 := NB773_760.out
    have hnc58 := NB760_773.out
    have hnb59 := NB773_778.out
    have hnc59 := NB778_773.out
    have hcz60_0 : w46.cell? ⟨gb773, 0, none⟩ = some (.int .i64 t768) := (blk_cell BK773.out 0).trans rfl
    have hcz60_1 : w46.cell? ⟨gb773, 1, none⟩ = some (.slice Ao30 t769.length co30) := (blk_cell BK773.out 1).trans rfl
    have hfz60_0 := blk_frozen BK773.out 0
    have hfz60_1 := blk_frozen BK773.out 1
    go_wp2_with (first | ((with_reducible refine gate_callee (f := 36) rfl ?_); refine goesL_ (some 40) rfl rfl Try.func36 (by kernel_rfl) rfl #[.agg #[.int .i64 t781, .slice Ao48 t782.length co48], .agg #[.int .i64 t768, .slice Ao30 t769.length co30]] rfl (z26_6) ?_; (with_reducible refine (laws_eqPool.calls k t781 _ _ t782 t768 _ _ t769 true _ ?side1 ?side2 ?side3 ?side4 A50.out).mono ?_); (case side1 => refine (Kd.R_reads' (e := 25) (base := w.heap.size) (ok := fun k_ => (some k_ ≠ (v764 : Value).ownBlock ∧ (some k_ ≠ (.slice Ao30 t769.length co30 : Value).ownBlock ∧ some k_ ≠ (.slice Ao40 t775.length co40 : Value).ownBlock))) (n := t782.length) (c := co48) ?_).2.2; exact (by (with_reducible repeat (first | apply ra | apply rb | apply rc)); exact (Kd.R_mono (Kd.R_far (p := ⟨gb786, 1, none⟩) (Kd.R_far (p := ⟨gb786, 0, none⟩) (Kd.R_types HO784.out BK786.out (by decide)) (fun _ hk => hk.2) (.int .i64 t781)) (fun _ hk => hk.2) (.slice Ao48 t782.length co48)) (fun _ h_ => h_.1)))); (case side2 => exact (Kd.R_reads' HO784.out).2.1); (case side3 => refine (Kd.R_reads' (e := 25) (base := w.heap.size) (ok := fun k_ => (some k_ ≠ (v764 : Value).ownBlock ∧ (some k_ ≠ (.slice Ao40 t775.length co40 : Value).ownBlock ∧ some k_ ≠ (.slice Ao48 t782.length co48 : Value).ownBlock))) (n := t769.length) (c := co30) ?_).2.2; exact (by (with_reducible repeat (first | apply ra | apply rb | apply rc)); exact (Kd.R_mono (Kd.R_far (p := ⟨gb786, 1, none⟩) (Kd.R_far (p := ⟨gb786, 0, none⟩) (Kd.R_types HO771.out BK786.out (by decide)) (fun _ hk => hk.2) (.int .i64 t781)) (fun _ hk => hk.2) (.slice Ao48 t782.length co48)) (fun _ h_ => h_.1)))); (case side4 => exact (Kd.R_reads' HO771.out).2.1); rintro e w61 ⟨rfl, hb⟩; refine ⟨_, rfl, ?_⟩; have n0_ := Aside0.mk (Kd.R_below (by (with_reducible repeat (first | apply ra | apply rb | apply rc)); exact (Kd.R_mono (Kd.R_far (p := ⟨gb786, 1, none⟩) (Kd.R_far (p := ⟨gb786, 0, none⟩) (Kd.R_types HO765.out BK786.out (by decide)) (fun _ hk => hk.2) (.int .i64 t781)) (fun _ hk => hk.2) (.slice Ao48 t782.length co48)) (fun _ h_ => h_.1))) hb); have n1_ := Aside0.mk (Kd.R_below (by (with_reducible repeat (first | apply ra | apply rb | apply rc)); exact (Kd.R_mono (Kd.R_far (p := ⟨gb786, 1, none⟩) (Kd.R_far (p := ⟨gb786, 0, none⟩) (Kd.R_types HO771.out BK786.out (by decide)) (fun _ hk => hk.2) (.int .i64 t781)) (fun _ hk => hk.2) (.slice Ao48 t782.length co48)) (fun _ h_ => h_.1))) hb); have n2_ := Aside0.mk (Kd.R_below (by (with_reducible repeat (first | apply ra | apply rb | apply rc)); exact (Kd.R_mono (Kd.R_far (p := ⟨gb786, 1, none⟩) (Kd.R_far (p := ⟨gb786, 0, none⟩) (Kd.R_types HO777.out BK786.out (by decide)) (fun _ hk => hk.2) (.int .i64 t781)) (fun _ hk => hk.2) (.slice Ao48 t782.length co48)) (fun _ h_ => h_.1))) hb); have n3_ := Aside0.mk (Kd.R_below (by (with_reducible repeat (first | apply ra | apply rb | apply rc)); exact (Kd.R_mono (Kd.R_far (p := ⟨gb786, 1, none⟩) (Kd.R_far (p := ⟨gb786, 0, none⟩) (Kd.R_types HO784.out BK786.out (by decide)) (fun _ hk => hk.2) (.int .i64 t781)) (fun _ hk => hk.2) (.slice Ao48 t782.length co48)) (fun _ h_ => h_.1))) hb); have n4_ := Aside0.mk (blk_below (g := gb759) (o := .cells #[.int .i64 a0_0, .slice A0_1 l0_1.length c0_1] 42 (0, 0)) (by (with_reducible repeat (first | refine ba ?_ _ | refine bb ?_ | refine bc ?_ _)); refine blk_far ?_ NB759_786.out _; (with_reducible repeat (first | refine ba ?_ _ | refine bb ?_ | refine bc ?_ _)); refine blk_far ?_ NB759_786.out _; (with_reducible repeat (first | refine ba ?_ _ | refine bb ?_ | refine bc ?_ _)); exact BK759.out) hb); have n5_ := Aside0.mk (blk_below (g := gb760) (o := .cells #[.int .i64 a1_0, .int .i64 a1_1] 23 (0, 0)) (by (with_reducible repeat (first | refine ba ?_ _ | refine bb ?_ | refine bc ?_ _)); refine blk_far ?_ NB760_786.out _; (with_reducible repeat (first | refine ba ?_ _ | refine bb ?_ | refine bc ?_ _)); refine blk_far ?_ NB760_786.out _; (with_reducible repeat (first | refine ba ?_ _ | refine bb ?_ | refine bc ?_ _)); exact BK760.out) hb); have n6_ := Aside0.mk (blk_below (g := gb773) (o := .cells #[.int .i64 t768, .slice Ao30 t769.length co30] 46 (0, 0)) (by (with_reducible repeat (first | refine ba ?_ _ | refine bb ?_ | refine bc ?_ _)); refine blk_far ?_ NB773_786.out _; (with_reducible repeat (first | refine ba ?_ _ | refine bb ?_ | refine bc ?_ _)); refine blk_far ?_ NB773_786.out _; (with_reducible repeat (first | refine ba ?_ _ | refine bb ?_ | refine bc ?_ _)); exact BK773.out) hb); have n7_ := Aside0.mk (blk_below (g := gb778) (o := .cells #[.int .i64 t774, .slice Ao40 t775.length co40] 46 (0, 0)) (by (with_reducible repeat (first | refine ba ?_ _ | refine bb ?_ | refine bc ?_ _)); refine blk_far ?_ NB778_786.out _; (with_reducible repeat (first | refine ba ?_ _ | refine bb ?_ | refine bc ?_ _)); refine blk_far ?_ NB778_786.out _; (with_reducible repeat (first | refine ba ?_ _ | refine bb ?_ | refine bc ?_ _)); exact BK778.out) hb); have n8_ := Aside0.mk (blk_below (g := gb786) (o := .cells #[.int .i64 t781, .slice Ao48 t782.length co48] 46 (0, 0)) (by (with_reducible repeat (first | refine ba ?_ _ | refine bb ?_ | refine bc ?_ _)); refine blk_put (cs := #[.int .i64 t781, .slice none 0 0]) ?_ 1 _ rfl; (with_reducible repeat (first | refine ba ?_ _ | refine bb ?_ | refine bc ?_ _)); refine blk_put (cs := #[.int .i64 0, .slice none 0 0]) ?_ 0 _ rfl; (with_reducible repeat (first | refine ba ?_ _ | refine bb ?_ | refine bc ?_ _)); exact BK786.out) hb); have n9_ := Aside0.mk (below_step (z26_1) hb); clear HO765; clear HO771; clear HO777; clear HO784; clear BK759; clear BK760; clear BK773; clear BK778; clear BK786; clear HB; have HO765 := n0_; have HO771 := n1_; have HO777 := n2_; have HO784 := n3_; have BK759 := n4_; have BK760 := n5_; have BK773 := n6_; have BK778 := n7_; have BK786 := n8_; have HB := n9_; clear n0_ n1_ n2_ n3_ n4_ n5_ n6_ n7_ n8_ n9_; (try clear hb); (try clear hb2); (try clear hk); (try clear hi)))
    go_meet
    case rel => exact ⟨_, ((t785 != t772)), (z26_15), H', ⟨by first | omega | exact Nat.le_refl _⟩, ⟨by (with_reducible repeat (first | apply ra | apply rb | apply rc)); exact Kd.R_mono HO771.out (fun _ hk => ⟨hk.2.1, hk.2.2⟩)⟩, ⟨by (with_reducible repeat (first | apply ra | apply rb | apply rc)); exact Kd.R_mono HO777.out (fun _ hk => ⟨hk.2.1, hk.2.2⟩)⟩, ⟨by (with_reducible repeat (first | apply ra | apply rb | apply rc)); exact Kd.R_mono HO784.out (fun _ hk => ⟨hk.2.1, hk.2.2⟩)⟩, ⟨by (with_reducible repeat (first | refine ba ?_ _ | refine bb ?_ | refine bc ?_ _)); exact BK759.out⟩, ⟨by (with_reducible repeat (first | refine ba ?_ _ | refine bb ?_ | refine bc ?_ _)); exact BK760.out⟩, ⟨by (with_reducible repeat (first | refine ba ?_ _ | refine bb ?_ | refine bc ?_ _)); exact BK773.out⟩, ⟨by (with_reducible repeat (first | refine ba ?_ _ | refine bb ?_ | refine bc ?_ _)); exact BK778.out⟩, ⟨by (with_reducible repeat (first | refine ba ?_ _ | refine bb ?_ | refine bc ?_ _)); exact BK786.out⟩, ⟨by repeat (first | (with_reducible first | exact HB.out | apply below_alloc | apply pw_below_drewN | apply below_drew1 | refine below_set ?_ GE759.out | refine below_set ?_ GE760.out | refine below_set ?_ GE773.out | refine below_set ?_ GE778.out | refine below_set ?_ GE786.out) | exact HB.out)⟩⟩
   ·replace c51 := Bool.eq_false_iff.mpr c51
    subst c51
    have H1 : (laws_FnExactPoolUse.j0 k t772 t785 true a0_0 l0_1 a1_0 a1_1 t768 t769 t774 t775 t781 t782) = some r := by rw [if_neg (show ¬ (false = true) by decide)] at H; exact H
    clear H
    have H := H1
    clear H1
    have H' := Aside0.mk H
    clear H
    have hnb62 := NB786_759.out
    have hnc62 := NB759_786.out
    have hnb63 := NB786_760.out
    have hnc63 := NB760_786.out
    have hnb64 := NB786_773.out
    have hnc64 := NB773_786.out
    have hnb65 := NB786_778.out
    have hnc65 := NB778_786.out
    have hcz66_0 : w46.cell? ⟨gb786, 0, none⟩ = some (.int .i64 0) := (blk_cell BK786.out 0).trans rfl
    have hcz66_1 : w46.cell? ⟨gb786, 1, none⟩ = some (.slice none 0 0) := (blk_cell BK786.out 1).trans rfl
    have hfz66_0 := blk_frozen BK786.out 0
    have hfz66_1 := blk_frozen BK786.out 1
    have hnb67 := NB773_759.out
    have hnc67 := NB759_773.out
    have hnb68 := NB773_760.out
    have hnc68 := NB760_773.out
    have hnb69 := NB773_778.out
    have hnc69 := NB778_773.out
    have hcz70_0 : w46.cell? ⟨gb773, 0, none⟩ = some (.int .i64 t768) := (blk_cell BK773.out 0).trans rfl
    have hcz70_1 : w46.cell? ⟨gb773, 1, none⟩ = some (.slice Ao30 t769.length co30) := (blk_cell BK773.out 1).trans rfl
    have hfz70_0 := blk_frozen BK773.out 0
    have hfz70_1 := blk_frozen BK773.out 1
    go_wp2_with (first | ((with_reducible refine gate_callee (f := 36) rfl ?_); refine goesL_ (some 40) rfl rfl Try.func36 (by kernel_rfl) rfl #[.agg #[.int .i64 t781, .slice Ao48 t782.length co48], .agg #[.int .i64 t768, .slice Ao30 t769.length co30]] rfl (z26_6) ?_; (with_reducible refine (laws_eqPool.calls k t781 _ _ t782 t768 _ _ t769 false _ ?side1 ?side2 ?side3 ?side4 A50.out).mono ?_); (case side1 => refine (Kd.R_reads' (e := 25) (base := w.heap.size) (ok := fun k_ => (some k_ ≠ (v764 : Value).ownBlock ∧ (some k_ ≠ (.slice Ao30 t769.length co30 : Value).ownBlock ∧ some k_ ≠ (.slice Ao40 t775.length co40 : Value).ownBlock))) (n := t782.length) (c := co48) ?_).2.2; exact (by (with_reducible repeat (first | apply ra | apply rb | apply rc)); exact (Kd.R_mono (Kd.R_far (p := ⟨gb786, 1, none⟩) (Kd.R_far (p := ⟨gb786, 0, none⟩) (Kd.R_types HO784.out BK786.out (by decide)) (fun _ hk => hk.2) (.int .i64 t781)) (fun _ hk => hk.2) (.slice Ao48 t782.length co48)) (fun _ h_ => h_.1)))); (case side2 => exact (Kd.R_reads' HO784.out).2.1); (case side3 => refine (Kd.R_reads' (e := 25) (base := w.heap.size) (ok := fun k_ => (some k_ ≠ (v764 : Value).ownBlock ∧ (some k_ ≠ (.slice Ao40 t775.length co40 : Value).ownBlock ∧ some k_ ≠ (.slice Ao48 t782.length co48 : Value).ownBlock))) (n := t769.length) (c := co30) ?_).2.2; exact (by (with_reducible repeat (first | apply ra | apply rb | apply rc)); exact (Kd.R_mono (Kd.R_far (p := ⟨gb786, 1, none⟩) (Kd.R_far (p := ⟨gb786, 0, none⟩) (Kd.R_types HO771.out BK786.out (by decide)) (fun _ hk => hk.2) (.int .i64 t781)) (fun _ hk => hk.2) (.slice Ao48 t782.length co48)) (fun _ h_ => h_.1)))); (case side4 => exact (Kd.R_reads' HO771.out).2.1); rintro e w71 ⟨rfl, hb⟩; refine ⟨_, rfl, ?_⟩; have n0_ := Aside0.mk (Kd.R_below (by (with_reducible repeat (first | apply ra | apply rb | apply rc)); exact (Kd.R_mono (Kd.R_far (p := ⟨gb786, 1, none⟩) (Kd.R_far (p := ⟨gb786, 0, none⟩) (Kd.R_types HO765.out BK786.out (by decide)) (fun _ hk => hk.2) (.int .i64 t781)) (fun _ hk => hk.2) (.slice Ao48 t782.length co48)) (fun _ h_ => h_.1))) hb); have n1_ := Aside0.mk (Kd.R_below (by (with_reducible repeat (first | apply ra | apply rb | apply rc)); exact (Kd.R_mono (Kd.R_far (p := ⟨gb786, 1, none⟩) (Kd.R_far (p := ⟨gb786, 0, none⟩) (Kd.R_types HO771.out BK786.out (by decide)) (fun _ hk => hk.2) (.int .i64 t781)) (fun _ hk => hk.2) (.slice Ao48 t782.length co48)) (fun _ h_ => h_.1))) hb); have n2_ := Aside0.mk (Kd.R_below (by (with_reducible repeat (first | apply ra | apply rb | apply rc)); exact (Kd.R_mono (Kd.R_far (p := ⟨gb786, 1, none⟩) (Kd.R_far (p := ⟨gb786, 0, none⟩) (Kd.R_types HO777.out BK786.out (by decide)) (fun _ hk => hk.2) (.int .i64 t781)) (fun _ hk => hk.2) (.slice Ao48 t782.length co48)) (fun _ h_ => h_.1))) hb); have n3_ := Aside0.mk (Kd.R_below (by (with_reducible repeat (first | apply ra | apply rb | apply rc)); exact (Kd.R_mono (Kd.R_far (p := ⟨gb786, 1, none⟩) (Kd.R_far (p := ⟨gb786, 0, none⟩) (Kd.R_types HO784.out BK786.out (by decide)) (fun _ hk => hk.2) (.int .i64 t781)) (fun _ hk => hk.2) (.slice Ao48 t782.length co48)) (fun _ h_ => h_.1))) hb); have n4_ := Aside0.mk (blk_below (g := gb759) (o := .cells #[.int .i64 a0_0, .slice A0_1 l0_1.length c0_1] 42 (0, 0)) (by (with_reducible repeat (first | refine ba ?_ _ | refine bb ?_ | refine bc ?_ _)); refine blk_far ?_ NB759_786.out _; (with_reducible repeat (first | refine ba ?_ _ | refine bb ?_ | refine bc ?_ _)); refine blk_far ?_ NB759_786.out _; (with_reducible repeat (first | refine ba ?_ _ | refine bb ?_ | refine bc ?_ _)); exact BK759.out) hb); have n5_ := Aside0.mk (blk_below (g := gb760) (o := .cells #[.int .i64 a1_0, .int .i64 a1_1] 23 (0, 0)) (by (with_reducible repeat (first | refine ba ?_ _ | refine bb ?_ | refine bc ?_ _)); refine blk_far ?_ NB760_786.out _; (with_reducible repeat (first | refine ba ?_ _ | refine bb ?_ | refine bc ?_ _)); refine blk_far ?_ NB760_786.out _; (with_reducible repeat (first | refine ba ?_ _ | refine bb ?_ | refine bc ?_ _)); exact BK760.out) hb); have n6_ := Aside0.mk (blk_below (g := gb773) (o := .cells #[.int .i64 t768, .slice Ao30 t769.length co30] 46 (0, 0)) (by (with_reducible repeat (first | refine ba ?_ _ | refine bb ?_ | refine bc ?_ _)); refine blk_far ?_ NB773_786.out _; (with_reducible repeat (first | refine ba ?_ _ | refine bb ?_ | refine bc ?_ _)); refine blk_far ?_ NB773_786.out _; (with_reducible repeat (first | refine ba ?_ _ | refine bb ?_ | refine bc ?_ _)); exact BK773.out) hb); have n7_ := Aside0.mk (blk_below (g := gb778) (o := .cells #[.int .i64 t774, .slice Ao40 t775.length co40] 46 (0, 0)) (by (with_reducible repeat (first | refine ba ?_ _ | refine bb ?_ | refine bc ?_ _)); refine blk_far ?_ NB778_786.out _; (with_reducible repeat (first | refine ba ?_ _ | refine bb ?_ | refine bc ?_ _)); refine blk_far ?_ NB778_786.out _; (with_reducible repeat (first | refine ba ?_ _ | refine bb ?_ | refine bc ?_ _)); exact BK778.out) hb); have n8_ := Aside0.mk (blk_below (g := gb786) (o := .cells #[.int .i64 t781, .slice Ao48 t782.length co48] 46 (0, 0)) (by (with_reducible repeat (first | refine ba ?_ _ | refine bb ?_ | refine bc ?_ _)); refine blk_put (cs := #[.int .i64 t781, .slice none 0 0]) ?_ 1 _ rfl; (with_reducible repeat (first | refine ba ?_ _ | refine bb ?_ | refine bc ?_ _)); refine blk_put (cs := #[.int .i64 0, .slice none 0 0]) ?_ 0 _ rfl; (with_reducible repeat (first | refine ba ?_ _ | refine bb ?_ | refine bc ?_ _)); exact BK786.out) hb); have n9_ := Aside0.mk (below_step (z26_1) hb); clear HO765; clear HO771; clear HO777; clear HO784; clear BK759; clear BK760; clear BK773; clear BK778; clear BK786; clear HB; have HO765 := n0_; have HO771 := n1_; have HO777 := n2_; have HO784 := n3_; have BK759 := n4_; have BK760 := n5_; have BK773 := n6_; have BK778 := n7_; have BK786 := n8_; have HB := n9_; clear n0_ n1_ n2_ n3_ n4_ n5_ n6_ n7_ n8_ n9_; (try clear hb); (try clear hb2); (try clear hk); (try clear hi)))
    go_meet
    case rel => exact ⟨_, (true), (z26_15), H', ⟨by first | omega | exact Nat.le_refl _⟩, ⟨by (with_reducible repeat (first | apply ra | apply rb | apply rc)); exact Kd.R_mono HO771.out (fun _ hk => ⟨hk.2.1, hk.2.2⟩)⟩, ⟨by (with_reducible repeat (first | apply ra | apply rb | apply rc)); exact Kd.R_mono HO777.out (fun _ hk => ⟨hk.2.1, hk.2.2⟩)⟩, ⟨by (with_reducible repeat (first | apply ra | apply rb | apply rc)); exact Kd.R_mono HO784.out (fun _ hk => ⟨hk.2.1, hk.2.2⟩)⟩, ⟨by (with_reducible repeat (first | refine ba ?_ _ | refine bb ?_ | refine bc ?_ _)); exact BK759.out⟩, ⟨by (with_reducible repeat (first | refine ba ?_ _ | refine bb ?_ | refine bc ?_ _)); exact BK760.out⟩, ⟨by (with_reducible repeat (first | refine ba ?_ _ | refine bb ?_ | refine bc ?_ _)); exact BK773.out⟩, ⟨by (with_reducible repeat (first | refine ba ?_ _ | refine bb ?_ | refine bc ?_ _)); exact BK778.out⟩, ⟨by (with_reducible repeat (first | refine ba ?_ _ | refine bb ?_ | refine bc ?_ _)); exact BK786.out⟩, ⟨by repeat (first | (with_reducible first | exact HB.out | apply below_alloc | apply pw_below_drewN | apply below_drew1 | refine below_set ?_ GE759.out | refine below_set ?_ GE760.out | refine below_set ?_ GE773.out | refine below_set ?_ GE778.out | refine below_set ?_ GE786.out) | exact HB.out)⟩⟩
  case rest =>
   clear HC16
   try clear c2
   try clear p2
   try clear c3
   try clear c4
   try clear c5
   try clear c6
   try clear c21
   try clear c36
   try clear c42
   try clear c51
   try clear c52
   try clear c53
   try clear c54
   try clear c55
   try clear c57
   try clear c58
   try clear c59
   try clear c62
   try clear c63
   try clear c64
   try clear c65
   try clear c67
   try clear c68
   try clear c69
   try clear hcz56_0
   try clear hcz56_1
   try clear hcz60_0
   try clear hcz60_1
   try clear hcz66_0
   try clear hcz66_1
   try clear hcz70_0
   try clear hcz70_1
   try clear hfz56_0
   try clear hfz56_1
   try clear hfz60_0
   try clear hfz60_1
   try clear hfz66_0
   try clear hfz66_1
   try clear hfz70_0
   try clear hfz70_1
   obtain ⟨kq, x46_15, rfl, HA, HJ15, HO_774001, HO_779001, HO_787001, BK759, BK760, BK773, BK778, BK786, HB⟩ := hcut
   cases kq with
   | zero => exact absurd HA.out (by simp [laws_FnExactPoolUse.j0])
   | succ kj15 =>
    have H := HA.out
    clear HA
    simp only [laws_FnExactPoolUse.j0] at H
    by_cases c72 : x46_15 = true
    ·subst c72
     have H1 : (some false) = some r := by rw [if_pos rfl] at H; exact H
     clear H
     have H := H1
     clear H1
     exact absurd ((Option.some.inj H).trans hT) (by simp)
    ·replace c72 := Bool.eq_false_iff.mpr c72
     subst c72
     have H1 : ((laws_toPool.f kj15 a0_0 l0_1).bind fun bt788 => ((laws_eqPool.f kj15 t774 t775 bt788.1 bt788.2).bind fun t792 => (if t792 = true then ((laws_markPool.f kj15 t774 t775 1).bind fun bt793 => (if bt793.1 < 0 then (laws_FnExactPoolUse.j1 kj15 t772 true a0_0 l0_1 a1_0 a1_1 t768 t769 t781 t782) else ((laws_eqPool.f kj15 t781 t782 t768 t769).bind fun t795 => (if t795 = true then (laws_FnExactPoolUse.j1 kj15 t772 (t785 != t772) a0_0 l0_1 a1_0 a1_1 t768 t769 t781 t782) else (laws_FnExactPoolUse.j1 kj15 t772 true a0_0 l0_1 a1_0 a1_1 t768 t769 t781 t782))))) else (some false)))) = some r := by rw [if_neg (show ¬ (false = true) by decide)] at H; exact H
     clear H
     have H := H1
     clear H1
     replace H := Option.bind_eq_some_iff.mp H
     obtain ⟨⟨t788, t789⟩, A730, H⟩ := H
     replace H : ((laws_eqPool.f kj15 t774 t775 t788 t789).bind fun t792 => (if t792 = true then ((laws_markPool.f kj15 t774 t775 1).bind fun bt793 => (if bt793.1 < 0 then (laws_FnExactPoolUse.j1 kj15 t772 true a0_0 l0_1 a1_0 a1_1 t768 t769 t781 t782) else ((laws_eqPool.f kj15 t781 t782 t768 t769).bind fun t795 => (if t795 = true then (laws_FnExactPoolUse.j1 kj15 t772 (t785 != t772) a0_0 l0_1 a1_0 a1_1 t768 t769 t781 t782) else (laws_FnExactPoolUse.j1 kj15 t772 true a0_0 l0_1 a1_0 a1_1 t768 t769 t781 t782))))) else (some false))) = some r := H
     have A73 := Aside0.mk A730
     clear A730
     replace H := Option.bind_eq_some_iff.mp H
     obtain ⟨t792, A740, H⟩ := H
     replace H : (if t792 = true then ((laws_markPool.f kj15 t774 t775 1).bind fun bt793 => (if bt793.1 < 0 then (laws_FnExactPoolUse.j1 kj15 t772 true a0_0 l0_1 a1_0 a1_1 t768 t769 t781 t782) else ((laws_eqPool.f kj15 t781 t782 t768 t769).bind fun t795 => (if t795 = true then (laws_FnExactPoolUse.j1 kj15 t772 (t785 != t772) a0_0 l0_1 a1_0 a1_1 t768 t769 t781 t782) else (laws_FnExactPoolUse.j1 kj15 t772 true a0_0 l0_1 a1_0 a1_1 t768 t769 t781 t782))))) else (some false)) = some r := H
     have A74 := Aside0.mk A740
     clear A740
     by_cases c75 : t792 = true
     ·subst c75
      have H1 : ((laws_markPool.f kj15 t774 t775 1).bind fun bt793 => (if bt793.1 < 0 then (laws_FnExactPoolUse.j1 kj15 t772 true a0_0 l0_1 a1_0 a1_1 t768 t769 t781 t782) else ((laws_eqPool.f kj15 t781 t782 t768 t769).bind fun t795 => (if t795 = true then (laws_FnExactPoolUse.j1 kj15 t772 (t785 != t772) a0_0 l0_1 a1_0 a1_1 t768 t769 t781 t782) else (laws_FnExactPoolUse.j1 kj15 t772 true a0_0 l0_1 a1_0 a1_1 t768 t769 t781 t782))))) = some r := by rw [if_pos rfl] at H; exact H
      clear H
      have H := H1
      clear H1
      replace H := Option.bind_eq_some_iff.mp H
      obtain ⟨⟨t793, t794⟩, A760, H⟩ := H
      replace H : (if t793 < 0 then (laws_FnExactPoolUse.j1 kj15 t772 true a0_0 l0_1 a1_0 a1_1 t768 t769 t781 t782) else ((laws_eqPool.f kj15 t781 t782 t768 t769).bind fun t795 => (if t795 = true then (laws_FnExactPoolUse.j1 kj15 t772 (t785 != t772) a0_0 l0_1 a1_0 a1_1 t768 t769 t781 t782) else (laws_FnExactPoolUse.j1 kj15 t772 true a0_0 l0_1 a1_0 a1_1 t768 t769 t781 t782)))) = some r := H
      have A76 := Aside0.mk A760
      clear A760
      have HC77 := Aside0.mk H
      clear H
      try go_wp2
      have n0_ := Aside0.mk (Kd.R_drew HO_774001.out)
      have n1_ := Aside0.mk (Kd.R_drew HO_779001.out)
      have n2_ := Aside0.mk (Kd.R_drew HO_787001.out)
      have n3_ := Aside0.mk (blk_drew BK759.out)
      have n4_ := Aside0.mk (blk_drew BK760.out)
      have n5_ := Aside0.mk (blk_drew BK773.out)
      have n6_ := Aside0.mk (blk_drew BK778.out)
      have n7_ := Aside0.mk (blk_drew BK786.out)
      have n8_ := Aside0.mk (below_drew1 HB.out)
      clear HO_774001
      clear HO_779001
      clear HO_787001
      clear BK759
      clear BK760
      clear BK773
      clear BK778
      clear BK786
      clear HB
      have HO_774001 := n0_
      have HO_779001 := n1_
      have HO_787001 := n2_
      have BK759 := n3_
      have BK760 := n4_
      have BK773 := n5_
      have BK778 := n6_
      have BK786 := n7_
      have HB := n8_
      clear n0_ n1_ n2_ n3_ n4_ n5_ n6_ n7_ n8_
      refine start_ (n := 5) (S := fun w' => w'.cell? ⟨gb778, 0, none⟩ = some (.int .i64 t774) ∧ w'.cell? ⟨gb778, 1, none⟩ = some (.slice Ao40 t775.length co40) ∧ w'.cell? ⟨gb759, 0, none⟩ = some (.int .i64 a0_0) ∧ w'.cell? ⟨gb759, 1, none⟩ = some (.slice A0_1 l0_1.length c0_1)) (ds := []) #[ff,ff,ff,ff,ff] (by kernel_rfl) rfl rfl ⟨(blk_cell BK778.out 0).trans rfl, (blk_cell BK778.out 1).trans rfl, (blk_cell BK759.out 0).trans rfl, (blk_cell BK759.out 1).trans rfl⟩ (fun hHeld => ?_)
      generalize wc.drew = w78 at HO_774001 HO_779001 HO_787001 BK759 BK760 BK773 BK778 BK786 HB hHeld ⊢
      refine take_ (i := 0) (N := some 47) (v := ?_) (a' := ?_) #[tt,ff,ff,ff,ff] rfl rfl (by kernel_rfl) (fun _ _ _ h => h) (Or.inl ⟨by rfl, ?_⟩) hHeld ?_ ?_
      rotate_left
      ·rintro w' ⟨s0, s1, s2, s3⟩
       go_simp
       with_reducible rfl
      rotate_left
      ·simp only [Act.put, List.setIfInBounds_toArray, List.set_cons_zero, List.set_cons_succ, i64_w, i32_w]
       rfl
      refine take_ (i := 1) (N := some 48) (v := ?_) (a' := ?_) #[tt,tt,ff,ff,ff] rfl rfl (by kernel_rfl) (fun _ _ _ h => h) (Or.inl ⟨by rfl, ?_⟩) hHeld ?_ ?_
      rotate_left
      ·rintro w' ⟨s0, s1, s2, s3⟩
       go_simp
       with_reducible rfl
      rotate_left
      ·simp only [Act.put, List.setIfInBounds_toArray, List.set_cons_zero, List.set_cons_succ, i64_w, i32_w]
       rfl
      refine one_ (i := 2) (N := some 49) #[tt,tt,tt,ff,ff] rfl rfl (by kernel_rfl) (by decide) (fun K hK => ?_)
      refine goes_ Try.func34 (by kernel_rfl) rfl #[.agg #[.int .i64 a0_0, .slice A0_1 l0_1.length c0_1]] (by rfl) rfl rfl (z26_6) ?_
      with_reducible refine (laws_toPool.calls kj15 a0_0 _ _ l0_1 t788 t789 _ ?side1 ?side2 A73.out).mono ?_
      (case side1 => repeat (first | exact (Kd.C_below HR0_1.out HB.out) | (with_reducible refine Kd.C_alloc ?_ _) | (with_reducible refine Kd.C_drewN ?_ _) | (with_reducible refine Kd.C_drew ?_)))
      (case side2 => exact HC0_1.out)
      rintro e w79 ⟨v790, rfl, ho0, hb⟩
      refine ⟨_, rfl, ?_⟩
      have n0_ := Aside0.mk (Kd.R_elder' (by (with_reducible repeat (first | apply ra | apply rb | apply rc)); exact HO_774001.out) (Kd.R_base ho0) hb)
      have n1_ := Aside0.mk (Kd.R_elder' (by (with_reducible repeat (first | apply ra | apply rb | apply rc)); exact HO_779001.out) (Kd.R_base ho0) hb)
      have n2_ := Aside0.mk (Kd.R_elder' (by (with_reducible repeat (first | apply ra | apply rb | apply rc)); exact HO_787001.out) (Kd.R_base ho0) hb)
      have n3_ := Aside0.mk (Kd.R_lower (Kd.R_new' (Kd.R_new' (Kd.R_new' ho0 (Kd.R_lt (by (with_reducible repeat (first | apply ra | apply rb | apply rc)); exact HO_774001.out))) (Kd.R_lt (by (with_reducible repeat (first | apply ra | apply rb | apply rc)); exact HO_779001.out))) (Kd.R_lt (by (with_reducible repeat (first | apply ra | apply rb | apply rc)); exact HO_787001.out))) (below_size (z26_1)))
      have n4_ := Aside0.mk (blk_below (g := gb759) (o := .cells #[.int .i64 a0_0, .slice A0_1 l0_1.length c0_1] 42 (0, 0)) (z26_8) hb)
      have n5_ := Aside0.mk (blk_below (g := gb760) (o := .cells #[.int .i64 a1_0, .int .i64 a1_1] 23 (0, 0)) (z26_9) hb)
      have n6_ := Aside0.mk (blk_below (g := gb773) (o := .cells #[.int .i64 t768, .slice Ao30 t769.length co30] 46 (0, 0)) (z26_10) hb)
      have n7_ := Aside0.mk (blk_below (g := gb778) (o := .cells #[.int .i64 t774, .slice Ao40 t775.length co40] 46 (0, 0)) (z26_11) hb)
      have n8_ := Aside0.mk (blk_below (g := gb786) (o := .cells #[.int .i64 t781, .slice Ao48 t782.length co48] 46 (0, 0)) (z26_12) hb)
      have n9_ := Aside0.mk (below_step (z26_1) hb)
      clear HO_774001
      clear HO_779001
      clear HO_787001
      clear BK759
      clear BK760
      clear BK773
      clear BK778
      clear BK786
      clear HB
      have HO_774001 := n0_
      have HO_779001 := n1_
      have HO_787001 := n2_
      have HO791 := n3_
      have BK759 := n4_
      have BK760 := n5_
      have BK773 := n6_
      have BK778 := n7_
      have BK786 := n8_
      have HB := n9_
      clear n0_ n1_ n2_ n3_ n4_ n5_ n6_ n7_ n8_ n9_
      (try clear hb)
      (try clear hb2)
      (try clear hk)
      (try clear hi)
      (try clear ho0)
      obtain ⟨Ao80, co80, eo80⟩ := Kd.R_slice HO791.out
      (first | subst eo80 | (injection eo80 with f1_ f2_ f3_; have f4_ := f1_.symm; have f5_ := f3_.symm; clear f1_ f2_ f3_; subst f4_; subst f5_))
      refine hK.out _ _ ⟨(blk_cell BK778.out 0).trans rfl, (blk_cell BK778.out 1).trans rfl, (blk_cell BK759.out 0).trans rfl, (blk_cell BK759.out 1).trans rfl⟩ (fun hHeld => ?_)
      clear hK K
      refine norm_ (a' := ?_) ?_ ?_
      rotate_left
      ·show Act.put _ (some 49) _ = _
       simp only [Act.put, List.setIfInBounds_toArray, List.set_cons_zero, List.set_cons_succ, i64_w, i32_w]
       rfl
      refine one_ (i := 3) (N := some 50) #[tt,tt,tt,tt,ff] rfl rfl (by kernel_rfl) (by decide) (fun K hK => ?_)
      refine goes_ Try.func36 (by kernel_rfl) rfl #[.agg #[.int .i64 t774, .slice Ao40 t775.length co40], .agg #[.int .i64 t788, .slice Ao80 t789.length co80]] (by rfl) rfl rfl (z26_6) ?_
      with_reducible refine (laws_eqPool.calls kj15 t774 _ _ t775 t788 _ _ t789 true _ ?side1 ?side2 ?side3 ?side4 A74.out).mono ?_
      (case side1 => repeat (first | exact (Kd.R_reads' HO_779001.out).2.2 | (with_reducible refine Kd.C_alloc ?_ _) | (with_reducible refine Kd.C_drewN ?_ _) | (with_reducible refine Kd.C_drew ?_)))
      (case side2 => exact (Kd.R_reads' HO_779001.out).2.1)
      (case side3 => repeat (first | exact (Kd.R_reads' HO791.out).2.2 | (with_reducible refine Kd.C_alloc ?_ _) | (with_reducible refine Kd.C_drewN ?_ _) | (with_reducible refine Kd.C_drew ?_)))
      (case side4 => exact (Kd.R_reads' HO791.out).2.1)
      rintro e w81 ⟨rfl, hb⟩
      refine ⟨_, rfl, ?_⟩
      have n0_ := Aside0.mk (Kd.R_below (by (with_reducible repeat (first | apply ra | apply rb | apply rc)); exact HO_774001.out) hb)
      have n1_ := Aside0.mk (Kd.R_below (by (with_reducible repeat (first | apply ra | apply rb | apply rc)); exact HO_779001.out) hb)
      have n2_ := Aside0.mk (Kd.R_below (by (with_reducible repeat (first | apply ra | apply rb | apply rc)); exact HO_787001.out) hb)
      have n3_ := Aside0.mk (Kd.R_below (by (with_reducible repeat (first | apply ra | apply rb | apply rc)); exact HO791.out) hb)
      have n4_ := Aside0.mk (blk_below (g := gb759) (o := .cells #[.int .i64 a0_0, .slice A0_1 l0_1.length c0_1] 42 (0, 0)) (z26_8) hb)
      have n5_ := Aside0.mk (blk_below (g := gb760) (o := .cells #[.int .i64 a1_0, .int .i64 a1_1] 23 (0, 0)) (z26_9) hb)
      have n6_ := Aside0.mk (blk_below (g := gb773) (o := .cells #[.int .i64 t768, .slice Ao30 t769.length co30] 46 (0, 0)) (z26_10) hb)
      have n7_ := Aside0.mk (blk_below (g := gb778) (o := .cells #[.int .i64 t774, .slice Ao40 t775.length co40] 46 (0, 0)) (z26_11) hb)
      have n8_ := Aside0.mk (blk_below (g := gb786) (o := .cells #[.int .i64 t781, .slice Ao48 t782.length co48] 46 (0, 0)) (z26_12) hb)
      have n9_ := Aside0.mk (below_step (z26_1) hb)
      clear HO_774001
      clear HO_779001
      clear HO_787001
      clear HO791
      clear BK759
      clear BK760
      clear BK773
      clear BK778
      clear BK786
      clear HB
      have HO_774001 := n0_
      have HO_779001 := n1_
      have HO_787001 := n2_
      have HO791 := n3_
      have BK759 := n4_
      have BK760 := n5_
      have BK773 := n6_
      have BK778 := n7_
      have BK786 := n8_
      have HB := n9_
      clear n0_ n1_ n2_ n3_ n4_ n5_ n6_ n7_ n8_ n9_
      (try clear hb)
      (try clear hb2)
      (try clear hk)
      (try clear hi)
      refine hK.out _ _ ⟨(blk_cell BK778.out 0).trans rfl, (blk_cell BK778.out 1).trans rfl, (blk_cell BK759.out 0).trans rfl, (blk_cell BK759.out 1).trans rfl⟩ (fun hHeld => ?_)
      clear hK K
      refine norm_ (a' := ?_) ?_ ?_
      rotate_left
      ·show Act.put _ (some 50) _ = _
       simp only [Act.put, List.setIfInBounds_toArray, List.set_cons_zero, List.set_cons_succ, i64_w, i32_w]
       rfl
      refine pure_ (i := 4) (N := some 51) (v := ?_) (a' := ?_) #[tt,tt,tt,tt,tt] rfl rfl (by kernel_rfl) (fun _ _ _ h => h) (Or.inl ⟨by rfl, ?_⟩) ?_ ?_
      rotate_left
      ·intro w'
       go_simp
       with_reducible rfl
      rotate_left
      ·simp only [Act.put, List.setIfInBounds_toArray, List.set_cons_zero, List.set_cons_succ, i64_w, i32_w]
       rfl
      refine done_ (by kernel_rfl) ?_
      have hnb82 := NB778_759.out
      have hnc82 := NB759_778.out
      have hnb83 := NB778_760.out
      have hnc83 := NB760_778.out
      have hnb84 := NB778_773.out
      have hnc84 := NB773_778.out
      have hnb85 := NB778_786.out
      have hnc85 := NB786_778.out
      have hcz86_0 : w81.cell? ⟨gb778, 0, none⟩ = some (.int .i64 t774) := (blk_cell BK778.out 0).trans rfl
      have hcz86_1 : w81.cell? ⟨gb778, 1, none⟩ = some (.slice Ao40 t775.length co40) := (blk_cell BK778.out 1).trans rfl
      have hfz86_0 := blk_frozen BK778.out 0
      have hfz86_1 := blk_frozen BK778.out 1
      go_upto_region 14 with (first | ((with_reducible refine gate_callee (f := 47) rfl ?_); refine goesL_ (some 54) rfl rfl Try.func47 (by kernel_rfl) rfl #[.agg #[.int .i64 t774, .slice Ao40 t775.length co40], .int .i64 1] rfl (z26_6) ?_; (with_reducible refine (laws_markPool.calls kj15 t774 (fun k_ => some k_ = (.slice Ao40 t775.length co40 : Value).ownBlock) (.slice Ao40 t775.length co40) t775 1 t793 t794 w _ ?side1 ?side2 A76.out).mono ?_); (case side1 => repeat (first | (with_reducible first | exact HB.out | apply below_alloc | apply pw_below_drewN | apply below_drew1 | refine below_set ?_ GE759.out | refine below_set ?_ GE760.out | refine below_set ?_ GE773.out | refine below_set ?_ GE778.out | refine below_set ?_ GE786.out) | exact HB.out)); (case side2 => exact Kd.R_tight rfl HO_779001.out); rintro e w87 ⟨rfl, hy0, hb, hkp⟩; refine ⟨_, rfl, ?_⟩; have n0_ := Aside0.mk (Kd.R_mono (ok' := fun k_ => some k_ ≠ (.slice Ao40 t775.length co40 : Value).ownBlock ∧ some k_ ≠ (.slice Ao48 t782.length co48 : Value).ownBlock ∧ some k_ ≠ (.slice Ao80 t789.length co80 : Value).ownBlock) (Kd.R_keptB (HO_774001.out) hkp (fun k_ hk_ hs_ => (hk_.1.1) hs_)) (fun k_ hk_ => ⟨hk_.1.1.1, hk_.1.1.2, hk_.1.2⟩)); have n1_ := Aside0.mk (Kd.R_reok rfl hy0 (fun k_ e_ => HO_779001.out.1 k_ e_)); have n2_ := Aside0.mk (Kd.R_mono (ok' := fun k_ => some k_ ≠ (.slice Ao30 t769.length co30 : Value).ownBlock ∧ some k_ ≠ (.slice Ao40 t775.length co40 : Value).ownBlock ∧ some k_ ≠ (.slice Ao80 t789.length co80 : Value).ownBlock) (Kd.R_keptB (HO_787001.out) hkp (fun k_ hk_ hs_ => (hk_.1.2) hs_)) (fun k_ hk_ => ⟨hk_.1.1.1, hk_.1.1.2, hk_.1.2⟩)); have n3_ := Aside0.mk (blk_kept (z26_8) hkp (fun hs_ => (fun e_ => (Kd.R_ne HO_779001.out BK759.out (by decide)) e_) hs_)); have n4_ := Aside0.mk (blk_kept (z26_9) hkp (fun hs_ => (fun e_ => (Kd.R_ne HO_779001.out BK760.out (by decide)) e_) hs_)); have n5_ := Aside0.mk (blk_kept (z26_10) hkp (fun hs_ => (fun e_ => (Kd.R_ne HO_779001.out BK773.out (by decide)) e_) hs_)); have n6_ := Aside0.mk (blk_kept (z26_11) hkp (fun hs_ => (fun e_ => (Kd.R_ne HO_779001.out BK778.out (by decide)) e_) hs_)); have n7_ := Aside0.mk (blk_kept (z26_12) hkp (fun hs_ => (fun e_ => (Kd.R_ne HO_779001.out BK786.out (by decide)) e_) hs_)); have n8_ := Aside0.mk (Kd.R_mono (ok' := fun k_ => some k_ ≠ (.slice Ao30 t769.length co30 : Value).ownBlock ∧ some k_ ≠ (.slice Ao40 t775.length co40 : Value).ownBlock ∧ some k_ ≠ (.slice Ao48 t782.length co48 : Value).ownBlock) (Kd.R_keptB (HO791.out) hkp (fun k_ hk_ hs_ => (hk_.1.2) hs_)) (fun k_ hk_ => ⟨hk_.1.1.1.2, hk_.1.1.2, hk_.1.2⟩)); have n9_ := Aside0.mk (hb); clear HO_774001; clear HO_779001; clear HO_787001; clear BK759; clear BK760; clear BK773; clear BK778; clear BK786; clear HO791; clear HB; have HO_774001 := n0_; have HO_779001 := n1_; have HO_787001 := n2_; have BK759 := n3_; have BK760 := n4_; have BK773 := n5_; have BK778 := n6_; have BK786 := n7_; have HO791 := n8_; have HB := n9_; clear n0_ n1_ n2_ n3_ n4_ n5_ n6_ n7_ n8_ n9_; (try clear hb); (try clear hkp); (try clear hy0)))
      (try simp only [Act.put, List.setIfInBounds_toArray, List.set_cons_zero, List.set_cons_succ])
      go_cut [67] (fun v67 wc => ∃ (kq : Nat) (x67_76 : Bool), v67 = .bool x67_76 ∧ Aside0 (laws_FnExactPoolUse.j1 kq t772 x67_76 a0_0 l0_1 a1_0 a1_1 t768 t769 t781 t782 = some r) ∧ Aside0 (kq ≤ kj15) ∧ Aside0 (Kd.R k25 25 wc w.heap.size (fun k_ => some k_ ≠ ((.slice Ao40 t775.length co40) : Value).ownBlock ∧ some k_ ≠ ((.slice Ao48 t782.length co48) : Value).ownBlock) (.slice Ao30 t769.length co30) t769) ∧ Aside0 (Kd.R k25 25 wc w.heap.size (fun k_ => some k_ ≠ ((.slice Ao30 t769.length co30) : Value).ownBlock ∧ some k_ ≠ ((.slice Ao48 t782.length co48) : Value).ownBlock) (.slice Ao40 t775.length co40) t794) ∧ Aside0 (Kd.R k25 25 wc w.heap.size (fun k_ => some k_ ≠ ((.slice Ao30 t769.length co30) : Value).ownBlock ∧ some k_ ≠ ((.slice Ao40 t775.length co40) : Value).ownBlock) (.slice Ao48 t782.length co48) t782) ∧ Aside0 (wc.heap[gb759]? = some (.cells #[.int .i64 a0_0, (.slice A0_1 l0_1.length c0_1)] 42 (0, 0))) ∧ Aside0 (wc.heap[gb760]? = some (.cells #[.int .i64 a1_0, .int .i64 a1_1] 23 (0, 0))) ∧ Aside0 (wc.heap[gb773]? = some (.cells #[.int .i64 t768, (.slice Ao30 t769.length co30)] 46 (0, 0))) ∧ Aside0 (wc.heap[gb778]? = some (.cells #[.int .i64 t774, (.slice Ao40 t775.length co40)] 46 (0, 0))) ∧ Aside0 (wc.heap[gb786]? = some (.cells #[.int .i64 t781, (.slice Ao48 t782.length co48)] 46 (0, 0))) ∧ Aside0 (Below w.heap.size w wc))
      case first =>
       have H := HC77.out
       clear HC77
       by_cases c88 : t793 < 0
       ·rw [if_pos c88] at H
        have c88b0 : decide (t793 < 0) = true := decide_eq_true c88
        clear c88
        (first | rw [c88b0] | (simp only [i64_w, i32_w]; rw [c88b0]) | skip)
        have H' := Aside0.mk H
        clear H
        go_wp2
        go_meet
        case rel => exact ⟨_, (true), (z26_15), H', ⟨by have := HJ15.out; first | omega | exact Nat.le_refl _⟩, ⟨by (with_reducible repeat (first | apply ra | apply rb | apply rc)); exact Kd.R_mono HO_774001.out (fun _ hk => ⟨hk.1, hk.2.1⟩)⟩, ⟨by (with_reducible repeat (first | apply ra | apply rb | apply rc)); exact Kd.R_mono HO_779001.out (fun _ hk => ⟨hk.1.1, hk.1.2⟩)⟩, ⟨by (with_reducible repeat (first | apply ra | apply rb | apply rc)); exact Kd.R_mono HO_787001.out (fun _ hk => ⟨hk.1, hk.2.1⟩)⟩, ⟨by (with_reducible repeat (first | refine ba ?_ _ | refine bb ?_ | refine bc ?_ _)); exact BK759.out⟩, ⟨by (with_reducible repeat (first | refine ba ?_ _ | refine bb ?_ | refine bc ?_ _)); exact BK760.out⟩, ⟨by (with_reducible repeat (first | refine ba ?_ _ | refine bb ?_ | refine bc ?_ _)); exact BK773.out⟩, ⟨by (with_reducible repeat (first | refine ba ?_ _ | refine bb ?_ | refine bc ?_ _)); exact BK778.out⟩, ⟨by (with_reducible repeat (first | refine ba ?_ _ | refine bb ?_ | refine bc ?_ _)); exact BK786.out⟩, ⟨by repeat (first | (with_reducible first | exact HB.out | apply below_alloc | apply pw_below_drewN | apply below_drew1 | refine below_set ?_ GE759.out | refine below_set ?_ GE760.out | refine below_set ?_ GE773.out | refine below_set ?_ GE778.out | refine below_set ?_ GE786.out) | exact HB.out)⟩⟩
       ·rw [if_neg c88] at H
        have c88b0 : decide (t793 < 0) = false := decide_eq_false c88
        clear c88
        (first | rw [c88b0] | (simp only [i64_w, i32_w]; rw [c88b0]) | skip)
        replace H := Option.bind_eq_some_iff.mp H
        obtain ⟨t795, A890, H⟩ := H
        replace H : (if t795 = true then (laws_FnExactPoolUse.j1 kj15 t772 (t785 != t772) a0_0 l0_1 a1_0 a1_1 t768 t769 t781 t782) else (laws_FnExactPoolUse.j1 kj15 t772 true a0_0 l0_1 a1_0 a1_1 t768 t769 t781 t782)) = some r := H
        have A89 := Aside0.mk A890
        clear A890
        by_cases c90 : t795 = true
        ·subst c90
         have H1 : (laws_FnExactPoolUse.j1 kj15 t772 (t785 != t772) a0_0 l0_1 a1_0 a1_1 t768 t769 t781 t782) = some r := by rw [if_pos rfl] at H; exact H
         clear H
         have H := H1
         clear H1
         have H' := Aside0.mk H
         clear H
         have hnb91 := NB786_759.out
         have hnc91 := NB759_786.out
         have hnb92 := NB786_760.out
         have hnc92 := NB760_786.out
         have hnb93 := NB786_773.out
         have hnc93 := NB773_786.out
         have hnb94 := NB786_778.out
         have hnc94 := NB778_786.out
         have hcz95_0 : w87.cell? ⟨gb786, 0, none⟩ = some (.int .i64 t781) := (blk_cell BK786.out 0).trans rfl
         have hcz95_1 : w87.cell? ⟨gb786, 1, none⟩ = some (.slice Ao48 t782.length co48) := (blk_cell BK786.out 1).trans rfl
         have hfz95_0 := blk_frozen BK786.out 0
         have hfz95_1 := blk_frozen BK786.out 1
         have hnb96 := NB773_759.out
         have hnc96 := NB759_773.out
         have hnb97 := NB773_760.out
         have hnc97 := NB760_773.out
         have hnb98 := NB773_778.out
         have hnc98 := NB778_773.out
         have hcz99_0 : w87.cell? ⟨gb773, 0, none⟩ = some (.int .i64 t768) := (blk_cell BK773.out 0).trans rfl
         have hcz99_1 : w87.cell? ⟨gb773, 1, none⟩ = some (.slice Ao30 t769.length co30) := (blk_cell BK773.out 1).trans rfl
         have hfz99_0 := blk_frozen BK773.out 0
         have hfz99_1 := blk_frozen BK773.out 1
         go_wp2_with (first | (go_at_call 36; (with_reducible refine (laws_eqPool.calls kj15 t781 _ _ t782 t768 _ _ t769 true _ ?side1 ?side2 ?side3 ?side4 A89.out).mono ?_); (case side1 => repeat (first | exact (Kd.R_reads' HO_787001.out).2.2 | (with_reducible refine Kd.C_alloc ?_ _) | (with_reducible refine Kd.C_drewN ?_ _) | (with_reducible refine Kd.C_drew ?_))); (case side2 => exact (Kd.R_reads' HO_787001.out).2.1); (case side3 => repeat (first | exact (Kd.R_reads' HO_774001.out).2.2 | (with_reducible refine Kd.C_alloc ?_ _) | (with_reducible refine Kd.C_drewN ?_ _) | (with_reducible refine Kd.C_drew ?_))); (case side4 => exact (Kd.R_reads' HO_774001.out).2.1); rintro e w100 ⟨rfl, hb⟩; have n0_ := Aside0.mk (Kd.R_below (by (with_reducible repeat (first | apply ra | apply rb | apply rc)); exact HO_774001.out) hb); have n1_ := Aside0.mk (Kd.R_below (by (with_reducible repeat (first | apply ra | apply rb | apply rc)); exact HO_779001.out) hb); have n2_ := Aside0.mk (Kd.R_below (by (with_reducible repeat (first | apply ra | apply rb | apply rc)); exact HO_787001.out) hb); have n3_ := Aside0.mk (Kd.R_below (by (with_reducible repeat (first | apply ra | apply rb | apply rc)); exact HO791.out) hb); have n4_ := Aside0.mk (blk_below (g := gb759) (o := .cells #[.int .i64 a0_0, .slice A0_1 l0_1.length c0_1] 42 (0, 0)) (z26_8) hb); have n5_ := Aside0.mk (blk_below (g := gb760) (o := .cells #[.int .i64 a1_0, .int .i64 a1_1] 23 (0, 0)) (z26_9) hb); have n6_ := Aside0.mk (blk_below (g := gb773) (o := .cells #[.int .i64 t768, .slice Ao30 t769.length co30] 46 (0, 0)) (z26_10) hb); have n7_ := Aside0.mk (blk_below (g := gb778) (o := .cells #[.int .i64 t774, .slice Ao40 t775.length co40] 46 (0, 0)) (z26_11) hb); have n8_ := Aside0.mk (blk_below (g := gb786) (o := .cells #[.int .i64 t781, .slice Ao48 t782.length co48] 46 (0, 0)) (z26_12) hb); have n9_ := Aside0.mk (below_step (z26_1) hb); clear HO_774001; clear HO_779001; clear HO_787001; clear HO791; clear BK759; clear BK760; clear BK773; clear BK778; clear BK786; clear HB; have HO_774001 := n0_; have HO_779001 := n1_; have HO_787001 := n2_; have HO791 := n3_; have BK759 := n4_; have BK760 := n5_; have BK773 := n6_; have BK778 := n7_; have BK786 := n8_; have HB := n9_; clear n0_ n1_ n2_ n3_ n4_ n5_ n6_ n7_ n8_ n9_; (try clear hb); (try clear hb2); (try clear hk); (try clear hi)))
         go_meet
         case rel => exact ⟨_, ((t785 != t772)), (z26_15), H', ⟨by have := HJ15.out; first | omega | exact Nat.le_refl _⟩, ⟨by (with_reducible repeat (first | apply ra | apply rb | apply rc)); exact Kd.R_mono HO_774001.out (fun _ hk => ⟨hk.1, hk.2.1⟩)⟩, ⟨by (with_reducible repeat (first | apply ra | apply rb | apply rc)); exact Kd.R_mono HO_779001.out (fun _ hk => ⟨hk.1.1, hk.1.2⟩)⟩, ⟨by (with_reducible repeat (first | apply ra | apply rb | apply rc)); exact Kd.R_mono HO_787001.out (fun _ hk => ⟨hk.1, hk.2.1⟩)⟩, ⟨by (with_reducible repeat (first | refine ba ?_ _ | refine bb ?_ | refine bc ?_ _)); exact BK759.out⟩, ⟨by (with_reducible repeat (first | refine ba ?_ _ | refine bb ?_ | refine bc ?_ _)); exact BK760.out⟩, ⟨by (with_reducible repeat (first | refine ba ?_ _ | refine bb ?_ | refine bc ?_ _)); exact BK773.out⟩, ⟨by (with_reducible repeat (first | refine ba ?_ _ | refine bb ?_ | refine bc ?_ _)); exact BK778.out⟩, ⟨by (with_reducible repeat (first | refine ba ?_ _ | refine bb ?_ | refine bc ?_ _)); exact BK786.out⟩, ⟨by repeat (first | (with_reducible first | exact HB.out | apply below_alloc | apply pw_below_drewN | apply below_drew1 | refine below_set ?_ GE759.out | refine below_set ?_ GE760.out | refine below_set ?_ GE773.out | refine below_set ?_ GE778.out | refine below_set ?_ GE786.out) | exact HB.out)⟩⟩
        ·replace c90 := Bool.eq_false_iff.mpr c90
         subst c90
         have H1 : (laws_FnExactPoolUse.j1 kj15 t772 true a0_0 l0_1 a1_0 a1_1 t768 t769 t781 t782) = some r := by rw [if_neg (show ¬ (false = true) by decide)] at H; exact H
         clear H
         have H := H1
         clear H1
         have H' := Aside0.mk H
         clear H
         have hnb101 := NB786_759.out
         have hnc101 := NB759_786.out
         have hnb102 := NB786_760.out
         have hnc102 := NB760_786.out
         have hnb103 := NB786_773.out
         have hnc103 := NB773_786.out
         have hnb104 := NB786_778.out
         have hnc104 := NB778_786.out
         have hcz105_0 : w87.cell? ⟨gb786, 0, none⟩ = some (.int .i64 t781) := (blk_cell BK786.out 0).trans rfl
         have hcz105_1 : w87.cell? ⟨gb786, 1, none⟩ = some (.slice Ao48 t782.length co48) := (blk_cell BK786.out 1).trans rfl
         have hfz105_0 := blk_frozen BK786.out 0
         have hfz105_1 := blk_frozen BK786.out 1
         have hnb106 := NB773_759.out
         have hnc106 := NB759_773.out
         have hnb107 := NB773_760.out
         have hnc107 := NB760_773.out
         have hnb108 := NB773_778.out
         have hnc108 := NB778_773.out
         have hcz109_0 : w87.cell? ⟨gb773, 0, none⟩ = some (.int .i64 t768) := (blk_cell BK773.out 0).trans rfl
         have hcz109_1 : w87.cell? ⟨gb773, 1, none⟩ = some (.slice Ao30 t769.length co30) := (blk_cell BK773.out 1).trans rfl
         have hfz109_0 := blk_frozen BK773.out 0
         have hfz109_1 := blk_frozen BK773.out 1
         go_wp2_with (first | (go_at_call 36; (with_reducible refine (laws_eqPool.calls kj15 t781 _ _ t782 t768 _ _ t769 false _ ?side1 ?side2 ?side3 ?side4 A89.out).mono ?_); (case side1 => repeat (first | exact (Kd.R_reads' HO_787001.out).2.2 | (with_reducible refine Kd.C_alloc ?_ _) | (with_reducible refine Kd.C_drewN ?_ _) | (with_reducible refine Kd.C_drew ?_))); (case side2 => exact (Kd.R_reads' HO_787001.out).2.1); (case side3 => repeat (first | exact (Kd.R_reads' HO_774001.out).2.2 | (with_reducible refine Kd.C_alloc ?_ _) | (with_reducible refine Kd.C_drewN ?_ _) | (with_reducible refine Kd.C_drew ?_))); (case side4 => exact (Kd.R_reads' HO_774001.out).2.1); rintro e w110 ⟨rfl, hb⟩; have n0_ := Aside0.mk (Kd.R_below (by (with_reducible repeat (first | apply ra | apply rb | apply rc)); exact HO_774001.out) hb); have n1_ := Aside0.mk (Kd.R_below (by (with_reducible repeat (first | apply ra | apply rb | apply rc)); exact HO_779001.out) hb); have n2_ := Aside0.mk (Kd.R_below (by (with_reducible repeat (first | apply ra | apply rb | apply rc)); exact HO_787001.out) hb); have n3_ := Aside0.mk (Kd.R_below (by (with_reducible repeat (first | apply ra | apply rb | apply rc)); exact HO791.out) hb); have n4_ := Aside0.mk (blk_below (g := gb759) (o := .cells #[.int .i64 a0_0, .slice A0_1 l0_1.length c0_1] 42 (0, 0)) (z26_8) hb); have n5_ := Aside0.mk (blk_below (g := gb760) (o := .cells #[.int .i64 a1_0, .int .i64 a1_1] 23 (0, 0)) (z26_9) hb); have n6_ := Aside0.mk (blk_below (g := gb773) (o := .cells #[.int .i64 t768, .slice Ao30 t769.length co30] 46 (0, 0)) (z26_10) hb); have n7_ := Aside0.mk (blk_below (g := gb778) (o := .cells #[.int .i64 t774, .slice Ao40 t775.length co40] 46 (0, 0)) (z26_11) hb); have n8_ := Aside0.mk (blk_below (g := gb786) (o := .cells #[.int .i64 t781, .slice Ao48 t782.length co48] 46 (0, 0)) (z26_12) hb); have n9_ := Aside0.mk (below_step (z26_1) hb); clear HO_774001; clear HO_779001; clear HO_787001; clear HO791; clear BK759; clear BK760; clear BK773; clear BK778; clear BK786; clear HB; have HO_774001 := n0_; have HO_779001 := n1_; have HO_787001 := n2_; have HO791 := n3_; have BK759 := n4_; have BK760 := n5_; have BK773 := n6_; have BK778 := n7_; have BK786 := n8_; have HB := n9_; clear n0_ n1_ n2_ n3_ n4_ n5_ n6_ n7_ n8_ n9_; (try clear hb); (try clear hb2); (try clear hk); (try clear hi)))
         go_meet
         case rel => exact ⟨_, (true), (z26_15), H', ⟨by have := HJ15.out; first | omega | exact Nat.le_refl _⟩, ⟨by (with_reducible repeat (first | apply ra | apply rb | apply rc)); exact Kd.R_mono HO_774001.out (fun _ hk => ⟨hk.1, hk.2.1⟩)⟩, ⟨by (with_reducible repeat (first | apply ra | apply rb | apply rc)); exact Kd.R_mono HO_779001.out (fun _ hk => ⟨hk.1.1, hk.1.2⟩)⟩, ⟨by (with_reducible repeat (first | apply ra | apply rb | apply rc)); exact Kd.R_mono HO_787001.out (fun _ hk => ⟨hk.1, hk.2.1⟩)⟩, ⟨by (with_reducible repeat (first | refine ba ?_ _ | refine bb ?_ | refine bc ?_ _)); exact BK759.out⟩, ⟨by (with_reducible repeat (first | refine ba ?_ _ | refine bb ?_ | refine bc ?_ _)); exact BK760.out⟩, ⟨by (with_reducible repeat (first | refine ba ?_ _ | refine bb ?_ | refine bc ?_ _)); exact BK773.out⟩, ⟨by (with_reducible repeat (first | refine ba ?_ _ | refine bb ?_ | refine bc ?_ _)); exact BK778.out⟩, ⟨by (with_reducible repeat (first | refine ba ?_ _ | refine bb ?_ | refine bc ?_ _)); exact BK786.out⟩, ⟨by repeat (first | (with_reducible first | exact HB.out | apply below_alloc | apply pw_below_drewN | apply below_drew1 | refine below_set ?_ GE759.out | refine below_set ?_ GE760.out | refine below_set ?_ GE773.out | refine below_set ?_ GE778.out | refine below_set ?_ GE786.out) | exact HB.out)⟩⟩
      case rest =>
       clear HC77
       try clear c1
       try clear c2
       try clear p2
       try clear c3
       try clear c4
       try clear c5
       try clear c6
       try clear c7
       try clear c8
       try clear c9
       try clear c10
       try clear c21
       try clear c34
       try clear c36
       try clear c42
       try clear c47
       try clear c51
       try clear c52
       try clear c53
       try clear c54
       try clear c55
       try clear c57
       try clear c58
       try clear c59
       try clear c62
       try clear c63
       try clear c64
       try clear c65
       try clear c67
       try clear c68
       try clear c69
       try clear c72
       try clear c75
       try clear c82
       try clear c83
       try clear c84
       try clear c85
       try clear c88
       try clear c88b0
       try clear c90
       try clear c91
       try clear c92
       try clear c93
       try clear c94
       try clear c96
       try clear c97
       try clear c98
       try clear c101
       try clear c102
       try clear c103
       try clear c104
       try clear c106
       try clear c107
       try clear c108
       try clear hcz105_0
       try clear hcz105_1
       try clear hcz109_0
       try clear hcz109_1
       try clear hcz56_0
       try clear hcz56_1
       try clear hcz60_0
       try clear hcz60_1
       try clear hcz66_0
       try clear hcz66_1
       try clear hcz70_0
       try clear hcz70_1
       try clear hcz86_0
       try clear hcz86_1
       try clear hcz95_0
       try clear hcz95_1
       try clear hcz99_0
       try clear hcz99_1
       try clear hfz105_0
       try clear hfz105_1
       try clear hfz109_0
       try clear hfz109_1
       try clear hfz56_0
       try clear hfz56_1
       try clear hfz60_0
       try clear hfz60_1
       try clear hfz66_0
       try clear hfz66_1
       try clear hfz70_0
       try clear hfz70_1
       try clear hfz86_0
       try clear hfz86_1
       try clear hfz95_0
       try clear hfz95_1
       try clear hfz99_0
       try clear hfz99_1
       try clear p2
       obtain ⟨kq, x67_76, rfl, HA, HJ76, HO_774001, HO_779001, HO_787001, BK759, BK760, BK773, BK778, BK786, HB⟩ := hcut
       have hl779001_76 := (Kd.R_reads' HO_779001.out).1
       rw [hl779001_76] at HO_779001
       (try simp only [hl779001_76])
       (try simp only [hl779001_76] at BK759)
       (try simp only [hl779001_76] at BK760)
       (try simp only [hl779001_76] at BK773)
       (try simp only [hl779001_76] at BK778)
       (try simp only [hl779001_76] at BK786)
       (try simp only [hl779001_76] at HO_774001)
       (try simp only [hl779001_76] at HO_787001)
       cases kq with
       | zero => exact absurd HA.out (by simp [laws_FnExactPoolUse.j1])
       | succ kj76 =>
        have H := HA.out
        clear HA
        simp only [laws_FnExactPoolUse.j1] at H
        by_cases c111 : x67_76 = true
        ·subst c111
         have H1 : (some false) = some r := by rw [if_pos rfl] at H; exact H
         clear H
         have H := H1
         clear H1
         exact absurd ((Option.some.inj H).trans hT) (by simp)
        ·replace c111 := Bool.eq_false_iff.mpr c111
         subst c111
         have H1 : ((laws_markPool.f kj76 t781 t782 1).bind fun bt796 => ((laws_heldPool.f kj76 t781 bt796.2 1).bind fun t798 => (if t798 < 0 then (some false) else (if t798 = bt796.1 then ((laws_toPool.f kj76 a0_0 l0_1).bind fun bt799 => ((laws_toPage.f a1_0 a1_1).bind fun bt803 => ((impl_PoolUse.f bt799.1 bt799.2 bt803.1 bt803.2).bind fun bt805 => ((laws_eqPool.f kj76 bt805.1 bt805.2.1 t768 t769).bind fun t811 => (if t811 = true then (laws_FnExactPoolUse.j2 kj76 bt796.1 (bt805.2.2 != t772) t781 bt796.2) else (laws_FnExactPoolUse.j2 kj76 bt796.1 true t781 bt796.2)))))) else (some false))))) = some r := by rw [if_neg (show ¬ (false = true) by decide)] at H; exact H
         clear H
         have H := H1
         clear H1
         replace H := Option.bind_eq_some_iff.mp H
         obtain ⟨⟨t796, t797⟩, A1120, H⟩ := H
         replace H : ((laws_heldPool.f kj76 t781 t797 1).bind fun t798 => (if t798 < 0 then (some false) else (if t798 = t796 then ((laws_toPool.f kj76 a0_0 l0_1).bind fun bt799 => ((laws_toPage.f a1_0 a1_1).bind fun bt803 => ((impl_PoolUse.f bt799.1 bt799.2 bt803.1 bt803.2).bind fun bt805 => ((laws_eqPool.f kj76 bt805.1 bt805.2.1 t768 t769).bind fun t811 => (if t811 = true then (laws_FnExactPoolUse.j2 kj76 t796 (bt805.2.2 != t772) t781 t797) else (laws_FnExactPoolUse.j2 kj76 t796 true t781 t797)))))) else (some false)))) = some r := H
         have A112 := Aside0.mk A1120
         clear A1120
         replace H := Option.bind_eq_some_iff.mp H
         obtain ⟨t798, A1130, H⟩ := H
         replace H : (if t798 < 0 then (some false) else (if t798 = t796 then ((laws_toPool.f kj76 a0_0 l0_1).bind fun bt799 => ((laws_toPage.f a1_0 a1_1).bind fun bt803 => ((impl_PoolUse.f bt799.1 bt799.2 bt803.1 bt803.2).bind fun bt805 => ((laws_eqPool.f kj76 bt805.1 bt805.2.1 t768 t769).bind fun t811 => (if t811 = true then (laws_FnExactPoolUse.j2 kj76 t796 (bt805.2.2 != t772) t781 t797) else (laws_FnExactPoolUse.j2 kj76 t796 true t781 t797)))))) else (some false))) = some r := H
         have A113 := Aside0.mk A1130
         clear A1130
         by_cases c114 : t798 < 0
         ·rw [if_pos c114] at H
          have c114b0 : decide (t798 < 0) = true := decide_eq_true c114
          clear c114
          exact absurd ((Option.some.inj H).trans hT) (by simp)
         ·rw [if_neg c114] at H
          have c114b0 : decide (t798 < 0) = false := decide_eq_false c114
          clear c114
          by_cases c115 : t798 = t796
          ·rw [if_pos c115] at H
           have c115b0 : (t798 == t796) = true := beq_iff_eq.mpr c115
           have c115b1 : (t798 != t796) = false := bne_eq_false_iff_eq.mpr c115
           clear c115
           replace H := Option.bind_eq_some_iff.mp H
           obtain ⟨⟨t799, t800⟩, A1160, H⟩ := H
           replace H : ((laws_toPage.f a1_0 a1_1).bind fun bt803 => ((impl_PoolUse.f t799 t800 bt803.1 bt803.2).bind fun bt805 => ((laws_eqPool.f kj76 bt805.1 bt805.2.1 t768 t769).bind fun t811 => (if t811 = true then (laws_FnExactPoolUse.j2 kj76 t796 (bt805.2.2 != t772) t781 t797) else (laws_FnExactPoolUse.j2 kj76 t796 true t781 t797))))) = some r := H
           have A116 := Aside0.mk A1160
           clear A1160
           replace H := Option.bind_eq_some_iff.mp H
           obtain ⟨⟨t803, t804⟩, A1170, H⟩ := H
           replace H : ((impl_PoolUse.f t799 t800 t803 t804).bind fun bt805 => ((laws_eqPool.f kj76 bt805.1 bt805.2.1 t768 t769).bind fun t811 => (if t811 = true then (laws_FnExactPoolUse.j2 kj76 t796 (bt805.2.2 != t772) t781 t797) else (laws_FnExactPoolUse.j2 kj76 t796 true t781 t797)))) = some r := H
           have A117 := Aside0.mk A1170
           clear A1170
           replace H := Option.bind_eq_some_iff.mp H
           obtain ⟨⟨t805, t806, t809⟩, A1180, H⟩ := H
           replace H : ((laws_eqPool.f kj76 t805 t806 t768 t769).bind fun t811 => (if t811 = true then (laws_FnExactPoolUse.j2 kj76 t796 (t809 != t772) t781 t797) else (laws_FnExactPoolUse.j2 kj76 t796 true t781 t797))) = some r := H
           have A118 := Aside0.mk A1180
           clear A1180
           have HC119 := Aside0.mk H
           clear H
           have hnb120 := NB786_759.out
           have hnc120 := NB759_786.out
           have hnb121 := NB786_760.out
           have hnc121 := NB760_786.out
           have hnb122 := NB786_773.out
           have hnc122 := NB773_786.out
           have hnb123 := NB786_778.out
           have hnc123 := NB778_786.out
           have hcz124_0 : wc.cell? ⟨gb786, 0, none⟩ = some (.int .i64 t781) := (blk_cell BK786.out 0).trans rfl
           have hcz124_1 : wc.cell? ⟨gb786, 1, none⟩ = some (.slice Ao48 t782.length co48) := (blk_cell BK786.out 1).trans rfl
           have hfz124_0 := blk_frozen BK786.out 0
           have hfz124_1 := blk_frozen BK786.out 1
           try go_wp2_with (first | ((with_reducible refine gate_callee (f := 47) rfl ?_); refine goesL_ (some 70) rfl rfl Try.func47 (by kernel_rfl) rfl #[.agg #[.int .i64 t781, .slice Ao48 t782.length co48], .int .i64 1] rfl (z26_6) ?_; (with_reducible refine (laws_markPool.calls kj76 t781 (fun k_ => some k_ = (.slice Ao48 t782.length co48 : Value).ownBlock) (.slice Ao48 t782.length co48) t782 1 t796 t797 w _ ?side1 ?side2 A112.out).mono ?_); (case side1 => repeat (first | (with_reducible first | exact HB.out | apply below_alloc | apply pw_below_drewN | apply below_drew1 | refine below_set ?_ GE759.out | refine below_set ?_ GE760.out | refine below_set ?_ GE773.out | refine below_set ?_ GE778.out | refine below_set ?_ GE786.out) | exact HB.out)); (case side2 => exact Kd.R_tight rfl HO_787001.out); rintro e w125 ⟨rfl, hy0, hb, hkp⟩; refine ⟨_, rfl, ?_⟩; have n0_ := Aside0.mk (Kd.R_mono (ok' := fun k_ => some k_ ≠ (.slice Ao40 t794.length co40 : Value).ownBlock ∧ some k_ ≠ (.slice Ao48 t782.length co48 : Value).ownBlock) (Kd.R_keptB (HO_774001.out) hkp (fun k_ hk_ hs_ => (hk_.2) hs_)) (fun k_ hk_ => ⟨hk_.1.1, hk_.1.2⟩)); have n1_ := Aside0.mk (Kd.R_mono (ok' := fun k_ => some k_ ≠ (.slice Ao30 t769.length co30 : Value).ownBlock ∧ some k_ ≠ (.slice Ao48 t782.length co48 : Value).ownBlock) (Kd.R_keptB (HO_779001.out) hkp (fun k_ hk_ hs_ => (hk_.2) hs_)) (fun k_ hk_ => ⟨hk_.1.1, hk_.1.2⟩)); have n2_ := Aside0.mk (Kd.R_reok rfl hy0 (fun k_ e_ => HO_787001.out.1 k_ e_)); have n3_ := Aside0.mk (blk_kept (z26_8) hkp (fun hs_ => (fun e_ => (Kd.R_ne HO_787001.out BK759.out (by decide)) e_) hs_)); have n4_ := Aside0.mk (blk_kept (z26_9) hkp (fun hs_ => (fun e_ => (Kd.R_ne HO_787001.out BK760.out (by decide)) e_) hs_)); have n5_ := Aside0.mk (blk_kept (z26_10) hkp (fun hs_ => (fun e_ => (Kd.R_ne HO_787001.out BK773.out (by decide)) e_) hs_)); have n6_ := Aside0.mk (blk_kept (z26_11) hkp (fun hs_ => (fun e_ => (Kd.R_ne HO_787001.out BK778.out (by decide)) e_) hs_)); have n7_ := Aside0.mk (blk_kept (z26_12) hkp (fun hs_ => (fun e_ => (Kd.R_ne HO_787001.out BK786.out (by decide)) e_) hs_)); have n8_ := Aside0.mk (hb); clear HO_774001; clear HO_779001; clear HO_787001; clear BK759; clear BK760; clear BK773; clear BK778; clear BK786; clear HB; have HO_774001 := n0_; have HO_779001 := n1_; have HO_787001 := n2_; have BK759 := n3_; have BK760 := n4_; have BK773 := n5_; have BK778 := n6_; have BK786 := n7_; have HB := n8_; clear n0_ n1_ n2_ n3_ n4_ n5_ n6_ n7_ n8_; (try clear hb); (try clear hkp); (try clear hy0); have hcz126_0 : w125.cell? ⟨gb786, 0, none⟩ = some (.int .i64 t781) := (blk_cell BK786.out 0).trans rfl; have hcz126_1 : w125.cell? ⟨gb786, 1, none⟩ = some (.slice Ao48 t782.length co48) := (blk_cell BK786.out 1).trans rfl; have hfz126_0 := blk_frozen BK786.out 0; have hfz126_1 := blk_frozen BK786.out 1) | ((with_reducible refine gate_callee (f := 48) rfl ?_); refine goesL_ (some 73) rfl rfl Try.func48 (by kernel_rfl) rfl #[.agg #[.int .i64 t781, .slice Ao48 t797.length co48], .int .i64 1] rfl (by (try simp only [List.map_toArray, List.map_cons, List.map_nil]); first | done | (rw [show t797.length = t782.length from (Kd.R_reads' HO_787001.out).1.symm] <;> rfl) | rfl | (simp only [List.length_drop, List.length_take]; rfl)) ?_; (with_reducible refine (laws_heldPool.calls kj76 t781 _ _ t797 1 t798 _ ?side1 ?side2 A113.out).mono ?_); (case side1 => repeat (first | exact (Kd.R_reads' HO_787001.out).2.2 | (with_reducible refine Kd.C_alloc ?_ _) | (with_reducible refine Kd.C_drewN ?_ _) | (with_reducible refine Kd.C_drew ?_))); (case side2 => rw [show t797.length = t782.length from (Kd.R_reads' HO_787001.out).1.symm]; exact (Kd.R_reads' HO_787001.out).2.1); rintro e w127 ⟨rfl, hb⟩; refine ⟨_, rfl, ?_⟩; have n0_ := Aside0.mk (Kd.R_below (by (with_reducible repeat (first | apply ra | apply rb | apply rc)); exact HO_774001.out) hb); have n1_ := Aside0.mk (Kd.R_below (by (with_reducible repeat (first | apply ra | apply rb | apply rc)); exact HO_779001.out) hb); have n2_ := Aside0.mk (Kd.R_below (by (with_reducible repeat (first | apply ra | apply rb | apply rc)); exact HO_787001.out) hb); have n3_ := Aside0.mk (blk_below (g := gb759) (o := .cells #[.int .i64 a0_0, .slice A0_1 l0_1.length c0_1] 42 (0, 0)) (z26_8) hb); have n4_ := Aside0.mk (blk_below (g := gb760) (o := .cells #[.int .i64 a1_0, .int .i64 a1_1] 23 (0, 0)) (z26_9) hb); have n5_ := Aside0.mk (blk_below (g := gb773) (o := .cells #[.int .i64 t768, .slice Ao30 t769.length co30] 46 (0, 0)) (z26_10) hb); have n6_ := Aside0.mk (blk_below (g := gb778) (o := .cells #[.int .i64 t774, .slice Ao40 t794.length co40] 46 (0, 0)) (z26_11) hb); have n7_ := Aside0.mk (blk_below (g := gb786) (o := .cells #[.int .i64 t781, .slice Ao48 t782.length co48] 46 (0, 0)) (z26_12) hb); have n8_ := Aside0.mk (below_step (z26_1) hb); clear HO_774001; clear HO_779001; clear HO_787001; clear BK759; clear BK760; clear BK773; clear BK778; clear BK786; clear HB; have HO_774001 := n0_; have HO_779001 := n1_; have HO_787001 := n2_; have BK759 := n3_; have BK760 := n4_; have BK773 := n5_; have BK778 := n6_; have BK786 := n7_; have HB := n8_; clear n0_ n1_ n2_ n3_ n4_ n5_ n6_ n7_ n8_; (try clear hb); (try clear hb2); (try clear hk); (try clear hi)))
           have n0_ := Aside0.mk (Kd.R_drew HO_774001.out)
           have n1_ := Aside0.mk (Kd.R_drew HO_779001.out)
           have n2_ := Aside0.mk (Kd.R_drew HO_787001.out)
           have n3_ := Aside0.mk (blk_drew BK759.out)
           have n4_ := Aside0.mk (blk_drew BK760.out)
           have n5_ := Aside0.mk (blk_drew BK773.out)
           have n6_ := Aside0.mk (blk_drew BK778.out)
           have n7_ := Aside0.mk (blk_drew BK786.out)
           have n8_ := Aside0.mk (below_drew1 HB.out)
           clear HO_774001
           clear HO_779001
           clear HO_787001
           clear BK759
           clear BK760
           clear BK773
           clear BK778
           clear BK786
           clear HB
           have HO_774001 := n0_
           have HO_779001 := n1_
           have HO_787001 := n2_
           have BK759 := n3_
           have BK760 := n4_
           have BK773 := n5_
           have BK778 := n6_
           have BK786 := n7_
           have HB := n8_
           clear n0_ n1_ n2_ n3_ n4_ n5_ n6_ n7_ n8_
           refine start_ (n := 11) (S := fun w' => w'.cell? ⟨gb759, 0, none⟩ = some (.int .i64 a0_0) ∧ w'.cell? ⟨gb759, 1, none⟩ = some (.slice A0_1 l0_1.length c0_1) ∧ w'.cell? ⟨gb760, 0, none⟩ = some (.int .i64 a1_0) ∧ w'.cell? ⟨gb760, 1, none⟩ = some (.int .i64 a1_1)) (ds := []) #[ff,ff,ff,ff,ff,ff,ff,ff,ff,ff,ff] (by kernel_rfl) rfl rfl ⟨(blk_cell BK759.out 0).trans rfl, (blk_cell BK759.out 1).trans rfl, (blk_cell BK760.out 0).trans rfl, (blk_cell BK760.out 1).trans rfl⟩ (fun hHeld => ?_); refine with_tabW laws_FnExactPoolUse.tab24 laws_FnExactPoolUse.bits24 (fun HT_ HW_ => ?_)
           generalize w127.drew = w128 at HO_774001 HO_779001 HO_787001 BK759 BK760 BK773 BK778 BK786 HB hHeld ⊢
           refine take_ (i := 0) (N := some 80) (v := ?_) (a' := ?_) #[tt,ff,ff,ff,ff,ff,ff,ff,ff,ff,ff] rfl rfl (take_ofW HT_.out HW_.out (by kernel_rfl)) (fun _ _ _ h => h) (Or.inl ⟨by rfl, ?_⟩) hHeld ?_ ?_
           rotate_left
           ·rintro w' ⟨s0, s1, s2, s3⟩
            go_simp
            with_reducible rfl
           rotate_left
           ·simp only [Act.put, List.setIfInBounds_toArray, List.set_cons_zero, List.set_cons_succ, i64_w, i32_w]
            rfl
           refine take_ (i := 2) (N := some 82) (v := ?_) (a' := ?_) #[tt,ff,tt,ff,ff,ff,ff,ff,ff,ff,ff] rfl rfl (take_ofW HT_.out HW_.out (by kernel_rfl)) (fun _ _ _ h => h) (Or.inl ⟨by rfl, ?_⟩) hHeld ?_ ?_
           rotate_left
           ·rintro w' ⟨s0, s1, s2, s3⟩
            go_simp
            with_reducible rfl
           rotate_left
           ·simp only [Act.put, List.setIfInBounds_toArray, List.set_cons_zero, List.set_cons_succ, i64_w, i32_w]
            rfl
           refine join_ (σ := Value × Value × Nat) 2 #[tt,tt,tt,tt,tt,tt,tt,tt,tt,ff,ff] (fun s_ => [(81, .agg #[.int .i64 t799, s_.1]), (83, .agg #[.int .i64 t803, .int .i64 t804]), (84, .tuple #[.agg #[.int .i64 t805, s_.2.1], .bool t809]), (14, .pointer (some ⟨s_.2.2, 0, none⟩)), (79, .tuple #[.agg #[.int .i64 t805, s_.2.1], .bool t809]), (85, .agg #[.int .i64 t805, s_.2.1]), (86, .bool t809)]) (fun s_ w' => (w'.cell? ⟨gb759, 0, none⟩ = some (.int .i64 a0_0) ∧ w'.cell? ⟨gb759, 1, none⟩ = some (.slice A0_1 l0_1.length c0_1) ∧ w'.cell? ⟨gb760, 0, none⟩ = some (.int .i64 a1_0) ∧ w'.cell? ⟨gb760, 1, none⟩ = some (.int .i64 a1_1)) ∧ (Kd.R k25 25 w' w.heap.size (fun k_ => some k_ ≠ (s_.2.1 : Value).ownBlock ∧ some k_ ≠ (.slice Ao30 t769.length co30 : Value).ownBlock ∧ some k_ ≠ (.slice Ao40 t794.length co40 : Value).ownBlock ∧ some k_ ≠ (.slice Ao48 t782.length co48 : Value).ownBlock) s_.1 t800) ∧ (Kd.R k25 25 w' w.heap.size (fun k_ => some k_ ≠ (s_.1 : Value).ownBlock ∧ some k_ ≠ (.slice Ao30 t769.length co30 : Value).ownBlock ∧ some k_ ≠ (.slice Ao40 t794.length co40 : Value).ownBlock ∧ some k_ ≠ (.slice Ao48 t782.length co48 : Value).ownBlock) s_.2.1 t806) ∧ (Kd.R k25 25 w' w.heap.size (fun k_ => some k_ ≠ (s_.1 : Value).ownBlock ∧ some k_ ≠ (s_.2.1 : Value).ownBlock ∧ some k_ ≠ (.slice Ao40 t794.length co40 : Value).ownBlock ∧ some k_ ≠ (.slice Ao48 t782.length co48 : Value).ownBlock) (.slice Ao30 t769.length co30) t769) ∧ (Kd.R k25 25 w' w.heap.size (fun k_ => some k_ ≠ (s_.1 : Value).ownBlock ∧ some k_ ≠ (s_.2.1 : Value).ownBlock ∧ some k_ ≠ (.slice Ao30 t769.length co30 : Value).ownBlock ∧ some k_ ≠ (.slice Ao48 t782.length co48 : Value).ownBlock) (.slice Ao40 t794.length co40) t794) ∧ (Kd.R k25 25 w' w.heap.size (fun k_ => some k_ ≠ (s_.1 : Value).ownBlock ∧ some k_ ≠ (s_.2.1 : Value).ownBlock ∧ some k_ ≠ (.slice Ao30 t769.length co30 : Value).ownBlock ∧ some k_ ≠ (.slice Ao40 t794.length co40 : Value).ownBlock) (.slice Ao48 t782.length co48) t797) ∧ (w'.heap[gb759]? = some (.cells #[.int .i64 a0_0, .slice A0_1 l0_1.length c0_1] 42 (0, 0))) ∧ (w'.heap[gb760]? = some (.cells #[.int .i64 a1_0, .int .i64 a1_1] 23 (0, 0))) ∧ (w'.heap[gb773]? = some (.cells #[.int .i64 t768, .slice Ao30 t769.length co30] 46 (0, 0))) ∧ (w'.heap[gb778]? = some (.cells #[.int .i64 t774, .slice Ao40 t794.length co40] 46 (0, 0))) ∧ (w'.heap[gb786]? = some (.cells #[.int .i64 t781, .slice Ao48 t782.length co48] 46 (0, 0))) ∧ (w'.heap[s_.2.2]? = some (.cells #[.int .i64 0, .slice none 0 0] 46 (0, 0))) ∧ (w.heap.size ≤ s_.2.2) ∧ (w.heap.size ≤ s_.2.2) ∧ (gb759 ≠ s_.2.2) ∧ (s_.2.2 ≠ gb759) ∧ (gb760 ≠ s_.2.2) ∧ (s_.2.2 ≠ gb760) ∧ (gb773 ≠ s_.2.2) ∧ (s_.2.2 ≠ gb773) ∧ (gb778 ≠ s_.2.2) ∧ (s_.2.2 ≠ gb778) ∧ (gb786 ≠ s_.2.2) ∧ (s_.2.2 ≠ gb786) ∧ (Below w.heap.size w w')) ?_ ?_
           rotate_left
           ·intro hCont
            refine two_ (i := 1) (j := 8) (Ni := some 81) (Nj := some 14) #[tt,tt,tt,ff,ff,ff,ff,ff,ff,ff,ff] #[tt,ff,tt,ff,ff,ff,ff,ff,tt,ff,ff] rfl rfl rfl rfl (two_of HT_.out (by kernel_rfl)) (by decide) (by decide) (fun K hK => ?_) (fun K hK => ?_)
            ·skip
             refine goes_ Try.func34 (by kernel_rfl) rfl #[.agg #[.int .i64 a0_0, .slice A0_1 l0_1.length c0_1]] (by rfl) rfl rfl (z26_6) ?_
             with_reducible refine (laws_toPool.calls kj76 a0_0 _ _ l0_1 t799 t800 _ ?side1 ?side2 A116.out).mono ?_
             (case side1 => repeat (first | exact (Kd.C_below HR0_1.out HB.out) | (with_reducible refine Kd.C_alloc ?_ _) | (with_reducible refine Kd.C_drewN ?_ _) | (with_reducible refine Kd.C_drew ?_)))
             (case side2 => exact HC0_1.out)
             rintro e w129 ⟨v801, rfl, ho0, hb⟩
             refine ⟨_, rfl, ?_⟩
             have n0_ := Aside0.mk (Kd.R_elder' (by (with_reducible repeat (first | apply ra | apply rb | apply rc)); exact HO_774001.out) (Kd.R_base ho0) hb)
             have n1_ := Aside0.mk (Kd.R_elder' (by (with_reducible repeat (first | apply ra | apply rb | apply rc)); exact HO_779001.out) (Kd.R_base ho0) hb)
             have n2_ := Aside0.mk (Kd.R_elder' (by (with_reducible repeat (first | apply ra | apply rb | apply rc)); exact HO_787001.out) (Kd.R_base ho0) hb)
             have n3_ := Aside0.mk (Kd.R_lower (Kd.R_new' (Kd.R_new' (Kd.R_new' ho0 (Kd.R_lt (by (with_reducible repeat (first | apply ra | apply rb | apply rc)); exact HO_774001.out))) (Kd.R_lt (by (with_reducible repeat (first | apply ra | apply rb | apply rc)); exact HO_779001.out))) (Kd.R_lt (by (with_reducible repeat (first | apply ra | apply rb | apply rc)); exact HO_787001.out))) (below_size (z26_1)))
             have n4_ := Aside0.mk (blk_below (g := gb759) (o := .cells #[.int .i64 a0_0, .slice A0_1 l0_1.length c0_1] 42 (0, 0)) (z26_8) hb)
             have n5_ := Aside0.mk (blk_below (g := gb760) (o := .cells #[.int .i64 a1_0, .int .i64 a1_1] 23 (0, 0)) (z26_9) hb)
             have n6_ := Aside0.mk (blk_below (g := gb773) (o := .cells #[.int .i64 t768, .slice Ao30 t769.length co30] 46 (0, 0)) (z26_10) hb)
             have n7_ := Aside0.mk (blk_below (g := gb778) (o := .cells #[.int .i64 t774, .slice Ao40 t794.length co40] 46 (0, 0)) (z26_11) hb)
             have n8_ := Aside0.mk (blk_below (g := gb786) (o := .cells #[.int .i64 t781, .slice Ao48 t782.length co48] 46 (0, 0)) (z26_12) hb)
             have n9_ := Aside0.mk (below_step (z26_1) hb)
             clear HO_774001
             clear HO_779001
             clear HO_787001
             clear BK759
             clear BK760
             clear BK773
             clear BK778
             clear BK786
             clear HB
             have HO_774001 := n0_
             have HO_779001 := n1_
             have HO_787001 := n2_
             have HO802 := n3_
             have BK759 := n4_
             have BK760 := n5_
             have BK773 := n6_
             have BK778 := n7_
             have BK786 := n8_
             have HB := n9_
             clear n0_ n1_ n2_ n3_ n4_ n5_ n6_ n7_ n8_ n9_
             (try clear hb)
             (try clear hb2)
             (try clear hk)
             (try clear hi)
             (try clear ho0)
             refine hK.out _ _ ⟨(blk_cell BK759.out 0).trans rfl, (blk_cell BK759.out 1).trans rfl, (blk_cell BK760.out 0).trans rfl, (blk_cell BK760.out 1).trans rfl⟩ (fun hHeld => ?_)
             clear hK K
             refine norm_ (a' := ?_) ?_ ?_
             rotate_left
             ·show Act.put _ (some 81) _ = _
              simp only [Act.put, List.setIfInBounds_toArray, List.set_cons_zero, List.set_cons_succ, i64_w, i32_w]
              rfl
             refine two_ (i := 3) (j := 8) (Ni := some 83) (Nj := some 14) #[tt,tt,tt,tt,ff,ff,ff,ff,ff,ff,ff] #[tt,tt,tt,ff,ff,ff,ff,ff,tt,ff,ff] rfl rfl rfl rfl (two_of HT_.out (by kernel_rfl)) (by decide) (by decide) (fun K hK => ?_) (fun K hK => ?_)
             ·skip
              refine goes_ Try.func21 (by kernel_rfl) rfl #[.agg #[.int .i64 a1_0, .int .i64 a1_1]] (by rfl) rfl rfl (z26_6) ?_
              with_reducible refine (laws_toPage.calls a1_0 a1_1 t803 t804 _ A117.out).mono ?_
              rintro e w130 ⟨rfl, hb⟩
              refine ⟨_, rfl, ?_⟩
              have n0_ := Aside0.mk (Kd.R_below (by (with_reducible repeat (first | apply ra | apply rb | apply rc)); exact HO_774001.out) hb)
              have n1_ := Aside0.mk (Kd.R_below (by (with_reducible repeat (first | apply ra | apply rb | apply rc)); exact HO_779001.out) hb)
              have n2_ := Aside0.mk (Kd.R_below (by (with_reducible repeat (first | apply ra | apply rb | apply rc)); exact HO_787001.out) hb)
              have n3_ := Aside0.mk (Kd.R_below (by (with_reducible repeat (first | apply ra | apply rb | apply rc)); exact HO802.out) hb)
              have n4_ := Aside0.mk (blk_below (g := gb759) (o := .cells #[.int .i64 a0_0, .slice A0_1 l0_1.length c0_1] 42 (0, 0)) (z26_8) hb)
              have n5_ := Aside0.mk (blk_below (g := gb760) (o := .cells #[.int .i64 a1_0, .int .i64 a1_1] 23 (0, 0)) (z26_9) hb)
              have n6_ := Aside0.mk (blk_below (g := gb773) (o := .cells #[.int .i64 t768, .slice Ao30 t769.length co30] 46 (0, 0)) (z26_10) hb)
              have n7_ := Aside0.mk (blk_below (g := gb778) (o := .cells #[.int .i64 t774, .slice Ao40 t794.length co40] 46 (0, 0)) (z26_11) hb)
              have n8_ := Aside0.mk (blk_below (g := gb786) (o := .cells #[.int .i64 t781, .slice Ao48 t782.length co48] 46 (0, 0)) (z26_12) hb)
              have n9_ := Aside0.mk (below_step (z26_1) hb)
              clear HO_774001
              clear HO_779001
              clear HO_787001
              clear HO802
              clear BK759
              clear BK760
              clear BK773
              clear BK778
              clear BK786
              clear HB
              have HO_774001 := n0_
              have HO_779001 := n1_
              have HO_787001 := n2_
              have HO802 := n3_
              have BK759 := n4_
              have BK760 := n5_
              have BK773 := n6_
              have BK778 := n7_
              have BK786 := n8_
              have HB := n9_
              clear n0_ n1_ n2_ n3_ n4_ n5_ n6_ n7_ n8_ n9_
              (try clear hb)
              (try clear hb2)
              (try clear hk)
              (try clear hi)
              obtain ⟨Ao131, co131, eo131⟩ := Kd.R_slice HO802.out
              (first | subst eo131 | (injection eo131 with f1_ f2_ f3_; have f4_ := f1_.symm; have f5_ := f3_.symm; clear f1_ f2_ f3_; subst f4_; subst f5_))
              refine hK.out _ _ ⟨(blk_cell BK759.out 0).trans rfl, (blk_cell BK759.out 1).trans rfl, (blk_cell BK760.out 0).trans rfl, (blk_cell BK760.out 1).trans rfl⟩ (fun hHeld => ?_)
              clear hK K
              refine norm_ (a' := ?_) ?_ ?_
              rotate_left
              ·show Act.put _ (some 83) _ = _
               simp only [Act.put, List.setIfInBounds_toArray, List.set_cons_zero, List.set_cons_succ, i64_w, i32_w]
               rfl
              refine two_ (i := 4) (j := 8) (Ni := some 84) (Nj := some 14) #[tt,tt,tt,tt,tt,ff,ff,ff,ff,ff,ff] #[tt,tt,tt,tt,ff,ff,ff,ff,tt,ff,ff] rfl rfl rfl rfl (two_of HT_.out (by kernel_rfl)) (by decide) (by decide) (fun K hK => ?_) (fun K hK => ?_)
              ·skip
               refine goes_ Try.func42 (by kernel_rfl) rfl #[.agg #[.int .i64 t799, .slice Ao131 t800.length co131], .agg #[.int .i64 t803, .int .i64 t804]] (by rfl) rfl rfl (z26_6) ?_
               with_reducible refine (impl_PoolUse.calls t799 _ _ t800 t803 t804 t805 t806 t809 _ ?side1 ?side2 A118.out).mono ?_
               (case side1 => repeat (first | exact (Kd.R_reads' HO802.out).2.2 | (with_reducible refine Kd.C_alloc ?_ _) | (with_reducible refine Kd.C_drewN ?_ _) | (with_reducible refine Kd.C_drew ?_)))
               (case side2 => exact (Kd.R_reads' HO802.out).2.1)
               rintro e w132 ⟨v807, rfl, ho0, hb⟩
               refine ⟨_, rfl, ?_⟩
               have n0_ := Aside0.mk (Kd.R_elder' (by (with_reducible repeat (first | apply ra | apply rb | apply rc)); exact HO_774001.out) (Kd.R_base ho0) hb)
               have n1_ := Aside0.mk (Kd.R_elder' (by (with_reducible repeat (first | apply ra | apply rb | apply rc)); exact HO_779001.out) (Kd.R_base ho0) hb)
               have n2_ := Aside0.mk (Kd.R_elder' (by (with_reducible repeat (first | apply ra | apply rb | apply rc)); exact HO_787001.out) (Kd.R_base ho0) hb)
               have n3_ := Aside0.mk (Kd.R_elder' (by (with_reducible repeat (first | apply ra | apply rb | apply rc)); exact HO802.out) (Kd.R_base ho0) hb)
               have n4_ := Aside0.mk (Kd.R_lower (Kd.R_new' (Kd.R_new' (Kd.R_new' (Kd.R_new' ho0 (Kd.R_lt (by (with_reducible repeat (first | apply ra | apply rb | apply rc)); exact HO_774001.out))) (Kd.R_lt (by (with_reducible repeat (first | apply ra | apply rb | apply rc)); exact HO_779001.out))) (Kd.R_lt (by (with_reducible repeat (first | apply ra | apply rb | apply rc)); exact HO_787001.out))) (Kd.R_lt (by (with_reducible repeat (first | apply ra | apply rb | apply rc)); exact HO802.out))) (below_size (z26_1)))
               have n5_ := Aside0.mk (blk_below (g := gb759) (o := .cells #[.int .i64 a0_0, .slice A0_1 l0_1.length c0_1] 42 (0, 0)) (z26_8) hb)
               have n6_ := Aside0.mk (blk_below (g := gb760) (o := .cells #[.int .i64 a1_0, .int .i64 a1_1] 23 (0, 0)) (z26_9) hb)
               have n7_ := Aside0.mk (blk_below (g := gb773) (o := .cells #[.int .i64 t768, .slice Ao30 t769.length co30] 46 (0, 0)) (z26_10) hb)
               have n8_ := Aside0.mk (blk_below (g := gb778) (o := .cells #[.int .i64 t774, .slice Ao40 t794.length co40] 46 (0, 0)) (z26_11) hb)
               have n9_ := Aside0.mk (blk_below (g := gb786) (o := .cells #[.int .i64 t781, .slice Ao48 t782.length co48] 46 (0, 0)) (z26_12) hb)
               have n10_ := Aside0.mk (below_step (z26_1) hb)
               clear HO_774001
               clear HO_779001
               clear HO_787001
               clear HO802
               clear BK759
               clear BK760
               clear BK773
               clear BK778
               clear BK786
               clear HB
               have HO_774001 := n0_
               have HO_779001 := n1_
               have HO_787001 := n2_
               have HO802 := n3_
               have HO808 := n4_
               have BK759 := n5_
               have BK760 := n6_
               have BK773 := n7_
               have BK778 := n8_
               have BK786 := n9_
               have HB := n10_
               clear n0_ n1_ n2_ n3_ n4_ n5_ n6_ n7_ n8_ n9_ n10_
               (try clear hb)
               (try clear hb2)
               (try clear hk)
               (try clear hi)
               (try clear ho0)
               refine hK.out _ _ ⟨(blk_cell BK759.out 0).trans rfl, (blk_cell BK759.out 1).trans rfl, (blk_cell BK760.out 0).trans rfl, (blk_cell BK760.out 1).trans rfl⟩ (fun hHeld => ?_)
               clear hK K
               refine norm_ (a' := ?_) ?_ ?_
               rotate_left
               ·show Act.put _ (some 84) _ = _
                simp only [Act.put, List.setIfInBounds_toArray, List.set_cons_zero, List.set_cons_succ, i64_w, i32_w]
                rfl
               refine pure_ (i := 5) (N := some 79) (v := ?_) (a' := ?_) #[tt,tt,tt,tt,tt,tt,ff,ff,ff,ff,ff] rfl rfl (any_of HT_.out (by kernel_rfl)) (fun _ _ _ h => h) (Or.inl ⟨by rfl, ?_⟩) ?_ ?_
               rotate_left
               ·intro w'
                go_simp
                with_reducible rfl
               rotate_left
               ·simp only [Act.put, List.setIfInBounds_toArray, List.set_cons_zero, List.set_cons_succ, i64_w, i32_w]
                rfl
               refine pure_ (i := 6) (N := some 85) (v := ?_) (a' := ?_) #[tt,tt,tt,tt,tt,tt,tt,ff,ff,ff,ff] rfl rfl (any_of HT_.out (by kernel_rfl)) (fun _ _ _ h => h) (Or.inl ⟨by rfl, ?_⟩) ?_ ?_
               rotate_left
               ·intro w'
                go_simp
                with_reducible rfl
               rotate_left
               ·simp only [Act.put, List.setIfInBounds_toArray, List.set_cons_zero, List.set_cons_succ, i64_w, i32_w]
                rfl
               refine pure_ (i := 7) (N := some 86) (v := ?_) (a' := ?_) #[tt,tt,tt,tt,tt,tt,tt,tt,ff,ff,ff] rfl rfl (any_of HT_.out (by kernel_rfl)) (fun _ _ _ h => h) (Or.inl ⟨by rfl, ?_⟩) ?_ ?_
               rotate_left
               ·intro w'
                go_simp
                with_reducible rfl
               rotate_left
               ·simp only [Act.put, List.setIfInBounds_toArray, List.set_cons_zero, List.set_cons_succ, i64_w, i32_w]
                rfl
               refine one_ (i := 8) (N := some 14) #[tt,tt,tt,tt,tt,tt,tt,tt,tt,ff,ff] rfl rfl (one_of HT_.out (by kernel_rfl)) (by decide) (fun K hK => ?_)
               refine box_step ?hg (N := 14) ?hd (cs := #[.int .i64 0, .slice none 0 0]) (t := 46) ?hr ?_; (case hd => rfl); (case hg => rfl); (case hr => first | (go_simp; done) | (go_simp; rfl))
               intro gb810 hg w133 hbox hb
               have n0_ := Aside0.mk (Kd.R_below (by (with_reducible repeat (first | apply ra | apply rb | apply rc)); exact HO_774001.out) hb)
               have n1_ := Aside0.mk (Kd.R_below (by (with_reducible repeat (first | apply ra | apply rb | apply rc)); exact HO_779001.out) hb)
               have n2_ := Aside0.mk (Kd.R_below (by (with_reducible repeat (first | apply ra | apply rb | apply rc)); exact HO_787001.out) hb)
               have n3_ := Aside0.mk (Kd.R_below (by (with_reducible repeat (first | apply ra | apply rb | apply rc)); exact HO802.out) hb)
               have n4_ := Aside0.mk (Kd.R_below (by (with_reducible repeat (first | apply ra | apply rb | apply rc)); exact HO808.out) hb)
               have n5_ := Aside0.mk (blk_below (g := gb759) (o := .cells #[.int .i64 a0_0, .slice A0_1 l0_1.length c0_1] 42 (0, 0)) (z26_8) hb)
               have n6_ := Aside0.mk (blk_below (g := gb760) (o := .cells #[.int .i64 a1_0, .int .i64 a1_1] 23 (0, 0)) (z26_9) hb)
               have n7_ := Aside0.mk (blk_below (g := gb773) (o := .cells #[.int .i64 t768, .slice Ao30 t769.length co30] 46 (0, 0)) (z26_10) hb)
               have n8_ := Aside0.mk (blk_below (g := gb778) (o := .cells #[.int .i64 t774, .slice Ao40 t794.length co40] 46 (0, 0)) (z26_11) hb)
               have n9_ := Aside0.mk (blk_below (g := gb786) (o := .cells #[.int .i64 t781, .slice Ao48 t782.length co48] 46 (0, 0)) (z26_12) hb)
               have n10_ := Aside0.mk (below_step (z26_1) hb)
               have n11_ := Aside0.mk (hbox)
               have n12_ := Aside0.mk ((by rw [hg]; exact (below_size (z26_1)) : w.heap.size ≤ gb810))
               have n13_ := Aside0.mk ((by rw [hg]; exact (below_size (z26_1)) : w.heap.size ≤ gb810))
               have n14_ := Aside0.mk ((by rw [hg]; exact Nat.ne_of_lt (blk_lt (g := gb759) (o := .cells #[.int .i64 a0_0, .slice A0_1 l0_1.length c0_1] 42 (0, 0)) (z26_8)) : gb759 ≠ gb810))
               have n15_ := Aside0.mk ((by rw [hg]; exact Nat.ne_of_gt (blk_lt (g := gb759) (o := .cells #[.int .i64 a0_0, .slice A0_1 l0_1.length c0_1] 42 (0, 0)) (z26_8)) : gb810 ≠ gb759))
               have n16_ := Aside0.mk ((by rw [hg]; exact Nat.ne_of_lt (blk_lt (g := gb760) (o := .cells #[.int .i64 a1_0, .int .i64 a1_1] 23 (0, 0)) (z26_9)) : gb760 ≠ gb810))
               have n17_ := Aside0.mk ((by rw [hg]; exact Nat.ne_of_gt (blk_lt (g := gb760) (o := .cells #[.int .i64 a1_0, .int .i64 a1_1] 23 (0, 0)) (z26_9)) : gb810 ≠ gb760))
               have n18_ := Aside0.mk ((by rw [hg]; exact Nat.ne_of_lt (blk_lt (g := gb773) (o := .cells #[.int .i64 t768, .slice Ao30 t769.length co30] 46 (0, 0)) (z26_10)) : gb773 ≠ gb810))
               have n19_ := Aside0.mk ((by rw [hg]; exact Nat.ne_of_gt (blk_lt (g := gb773) (o := .cells #[.int .i64 t768, .slice Ao30 t769.length co30] 46 (0, 0)) (z26_10)) : gb810 ≠ gb773))
               have n20_ := Aside0.mk ((by rw [hg]; exact Nat.ne_of_lt (blk_lt (g := gb778) (o := .cells #[.int .i64 t774, .slice Ao40 t794.length co40] 46 (0, 0)) (z26_11)) : gb778 ≠ gb810))
               have n21_ := Aside0.mk ((by rw [hg]; exact Nat.ne_of_gt (blk_lt (g := gb778) (o := .cells #[.int .i64 t774, .slice Ao40 t794.length co40] 46 (0, 0)) (z26_11)) : gb810 ≠ gb778))
               have n22_ := Aside0.mk ((by rw [hg]; exact Nat.ne_of_lt (blk_lt (g := gb786) (o := .cells #[.int .i64 t781, .slice Ao48 t782.length co48] 46 (0, 0)) (z26_12)) : gb786 ≠ gb810))
               have n23_ := Aside0.mk ((by rw [hg]; exact Nat.ne_of_gt (blk_lt (g := gb786) (o := .cells #[.int .i64 t781, .slice Ao48 t782.length co48] 46 (0, 0)) (z26_12)) : gb810 ≠ gb786))
               clear HO_774001
               clear HO_779001
               clear HO_787001
               clear HO802
               clear HO808
               clear BK759
               clear BK760
               clear BK773
               clear BK778
               clear BK786
               clear HB
               have HO_774001 := n0_
               have HO_779001 := n1_
               have HO_787001 := n2_
               have HO802 := n3_
               have HO808 := n4_
               have BK759 := n5_
               have BK760 := n6_
               have BK773 := n7_
               have BK778 := n8_
               have BK786 := n9_
               have HB := n10_
               have BK810 := n11_
               have GW810 := n12_
               have GE810 := n13_
               have NB759_810 := n14_
               have NB810_759 := n15_
               have NB760_810 := n16_
               have NB810_760 := n17_
               have NB773_810 := n18_
               have NB810_773 := n19_
               have NB778_810 := n20_
               have NB810_778 := n21_
               have NB786_810 := n22_
               have NB810_786 := n23_
               clear n0_ n1_ n2_ n3_ n4_ n5_ n6_ n7_ n8_ n9_ n10_ n11_ n12_ n13_ n14_ n15_ n16_ n17_ n18_ n19_ n20_ n21_ n22_ n23_
               clear hb hbox hg
               refine hK.out _ _ ⟨(blk_cell BK759.out 0).trans rfl, (blk_cell BK759.out 1).trans rfl, (blk_cell BK760.out 0).trans rfl, (blk_cell BK760.out 1).trans rfl⟩ (fun hHeld => ?_)
               clear hK K
               refine norm_ (a' := ?_) ?_ ?_
               rotate_left
               ·show Act.put _ (some 14) _ = _
                simp only [Act.put, List.setIfInBounds_toArray, List.set_cons_zero, List.set_cons_succ, i64_w, i32_w]
                rfl
               exact norm_ (z26_14) (hCont (.slice Ao131 t800.length co131, v807, gb810) _ ⟨hHeld, (by (with_reducible repeat (first | apply ra | apply rb | apply rc)); exact Kd.R_mono HO802.out (fun _ hk => ⟨hk.2, ⟨hk.1.1.1.2, ⟨hk.1.1.2, hk.1.2⟩⟩⟩)), (by (with_reducible repeat (first | apply ra | apply rb | apply rc)); exact Kd.R_mono HO808.out (fun _ hk => ⟨hk.2, ⟨hk.1.1.1.2, ⟨hk.1.1.2, hk.1.2⟩⟩⟩)), (by (with_reducible repeat (first | apply ra | apply rb | apply rc)); exact Kd.R_mono HO_774001.out (fun _ hk => ⟨hk.1.2, ⟨hk.2, ⟨hk.1.1.1, hk.1.1.2⟩⟩⟩)), (by (with_reducible repeat (first | apply ra | apply rb | apply rc)); exact Kd.R_mono HO_779001.out (fun _ hk => ⟨hk.1.2, ⟨hk.2, ⟨hk.1.1.1, hk.1.1.2⟩⟩⟩)), (by (with_reducible repeat (first | apply ra | apply rb | apply rc)); exact Kd.R_mono HO_787001.out (fun _ hk => ⟨hk.1.2, ⟨hk.2, ⟨hk.1.1.1, hk.1.1.2⟩⟩⟩)), (z26_8), (z26_9), (z26_10), (z26_11), (z26_12), (z26_13), GW810.out, GE810.out, NB759_810.out, NB810_759.out, NB760_810.out, NB810_760.out, NB773_810.out, NB810_773.out, NB778_810.out, NB810_778.out, NB786_810.out, NB810_786.out, (z26_0)⟩)
              ·skip
               refine box_step ?hg (N := 14) ?hd (cs := #[.int .i64 0, .slice none 0 0]) (t := 46) ?hr ?_; (case hd => rfl); (case hg => rfl); (case hr => first | (go_simp; done) | (go_simp; rfl))
               intro gb810 hg w131 hbox hb
               have n0_ := Aside0.mk (Kd.R_below (by (with_reducible repeat (first | apply ra | apply rb | apply rc)); exact HO_774001.out) hb)
               have n1_ := Aside0.mk (Kd.R_below (by (with_reducible repeat (first | apply ra | apply rb | apply rc)); exact HO_779001.out) hb)
               have n2_ := Aside0.mk (Kd.R_below (by (with_reducible repeat (first | apply ra | apply rb | apply rc)); exact HO_787001.out) hb)
               have n3_ := Aside0.mk (Kd.R_below (by (with_reducible repeat (first | apply ra | apply rb | apply rc)); exact HO802.out) hb)
               have n4_ := Aside0.mk (blk_below (g := gb759) (o := .cells #[.int .i64 a0_0, .slice A0_1 l0_1.length c0_1] 42 (0, 0)) (z26_8) hb)
               have n5_ := Aside0.mk (blk_below (g := gb760) (o := .cells #[.int .i64 a1_0, .int .i64 a1_1] 23 (0, 0)) (z26_9) hb)
               have n6_ := Aside0.mk (blk_below (g := gb773) (o := .cells #[.int .i64 t768, .slice Ao30 t769.length co30] 46 (0, 0)) (z26_10) hb)
               have n7_ := Aside0.mk (blk_below (g := gb778) (o := .cells #[.int .i64 t774, .slice Ao40 t794.length co40] 46 (0, 0)) (z26_11) hb)
               have n8_ := Aside0.mk (blk_below (g := gb786) (o := .cells #[.int .i64 t781, .slice Ao48 t782.length co48] 46 (0, 0)) (z26_12) hb)
               have n9_ := Aside0.mk (below_step (z26_1) hb)
               have n10_ := Aside0.mk (hbox)
               have n11_ := Aside0.mk ((by rw [hg]; exact (below_size (z26_1)) : w.heap.size ≤ gb810))
               have n12_ := Aside0.mk ((by rw [hg]; exact (below_size (z26_1)) : w.heap.size ≤ gb810))
               have n13_ := Aside0.mk ((by rw [hg]; exact Nat.ne_of_lt (blk_lt (g := gb759) (o := .cells #[.int .i64 a0_0, .slice A0_1 l0_1.length c0_1] 42 (0, 0)) (z26_8)) : gb759 ≠ gb810))
               have n14_ := Aside0.mk ((by rw [hg]; exact Nat.ne_of_gt (blk_lt (g := gb759) (o := .cells #[.int .i64 a0_0, .slice A0_1 l0_1.length c0_1] 42 (0, 0)) (z26_8)) : gb810 ≠ gb759))
               have n15_ := Aside0.mk ((by rw [hg]; exact Nat.ne_of_lt (blk_lt (g := gb760) (o := .cells #[.int .i64 a1_0, .int .i64 a1_1] 23 (0, 0)) (z26_9)) : gb760 ≠ gb810))
               have n16_ := Aside0.mk ((by rw [hg]; exact Nat.ne_of_gt (blk_lt (g := gb760) (o := .cells #[.int .i64 a1_0, .int .i64 a1_1] 23 (0, 0)) (z26_9)) : gb810 ≠ gb760))
               have n17_ := Aside0.mk ((by rw [hg]; exact Nat.ne_of_lt (blk_lt (g := gb773) (o := .cells #[.int .i64 t768, .slice Ao30 t769.length co30] 46 (0, 0)) (z26_10)) : gb773 ≠ gb810))
               have n18_ := Aside0.mk ((by rw [hg]; exact Nat.ne_of_gt (blk_lt (g := gb773) (o := .cells #[.int .i64 t768, .slice Ao30 t769.length co30] 46 (0, 0)) (z26_10)) : gb810 ≠ gb773))
               have n19_ := Aside0.mk ((by rw [hg]; exact Nat.ne_of_lt (blk_lt (g := gb778) (o := .cells #[.int .i64 t774, .slice Ao40 t794.length co40] 46 (0, 0)) (z26_11)) : gb778 ≠ gb810))
               have n20_ := Aside0.mk ((by rw [hg]; exact Nat.ne_of_gt (blk_lt (g := gb778) (o := .cells #[.int .i64 t774, .slice Ao40 t794.length co40] 46 (0, 0)) (z26_11)) : gb810 ≠ gb778))
               have n21_ := Aside0.mk ((by rw [hg]; exact Nat.ne_of_lt (blk_lt (g := gb786) (o := .cells #[.int .i64 t781, .slice Ao48 t782.length co48] 46 (0, 0)) (z26_12)) : gb786 ≠ gb810))
               have n22_ := Aside0.mk ((by rw [hg]; exact Nat.ne_of_gt (blk_lt (g := gb786) (o := .cells #[.int .i64 t781, .slice Ao48 t782.length co48] 46 (0, 0)) (z26_12)) : gb810 ≠ gb786))
               clear HO_774001
               clear HO_779001
               clear HO_787001
               clear HO802
               clear BK759
               clear BK760
               clear BK773
               clear BK778
               clear BK786
               clear HB
               have HO_774001 := n0_
               have HO_779001 := n1_
               have HO_787001 := n2_
               have HO802 := n3_
               have BK759 := n4_
               have BK760 := n5_
               have BK773 := n6_
               have BK778 := n7_
               have BK786 := n8_
               have HB := n9_
               have BK810 := n10_
               have GW810 := n11_
               have GE810 := n12_
               have NB759_810 := n13_
               have NB810_759 := n14_
               have NB760_810 := n15_
               have NB810_760 := n16_
               have NB773_810 := n17_
               have NB810_773 := n18_
               have NB778_810 := n19_
               have NB810_778 := n20_
               have NB786_810 := n21_
               have NB810_786 := n22_
               clear n0_ n1_ n2_ n3_ n4_ n5_ n6_ n7_ n8_ n9_ n10_ n11_ n12_ n13_ n14_ n15_ n16_ n17_ n18_ n19_ n20_ n21_ n22_
               clear hb hbox hg
               obtain ⟨Ao132, co132, eo132⟩ := Kd.R_slice HO802.out
               (first | subst eo132 | (injection eo132 with f1_ f2_ f3_; have f4_ := f1_.symm; have f5_ := f3_.symm; clear f1_ f2_ f3_; subst f4_; subst f5_))
               refine hK.out _ _ ⟨(blk_cell BK759.out 0).trans rfl, (blk_cell BK759.out 1).trans rfl, (blk_cell BK760.out 0).trans rfl, (blk_cell BK760.out 1).trans rfl⟩ (fun hHeld => ?_)
               clear hK K
               refine norm_ (a' := ?_) ?_ ?_
               rotate_left
               ·show Act.put _ (some 14) _ = _
                simp only [Act.put, List.setIfInBounds_toArray, List.set_cons_zero, List.set_cons_succ, i64_w, i32_w]
                rfl
               refine one_ (i := 4) (N := some 84) #[tt,tt,tt,tt,tt,ff,ff,ff,tt,ff,ff] rfl rfl (one_of HT_.out (by kernel_rfl)) (by decide) (fun K hK => ?_)
               refine goes_ Try.func42 (by kernel_rfl) rfl #[.agg #[.int .i64 t799, .slice Ao132 t800.length co132], .agg #[.int .i64 t803, .int .i64 t804]] (by rfl) rfl rfl (z26_6) ?_
               with_reducible refine (impl_PoolUse.calls t799 _ _ t800 t803 t804 t805 t806 t809 _ ?side1 ?side2 A118.out).mono ?_
               (case side1 => repeat (first | exact (Kd.R_reads' HO802.out).2.2 | (with_reducible refine Kd.C_alloc ?_ _) | (with_reducible refine Kd.C_drewN ?_ _) | (with_reducible refine Kd.C_drew ?_)))
               (case side2 => exact (Kd.R_reads' HO802.out).2.1)
               rintro e w133 ⟨v807, rfl, ho0, hb⟩
               refine ⟨_, rfl, ?_⟩
               have n0_ := Aside0.mk (Kd.R_elder' (by (with_reducible repeat (first | apply ra | apply rb | apply rc)); exact HO_774001.out) (Kd.R_base ho0) hb)
               have n1_ := Aside0.mk (Kd.R_elder' (by (with_reducible repeat (first | apply ra | apply rb | apply rc)); exact HO_779001.out) (Kd.R_base ho0) hb)
               have n2_ := Aside0.mk (Kd.R_elder' (by (with_reducible repeat (first | apply ra | apply rb | apply rc)); exact HO_787001.out) (Kd.R_base ho0) hb)
               have n3_ := Aside0.mk (Kd.R_elder' (by (with_reducible repeat (first | apply ra | apply rb | apply rc)); exact HO802.out) (Kd.R_base ho0) hb)
               have n4_ := Aside0.mk (Kd.R_lower (Kd.R_new' (Kd.R_new' (Kd.R_new' (Kd.R_new' ho0 (Kd.R_lt (by (with_reducible repeat (first | apply ra | apply rb | apply rc)); exact HO_774001.out))) (Kd.R_lt (by (with_reducible repeat (first | apply ra | apply rb | apply rc)); exact HO_779001.out))) (Kd.R_lt (by (with_reducible repeat (first | apply ra | apply rb | apply rc)); exact HO_787001.out))) (Kd.R_lt (by (with_reducible repeat (first | apply ra | apply rb | apply rc)); exact HO802.out))) (below_size (z26_0)))
               have n5_ := Aside0.mk (blk_below (g := gb759) (o := .cells #[.int .i64 a0_0, .slice A0_1 l0_1.length c0_1] 42 (0, 0)) (z26_8) hb)
               have n6_ := Aside0.mk (blk_below (g := gb760) (o := .cells #[.int .i64 a1_0, .int .i64 a1_1] 23 (0, 0)) (z26_9) hb)
               have n7_ := Aside0.mk (blk_below (g := gb773) (o := .cells #[.int .i64 t768, .slice Ao30 t769.length co30] 46 (0, 0)) (z26_10) hb)
               have n8_ := Aside0.mk (blk_below (g := gb778) (o := .cells #[.int .i64 t774, .slice Ao40 t794.length co40] 46 (0, 0)) (z26_11) hb)
               have n9_ := Aside0.mk (blk_below (g := gb786) (o := .cells #[.int .i64 t781, .slice Ao48 t782.length co48] 46 (0, 0)) (z26_12) hb)
               have n10_ := Aside0.mk (blk_below (g := gb810) (o := .cells #[.int .i64 0, .slice none 0 0] 46 (0, 0)) (z26_13) hb)
               have n11_ := Aside0.mk (below_step (z26_0) hb)
               clear HO_774001
               clear HO_779001
               clear HO_787001
               clear HO802
               clear BK759
               clear BK760
               clear BK773
               clear BK778
               clear BK786
               clear BK810
               clear HB
               have HO_774001 := n0_
               have HO_779001 := n1_
               have HO_787001 := n2_
               have HO802 := n3_
               have HO808 := n4_
               have BK759 := n5_
               have BK760 := n6_
               have BK773 := n7_
               have BK778 := n8_
               have BK786 := n9_
               have BK810 := n10_
               have HB := n11_
               clear n0_ n1_ n2_ n3_ n4_ n5_ n6_ n7_ n8_ n9_ n10_ n11_
               (try clear hb)
               (try clear hb2)
               (try clear hk)
               (try clear hi)
               (try clear ho0)
               refine hK.out _ _ ⟨(blk_cell BK759.out 0).trans rfl, (blk_cell BK759.out 1).trans rfl, (blk_cell BK760.out 0).trans rfl, (blk_cell BK760.out 1).trans rfl⟩ (fun hHeld => ?_)
               clear hK K
               refine norm_ (a' := ?_) ?_ ?_
               rotate_left
               ·show Act.put _ (some 84) _ = _
                simp only [Act.put, List.setIfInBounds_toArray, List.set_cons_zero, List.set_cons_succ, i64_w, i32_w]
                rfl
               refine pure_ (i := 5) (N := some 79) (v := ?_) (a' := ?_) #[tt,tt,tt,tt,tt,tt,ff,ff,tt,ff,ff] rfl rfl (any_of HT_.out (by kernel_rfl)) (fun _ _ _ h => h) (Or.inl ⟨by rfl, ?_⟩) ?_ ?_
               rotate_left
               ·intro w'
                go_simp
                with_reducible rfl
               rotate_left
               ·simp only [Act.put, List.setIfInBounds_toArray, List.set_cons_zero, List.set_cons_succ, i64_w, i32_w]
                rfl
               refine pure_ (i := 6) (N := some 85) (v := ?_) (a' := ?_) #[tt,tt,tt,tt,tt,tt,tt,ff,tt,ff,ff] rfl rfl (any_of HT_.out (by kernel_rfl)) (fun _ _ _ h => h) (Or.inl ⟨by rfl, ?_⟩) ?_ ?_
               rotate_left
               ·intro w'
                go_simp
                with_reducible rfl
               rotate_left
               ·simp only [Act.put, List.setIfInBounds_toArray, List.set_cons_zero, List.set_cons_succ, i64_w, i32_w]
                rfl
               refine pure_ (i := 7) (N := some 86) (v := ?_) (a' := ?_) #[tt,tt,tt,tt,tt,tt,tt,tt,tt,ff,ff] rfl rfl (any_of HT_.out (by kernel_rfl)) (fun _ _ _ h => h) (Or.inl ⟨by rfl, ?_⟩) ?_ ?_
               rotate_left
               ·intro w'
                go_simp
                with_reducible rfl
               rotate_left
               ·simp only [Act.put, List.setIfInBounds_toArray, List.set_cons_zero, List.set_cons_succ, i64_w, i32_w]
                rfl
               exact norm_ (z26_14) (hCont (.slice Ao132 t800.length co132, v807, gb810) _ ⟨hHeld, (by (with_reducible repeat (first | apply ra | apply rb | apply rc)); exact Kd.R_mono HO802.out (fun _ hk => ⟨hk.2, ⟨hk.1.1.1.2, ⟨hk.1.1.2, hk.1.2⟩⟩⟩)), (by (with_reducible repeat (first | apply ra | apply rb | apply rc)); exact Kd.R_mono HO808.out (fun _ hk => ⟨hk.2, ⟨hk.1.1.1.2, ⟨hk.1.1.2, hk.1.2⟩⟩⟩)), (by (with_reducible repeat (first | apply ra | apply rb | apply rc)); exact Kd.R_mono HO_774001.out (fun _ hk => ⟨hk.1.2, ⟨hk.2, ⟨hk.1.1.1, hk.1.1.2⟩⟩⟩)), (by (with_reducible repeat (first | apply ra | apply rb | apply rc)); exact Kd.R_mono HO_779001.out (fun _ hk => ⟨hk.1.2, ⟨hk.2, ⟨hk.1.1.1, hk.1.1.2⟩⟩⟩)), (by (with_reducible repeat (first | apply ra | apply rb | apply rc)); exact Kd.R_mono HO_787001.out (fun _ hk => ⟨hk.1.2, ⟨hk.2, ⟨hk.1.1.1, hk.1.1.2⟩⟩⟩)), (z26_8), (z26_9), (z26_10), (z26_11), (z26_12), (z26_13), GW810.out, GE810.out, NB759_810.out, NB810_759.out, NB760_810.out, NB810_760.out, NB773_810.out, NB810_773.out, NB778_810.out, NB810_778.out, NB786_810.out, NB810_786.out, (z26_0)⟩)
             ·skip
              refine box_step ?hg (N := 14) ?hd (cs := #[.int .i64 0, .slice none 0 0]) (t := 46) ?hr ?_; (case hd => rfl); (case hg => rfl); (case hr => first | (go_simp; done) | (go_simp; rfl))
              intro gb810 hg w130 hbox hb
              have n0_ := Aside0.mk (Kd.R_below (by (with_reducible repeat (first | apply ra | apply rb | apply rc)); exact HO_774001.out) hb)
              have n1_ := Aside0.mk (Kd.R_below (by (with_reducible repeat (first | apply ra | apply rb | apply rc)); exact HO_779001.out) hb)
              have n2_ := Aside0.mk (Kd.R_below (by (with_reducible repeat (first | apply ra | apply rb | apply rc)); exact HO_787001.out) hb)
              have n3_ := Aside0.mk (Kd.R_below (by (with_reducible repeat (first | apply ra | apply rb | apply rc)); exact HO802.out) hb)
              have n4_ := Aside0.mk (blk_below (g := gb759) (o := .cells #[.int .i64 a0_0, .slice A0_1 l0_1.length c0_1] 42 (0, 0)) (z26_8) hb)
              have n5_ := Aside0.mk (blk_below (g := gb760) (o := .cells #[.int .i64 a1_0, .int .i64 a1_1] 23 (0, 0)) (z26_9) hb)
              have n6_ := Aside0.mk (blk_below (g := gb773) (o := .cells #[.int .i64 t768, .slice Ao30 t769.length co30] 46 (0, 0)) (z26_10) hb)
              have n7_ := Aside0.mk (blk_below (g := gb778) (o := .cells #[.int .i64 t774, .slice Ao40 t794.length co40] 46 (0, 0)) (z26_11) hb)
              have n8_ := Aside0.mk (blk_below (g := gb786) (o := .cells #[.int .i64 t781, .slice Ao48 t782.length co48] 46 (0, 0)) (z26_12) hb)
              have n9_ := Aside0.mk (below_step (z26_1) hb)
              have n10_ := Aside0.mk (hbox)
              have n11_ := Aside0.mk ((by rw [hg]; exact (below_size (z26_1)) : w.heap.size ≤ gb810))
              have n12_ := Aside0.mk ((by rw [hg]; exact (below_size (z26_1)) : w.heap.size ≤ gb810))
              have n13_ := Aside0.mk ((by rw [hg]; exact Nat.ne_of_lt (blk_lt (g := gb759) (o := .cells #[.int .i64 a0_0, .slice A0_1 l0_1.length c0_1] 42 (0, 0)) (z26_8)) : gb759 ≠ gb810))
              have n14_ := Aside0.mk ((by rw [hg]; exact Nat.ne_of_gt (blk_lt (g := gb759) (o := .cells #[.int .i64 a0_0, .slice A0_1 l0_1.length c0_1] 42 (0, 0)) (z26_8)) : gb810 ≠ gb759))
              have n15_ := Aside0.mk ((by rw [hg]; exact Nat.ne_of_lt (blk_lt (g := gb760) (o := .cells #[.int .i64 a1_0, .int .i64 a1_1] 23 (0, 0)) (z26_9)) : gb760 ≠ gb810))
              have n16_ := Aside0.mk ((by rw [hg]; exact Nat.ne_of_gt (blk_lt (g := gb760) (o := .cells #[.int .i64 a1_0, .int .i64 a1_1] 23 (0, 0)) (z26_9)) : gb810 ≠ gb760))
              have n17_ := Aside0.mk ((by rw [hg]; exact Nat.ne_of_lt (blk_lt (g := gb773) (o := .cells #[.int .i64 t768, .slice Ao30 t769.length co30] 46 (0, 0)) (z26_10)) : gb773 ≠ gb810))
              have n18_ := Aside0.mk ((by rw [hg]; exact Nat.ne_of_gt (blk_lt (g := gb773) (o := .cells #[.int .i64 t768, .slice Ao30 t769.length co30] 46 (0, 0)) (z26_10)) : gb810 ≠ gb773))
              have n19_ := Aside0.mk ((by rw [hg]; exact Nat.ne_of_lt (blk_lt (g := gb778) (o := .cells #[.int .i64 t774, .slice Ao40 t794.length co40] 46 (0, 0)) (z26_11)) : gb778 ≠ gb810))
              have n20_ := Aside0.mk ((by rw [hg]; exact Nat.ne_of_gt (blk_lt (g := gb778) (o := .cells #[.int .i64 t774, .slice Ao40 t794.length co40] 46 (0, 0)) (z26_11)) : gb810 ≠ gb778))
              have n21_ := Aside0.mk ((by rw [hg]; exact Nat.ne_of_lt (blk_lt (g := gb786) (o := .cells #[.int .i64 t781, .slice Ao48 t782.length co48] 46 (0, 0)) (z26_12)) : gb786 ≠ gb810))
              have n22_ := Aside0.mk ((by rw [hg]; exact Nat.ne_of_gt (blk_lt (g := gb786) (o := .cells #[.int .i64 t781, .slice Ao48 t782.length co48] 46 (0, 0)) (z26_12)) : gb810 ≠ gb786))
              clear HO_774001
              clear HO_779001
              clear HO_787001
              clear HO802
              clear BK759
              clear BK760
              clear BK773
              clear BK778
              clear BK786
              clear HB
              have HO_774001 := n0_
              have HO_779001 := n1_
              have HO_787001 := n2_
              have HO802 := n3_
              have BK759 := n4_
              have BK760 := n5_
              have BK773 := n6_
              have BK778 := n7_
              have BK786 := n8_
              have HB := n9_
              have BK810 := n10_
              have GW810 := n11_
              have GE810 := n12_
              have NB759_810 := n13_
              have NB810_759 := n14_
              have NB760_810 := n15_
              have NB810_760 := n16_
              have NB773_810 := n17_
              have NB810_773 := n18_
              have NB778_810 := n19_
              have NB810_778 := n20_
              have NB786_810 := n21_
              have NB810_786 := n22_
              clear n0_ n1_ n2_ n3_ n4_ n5_ n6_ n7_ n8_ n9_ n10_ n11_ n12_ n13_ n14_ n15_ n16_ n17_ n18_ n19_ n20_ n21_ n22_
              clear hb hbox hg
              refine hK.out _ _ ⟨(blk_cell BK759.out 0).trans rfl, (blk_cell BK759.out 1).trans rfl, (blk_cell BK760.out 0).trans rfl, (blk_cell BK760.out 1).trans rfl⟩ (fun hHeld => ?_)
              clear hK K
              refine norm_ (a' := ?_) ?_ ?_
              rotate_left
              ·show Act.put _ (some 14) _ = _
               simp only [Act.put, List.setIfInBounds_toArray, List.set_cons_zero, List.set_cons_succ, i64_w, i32_w]
               rfl
              refine one_ (i := 3) (N := some 83) #[tt,tt,tt,tt,ff,ff,ff,ff,tt,ff,ff] rfl rfl (one_of HT_.out (by kernel_rfl)) (by decide) (fun K hK => ?_)
              refine goes_ Try.func21 (by kernel_rfl) rfl #[.agg #[.int .i64 a1_0, .int .i64 a1_1]] (by rfl) rfl rfl (z26_6) ?_
              with_reducible refine (laws_toPage.calls a1_0 a1_1 t803 t804 _ A117.out).mono ?_
              rintro e w131 ⟨rfl, hb⟩
              refine ⟨_, rfl, ?_⟩
              have n0_ := Aside0.mk (Kd.R_below (by (with_reducible repeat (first | apply ra | apply rb | apply rc)); exact HO_774001.out) hb)
              have n1_ := Aside0.mk (Kd.R_below (by (with_reducible repeat (first | apply ra | apply rb | apply rc)); exact HO_779001.out) hb)
              have n2_ := Aside0.mk (Kd.R_below (by (with_reducible repeat (first | apply ra | apply rb | apply rc)); exact HO_787001.out) hb)
              have n3_ := Aside0.mk (Kd.R_below (by (with_reducible repeat (first | apply ra | apply rb | apply rc)); exact HO802.out) hb)
              have n4_ := Aside0.mk (blk_below (g := gb759) (o := .cells #[.int .i64 a0_0, .slice A0_1 l0_1.length c0_1] 42 (0, 0)) (z26_8) hb)
              have n5_ := Aside0.mk (blk_below (g := gb760) (o := .cells #[.int .i64 a1_0, .int .i64 a1_1] 23 (0, 0)) (z26_9) hb)
              have n6_ := Aside0.mk (blk_below (g := gb773) (o := .cells #[.int .i64 t768, .slice Ao30 t769.length co30] 46 (0, 0)) (z26_10) hb)
              have n7_ := Aside0.mk (blk_below (g := gb778) (o := .cells #[.int .i64 t774, .slice Ao40 t794.length co40] 46 (0, 0)) (z26_11) hb)
              have n8_ := Aside0.mk (blk_below (g := gb786) (o := .cells #[.int .i64 t781, .slice Ao48 t782.length co48] 46 (0, 0)) (z26_12) hb)
              have n9_ := Aside0.mk (blk_below (g := gb810) (o := .cells #[.int .i64 0, .slice none 0 0] 46 (0, 0)) (z26_13) hb)
              have n10_ := Aside0.mk (below_step (z26_0) hb)
              clear HO_774001
              clear HO_779001
              clear HO_787001
              clear HO802
              clear BK759
              clear BK760
              clear BK773
              clear BK778
              clear BK786
              clear BK810
              clear HB
              have HO_774001 := n0_
              have HO_779001 := n1_
              have HO_787001 := n2_
              have HO802 := n3_
              have BK759 := n4_
              have BK760 := n5_
              have BK773 := n6_
              have BK778 := n7_
              have BK786 := n8_
              have BK810 := n9_
              have HB := n10_
              clear n0_ n1_ n2_ n3_ n4_ n5_ n6_ n7_ n8_ n9_ n10_
              (try clear hb)
              (try clear hb2)
              (try clear hk)
              (try clear hi)
              obtain ⟨Ao132, co132, eo132⟩ := Kd.R_slice HO802.out
              (first | subst eo132 | (injection eo132 with f1_ f2_ f3_; have f4_ := f1_.symm; have f5_ := f3_.symm; clear f1_ f2_ f3_; subst f4_; subst f5_))
              refine hK.out _ _ ⟨(blk_cell BK759.out 0).trans rfl, (blk_cell BK759.out 1).trans rfl, (blk_cell BK760.out 0).trans rfl, (blk_cell BK760.out 1).trans rfl⟩ (fun hHeld => ?_)
              clear hK K
              refine norm_ (a' := ?_) ?_ ?_
              rotate_left
              ·show Act.put _ (some 83) _ = _
               simp only [Act.put, List.setIfInBounds_toArray, List.set_cons_zero, List.set_cons_succ, i64_w, i32_w]
               rfl
              refine one_ (i := 4) (N := some 84) #[tt,tt,tt,tt,tt,ff,ff,ff,tt,ff,ff] rfl rfl (one_of HT_.out (by kernel_rfl)) (by decide) (fun K hK => ?_)
              refine goes_ Try.func42 (by kernel_rfl) rfl #[.agg #[.int .i64 t799, .slice Ao132 t800.length co132], .agg #[.int .i64 t803, .int .i64 t804]] (by rfl) rfl rfl (z26_6) ?_
              with_reducible refine (impl_PoolUse.calls t799 _ _ t800 t803 t804 t805 t806 t809 _ ?side1 ?side2 A118.out).mono ?_
              (case side1 => repeat (first | exact (Kd.R_reads' HO802.out).2.2 | (with_reducible refine Kd.C_alloc ?_ _) | (with_reducible refine Kd.C_drewN ?_ _) | (with_reducible refine Kd.C_drew ?_)))
              (case side2 => exact (Kd.R_reads' HO802.out).2.1)
              rintro e w133 ⟨v807, rfl, ho0, hb⟩
              refine ⟨_, rfl, ?_⟩
              have n0_ := Aside0.mk (Kd.R_elder' (by (with_reducible repeat (first | apply ra | apply rb | apply rc)); exact HO_774001.out) (Kd.R_base ho0) hb)
              have n1_ := Aside0.mk (Kd.R_elder' (by (with_reducible repeat (first | apply ra | apply rb | apply rc)); exact HO_779001.out) (Kd.R_base ho0) hb)
              have n2_ := Aside0.mk (Kd.R_elder' (by (with_reducible repeat (first | apply ra | apply rb | apply rc)); exact HO_787001.out) (Kd.R_base ho0) hb)
              have n3_ := Aside0.mk (Kd.R_elder' (by (with_reducible repeat (first | apply ra | apply rb | apply rc)); exact HO802.out) (Kd.R_base ho0) hb)
              have n4_ := Aside0.mk (Kd.R_lower (Kd.R_new' (Kd.R_new' (Kd.R_new' (Kd.R_new' ho0 (Kd.R_lt (by (with_reducible repeat (first | apply ra | apply rb | apply rc)); exact HO_774001.out))) (Kd.R_lt (by (with_reducible repeat (first | apply ra | apply rb | apply rc)); exact HO_779001.out))) (Kd.R_lt (by (with_reducible repeat (first | apply ra | apply rb | apply rc)); exact HO_787001.out))) (Kd.R_lt (by (with_reducible repeat (first | apply ra | apply rb | apply rc)); exact HO802.out))) (below_size (z26_0)))
              have n5_ := Aside0.mk (blk_below (g := gb759) (o := .cells #[.int .i64 a0_0, .slice A0_1 l0_1.length c0_1] 42 (0, 0)) (z26_8) hb)
              have n6_ := Aside0.mk (blk_below (g := gb760) (o := .cells #[.int .i64 a1_0, .int .i64 a1_1] 23 (0, 0)) (z26_9) hb)
              have n7_ := Aside0.mk (blk_below (g := gb773) (o := .cells #[.int .i64 t768, .slice Ao30 t769.length co30] 46 (0, 0)) (z26_10) hb)
              have n8_ := Aside0.mk (blk_below (g := gb778) (o := .cells #[.int .i64 t774, .slice Ao40 t794.length co40] 46 (0, 0)) (z26_11) hb)
              have n9_ := Aside0.mk (blk_below (g := gb786) (o := .cells #[.int .i64 t781, .slice Ao48 t782.length co48] 46 (0, 0)) (z26_12) hb)
              have n10_ := Aside0.mk (blk_below (g := gb810) (o := .cells #[.int .i64 0, .slice none 0 0] 46 (0, 0)) (z26_13) hb)
              have n11_ := Aside0.mk (below_step (z26_0) hb)
              clear HO_774001
              clear HO_779001
              clear HO_787001
              clear HO802
              clear BK759
              clear BK760
              clear BK773
              clear BK778
              clear BK786
              clear BK810
              clear HB
              have HO_774001 := n0_
              have HO_779001 := n1_
              have HO_787001 := n2_
              have HO802 := n3_
              have HO808 := n4_
              have BK759 := n5_
              have BK760 := n6_
              have BK773 := n7_
              have BK778 := n8_
              have BK786 := n9_
              have BK810 := n10_
              have HB := n11_
              clear n0_ n1_ n2_ n3_ n4_ n5_ n6_ n7_ n8_ n9_ n10_ n11_
              (try clear hb)
              (try clear hb2)
              (try clear hk)
              (try clear hi)
              (try clear ho0)
              refine hK.out _ _ ⟨(blk_cell BK759.out 0).trans rfl, (blk_cell BK759.out 1).trans rfl, (blk_cell BK760.out 0).trans rfl, (blk_cell BK760.out 1).trans rfl⟩ (fun hHeld => ?_)
              clear hK K
              refine norm_ (a' := ?_) ?_ ?_
              rotate_left
              ·show Act.put _ (some 84) _ = _
               simp only [Act.put, List.setIfInBounds_toArray, List.set_cons_zero, List.set_cons_succ, i64_w, i32_w]
               rfl
              refine pure_ (i := 5) (N := some 79) (v := ?_) (a' := ?_) #[tt,tt,tt,tt,tt,tt,ff,ff,tt,ff,ff] rfl rfl (any_of HT_.out (by kernel_rfl)) (fun _ _ _ h => h) (Or.inl ⟨by rfl, ?_⟩) ?_ ?_
              rotate_left
              ·intro w'
               go_simp
               with_reducible rfl
              rotate_left
              ·simp only [Act.put, List.setIfInBounds_toArray, List.set_cons_zero, List.set_cons_succ, i64_w, i32_w]
               rfl
              refine pure_ (i := 6) (N := some 85) (v := ?_) (a' := ?_) #[tt,tt,tt,tt,tt,tt,tt,ff,tt,ff,ff] rfl rfl (any_of HT_.out (by kernel_rfl)) (fun _ _ _ h => h) (Or.inl ⟨by rfl, ?_⟩) ?_ ?_
              rotate_left
              ·intro w'
               go_simp
               with_reducible rfl
              rotate_left
              ·simp only [Act.put, List.setIfInBounds_toArray, List.set_cons_zero, List.set_cons_succ, i64_w, i32_w]
               rfl
              refine pure_ (i := 7) (N := some 86) (v := ?_) (a' := ?_) #[tt,tt,tt,tt,tt,tt,tt,tt,tt,ff,ff] rfl rfl (any_of HT_.out (by kernel_rfl)) (fun _ _ _ h => h) (Or.inl ⟨by rfl, ?_⟩) ?_ ?_
              rotate_left
              ·intro w'
               go_simp
               with_reducible rfl
              rotate_left
              ·simp only [Act.put, List.setIfInBounds_toArray, List.set_cons_zero, List.set_cons_succ, i64_w, i32_w]
               rfl
              exact norm_ (z26_14) (hCont (.slice Ao132 t800.length co132, v807, gb810) _ ⟨hHeld, (by (with_reducible repeat (first | apply ra | apply rb | apply rc)); exact Kd.R_mono HO802.out (fun _ hk => ⟨hk.2, ⟨hk.1.1.1.2, ⟨hk.1.1.2, hk.1.2⟩⟩⟩)), (by (with_reducible repeat (first | apply ra | apply rb | apply rc)); exact Kd.R_mono HO808.out (fun _ hk => ⟨hk.2, ⟨hk.1.1.1.2, ⟨hk.1.1.2, hk.1.2⟩⟩⟩)), (by (with_reducible repeat (first | apply ra | apply rb | apply rc)); exact Kd.R_mono HO_774001.out (fun _ hk => ⟨hk.1.2, ⟨hk.2, ⟨hk.1.1.1, hk.1.1.2⟩⟩⟩)), (by (with_reducible repeat (first | apply ra | apply rb | apply rc)); exact Kd.R_mono HO_779001.out (fun _ hk => ⟨hk.1.2, ⟨hk.2, ⟨hk.1.1.1, hk.1.1.2⟩⟩⟩)), (by (with_reducible repeat (first | apply ra | apply rb | apply rc)); exact Kd.R_mono HO_787001.out (fun _ hk => ⟨hk.1.2, ⟨hk.2, ⟨hk.1.1.1, hk.1.1.2⟩⟩⟩)), (z26_8), (z26_9), (z26_10), (z26_11), (z26_12), (z26_13), GW810.out, GE810.out, NB759_810.out, NB810_759.out, NB760_810.out, NB810_760.out, NB773_810.out, NB810_773.out, NB778_810.out, NB810_778.out, NB786_810.out, NB810_786.out, (z26_0)⟩)
            ·skip
             refine box_step ?hg (N := 14) ?hd (cs := #[.int .i64 0, .slice none 0 0]) (t := 46) ?hr ?_; (case hd => rfl); (case hg => rfl); (case hr => first | (go_simp; done) | (go_simp; rfl))
             intro gb810 hg w129 hbox hb
             have n0_ := Aside0.mk (Kd.R_below (by (with_reducible repeat (first | apply ra | apply rb | apply rc)); exact HO_774001.out) hb)
             have n1_ := Aside0.mk (Kd.R_below (by (with_reducible repeat (first | apply ra | apply rb | apply rc)); exact HO_779001.out) hb)
             have n2_ := Aside0.mk (Kd.R_below (by (with_reducible repeat (first | apply ra | apply rb | apply rc)); exact HO_787001.out) hb)
             have n3_ := Aside0.mk (blk_below (g := gb759) (o := .cells #[.int .i64 a0_0, .slice A0_1 l0_1.length c0_1] 42 (0, 0)) (z26_8) hb)
             have n4_ := Aside0.mk (blk_below (g := gb760) (o := .cells #[.int .i64 a1_0, .int .i64 a1_1] 23 (0, 0)) (z26_9) hb)
             have n5_ := Aside0.mk (blk_below (g := gb773) (o := .cells #[.int .i64 t768, .slice Ao30 t769.length co30] 46 (0, 0)) (z26_10) hb)
             have n6_ := Aside0.mk (blk_below (g := gb778) (o := .cells #[.int .i64 t774, .slice Ao40 t794.length co40] 46 (0, 0)) (z26_11) hb)
             have n7_ := Aside0.mk (blk_below (g := gb786) (o := .cells #[.int .i64 t781, .slice Ao48 t782.length co48] 46 (0, 0)) (z26_12) hb)
             have n8_ := Aside0.mk (below_step (z26_1) hb)
             have n9_ := Aside0.mk (hbox)
             have n10_ := Aside0.mk ((by rw [hg]; exact (below_size (z26_1)) : w.heap.size ≤ gb810))
             have n11_ := Aside0.mk ((by rw [hg]; exact (below_size (z26_1)) : w.heap.size ≤ gb810))
             have n12_ := Aside0.mk ((by rw [hg]; exact Nat.ne_of_lt (blk_lt (g := gb759) (o := .cells #[.int .i64 a0_0, .slice A0_1 l0_1.length c0_1] 42 (0, 0)) (z26_8)) : gb759 ≠ gb810))
             have n13_ := Aside0.mk ((by rw [hg]; exact Nat.ne_of_gt (blk_lt (g := gb759) (o := .cells #[.int .i64 a0_0, .slice A0_1 l0_1.length c0_1] 42 (0, 0)) (z26_8)) : gb810 ≠ gb759))
             have n14_ := Aside0.mk ((by rw [hg]; exact Nat.ne_of_lt (blk_lt (g := gb760) (o := .cells #[.int .i64 a1_0, .int .i64 a1_1] 23 (0, 0)) (z26_9)) : gb760 ≠ gb810))
             have n15_ := Aside0.mk ((by rw [hg]; exact Nat.ne_of_gt (blk_lt (g := gb760) (o := .cells #[.int .i64 a1_0, .int .i64 a1_1] 23 (0, 0)) (z26_9)) : gb810 ≠ gb760))
             have n16_ := Aside0.mk ((by rw [hg]; exact Nat.ne_of_lt (blk_lt (g := gb773) (o := .cells #[.int .i64 t768, .slice Ao30 t769.length co30] 46 (0, 0)) (z26_10)) : gb773 ≠ gb810))
             have n17_ := Aside0.mk ((by rw [hg]; exact Nat.ne_of_gt (blk_lt (g := gb773) (o := .cells #[.int .i64 t768, .slice Ao30 t769.length co30] 46 (0, 0)) (z26_10)) : gb810 ≠ gb773))
             have n18_ := Aside0.mk ((by rw [hg]; exact Nat.ne_of_lt (blk_lt (g := gb778) (o := .cells #[.int .i64 t774, .slice Ao40 t794.length co40] 46 (0, 0)) (z26_11)) : gb778 ≠ gb810))
             have n19_ := Aside0.mk ((by rw [hg]; exact Nat.ne_of_gt (blk_lt (g := gb778) (o := .cells #[.int .i64 t774, .slice Ao40 t794.length co40] 46 (0, 0)) (z26_11)) : gb810 ≠ gb778))
             have n20_ := Aside0.mk ((by rw [hg]; exact Nat.ne_of_lt (blk_lt (g := gb786) (o := .cells #[.int .i64 t781, .slice Ao48 t782.length co48] 46 (0, 0)) (z26_12)) : gb786 ≠ gb810))
             have n21_ := Aside0.mk ((by rw [hg]; exact Nat.ne_of_gt (blk_lt (g := gb786) (o := .cells #[.int .i64 t781, .slice Ao48 t782.length co48] 46 (0, 0)) (z26_12)) : gb810 ≠ gb786))
             clear HO_774001
             clear HO_779001
             clear HO_787001
             clear BK759
             clear BK760
             clear BK773
             clear BK778
             clear BK786
             clear HB
             have HO_774001 := n0_
             have HO_779001 := n1_
             have HO_787001 := n2_
             have BK759 := n3_
             have BK760 := n4_
             have BK773 := n5_
             have BK778 := n6_
             have BK786 := n7_
             have HB := n8_
             have BK810 := n9_
             have GW810 := n10_
             have GE810 := n11_
             have NB759_810 := n12_
             have NB810_759 := n13_
             have NB760_810 := n14_
             have NB810_760 := n15_
             have NB773_810 := n16_
             have NB810_773 := n17_
             have NB778_810 := n18_
             have NB810_778 := n19_
             have NB786_810 := n20_
             have NB810_786 := n21_
             clear n0_ n1_ n2_ n3_ n4_ n5_ n6_ n7_ n8_ n9_ n10_ n11_ n12_ n13_ n14_ n15_ n16_ n17_ n18_ n19_ n20_ n21_
             clear hb hbox hg
             refine hK.out _ _ ⟨(blk_cell BK759.out 0).trans rfl, (blk_cell BK759.out 1).trans rfl, (blk_cell BK760.out 0).trans rfl, (blk_cell BK760.out 1).trans rfl⟩ (fun hHeld => ?_)
             clear hK K
             refine norm_ (a' := ?_) ?_ ?_
             rotate_left
             ·show Act.put _ (some 14) _ = _
              simp only [Act.put, List.setIfInBounds_toArray, List.set_cons_zero, List.set_cons_succ, i64_w, i32_w]
              rfl
             refine one_ (i := 1) (N := some 81) #[tt,tt,tt,ff,ff,ff,ff,ff,tt,ff,ff] rfl rfl (one_of HT_.out (by kernel_rfl)) (by decide) (fun K hK => ?_)
             refine goes_ Try.func34 (by kernel_rfl) rfl #[.agg #[.int .i64 a0_0, .slice A0_1 l0_1.length c0_1]] (by rfl) rfl rfl (z26_6) ?_
             with_reducible refine (laws_toPool.calls kj76 a0_0 _ _ l0_1 t799 t800 _ ?side1 ?side2 A116.out).mono ?_
             (case side1 => repeat (first | exact (Kd.C_below HR0_1.out HB.out) | (with_reducible refine Kd.C_alloc ?_ _) | (with_reducible refine Kd.C_drewN ?_ _) | (with_reducible refine Kd.C_drew ?_)))
             (case side2 => exact HC0_1.out)
             rintro e w130 ⟨v801, rfl, ho0, hb⟩
             refine ⟨_, rfl, ?_⟩
             have n0_ := Aside0.mk (Kd.R_elder' (by (with_reducible repeat (first | apply ra | apply rb | apply rc)); exact HO_774001.out) (Kd.R_base ho0) hb)
             have n1_ := Aside0.mk (Kd.R_elder' (by (with_reducible repeat (first | apply ra | apply rb | apply rc)); exact HO_779001.out) (Kd.R_base ho0) hb)
             have n2_ := Aside0.mk (Kd.R_elder' (by (with_reducible repeat (first | apply ra | apply rb | apply rc)); exact HO_787001.out) (Kd.R_base ho0) hb)
             have n3_ := Aside0.mk (Kd.R_lower (Kd.R_new' (Kd.R_new' (Kd.R_new' ho0 (Kd.R_lt (by (with_reducible repeat (first | apply ra | apply rb | apply rc)); exact HO_774001.out))) (Kd.R_lt (by (with_reducible repeat (first | apply ra | apply rb | apply rc)); exact HO_779001.out))) (Kd.R_lt (by (with_reducible repeat (first | apply ra | apply rb | apply rc)); exact HO_787001.out))) (below_size (z26_0)))
             have n4_ := Aside0.mk (blk_below (g := gb759) (o := .cells #[.int .i64 a0_0, .slice A0_1 l0_1.length c0_1] 42 (0, 0)) (z26_8) hb)
             have n5_ := Aside0.mk (blk_below (g := gb760) (o := .cells #[.int .i64 a1_0, .int .i64 a1_1] 23 (0, 0)) (z26_9) hb)
             have n6_ := Aside0.mk (blk_below (g := gb773) (o := .cells #[.int .i64 t768, .slice Ao30 t769.length co30] 46 (0, 0)) (z26_10) hb)
             have n7_ := Aside0.mk (blk_below (g := gb778) (o := .cells #[.int .i64 t774, .slice Ao40 t794.length co40] 46 (0, 0)) (z26_11) hb)
             have n8_ := Aside0.mk (blk_below (g := gb786) (o := .cells #[.int .i64 t781, .slice Ao48 t782.length co48] 46 (0, 0)) (z26_12) hb)
             have n9_ := Aside0.mk (blk_below (g := gb810) (o := .cells #[.int .i64 0, .slice none 0 0] 46 (0, 0)) (z26_13) hb)
             have n10_ := Aside0.mk (below_step (z26_0) hb)
             clear HO_774001
             clear HO_779001
             clear HO_787001
             clear BK759
             clear BK760
             clear BK773
             clear BK778
             clear BK786
             clear BK810
             clear HB
             have HO_774001 := n0_
             have HO_779001 := n1_
             have HO_787001 := n2_
             have HO802 := n3_
             have BK759 := n4_
             have BK760 := n5_
             have BK773 := n6_
             have BK778 := n7_
             have BK786 := n8_
             have BK810 := n9_
             have HB := n10_
             clear n0_ n1_ n2_ n3_ n4_ n5_ n6_ n7_ n8_ n9_ n10_
             (try clear hb)
             (try clear hb2)
             (try clear hk)
             (try clear hi)
             (try clear ho0)
             refine hK.out _ _ ⟨(blk_cell BK759.out 0).trans rfl, (blk_cell BK759.out 1).trans rfl, (blk_cell BK760.out 0).trans rfl, (blk_cell BK760.out 1).trans rfl⟩ (fun hHeld => ?_)
             clear hK K
             refine norm_ (a' := ?_) ?_ ?_
             rotate_left
             ·show Act.put _ (some 81) _ = _
              simp only [Act.put, List.setIfInBounds_toArray, List.set_cons_zero, List.set_cons_succ, i64_w, i32_w]
              rfl
             refine one_ (i := 3) (N := some 83) #[tt,tt,tt,tt,ff,ff,ff,ff,tt,ff,ff] rfl rfl (one_of HT_.out (by kernel_rfl)) (by decide) (fun K hK => ?_)
             refine goes_ Try.func21 (by kernel_rfl) rfl #[.agg #[.int .i64 a1_0, .int .i64 a1_1]] (by rfl) rfl rfl (z26_6) ?_
             with_reducible refine (laws_toPage.calls a1_0 a1_1 t803 t804 _ A117.out).mono ?_
             rintro e w131 ⟨rfl, hb⟩
             refine ⟨_, rfl, ?_⟩
             have n0_ := Aside0.mk (Kd.R_below (by (with_reducible repeat (first | apply ra | apply rb | apply rc)); exact HO_774001.out) hb)
             have n1_ := Aside0.mk (Kd.R_below (by (with_reducible repeat (first | apply ra | apply rb | apply rc)); exact HO_779001.out) hb)
             have n2_ := Aside0.mk (Kd.R_below (by (with_reducible repeat (first | apply ra | apply rb | apply rc)); exact HO_787001.out) hb)
             have n3_ := Aside0.mk (Kd.R_below (by (with_reducible repeat (first | apply ra | apply rb | apply rc)); exact HO802.out) hb)
             have n4_ := Aside0.mk (blk_below (g := gb759) (o := .cells #[.int .i64 a0_0, .slice A0_1 l0_1.length c0_1] 42 (0, 0)) (z26_8) hb)
             have n5_ := Aside0.mk (blk_below (g := gb760) (o := .cells #[.int .i64 a1_0, .int .i64 a1_1] 23 (0, 0)) (z26_9) hb)
             have n6_ := Aside0.mk (blk_below (g := gb773) (o := .cells #[.int .i64 t768, .slice Ao30 t769.length co30] 46 (0, 0)) (z26_10) hb)
             have n7_ := Aside0.mk (blk_below (g := gb778) (o := .cells #[.int .i64 t774, .slice Ao40 t794.length co40] 46 (0, 0)) (z26_11) hb)
             have n8_ := Aside0.mk (blk_below (g := gb786) (o := .cells #[.int .i64 t781, .slice Ao48 t782.length co48] 46 (0, 0)) (z26_12) hb)
             have n9_ := Aside0.mk (blk_below (g := gb810) (o := .cells #[.int .i64 0, .slice none 0 0] 46 (0, 0)) (z26_13) hb)
             have n10_ := Aside0.mk (below_step (z26_0) hb)
             clear HO_774001
             clear HO_779001
             clear HO_787001
             clear HO802
             clear BK759
             clear BK760
             clear BK773
             clear BK778
             clear BK786
             clear BK810
             clear HB
             have HO_774001 := n0_
             have HO_779001 := n1_
             have HO_787001 := n2_
             have HO802 := n3_
             have BK759 := n4_
             have BK760 := n5_
             have BK773 := n6_
             have BK778 := n7_
             have BK786 := n8_
             have BK810 := n9_
             have HB := n10_
             clear n0_ n1_ n2_ n3_ n4_ n5_ n6_ n7_ n8_ n9_ n10_
             (try clear hb)
             (try clear hb2)
             (try clear hk)
             (try clear hi)
             obtain ⟨Ao132, co132, eo132⟩ := Kd.R_slice HO802.out
             (first | subst eo132 | (injection eo132 with f1_ f2_ f3_; have f4_ := f1_.symm; have f5_ := f3_.symm; clear f1_ f2_ f3_; subst f4_; subst f5_))
             refine hK.out _ _ ⟨(blk_cell BK759.out 0).trans rfl, (blk_cell BK759.out 1).trans rfl, (blk_cell BK760.out 0).trans rfl, (blk_cell BK760.out 1).trans rfl⟩ (fun hHeld => ?_)
             clear hK K
             refine norm_ (a' := ?_) ?_ ?_
             rotate_left
             ·show Act.put _ (some 83) _ = _
              simp only [Act.put, List.setIfInBounds_toArray, List.set_cons_zero, List.set_cons_succ, i64_w, i32_w]
              rfl
             refine one_ (i := 4) (N := some 84) #[tt,tt,tt,tt,tt,ff,ff,ff,tt,ff,ff] rfl rfl (one_of HT_.out (by kernel_rfl)) (by decide) (fun K hK => ?_)
             refine goes_ Try.func42 (by kernel_rfl) rfl #[.agg #[.int .i64 t799, .slice Ao132 t800.length co132], .agg #[.int .i64 t803, .int .i64 t804]] (by rfl) rfl rfl (z26_6) ?_
             with_reducible refine (impl_PoolUse.calls t799 _ _ t800 t803 t804 t805 t806 t809 _ ?side1 ?side2 A118.out).mono ?_
             (case side1 => repeat (first | exact (Kd.R_reads' HO802.out).2.2 | (with_reducible refine Kd.C_alloc ?_ _) | (with_reducible refine Kd.C_drewN ?_ _) | (with_reducible refine Kd.C_drew ?_)))
             (case side2 => exact (Kd.R_reads' HO802.out).2.1)
             rintro e w133 ⟨v807, rfl, ho0, hb⟩
             refine ⟨_, rfl, ?_⟩
             have n0_ := Aside0.mk (Kd.R_elder' (by (with_reducible repeat (first | apply ra | apply rb | apply rc)); exact HO_774001.out) (Kd.R_base ho0) hb)
             have n1_ := Aside0.mk (Kd.R_elder' (by (with_reducible repeat (first | apply ra | apply rb | apply rc)); exact HO_779001.out) (Kd.R_base ho0) hb)
             have n2_ := Aside0.mk (Kd.R_elder' (by (with_reducible repeat (first | apply ra | apply rb | apply rc)); exact HO_787001.out) (Kd.R_base ho0) hb)
             have n3_ := Aside0.mk (Kd.R_elder' (by (with_reducible repeat (first | apply ra | apply rb | apply rc)); exact HO802.out) (Kd.R_base ho0) hb)
             have n4_ := Aside0.mk (Kd.R_lower (Kd.R_new' (Kd.R_new' (Kd.R_new' (Kd.R_new' ho0 (Kd.R_lt (by (with_reducible repeat (first | apply ra | apply rb | apply rc)); exact HO_774001.out))) (Kd.R_lt (by (with_reducible repeat (first | apply ra | apply rb | apply rc)); exact HO_779001.out))) (Kd.R_lt (by (with_reducible repeat (first | apply ra | apply rb | apply rc)); exact HO_787001.out))) (Kd.R_lt (by (with_reducible repeat (first | apply ra | apply rb | apply rc)); exact HO802.out))) (below_size (z26_0)))
             have n5_ := Aside0.mk (blk_below (g := gb759) (o := .cells #[.int .i64 a0_0, .slice A0_1 l0_1.length c0_1] 42 (0, 0)) (z26_8) hb)
             have n6_ := Aside0.mk (blk_below (g := gb760) (o := .cells #[.int .i64 a1_0, .int .i64 a1_1] 23 (0, 0)) (z26_9) hb)
             have n7_ := Aside0.mk (blk_below (g := gb773) (o := .cells #[.int .i64 t768, .slice Ao30 t769.length co30] 46 (0, 0)) (z26_10) hb)
             have n8_ := Aside0.mk (blk_below (g := gb778) (o := .cells #[.int .i64 t774, .slice Ao40 t794.length co40] 46 (0, 0)) (z26_11) hb)
             have n9_ := Aside0.mk (blk_below (g := gb786) (o := .cells #[.int .i64 t781, .slice Ao48 t782.length co48] 46 (0, 0)) (z26_12) hb)
             have n10_ := Aside0.mk (blk_below (g := gb810) (o := .cells #[.int .i64 0, .slice none 0 0] 46 (0, 0)) (z26_13) hb)
             have n11_ := Aside0.mk (below_step (z26_0) hb)
             clear HO_774001
             clear HO_779001
             clear HO_787001
             clear HO802
             clear BK759
             clear BK760
             clear BK773
             clear BK778
             clear BK786
             clear BK810
             clear HB
             have HO_774001 := n0_
             have HO_779001 := n1_
             have HO_787001 := n2_
             have HO802 := n3_
             have HO808 := n4_
             have BK759 := n5_
             have BK760 := n6_
             have BK773 := n7_
             have BK778 := n8_
             have BK786 := n9_
             have BK810 := n10_
             have HB := n11_
             clear n0_ n1_ n2_ n3_ n4_ n5_ n6_ n7_ n8_ n9_ n10_ n11_
             (try clear hb)
             (try clear hb2)
             (try clear hk)
             (try clear hi)
             (try clear ho0)
             refine hK.out _ _ ⟨(blk_cell BK759.out 0).trans rfl, (blk_cell BK759.out 1).trans rfl, (blk_cell BK760.out 0).trans rfl, (blk_cell BK760.out 1).trans rfl⟩ (fun hHeld => ?_)
             clear hK K
             refine norm_ (a' := ?_) ?_ ?_
             rotate_left
             ·show Act.put _ (some 84) _ = _
              simp only [Act.put, List.setIfInBounds_toArray, List.set_cons_zero, List.set_cons_succ, i64_w, i32_w]
              rfl
             refine pure_ (i := 5) (N := some 79) (v := ?_) (a' := ?_) #[tt,tt,tt,tt,tt,tt,ff,ff,tt,ff,ff] rfl rfl (any_of HT_.out (by kernel_rfl)) (fun _ _ _ h => h) (Or.inl ⟨by rfl, ?_⟩) ?_ ?_
             rotate_left
             ·intro w'
              go_simp
              with_reducible rfl
             rotate_left
             ·simp only [Act.put, List.setIfInBounds_toArray, List.set_cons_zero, List.set_cons_succ, i64_w, i32_w]
              rfl
             refine pure_ (i := 6) (N := some 85) (v := ?_) (a' := ?_) #[tt,tt,tt,tt,tt,tt,tt,ff,tt,ff,ff] rfl rfl (any_of HT_.out (by kernel_rfl)) (fun _ _ _ h => h) (Or.inl ⟨by rfl, ?_⟩) ?_ ?_
             rotate_left
             ·intro w'
              go_simp
              with_reducible rfl
             rotate_left
             ·simp only [Act.put, List.setIfInBounds_toArray, List.set_cons_zero, List.set_cons_succ, i64_w, i32_w]
              rfl
             refine pure_ (i := 7) (N := some 86) (v := ?_) (a' := ?_) #[tt,tt,tt,tt,tt,tt,tt,tt,tt,ff,ff] rfl rfl (any_of HT_.out (by kernel_rfl)) (fun _ _ _ h => h) (Or.inl ⟨by rfl, ?_⟩) ?_ ?_
             rotate_left
             ·intro w'
              go_simp
              with_reducible rfl
             rotate_left
             ·simp only [Act.put, List.setIfInBounds_toArray, List.set_cons_zero, List.set_cons_succ, i64_w, i32_w]
              rfl
             exact norm_ (z26_14) (hCont (.slice Ao132 t800.length co132, v807, gb810) _ ⟨hHeld, (by (with_reducible repeat (first | apply ra | apply rb | apply rc)); exact Kd.R_mono HO802.out (fun _ hk => ⟨hk.2, ⟨hk.1.1.1.2, ⟨hk.1.1.2, hk.1.2⟩⟩⟩)), (by (with_reducible repeat (first | apply ra | apply rb | apply rc)); exact Kd.R_mono HO808.out (fun _ hk => ⟨hk.2, ⟨hk.1.1.1.2, ⟨hk.1.1.2, hk.1.2⟩⟩⟩)), (by (with_reducible repeat (first | apply ra | apply rb | apply rc)); exact Kd.R_mono HO_774001.out (fun _ hk => ⟨hk.1.2, ⟨hk.2, ⟨hk.1.1.1, hk.1.1.2⟩⟩⟩)), (by (with_reducible repeat (first | apply ra | apply rb | apply rc)); exact Kd.R_mono HO_779001.out (fun _ hk => ⟨hk.1.2, ⟨hk.2, ⟨hk.1.1.1, hk.1.1.2⟩⟩⟩)), (by (with_reducible repeat (first | apply ra | apply rb | apply rc)); exact Kd.R_mono HO_787001.out (fun _ hk => ⟨hk.1.2, ⟨hk.2, ⟨hk.1.1.1, hk.1.1.2⟩⟩⟩)), (z26_8), (z26_9), (z26_10), (z26_11), (z26_12), (z26_13), GW810.out, GE810.out, NB759_810.out, NB810_759.out, NB760_810.out, NB810_760.out, NB773_810.out, NB810_773.out, NB778_810.out, NB810_778.out, NB786_810.out, NB810_786.out, (z26_0)⟩)
           rintro ⟨v801, v807, gb810⟩ w134 ⟨hS_, h0_, h1_, h2_, h3_, h4_, h5_, h6_, h7_, h8_, h9_, h10_, h11_, h12_, h13_, h14_, h15_, h16_, h17_, h18_, h19_, h20_, h21_, h22_, h23_⟩
           have n0_ : Aside0 (Kd.R k25 25 w134 w.heap.size (fun k_ => some k_ ≠ (v807 : Value).ownBlock ∧ some k_ ≠ (.slice Ao30 t769.length co30 : Value).ownBlock ∧ some k_ ≠ (.slice Ao40 t794.length co40 : Value).ownBlock ∧ some k_ ≠ (.slice Ao48 t782.length co48 : Value).ownBlock) v801 t800) := ⟨h0_⟩
           have n1_ : Aside0 (Kd.R k25 25 w134 w.heap.size (fun k_ => some k_ ≠ (v801 : Value).ownBlock ∧ some k_ ≠ (.slice Ao30 t769.length co30 : Value).ownBlock ∧ some k_ ≠ (.slice Ao40 t794.length co40 : Value).ownBlock ∧ some k_ ≠ (.slice Ao48 t782.length co48 : Value).ownBlock) v807 t806) := ⟨h1_⟩
           have n2_ : Aside0 (Kd.R k25 25 w134 w.heap.size (fun k_ => some k_ ≠ (v801 : Value).ownBlock ∧ some k_ ≠ (v807 : Value).ownBlock ∧ some k_ ≠ (.slice Ao40 t794.length co40 : Value).ownBlock ∧ some k_ ≠ (.slice Ao48 t782.length co48 : Value).ownBlock) (.slice Ao30 t769.length co30) t769) := ⟨h2_⟩
           have n3_ : Aside0 (Kd.R k25 25 w134 w.heap.size (fun k_ => some k_ ≠ (v801 : Value).ownBlock ∧ some k_ ≠ (v807 : Value).ownBlock ∧ some k_ ≠ (.slice Ao30 t769.length co30 : Value).ownBlock ∧ some k_ ≠ (.slice Ao48 t782.length co48 : Value).ownBlock) (.slice Ao40 t794.length co40) t794) := ⟨h3_⟩
           have n4_ : Aside0 (Kd.R k25 25 w134 w.heap.size (fun k_ => some k_ ≠ (v801 : Value).ownBlock ∧ some k_ ≠ (v807 : Value).ownBlock ∧ some k_ ≠ (.slice Ao30 t769.length co30 : Value).ownBlock ∧ some k_ ≠ (.slice Ao40 t794.length co40 : Value).ownBlock) (.slice Ao48 t782.length co48) t797) := ⟨h4_⟩
           have n5_ : Aside0 (w134.heap[gb759]? = some (.cells #[.int .i64 a0_0, .slice A0_1 l0_1.length c0_1] 42 (0, 0))) := ⟨h5_⟩
           have n6_ : Aside0 (w134.heap[gb760]? = some (.cells #[.int .i64 a1_0, .int .i64 a1_1] 23 (0, 0))) := ⟨h6_⟩
           have n7_ : Aside0 (w134.heap[gb773]? = some (.cells #[.int .i64 t768, .slice Ao30 t769.length co30] 46 (0, 0))) := ⟨h7_⟩
           have n8_ : Aside0 (w134.heap[gb778]? = some (.cells #[.int .i64 t774, .slice Ao40 t794.length co40] 46 (0, 0))) := ⟨h8_⟩
           have n9_ : Aside0 (w134.heap[gb786]? = some (.cells #[.int .i64 t781, .slice Ao48 t782.length co48] 46 (0, 0))) := ⟨h9_⟩
           have n10_ : Aside0 (w134.heap[gb810]? = some (.cells #[.int .i64 0, .slice none 0 0] 46 (0, 0))) := ⟨h10_⟩
           have n11_ : Aside0 (w.heap.size ≤ gb810) := ⟨h11_⟩
           have n12_ : Aside0 (w.heap.size ≤ gb810) := ⟨h12_⟩
           have n13_ : Aside0 (gb759 ≠ gb810) := ⟨h13_⟩
           have n14_ : Aside0 (gb810 ≠ gb759) := ⟨h14_⟩
           have n15_ : Aside0 (gb760 ≠ gb810) := ⟨h15_⟩
           have n16_ : Aside0 (gb810 ≠ gb760) := ⟨h16_⟩
           have n17_ : Aside0 (gb773 ≠ gb810) := ⟨h17_⟩
           have n18_ : Aside0 (gb810 ≠ gb773) := ⟨h18_⟩
           have n19_ : Aside0 (gb778 ≠ gb810) := ⟨h19_⟩
           have n20_ : Aside0 (gb810 ≠ gb778) := ⟨h20_⟩
           have n21_ : Aside0 (gb786 ≠ gb810) := ⟨h21_⟩
           have n22_ : Aside0 (gb810 ≠ gb786) := ⟨h22_⟩
           have n23_ : Aside0 (Below w.heap.size w w134) := ⟨h23_⟩
           clear HO_774001
           clear HO_779001
           clear HO_787001
           clear BK759
           clear BK760
           clear BK773
           clear BK778
           clear BK786
           clear HB
           clear h0_ h1_ h2_ h3_ h4_ h5_ h6_ h7_ h8_ h9_ h10_ h11_ h12_ h13_ h14_ h15_ h16_ h17_ h18_ h19_ h20_ h21_ h22_ h23_
           have HO802 := n0_
           have HO808 := n1_
           have HO_774001 := n2_
           have HO_779001 := n3_
           have HO_787001 := n4_
           have BK759 := n5_
           have BK760 := n6_
           have BK773 := n7_
           have BK778 := n8_
           have BK786 := n9_
           have BK810 := n10_
           have GW810 := n11_
           have GE810 := n12_
           have NB759_810 := n13_
           have NB810_759 := n14_
           have NB760_810 := n15_
           have NB810_760 := n16_
           have NB773_810 := n17_
           have NB810_773 := n18_
           have NB778_810 := n19_
           have NB810_778 := n20_
           have NB786_810 := n21_
           have NB810_786 := n22_
           have HB := n23_
           clear n0_ n1_ n2_ n3_ n4_ n5_ n6_ n7_ n8_ n9_ n10_ n11_ n12_ n13_ n14_ n15_ n16_ n17_ n18_ n19_ n20_ n21_ n22_ n23_
           have hHeld : w134.cell? ⟨gb759, 0, none⟩ = some (.int .i64 a0_0) ∧ w134.cell? ⟨gb759, 1, none⟩ = some (.slice A0_1 l0_1.length c0_1) ∧ w134.cell? ⟨gb760, 0, none⟩ = some (.int .i64 a1_0) ∧ w134.cell? ⟨gb760, 1, none⟩ = some (.int .i64 a1_1) := hS_
           obtain ⟨Ao136, co136, eo136⟩ := Kd.R_slice HO808.out
           (first | subst eo136 | (injection eo136 with f1_ f2_ f3_; have f4_ := f1_.symm; have f5_ := f3_.symm; clear f1_ f2_ f3_; subst f4_; subst f5_))
           refine norm_ (a' := ?_) ?_ ?_
           rotate_left
           ·simp only [putAll, Act.put, List.setIfInBounds_toArray, List.set_cons_zero, List.set_cons_succ]
            rfl
           refine one_ (i := 9) (N := none) #[tt,tt,tt,tt,tt,tt,tt,tt,tt,tt,ff] rfl rfl (one_of HT_.out (by kernel_rfl)) (by decide) (fun K hK => ?_)
           have hs135 : w134.cell? ⟨gb810, 0, none⟩ = some (.int .i64 0) := (blk_cell BK810.out 0).trans rfl
           have hfs135 := blk_frozen BK810.out 0
           have hns135_0 := NB759_810.out
           have hns135_1 := NB760_810.out
           have hns135_2 := NB773_810.out
           have hns135_3 := NB778_810.out
           have hns135_4 := NB786_810.out
           have hms135_0 := NB810_759.out
           have hms135_1 := NB810_760.out
           have hms135_2 := NB810_773.out
           have hms135_3 := NB810_778.out
           have hms135_4 := NB810_786.out
           have hs137 : w134.cell? ⟨gb810, 1, none⟩ = some (.slice none 0 0) := (blk_cell BK810.out 1).trans rfl
           have hfs137 := blk_frozen BK810.out 1
           have hns137_0 := NB759_810.out
           have hns137_1 := NB760_810.out
           have hns137_2 := NB773_810.out
           have hns137_3 := NB778_810.out
           have hns137_4 := NB786_810.out
           have hms137_0 := NB810_759.out
           have hms137_1 := NB810_760.out
           have hms137_2 := NB810_773.out
           have hms137_3 := NB810_778.out
           have hms137_4 := NB810_786.out
           refine skip_ (w1 := ?_) (by rfl) rfl ?_ ?_
           rotate_left
           ·go_simp
            rfl
           refine hK.out _ _ ⟨((cell_far (p := ⟨gb810, _, none⟩) NB759_810.out _).trans (((cell_far (p := ⟨gb810, _, none⟩) NB759_810.out _).trans (hHeld.1)))), ((cell_far (p := ⟨gb810, _, none⟩) NB759_810.out _).trans (((cell_far (p := ⟨gb810, _, none⟩) NB759_810.out _).trans (hHeld.2.1)))), ((cell_far (p := ⟨gb810, _, none⟩) NB760_810.out _).trans (((cell_far (p := ⟨gb810, _, none⟩) NB760_810.out _).trans (hHeld.2.2.1)))), ((cell_far (p := ⟨gb810, _, none⟩) NB760_810.out _).trans (((cell_far (p := ⟨gb810, _, none⟩) NB760_810.out _).trans (hHeld.2.2.2))))⟩ (fun hHeld => ?_)
           clear hK K
           refine pure_ (i := 10) (N := some 15) (v := ?_) (a' := ?_) #[tt,tt,tt,tt,tt,tt,tt,tt,tt,tt,tt] rfl rfl (any_of HT_.out (by kernel_rfl)) (fun _ _ _ h => h) (Or.inl ⟨by rfl, ?_⟩) ?_ ?_
           rotate_left
           ·intro w'
            go_simp
            with_reducible rfl
           rotate_left
           ·simp only [Act.put, List.setIfInBounds_toArray, List.set_cons_zero, List.set_cons_succ, i64_w, i32_w]
            rfl
           refine done_ (done_of HT_.out (by kernel_rfl)) ?_
           go_upto_region 25 with (fail)
           go_cut [95] (fun v95 wc => ∃ (kq : Nat) (x95_118 : Bool), v95 = .bool x95_118 ∧ Aside0 (laws_FnExactPoolUse.j2 kq t796 x95_118 t781 t797 = some r) ∧ Aside0 (kq ≤ kj76) ∧ Aside0 (Kd.R k25 25 wc w.heap.size (fun k_ => some k_ ≠ ((.slice Ao40 t794.length co40) : Value).ownBlock ∧ some k_ ≠ ((.slice Ao48 t782.length co48) : Value).ownBlock ∧ some k_ ≠ ((.slice Ao136 t806.length co136) : Value).ownBlock) (.slice Ao30 t769.length co30) t769) ∧ Aside0 (Kd.R k25 25 wc w.heap.size (fun k_ => some k_ ≠ ((.slice Ao30 t769.length co30) : Value).ownBlock ∧ some k_ ≠ ((.slice Ao48 t782.length co48) : Value).ownBlock ∧ some k_ ≠ ((.slice Ao136 t806.length co136) : Value).ownBlock) (.slice Ao40 t794.length co40) t794) ∧ Aside0 (Kd.R k25 25 wc w.heap.size (fun k_ => some k_ ≠ ((.slice Ao30 t769.length co30) : Value).ownBlock ∧ some k_ ≠ ((.slice Ao40 t794.length co40) : Value).ownBlock ∧ some k_ ≠ ((.slice Ao136 t806.length co136) : Value).ownBlock) (.slice Ao48 t782.length co48) t797) ∧ Aside0 (Kd.R k25 25 wc w.heap.size (fun k_ => some k_ ≠ ((.slice Ao30 t769.length co30) : Value).ownBlock ∧ some k_ ≠ ((.slice Ao40 t794.length co40) : Value).ownBlock ∧ some k_ ≠ ((.slice Ao48 t782.length co48) : Value).ownBlock) (.slice Ao136 t806.length co136) t806) ∧ Aside0 (wc.heap[gb759]? = some (.cells #[.int .i64 a0_0, (.slice A0_1 l0_1.length c0_1)] 42 (0, 0))) ∧ Aside0 (wc.heap[gb760]? = some (.cells #[.int .i64 a1_0, .int .i64 a1_1] 23 (0, 0))) ∧ Aside0 (wc.heap[gb773]? = some (.cells #[.int .i64 t768, (.slice Ao30 t769.length co30)] 46 (0, 0))) ∧ Aside0 (wc.heap[gb778]? = some (.cells #[.int .i64 t774, (.slice Ao40 t794.length co40)] 46 (0, 0))) ∧ Aside0 (wc.heap[gb786]? = some (.cells #[.int .i64 t781, (.slice Ao48 t782.length co48)] 46 (0, 0))) ∧ Aside0 (wc.heap[gb810]? = some (.cells #[.int .i64 t805, (.slice Ao136 t806.length co136)] 46 (0, 0))) ∧ Aside0 (Below w.heap.size w wc))
           case first =>
            have H := HC119.out
            clear HC119
            replace H := Option.bind_eq_some_iff.mp H
            obtain ⟨t811, A1380, H⟩ := H
            replace H : (if t811 = true then (laws_FnExactPoolUse.j2 kj76 t796 (t809 != t772) t781 t797) else (laws_FnExactPoolUse.j2 kj76 t796 true t781 t797)) = some r := H
            have A138 := Aside0.mk A1380
            clear A1380
            by_cases c139 : t811 = true
            ·subst c139
             have H1 : (laws_FnExactPoolUse.j2 kj76 t796 (t809 != t772) t781 t797) = some r := by rw [if_pos rfl] at H; exact H
             clear H
             have H := H1
             clear H1
             have H' := Aside0.mk H
             clear H
             have hnb140 := NB810_759.out
             have hnc140 := NB759_810.out
             have hnb141 := NB810_760.out
             have hnc141 := NB760_810.out
             have hnb142 := NB810_773.out
             have hnc142 := NB773_810.out
             have hnb143 := NB810_778.out
             have hnc143 := NB778_810.out
             have hnb144 := NB810_786.out
             have hnc144 := NB786_810.out
             have hcz145_0 : w134.cell? ⟨gb810, 0, none⟩ = some (.int .i64 0) := (blk_cell BK810.out 0).trans rfl
             have hcz145_1 : w134.cell? ⟨gb810, 1, none⟩ = some (.slice none 0 0) := (blk_cell BK810.out 1).trans rfl
             have hfz145_0 := blk_frozen BK810.out 0
             have hfz145_1 := blk_frozen BK810.out 1
             have hnb146 := NB773_759.out
             have hnc146 := NB759_773.out
             have hnb147 := NB773_760.out
             have hnc147 := NB760_773.out
             have hnb148 := NB773_778.out
             have hnc148 := NB778_773.out
             have hnb149 := NB773_786.out
             have hnc149 := NB786_773.out
             have hcz150_0 : w134.cell? ⟨gb773, 0, none⟩ = some (.int .i64 t768) := (blk_cell BK773.out 0).trans rfl
             have hcz150_1 : w134.cell? ⟨gb773, 1, none⟩ = some (.slice Ao30 t769.length co30) := (blk_cell BK773.out 1).trans rfl
             have hfz150_0 := blk_frozen BK773.out 0
             have hfz150_1 := blk_frozen BK773.out 1
             go_wp2_with (first | ((with_reducible refine gate_callee (f := 36) rfl ?_); refine goesL_ (some 89) rfl rfl Try.func36 (by kernel_rfl) rfl #[.agg #[.int .i64 t805, .slice Ao136 t806.length co136], .agg #[.int .i64 t768, .slice Ao30 t769.length co30]] rfl (z26_6) ?_; (with_reducible refine (laws_eqPool.calls kj76 t805 _ _ t806 t768 _ _ t769 true _ ?side1 ?side2 ?side3 ?side4 A138.out).mono ?_); (case side1 => refine (Kd.R_reads' (e := 25) (base := w.heap.size) (ok := fun k_ => (some k_ ≠ (v801 : Value).ownBlock ∧ (some k_ ≠ (.slice Ao30 t769.length co30 : Value).ownBlock ∧ (some k_ ≠ (.slice Ao40 t794.length co40 : Value).ownBlock ∧ some k_ ≠ (.slice Ao48 t782.length co48 : Value).ownBlock)))) (n := t806.length) (c := co136) ?_).2.2; exact (by (with_reducible repeat (first | apply ra | apply rb | apply rc)); exact (Kd.R_mono (Kd.R_far (p := ⟨gb810, 1, none⟩) (Kd.R_far (p := ⟨gb810, 0, none⟩) (Kd.R_types HO808.out BK810.out (by decide)) (fun _ hk => hk.2) (.int .i64 t805)) (fun _ hk => hk.2) (.slice Ao136 t806.length co136)) (fun _ h_ => h_.1)))); (case side2 => exact (Kd.R_reads' HO808.out).2.1); (case side3 => refine (Kd.R_reads' (e := 25) (base := w.heap.size) (ok := fun k_ => (some k_ ≠ (v801 : Value).ownBlock ∧ (some k_ ≠ (.slice Ao136 t806.length co136 : Value).ownBlock ∧ (some k_ ≠ (.slice Ao40 t794.length co40 : Value).ownBlock ∧ some k_ ≠ (.slice Ao48 t782.length co48 : Value).ownBlock)))) (n := t769.length) (c := co30) ?_).2.2; exact (by (with_reducible repeat (first | apply ra | apply rb | apply rc)); exact (Kd.R_mono (Kd.R_far (p := ⟨gb810, 1, none⟩) (Kd.R_far (p := ⟨gb810, 0, none⟩) (Kd.R_types HO_774001.out BK810.out (by decide)) (fun _ hk => hk.2) (.int .i64 t805)) (fun _ hk => hk.2) (.slice Ao136 t806.length co136)) (fun _ h_ => h_.1)))); (case side4 => exact (Kd.R_reads' HO_774001.out).2.1); rintro e w151 ⟨rfl, hb⟩; refine ⟨_, rfl, ?_⟩; have n0_ := Aside0.mk (Kd.R_below (by (with_reducible repeat (first | apply ra | apply rb | apply rc)); exact (Kd.R_mono (Kd.R_far (p := ⟨gb810, 1, none⟩) (Kd.R_far (p := ⟨gb810, 0, none⟩) (Kd.R_types HO_774001.out BK810.out (by decide)) (fun _ hk => hk.2) (.int .i64 t805)) (fun _ hk => hk.2) (.slice Ao136 t806.length co136)) (fun _ h_ => h_.1))) hb); have n1_ := Aside0.mk (Kd.R_below (by (with_reducible repeat (first | apply ra | apply rb | apply rc)); exact (Kd.R_mono (Kd.R_far (p := ⟨gb810, 1, none⟩) (Kd.R_far (p := ⟨gb810, 0, none⟩) (Kd.R_types HO_779001.out BK810.out (by decide)) (fun _ hk => hk.2) (.int .i64 t805)) (fun _ hk => hk.2) (.slice Ao136 t806.length co136)) (fun _ h_ => h_.1))) hb); have n2_ := Aside0.mk (Kd.R_below (by (with_reducible repeat (first | apply ra | apply rb | apply rc)); exact (Kd.R_mono (Kd.R_far (p := ⟨gb810, 1, none⟩) (Kd.R_far (p := ⟨gb810, 0, none⟩) (Kd.R_types HO_787001.out BK810.out (by decide)) (fun _ hk => hk.2) (.int .i64 t805)) (fun _ hk => hk.2) (.slice Ao136 t806.length co136)) (fun _ h_ => h_.1))) hb); have n3_ := Aside0.mk (Kd.R_below (by (with_reducible repeat (first | apply ra | apply rb | apply rc)); exact (Kd.R_mono (Kd.R_far (p := ⟨gb810, 1, none⟩) (Kd.R_far (p := ⟨gb810, 0, none⟩) (Kd.R_types HO802.out BK810.out (by decide)) (fun _ hk => hk.2) (.int .i64 t805)) (fun _ hk => hk.2) (.slice Ao136 t806.length co136)) (fun _ h_ => h_.1))) hb); have n4_ := Aside0.mk (Kd.R_below (by (with_reducible repeat (first | apply ra | apply rb | apply rc)); exact (Kd.R_mono (Kd.R_far (p := ⟨gb810, 1, none⟩) (Kd.R_far (p := ⟨gb810, 0, none⟩) (Kd.R_types HO808.out BK810.out (by decide)) (fun _ hk => hk.2) (.int .i64 t805)) (fun _ hk => hk.2) (.slice Ao136 t806.length co136)) (fun _ h_ => h_.1))) hb); have n5_ := Aside0.mk (blk_below (g := gb759) (o := .cells #[.int .i64 a0_0, .slice A0_1 l0_1.length c0_1] 42 (0, 0)) (by (with_reducible repeat (first | refine ba ?_ _ | refine bb ?_ | refine bc ?_ _)); refine blk_far ?_ NB759_810.out _; (with_reducible repeat (first | refine ba ?_ _ | refine bb ?_ | refine bc ?_ _)); refine blk_far ?_ NB759_810.out _; (with_reducible repeat (first | refine ba ?_ _ | refine bb ?_ | refine bc ?_ _)); exact BK759.out) hb); have n6_ := Aside0.mk (blk_below (g := gb760) (o := .cells #[.int .i64 a1_0, .int .i64 a1_1] 23 (0, 0)) (by (with_reducible repeat (first | refine ba ?_ _ | refine bb ?_ | refine bc ?_ _)); refine blk_far ?_ NB760_810.out _; (with_reducible repeat (first | refine ba ?_ _ | refine bb ?_ | refine bc ?_ _)); refine blk_far ?_ NB760_810.out _; (with_reducible repeat (first | refine ba ?_ _ | refine bb ?_ | refine bc ?_ _)); exact BK760.out) hb); have n7_ := Aside0.mk (blk_below (g := gb773) (o := .cells #[.int .i64 t768, .slice Ao30 t769.length co30] 46 (0, 0)) (by (with_reducible repeat (first | refine ba ?_ _ | refine bb ?_ | refine bc ?_ _)); refine blk_far ?_ NB773_810.out _; (with_reducible repeat (first | refine ba ?_ _ | refine bb ?_ | refine bc ?_ _)); refine blk_far ?_ NB773_810.out _; (with_reducible repeat (first | refine ba ?_ _ | refine bb ?_ | refine bc ?_ _)); exact BK773.out) hb); have n8_ := Aside0.mk (blk_below (g := gb778) (o := .cells #[.int .i64 t774, .slice Ao40 t794.length co40] 46 (0, 0)) (by (with_reducible repeat (first | refine ba ?_ _ | refine bb ?_ | refine bc ?_ _)); refine blk_far ?_ NB778_810.out _; (with_reducible repeat (first | refine ba ?_ _ | refine bb ?_ | refine bc ?_ _)); refine blk_far ?_ NB778_810.out _; (with_reducible repeat (first | refine ba ?_ _ | refine bb ?_ | refine bc ?_ _)); exact BK778.out) hb); have n9_ := Aside0.mk (blk_below (g := gb786) (o := .cells #[.int .i64 t781, .slice Ao48 t782.length co48] 46 (0, 0)) (by (with_reducible repeat (first | refine ba ?_ _ | refine bb ?_ | refine bc ?_ _)); refine blk_far ?_ NB786_810.out _; (with_reducible repeat (first | refine ba ?_ _ | refine bb ?_ | refine bc ?_ _)); refine blk_far ?_ NB786_810.out _; (with_reducible repeat (first | refine ba ?_ _ | refine bb ?_ | refine bc ?_ _)); exact BK786.out) hb); have n10_ := Aside0.mk (blk_below (g := gb810) (o := .cells #[.int .i64 t805, .slice Ao136 t806.length co136] 46 (0, 0)) (by (with_reducible repeat (first | refine ba ?_ _ | refine bb ?_ | refine bc ?_ _)); refine blk_put (cs := #[.int .i64 t805, .slice none 0 0]) ?_ 1 _ rfl; (with_reducible repeat (first | refine ba ?_ _ | refine bb ?_ | refine bc ?_ _)); refine blk_put (cs := #[.int .i64 0, .slice none 0 0]) ?_ 0 _ rfl; (with_reducible repeat (first | refine ba ?_ _ | refine bb ?_ | refine bc ?_ _)); exact BK810.out) hb); have n11_ := Aside0.mk (below_step (z26_0) hb); clear HO_774001; clear HO_779001; clear HO_787001; clear HO802; clear HO808; clear BK759; clear BK760; clear BK773; clear BK778; clear BK786; clear BK810; clear HB; have HO_774001 := n0_; have HO_779001 := n1_; have HO_787001 := n2_; have HO802 := n3_; have HO808 := n4_; have BK759 := n5_; have BK760 := n6_; have BK773 := n7_; have BK778 := n8_; have BK786 := n9_; have BK810 := n10_; have HB := n11_; clear n0_ n1_ n2_ n3_ n4_ n5_ n6_ n7_ n8_ n9_ n10_ n11_; (try clear hb); (try clear hb2); (try clear hk); (try clear hi)))
             go_meet
             case rel => exact ⟨_, ((t809 != t772)), (z26_15), H', ⟨by have := HJ15.out; have := HJ76.out; first | omega | exact Nat.le_refl _⟩, ⟨by (try simp only [hl779001_76]); (with_reducible repeat (first | apply ra | apply rb | apply rc)); exact Kd.R_mono HO_774001.out (fun _ hk => ⟨hk.2.2.1, ⟨hk.2.2.2, hk.2.1⟩⟩)⟩, ⟨by (try simp only [hl779001_76]); (with_reducible repeat (first | apply ra | apply rb | apply rc)); exact Kd.R_mono HO_779001.out (fun _ hk => ⟨hk.2.2.1, ⟨hk.2.2.2, hk.2.1⟩⟩)⟩, ⟨by (try simp only [hl779001_76]); (with_reducible repeat (first | apply ra | apply rb | apply rc)); exact Kd.R_mono HO_787001.out (fun _ hk => ⟨hk.2.2.1, ⟨hk.2.2.2, hk.2.1⟩⟩)⟩, ⟨by (try simp only [hl779001_76]); (with_reducible repeat (first | apply ra | apply rb | apply rc)); exact Kd.R_mono HO808.out (fun _ hk => ⟨hk.2.1, ⟨hk.2.2.1, hk.2.2.2⟩⟩)⟩, ⟨by (try simp only [hl779001_76]); (with_reducible repeat (first | refine ba ?_ _ | refine bb ?_ | refine bc ?_ _)); exact BK759.out⟩, ⟨by (try simp only [hl779001_76]); (with_reducible repeat (first | refine ba ?_ _ | refine bb ?_ | refine bc ?_ _)); exact BK760.out⟩, ⟨by (try simp only [hl779001_76]); (with_reducible repeat (first | refine ba ?_ _ | refine bb ?_ | refine bc ?_ _)); exact BK773.out⟩, ⟨by (try simp only [hl779001_76]); (with_reducible repeat (first | refine ba ?_ _ | refine bb ?_ | refine bc ?_ _)); exact BK778.out⟩, ⟨by (try simp only [hl779001_76]); (with_reducible repeat (first | refine ba ?_ _ | refine bb ?_ | refine bc ?_ _)); exact BK786.out⟩, ⟨by (try simp only [hl779001_76]); (with_reducible repeat (first | refine ba ?_ _ | refine bb ?_ | refine bc ?_ _)); exact BK810.out⟩, ⟨by repeat (first | (with_reducible first | exact HB.out | apply below_alloc | apply pw_below_drewN | apply below_drew1 | refine below_set ?_ GE759.out | refine below_set ?_ GE760.out | refine below_set ?_ GE773.out | refine below_set ?_ GE778.out | refine below_set ?_ GE786.out | refine below_set ?_ GE810.out) | exact HB.out)⟩⟩
            ·replace c139 := Bool.eq_false_iff.mpr c139
             subst c139
             have H1 : (laws_FnExactPoolUse.j2 kj76 t796 true t781 t797) = some r := by rw [if_neg (show ¬ (false = true) by decide)] at H; exact H
             clear H
             have H := H1
             clear H1
             have H' := Aside0.mk H
             clear H
             have hnb152 := NB810_759.out
             have hnc152 := NB759_810.out
             have hnb153 := NB810_760.out
             have hnc153 := NB760_810.out
             have hnb154 := NB810_773.out
             have hnc154 := NB773_810.out
             have hnb155 := NB810_778.out
             have hnc155 := NB778_810.out
             have hnb156 := NB810_786.out
             have hnc156 := NB786_810.out
             have hcz157_0 : w134.cell? ⟨gb810, 0, none⟩ = some (.int .i64 0) := (blk_cell BK810.out 0).trans rfl
             have hcz157_1 : w134.cell? ⟨gb810, 1, none⟩ = some (.slice none 0 0) := (blk_cell BK810.out 1).trans rfl
             have hfz157_0 := blk_frozen BK810.out 0
             have hfz157_1 := blk_frozen BK810.out 1
             have hnb158 := NB773_759.out
             have hnc158 := NB759_773.out
             have hnb159 := NB773_760.out
             have hnc159 := NB760_773.out
             have hnb160 := NB773_778.out
             have hnc160 := NB778_773.out
             have hnb161 := NB773_786.out
             have hnc161 := NB786_773.out
             have hcz162_0 : w134.cell? ⟨gb773, 0, none⟩ = some (.int .i64 t768) := (blk_cell BK773.out 0).trans rfl
             have hcz162_1 : w134.cell? ⟨gb773, 1, none⟩ = some (.slice Ao30 t769.length co30) := (blk_cell BK773.out 1).trans rfl
             have hfz162_0 := blk_frozen BK773.out 0
             have hfz162_1 := blk_frozen BK773.out 1
             go_wp2_with (first | ((with_reducible refine gate_callee (f := 36) rfl ?_); refine goesL_ (some 89) rfl rfl Try.func36 (by kernel_rfl) rfl #[.agg #[.int .i64 t805, .slice Ao136 t806.length co136], .agg #[.int .i64 t768, .slice Ao30 t769.length co30]] rfl (z26_6) ?_; (with_reducible refine (laws_eqPool.calls kj76 t805 _ _ t806 t768 _ _ t769 false _ ?side1 ?side2 ?side3 ?side4 A138.out).mono ?_); (case side1 => refine (Kd.R_reads' (e := 25) (base := w.heap.size) (ok := fun k_ => (some k_ ≠ (v801 : Value).ownBlock ∧ (some k_ ≠ (.slice Ao30 t769.length co30 : Value).ownBlock ∧ (some k_ ≠ (.slice Ao40 t794.length co40 : Value).ownBlock ∧ some k_ ≠ (.slice Ao48 t782.length co48 : Value).ownBlock)))) (n := t806.length) (c := co136) ?_).2.2; exact (by (with_reducible repeat (first | apply ra | apply rb | apply rc)); exact (Kd.R_mono (Kd.R_far (p := ⟨gb810, 1, none⟩) (Kd.R_far (p := ⟨gb810, 0, none⟩) (Kd.R_types HO808.out BK810.out (by decide)) (fun _ hk => hk.2) (.int .i64 t805)) (fun _ hk => hk.2) (.slice Ao136 t806.length co136)) (fun _ h_ => h_.1)))); (case side2 => exact (Kd.R_reads' HO808.out).2.1); (case side3 => refine (Kd.R_reads' (e := 25) (base := w.heap.size) (ok := fun k_ => (some k_ ≠ (v801 : Value).ownBlock ∧ (some k_ ≠ (.slice Ao136 t806.length co136 : Value).ownBlock ∧ (some k_ ≠ (.slice Ao40 t794.length co40 : Value).ownBlock ∧ some k_ ≠ (.slice Ao48 t782.length co48 : Value).ownBlock)))) (n := t769.length) (c := co30) ?_).2.2; exact (by (with_reducible repeat (first | apply ra | apply rb | apply rc)); exact (Kd.R_mono (Kd.R_far (p := ⟨gb810, 1, none⟩) (Kd.R_far (p := ⟨gb810, 0, none⟩) (Kd.R_types HO_774001.out BK810.out (by decide)) (fun _ hk => hk.2) (.int .i64 t805)) (fun _ hk => hk.2) (.slice Ao136 t806.length co136)) (fun _ h_ => h_.1)))); (case side4 => exact (Kd.R_reads' HO_774001.out).2.1); rintro e w163 ⟨rfl, hb⟩; refine ⟨_, rfl, ?_⟩; have n0_ := Aside0.mk (Kd.R_below (by (with_reducible repeat (first | apply ra | apply rb | apply rc)); exact (Kd.R_mono (Kd.R_far (p := ⟨gb810, 1, none⟩) (Kd.R_far (p := ⟨gb810, 0, none⟩) (Kd.R_types HO_774001.out BK810.out (by decide)) (fun _ hk => hk.2) (.int .i64 t805)) (fun _ hk => hk.2) (.slice Ao136 t806.length co136)) (fun _ h_ => h_.1))) hb); have n1_ := Aside0.mk (Kd.R_below (by (with_reducible repeat (first | apply ra | apply rb | apply rc)); exact (Kd.R_mono (Kd.R_far (p := ⟨gb810, 1, none⟩) (Kd.R_far (p := ⟨gb810, 0, none⟩) (Kd.R_types HO_779001.out BK810.out (by decide)) (fun _ hk => hk.2) (.int .i64 t805)) (fun _ hk => hk.2) (.slice Ao136 t806.length co136)) (fun _ h_ => h_.1))) hb); have n2_ := Aside0.mk (Kd.R_below (by (with_reducible repeat (first | apply ra | apply rb | apply rc)); exact (Kd.R_mono (Kd.R_far (p := ⟨gb810, 1, none⟩) (Kd.R_far (p := ⟨gb810, 0, none⟩) (Kd.R_types HO_787001.out BK810.out (by decide)) (fun _ hk => hk.2) (.int .i64 t805)) (fun _ hk => hk.2) (.slice Ao136 t806.length co136)) (fun _ h_ => h_.1))) hb); have n3_ := Aside0.mk (Kd.R_below (by (with_reducible repeat (first | apply ra | apply rb | apply rc)); exact (Kd.R_mono (Kd.R_far (p := ⟨gb810, 1, none⟩) (Kd.R_far (p := ⟨gb810, 0, none⟩) (Kd.R_types HO802.out BK810.out (by decide)) (fun _ hk => hk.2) (.int .i64 t805)) (fun _ hk => hk.2) (.slice Ao136 t806.length co136)) (fun _ h_ => h_.1))) hb); have n4_ := Aside0.mk (Kd.R_below (by (with_reducible repeat (first | apply ra | apply rb | apply rc)); exact (Kd.R_mono (Kd.R_far (p := ⟨gb810, 1, none⟩) (Kd.R_far (p := ⟨gb810, 0, none⟩) (Kd.R_types HO808.out BK810.out (by decide)) (fun _ hk => hk.2) (.int .i64 t805)) (fun _ hk => hk.2) (.slice Ao136 t806.length co136)) (fun _ h_ => h_.1))) hb); have n5_ := Aside0.mk (blk_below (g := gb759) (o := .cells #[.int .i64 a0_0, .slice A0_1 l0_1.length c0_1] 42 (0, 0)) (by (with_reducible repeat (first | refine ba ?_ _ | refine bb ?_ | refine bc ?_ _)); refine blk_far ?_ NB759_810.out _; (with_reducible repeat (first | refine ba ?_ _ | refine bb ?_ | refine bc ?_ _)); refine blk_far ?_ NB759_810.out _; (with_reducible repeat (first | refine ba ?_ _ | refine bb ?_ | refine bc ?_ _)); exact BK759.out) hb); have n6_ := Aside0.mk (blk_below (g := gb760) (o := .cells #[.int .i64 a1_0, .int .i64 a1_1] 23 (0, 0)) (by (with_reducible repeat (first | refine ba ?_ _ | refine bb ?_ | refine bc ?_ _)); refine blk_far ?_ NB760_810.out _; (with_reducible repeat (first | refine ba ?_ _ | refine bb ?_ | refine bc ?_ _)); refine blk_far ?_ NB760_810.out _; (with_reducible repeat (first | refine ba ?_ _ | refine bb ?_ | refine bc ?_ _)); exact BK760.out) hb); have n7_ := Aside0.mk (blk_below (g := gb773) (o := .cells #[.int .i64 t768, .slice Ao30 t769.length co30] 46 (0, 0)) (by (with_reducible repeat (first | refine ba ?_ _ | refine bb ?_ | refine bc ?_ _)); refine blk_far ?_ NB773_810.out _; (with_reducible repeat (first | refine ba ?_ _ | refine bb ?_ | refine bc ?_ _)); refine blk_far ?_ NB773_810.out _; (with_reducible repeat (first | refine ba ?_ _ | refine bb ?_ | refine bc ?_ _)); exact BK773.out) hb); have n8_ := Aside0.mk (blk_below (g := gb778) (o := .cells #[.int .i64 t774, .slice Ao40 t794.length co40] 46 (0, 0)) (by (with_reducible repeat (first | refine ba ?_ _ | refine bb ?_ | refine bc ?_ _)); refine blk_far ?_ NB778_810.out _; (with_reducible repeat (first | refine ba ?_ _ | refine bb ?_ | refine bc ?_ _)); refine blk_far ?_ NB778_810.out _; (with_reducible repeat (first | refine ba ?_ _ | refine bb ?_ | refine bc ?_ _)); exact BK778.out) hb); have n9_ := Aside0.mk (blk_below (g := gb786) (o := .cells #[.int .i64 t781, .slice Ao48 t782.length co48] 46 (0, 0)) (by (with_reducible repeat (first | refine ba ?_ _ | refine bb ?_ | refine bc ?_ _)); refine blk_far ?_ NB786_810.out _; (with_reducible repeat (first | refine ba ?_ _ | refine bb ?_ | refine bc ?_ _)); refine blk_far ?_ NB786_810.out _; (with_reducible repeat (first | refine ba ?_ _ | refine bb ?_ | refine bc ?_ _)); exact BK786.out) hb); have n10_ := Aside0.mk (blk_below (g := gb810) (o := .cells #[.int .i64 t805, .slice Ao136 t806.length co136] 46 (0, 0)) (by (with_reducible repeat (first | refine ba ?_ _ | refine bb ?_ | refine bc ?_ _)); refine blk_put (cs := #[.int .i64 t805, .slice none 0 0]) ?_ 1 _ rfl; (with_reducible repeat (first | refine ba ?_ _ | refine bb ?_ | refine bc ?_ _)); refine blk_put (cs := #[.int .i64 0, .slice none 0 0]) ?_ 0 _ rfl; (with_reducible repeat (first | refine ba ?_ _ | refine bb ?_ | refine bc ?_ _)); exact BK810.out) hb); have n11_ := Aside0.mk (below_step (z26_0) hb); clear HO_774001; clear HO_779001; clear HO_787001; clear HO802; clear HO808; clear BK759; clear BK760; clear BK773; clear BK778; clear BK786; clear BK810; clear HB; have HO_774001 := n0_; have HO_779001 := n1_; have HO_787001 := n2_; have HO802 := n3_; have HO808 := n4_; have BK759 := n5_; have BK760 := n6_; have BK773 := n7_; have BK778 := n8_; have BK786 := n9_; have BK810 := n10_; have HB := n11_; clear n0_ n1_ n2_ n3_ n4_ n5_ n6_ n7_ n8_ n9_ n10_ n11_; (try clear hb); (try clear hb2); (try clear hk); (try clear hi)))
             go_meet
             case rel => exact ⟨_, (true), (z26_15), H', ⟨by have := HJ15.out; have := HJ76.out; first | omega | exact Nat.le_refl _⟩, ⟨by (try simp only [hl779001_76]); (with_reducible repeat (first | apply ra | apply rb | apply rc)); exact Kd.R_mono HO_774001.out (fun _ hk => ⟨hk.2.2.1, ⟨hk.2.2.2, hk.2.1⟩⟩)⟩, ⟨by (try simp only [hl779001_76]); (with_reducible repeat (first | apply ra | apply rb | apply rc)); exact Kd.R_mono HO_779001.out (fun _ hk => ⟨hk.2.2.1, ⟨hk.2.2.2, hk.2.1⟩⟩)⟩, ⟨by (try simp only [hl779001_76]); (with_reducible repeat (first | apply ra | apply rb | apply rc)); exact Kd.R_mono HO_787001.out (fun _ hk => ⟨hk.2.2.1, ⟨hk.2.2.2, hk.2.1⟩⟩)⟩, ⟨by (try simp only [hl779001_76]); (with_reducible repeat (first | apply ra | apply rb | apply rc)); exact Kd.R_mono HO808.out (fun _ hk => ⟨hk.2.1, ⟨hk.2.2.1, hk.2.2.2⟩⟩)⟩, ⟨by (try simp only [hl779001_76]); (with_reducible repeat (first | refine ba ?_ _ | refine bb ?_ | refine bc ?_ _)); exact BK759.out⟩, ⟨by (try simp only [hl779001_76]); (with_reducible repeat (first | refine ba ?_ _ | refine bb ?_ | refine bc ?_ _)); exact BK760.out⟩, ⟨by (try simp only [hl779001_76]); (with_reducible repeat (first | refine ba ?_ _ | refine bb ?_ | refine bc ?_ _)); exact BK773.out⟩, ⟨by (try simp only [hl779001_76]); (with_reducible repeat (first | refine ba ?_ _ | refine bb ?_ | refine bc ?_ _)); exact BK778.out⟩, ⟨by (try simp only [hl779001_76]); (with_reducible repeat (first | refine ba ?_ _ | refine bb ?_ | refine bc ?_ _)); exact BK786.out⟩, ⟨by (try simp only [hl779001_76]); (with_reducible repeat (first | refine ba ?_ _ | refine bb ?_ | refine bc ?_ _)); exact BK810.out⟩, ⟨by repeat (first | (with_reducible first | exact HB.out | apply below_alloc | apply pw_below_drewN | apply below_drew1 | refine below_set ?_ GE759.out | refine below_set ?_ GE760.out | refine below_set ?_ GE773.out | refine below_set ?_ GE778.out | refine below_set ?_ GE786.out | refine below_set ?_ GE810.out) | exact HB.out)⟩⟩
           case rest =>
            clear HC119
            try clear c1
            try clear c2
            try clear p2
            try clear c3
            try clear c4
            try clear c13
            try clear c14
            try clear c15
            try clear c16
            try clear c21
            try clear c34
            try clear c36
            try clear c42
            try clear c139
            try clear c140
            try clear c141
            try clear c142
            try clear c143
            try clear c144
            try clear c146
            try clear c147
            try clear c148
            try clear c149
            try clear c152
            try clear c153
            try clear c154
            try clear c155
            try clear c156
            try clear c158
            try clear c159
            try clear c160
            try clear c161
            try clear hcz145_0
            try clear hcz145_1
            try clear hcz150_0
            try clear hcz150_1
            try clear hcz157_0
            try clear hcz157_1
            try clear hcz162_0
            try clear hcz162_1
            try clear hfz145_0
            try clear hfz145_1
            try clear hfz150_0
            try clear hfz150_1
            try clear hfz157_0
            try clear hfz157_1
            try clear hfz162_0
            try clear hfz162_1
            obtain ⟨kq, x95_118, rfl, HA, HJ118, HO_774001, HO_779001, HO_787001, HO_811001, BK759, BK760, BK773, BK778, BK786, BK810, HB⟩ := hcut
            have hl787001_118 := (Kd.R_reads' HO_787001.out).1
            rw [hl787001_118] at HO_787001
            (try simp only [hl787001_118])
            (try simp only [hl787001_118] at BK759)
            (try simp only [hl787001_118] at BK760)
            (try simp only [hl787001_118] at BK773)
            (try simp only [hl787001_118] at BK778)
            (try simp only [hl787001_118] at BK786)
            (try simp only [hl787001_118] at BK810)
            (try simp only [hl787001_118] at HO_774001)
            (try simp only [hl787001_118] at HO_779001)
            (try simp only [hl787001_118] at HO_811001)
            cases kq with
            | zero => exact absurd HA.out (by simp [laws_FnExactPoolUse.j2])
            | succ kj118 =>
             have H := HA.out
             clear HA
             simp only [laws_FnExactPoolUse.j2] at H
             by_cases c164 : x95_118 = true
             ·subst c164
              have H1 : (some false) = some r := by rw [if_pos rfl] at H; exact H
              clear H
              have H := H1
              clear H1
              exact absurd ((Option.some.inj H).trans hT) (by simp)
             ·replace c164 := Bool.eq_false_iff.mpr c164
              subst c164
              have H1 : ((laws_heldPool.f kj118 t781 t797 1).bind fun t812 => (if t812 < 0 then (some false) else (if t812 = t796 then (some true) else (some false)))) = some r := by rw [if_neg (show ¬ (false = true) by decide)] at H; exact H
              clear H
              have H := H1
              clear H1
              replace H := Option.bind_eq_some_iff.mp H
              obtain ⟨t812, A1650, H⟩ := H
              replace H : (if t812 < 0 then (some false) else (if t812 = t796 then (some true) else (some false))) = some r := H
              have A165 := Aside0.mk A1650
              clear A1650
              by_cases c166 : t812 < 0
              ·rw [if_pos c166] at H
               have c166b0 : decide (t812 < 0) = true := decide_eq_true c166
               clear c166
               exact absurd ((Option.some.inj H).trans hT) (by simp)
              ·rw [if_neg c166] at H
               have c166b0 : decide (t812 < 0) = false := decide_eq_false c166
               clear c166
               by_cases c167 : t812 = t796
               ·rw [if_pos c167] at H
                have c167b0 : (t812 == t796) = true := beq_iff_eq.mpr c167
                have c167b1 : (t812 != t796) = false := bne_eq_false_iff_eq.mpr c167
                clear c167
                obtain rfl := Option.some.inj H
                have hnb168 := NB786_759.out
                have hnc168 := NB759_786.out
                have hnb169 := NB786_760.out
                have hnc169 := NB760_786.out
                have hnb170 := NB786_773.out
                have hnc170 := NB773_786.out
                have hnb171 := NB786_778.out
                have hnc171 := NB778_786.out
                have hnb172 := NB786_810.out
                have hnc172 := NB810_786.out
                have hcz173_0 : wc.cell? ⟨gb786, 0, none⟩ = some (.int .i64 t781) := (blk_cell BK786.out 0).trans rfl
                have hcz173_1 : wc.cell? ⟨gb786, 1, none⟩ = some (.slice Ao48 t797.length co48) := (blk_cell BK786.out 1).trans rfl
                have hfz173_0 := blk_frozen BK786.out 0
                have hfz173_1 := blk_frozen BK786.out 1
                go_wp2_with (first | ((with_reducible refine gate_callee (f := 48) rfl ?_); refine goesL_ (some 98) rfl rfl Try.func48 (by kernel_rfl) rfl #[.agg #[.int .i64 t781, .slice Ao48 t797.length co48], .int .i64 1] rfl (z26_6) ?_; (with_reducible refine (laws_heldPool.calls kj118 t781 _ _ t797 1 t812 _ ?side1 ?side2 A165.out).mono ?_); (case side1 => repeat (first | exact (Kd.R_reads' HO_787001.out).2.2 | (with_reducible refine Kd.C_alloc ?_ _) | (with_reducible refine Kd.C_drewN ?_ _) | (with_reducible refine Kd.C_drew ?_))); (case side2 => exact (Kd.R_reads' HO_787001.out).2.1); rintro e w174 ⟨rfl, hb⟩; refine ⟨_, rfl, ?_⟩; have n0_ := Aside0.mk (Kd.R_below (by (with_reducible repeat (first | apply ra | apply rb | apply rc)); exact HO_774001.out) hb); have n1_ := Aside0.mk (Kd.R_below (by (with_reducible repeat (first | apply ra | apply rb | apply rc)); exact HO_779001.out) hb); have n2_ := Aside0.mk (Kd.R_below (by (with_reducible repeat (first | apply ra | apply rb | apply rc)); exact HO_787001.out) hb); have n3_ := Aside0.mk (Kd.R_below (by (with_reducible repeat (first | apply ra | apply rb | apply rc)); exact HO_811001.out) hb); have n4_ := Aside0.mk (blk_below (g := gb759) (o := .cells #[.int .i64 a0_0, .slice A0_1 l0_1.length c0_1] 42 (0, 0)) (z26_8) hb); have n5_ := Aside0.mk (blk_below (g := gb760) (o := .cells #[.int .i64 a1_0, .int .i64 a1_1] 23 (0, 0)) (z26_9) hb); have n6_ := Aside0.mk (blk_below (g := gb773) (o := .cells #[.int .i64 t768, .slice Ao30 t769.length co30] 46 (0, 0)) (z26_10) hb); have n7_ := Aside0.mk (blk_below (g := gb778) (o := .cells #[.int .i64 t774, .slice Ao40 t794.length co40] 46 (0, 0)) (z26_11) hb); have n8_ := Aside0.mk (blk_below (g := gb786) (o := .cells #[.int .i64 t781, .slice Ao48 t797.length co48] 46 (0, 0)) (z26_12) hb); have n9_ := Aside0.mk (blk_below (g := gb810) (o := .cells #[.int .i64 t805, .slice Ao136 t806.length co136] 46 (0, 0)) (z26_13) hb); have n10_ := Aside0.mk (below_step (z26_0) hb); clear HO_774001; clear HO_779001; clear HO_787001; clear HO_811001; clear BK759; clear BK760; clear BK773; clear BK778; clear BK786; clear BK810; clear HB; have HO_774001 := n0_; have HO_779001 := n1_; have HO_787001 := n2_; have HO_811001 := n3_; have BK759 := n4_; have BK760 := n5_; have BK773 := n6_; have BK778 := n7_; have BK786 := n8_; have BK810 := n9_; have HB := n10_; clear n0_ n1_ n2_ n3_ n4_ n5_ n6_ n7_ n8_ n9_ n10_; (try clear hb); (try clear hb2); (try clear hk); (try clear hi)))
                go_ret
                exact ⟨by first | rfl | (simp [errW_none, errW_some] <;> rfl) | (simp [*, errW_none, errW_some] <;> rfl), by repeat (first | (with_reducible first | exact HB.out | apply below_alloc | apply pw_below_drewN | apply below_drew1 | refine below_set ?_ GE759.out | refine below_set ?_ GE760.out | refine below_set ?_ GE773.out | refine below_set ?_ GE778.out | refine below_set ?_ GE786.out | refine below_set ?_ GE810.out) | exact HB.out)⟩
               ·rw [if_neg c167] at H
                have c167b0 : (t812 == t796) = false := beq_eq_false_iff_ne.mpr c167
                have c167b1 : (t812 != t796) = true := bne_iff_ne.mpr c167
                exact absurd ((Option.some.inj H).trans hT) (by simp)
          ·rw [if_neg c115] at H
           have c115b0 : (t798 == t796) = false := beq_eq_false_iff_ne.mpr c115
           have c115b1 : (t798 != t796) = true := bne_iff_ne.mpr c115
           exact absurd ((Option.some.inj H).trans hT) (by simp)
     ·replace c75 := Bool.eq_false_iff.mpr c75
      subst c75
      have H1 : (some false) = some r := by rw [if_neg (show ¬ (false = true) by decide)] at H; exact H
      clear H
      have H := H1
      clear H1
      exact absurd ((Option.some.inj H).trans hT) (by simp)

end Go.Proofs.Ytcobbpghipeoeaa.R
