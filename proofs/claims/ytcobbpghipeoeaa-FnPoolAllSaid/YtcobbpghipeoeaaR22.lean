/- Contracts of Go functions, printed by a program (the kit's print.py under reprint.py) and shortened (post.py): each call comes to what the plain function of its name tells. Where that tells nothing, nothing is said. -/
import Derived.Test.YtcobbpghipeoeaaR0
import Derived.Test.YtcobbpghipeoeaaR1
import Derived.Test.YtcobbpghipeoeaaF
import Derived.Test.YtcobbpghipeoeaaH22
import Derived.Test.YtcobbpghipeoeaaC44
import Derived.Test.YtcobbpghipeoeaaGC
import Derived.Test.YtcobbpghipeoeaaC46
import Derived.Test.YtcobbpghipeoeaaC35
import Derived.Test.YtcobbpghipeoeaaC37
import Derived.Test.YtcobbpghipeoeaaC38
namespace Go.Proofs.Ytcobbpghipeoeaa.R
open Go.RowKit Go.Proofs.YtcobbpghipeoeaaV.PrintWords Go.Proofs.YtcobbpghipeoeaaV.PrintLast Go.Proofs.YtcobbpghipeoeaaV.PrintMore
attribute [local go_sem] max2_int min2_int max_two min_two max_three min_three max_four min_four   -- for this text's walks alone
set_option linter.unusedVariables false
set_option linter.unusedSimpArgs false

attribute [local go_sem high] eqA25
set_option maxHeartbeats 8000000 in
set_option maxRecDepth 100000 in
theorem laws_FnPoolAll.calls (k : Nat) (A0 : Option Addr) (c0 : Nat) (l0 : List Int) (A1 : Option Addr) (c1 : Nat) (l1 : List Int) (r : Bool) (w : World) (hr0 : Kd.C (Kd.int .u8) w A0 l0.length l0) (hc0 : l0.length ≤ c0) (hr1 : Kd.C (Kd.int .u8) w A1 l1.length l1) (hc1 : l1.length ≤ c1) (hT : r = true) (h : laws_FnPoolAll.f k l0 l1 = some r) :
  Calls Try.prog 12 #[.slice A0 l0.length c0, .slice A1 l1.length c1] w fun e w' => e = .returned (.bool r) ∧ Below w.heap.size w w' := by
 have hu46 := Try.underlying46
 have hu25 := Try.underlying25
 have HR0 := Aside0.mk hr0
 have HC0 := Aside0.mk hc0
 clear hr0 hc0
 have HR1 := Aside0.mk hr1
 have HC1 := Aside0.mk hc1
 clear hr1 hc1
 have HB := Aside0.mk (Below.refl w.heap.size w)
 have H : (if (l0.length : Int) > 1048576 then (laws_FnPoolAll.j0 k l0 l1 true) else (laws_FnPoolAll.j0 k l0 l1 (decide ((l1.length : Int) > 1048576)))) = some r := h
 clear h
 have HC3 := Aside0.mk H
 clear H
 go_enter Try.func12, Try.ntmps12
 go_upto_region 1 with (fail)
 go_cut [28] (fun v28 wc => ∃ (kq : Nat) (x28_2 : Bool), v28 = .bool x28_2 ∧ Aside0 (laws_FnPoolAll.j0 kq l0 l1 x28_2 = some r) ∧ Aside0 (kq ≤ k) ∧ Aside0 (Below w.heap.size w wc))
 case first =>
  have H := HC3.out
  clear HC3
  by_cases c4 : (l0.length : Int) > 1048576
  ·rw [if_pos c4] at H
   have c4b0 : decide (1048576 < (l0.length : Int)) = true := decide_eq_true c4
   have c4b1 : decide (1048576 < l0.length) = true := decide_eq_true (by omega)
   clear c4
   (first | rw [c4b0] | (simp only [i64_w, i32_w]; rw [c4b0]) | skip)
   have H' := Aside0.mk H
   clear H
   go_wp2
   go_meet
   case rel => exact ⟨_, (true), (z22_16), H', ⟨by first | omega | exact Nat.le_refl _⟩, ⟨by repeat (first | (with_reducible first | exact HB.out | apply below_alloc | apply pw_below_drewN | apply below_drew1) | exact HB.out)⟩⟩
  ·rw [if_neg c4] at H
   have c4b0 : decide (1048576 < (l0.length : Int)) = false := decide_eq_false c4
   have c4b1 : decide (1048576 < l0.length) = false := decide_eq_false (by omega)
   clear c4
   (first | rw [c4b0] | (simp only [i64_w, i32_w]; rw [c4b0]) | skip)
   have H' := Aside0.mk H
   clear H
   go_wp2
   go_meet
   case rel => exact ⟨_, (decide ((l1.length : Int) > 1048576)), (z22_16), H', ⟨by first | omega | exact Nat.le_refl _⟩, ⟨by repeat (first | (with_reducible first | exact HB.out | apply below_alloc | apply pw_below_drewN | apply below_drew1) | exact HB.out)⟩⟩
 case rest =>
  clear HC3
  try clear c1
  try clear p2
  try clear c4
  try clear c4b0
  try clear c4b1
  obtain ⟨kq, x28_2, rfl, HA, HJ2, HB⟩ := hcut
  cases kq with
  | zero => exact absurd HA.out (by simp [laws_FnPoolAll.j0])
  | succ kj2 =>
   have H := HA.out
   clear HA
   simp only [laws_FnPoolAll.j0] at H
   by_cases c5 : x28_2 = true
   ·subst c5
    have H1 : (some true) = some r := by rw [if_pos rfl] at H; exact H
    clear H
    have H := H1
    clear H1
    obtain rfl := Option.some.inj H
    go_wp2
    go_ret
    exact ⟨by first | rfl | (simp [errW_none, errW_some] <;> rfl) | (simp [*, errW_none, errW_some] <;> rfl), by repeat (first | (with_reducible first | exact HB.out | apply below_alloc | apply pw_below_drewN | apply below_drew1) | exact HB.out)⟩
   ·replace c5 := Bool.eq_false_iff.mpr c5
    subst c5
    have H1 : ((spec_DrawPoolAll.f kj2 l0).bind fun bt617 => ((impl_PoolAll.f bt617.1 bt617.2.1 bt617.2.2).bind fun bt625 => ((spec_PoolAll.f kj2 bt617.1 bt617.2.1 bt617.2.2).bind fun bt631 => (if bt625.2.2 = bt631.2.2 then ((impl_PoolSame.f kj2 bt625.1 bt625.2.1 bt631.1 bt631.2.1).bind fun t637 => (if t637 = true then ((spec_PoolOk.f kj2 bt617.1 bt617.2.1).bind fun t638 => (if t638 = true then (if (bt625.2.1.length : Int) = 0 then (laws_FnPoolAll.j1 kj2 l1 bt617.2.2 bt625.2.2 bt631.2.2 (bt625.1 == 0) bt617.1 bt617.2.1 bt625.1 bt625.2.1 bt631.1 bt631.2.1) else (laws_FnPoolAll.j1 kj2 l1 bt617.2.2 bt625.2.2 bt631.2.2 false bt617.1 bt617.2.1 bt625.1 bt625.2.1 bt631.1 bt631.2.1)) else (laws_FnPoolAll.j1 kj2 l1 bt617.2.2 bt625.2.2 bt631.2.2 true bt617.1 bt617.2.1 bt625.1 bt625.2.1 bt631.1 bt631.2.1))) else (laws_FnPoolAll.j1 kj2 l1 bt617.2.2 bt625.2.2 bt631.2.2 true bt617.1 bt617.2.1 bt625.1 bt625.2.1 bt631.1 bt631.2.1))) else (laws_FnPoolAll.j1 kj2 l1 bt617.2.2 bt625.2.2 bt631.2.2 true bt617.1 bt617.2.1 bt625.1 bt625.2.1 bt631.1 bt631.2.1))))) = some r := by rw [if_neg (show ¬ (false = true) by decide)] at H; exact H
    clear H
    have H := H1
    clear H1
    replace H := Option.bind_eq_some_iff.mp H
    obtain ⟨⟨t617, t618, t621⟩, A60, H⟩ := H
    replace H : ((impl_PoolAll.f t617 t618 t621).bind fun bt625 => ((spec_PoolAll.f kj2 t617 t618 t621).bind fun bt631 => (if bt625.2.2 = bt631.2.2 then ((impl_PoolSame.f kj2 bt625.1 bt625.2.1 bt631.1 bt631.2.1).bind fun t637 => (if t637 = true then ((spec_PoolOk.f kj2 t617 t618).bind fun t638 => (if t638 = true then (if (bt625.2.1.length : Int) = 0 then (laws_FnPoolAll.j1 kj2 l1 t621 bt625.2.2 bt631.2.2 (bt625.1 == 0) t617 t618 bt625.1 bt625.2.1 bt631.1 bt631.2.1) else (laws_FnPoolAll.j1 kj2 l1 t621 bt625.2.2 bt631.2.2 false t617 t618 bt625.1 bt625.2.1 bt631.1 bt631.2.1)) else (laws_FnPoolAll.j1 kj2 l1 t621 bt625.2.2 bt631.2.2 true t617 t618 bt625.1 bt625.2.1 bt631.1 bt631.2.1))) else (laws_FnPoolAll.j1 kj2 l1 t621 bt625.2.2 bt631.2.2 true t617 t618 bt625.1 bt625.2.1 bt631.1 bt631.2.1))) else (laws_FnPoolAll.j1 kj2 l1 t621 bt625.2.2 bt631.2.2 true t617 t618 bt625.1 bt625.2.1 bt631.1 bt631.2.1)))) = some r := H
    have A6 := Aside0.mk A60
    clear A60
    replace H := Option.bind_eq_some_iff.mp H
    obtain ⟨⟨t625, t626, t629⟩, A70, H⟩ := H
    replace H : ((spec_PoolAll.f kj2 t617 t618 t621).bind fun bt631 => (if t629 = bt631.2.2 then ((impl_PoolSame.f kj2 t625 t626 bt631.1 bt631.2.1).bind fun t637 => (if t637 = true then ((spec_PoolOk.f kj2 t617 t618).bind fun t638 => (if t638 = true then (if (t626.length : Int) = 0 then (laws_FnPoolAll.j1 kj2 l1 t621 t629 bt631.2.2 (t625 == 0) t617 t618 t625 t626 bt631.1 bt631.2.1) else (laws_FnPoolAll.j1 kj2 l1 t621 t629 bt631.2.2 false t617 t618 t625 t626 bt631.1 bt631.2.1)) else (laws_FnPoolAll.j1 kj2 l1 t621 t629 bt631.2.2 true t617 t618 t625 t626 bt631.1 bt631.2.1))) else (laws_FnPoolAll.j1 kj2 l1 t621 t629 bt631.2.2 true t617 t618 t625 t626 bt631.1 bt631.2.1))) else (laws_FnPoolAll.j1 kj2 l1 t621 t629 bt631.2.2 true t617 t618 t625 t626 bt631.1 bt631.2.1))) = some r := H
    have A7 := Aside0.mk A70
    clear A70
    replace H := Option.bind_eq_some_iff.mp H
    obtain ⟨⟨t631, t632, t635⟩, A80, H⟩ := H
    replace H : (if t629 = t635 then ((impl_PoolSame.f kj2 t625 t626 t631 t632).bind fun t637 => (if t637 = true then ((spec_PoolOk.f kj2 t617 t618).bind fun t638 => (if t638 = true then (if (t626.length : Int) = 0 then (laws_FnPoolAll.j1 kj2 l1 t621 t629 t635 (t625 == 0) t617 t618 t625 t626 t631 t632) else (laws_FnPoolAll.j1 kj2 l1 t621 t629 t635 false t617 t618 t625 t626 t631 t632)) else (laws_FnPoolAll.j1 kj2 l1 t621 t629 t635 true t617 t618 t625 t626 t631 t632))) else (laws_FnPoolAll.j1 kj2 l1 t621 t629 t635 true t617 t618 t625 t626 t631 t632))) else (laws_FnPoolAll.j1 kj2 l1 t621 t629 t635 true t617 t618 t625 t626 t631 t632)) = some r := H
    have A8 := Aside0.mk A80
    clear A80
    have HC9 := Aside0.mk H
    clear H
    go_upto_region 6 with (first | ((with_reducible refine gate_callee (f := 44) rfl ?_); refine goesL_ (some 31) rfl rfl Try.func44 (by kernel_rfl) rfl #[.slice A0 l0.length c0] rfl (z22_7) ?_; (with_reducible refine (spec_DrawPoolAll.calls kj2 _ _ l0 t617 t618 t621 _ ?side1 ?side2 A6.out).mono ?_); (case side1 => repeat (first | exact (Kd.C_below HR0.out HB.out) | (with_reducible refine Kd.C_alloc ?_ _) | (with_reducible refine Kd.C_drewN ?_ _) | (with_reducible refine Kd.C_drew ?_))); (case side2 => exact HC0.out); rintro e w10 ⟨v619, v622, rfl, ho0, ho1, hb⟩; refine ⟨_, rfl, ?_⟩; have n0_ := Aside0.mk (Kd.R_lower ho0 (below_size (z22_8))); have n1_ := Aside0.mk (Kd.R_lower ho1 (below_size (z22_8))); have n2_ := Aside0.mk (below_step (z22_8) hb); clear HB; have HO620 := n0_; have HO623 := n1_; have HB := n2_; clear n0_ n1_ n2_; (try clear hb); (try clear hb2); (try clear hk); (try clear hi); (try clear ho0); (try clear ho1)) | ((with_reducible refine gate_dst (N := 5) rfl ?_); (try (refine gate_guard (by rfl) ?_; dsimp only)); refine box_event ?hg (N := 5) ?hd (cs := #[.int .i64 0, .slice none 0 0]) (t := 46) ?hr ?_; (case hd => rfl); (case hg => rfl); (case hr => first | (go_simp; done) | (go_simp; rfl)); intro gb624 hg w11 hbox hb; have n0_ := Aside0.mk (Kd.R_below (by (with_reducible repeat (first | apply ra | apply rb | apply rc)); exact HO620.out) hb); have n1_ := Aside0.mk (Kd.R_below (by (with_reducible repeat (first | apply ra | apply rb | apply rc)); exact HO623.out) hb); have n2_ := Aside0.mk (below_step (z22_8) hb); have n3_ := Aside0.mk (hbox); have n4_ := Aside0.mk ((by rw [hg]; exact (below_size (z22_8)) : w.heap.size ≤ gb624)); have n5_ := Aside0.mk ((by rw [hg]; exact (below_size (z22_8)) : w.heap.size ≤ gb624)); clear HO620; clear HO623; clear HB; have HO620 := n0_; have HO623 := n1_; have HB := n2_; have BK624 := n3_; have GW624 := n4_; have GE624 := n5_; clear n0_ n1_ n2_ n3_ n4_ n5_; clear hb hbox hg; have hcz12_0 : w11.cell? ⟨gb624, 0, none⟩ = some (.int .i64 0) := (blk_cell BK624.out 0).trans rfl; have hcz12_1 : w11.cell? ⟨gb624, 1, none⟩ = some (.slice none 0 0) := (blk_cell BK624.out 1).trans rfl; have hfz12_0 := blk_frozen BK624.out 0; have hfz12_1 := blk_frozen BK624.out 1; obtain ⟨Ao13, co13, eo13⟩ := Kd.R_slice HO620.out; subst eo13; obtain ⟨Ao14, co14, eo14⟩ := Kd.R_slice HO623.out; subst eo14) | ((with_reducible refine gate_callee (f := 45) rfl ?_); refine goesL_ (some 37) rfl rfl Try.func45 (by kernel_rfl) rfl #[.agg #[.int .i64 t617, .slice Ao13 t618.length co13], .slice Ao14 t621.length co14] rfl (z22_7) ?_; (with_reducible refine (impl_PoolAll.calls t617 _ _ t618 _ _ t621 t625 t626 t629 _ ?side1 ?side2 ?side3 ?side4 A7.out).mono ?_); (case side1 => refine (Kd.R_reads' (e := 25) (base := w.heap.size) (ok := fun k_ => some k_ ≠ (.slice Ao14 t621.length co14 : Value).ownBlock) (n := t618.length) (c := co13) ?_).2.2; exact (by (with_reducible repeat (first | apply ra | apply rb | apply rc)); exact (Kd.R_mono (Kd.R_far (p := ⟨gb624, 1, none⟩) (Kd.R_far (p := ⟨gb624, 0, none⟩) (Kd.R_types HO620.out BK624.out (by decide)) (fun _ hk => hk.2) (.int .i64 t617)) (fun _ hk => hk.2) (.slice Ao13 t618.length co13)) (fun _ h_ => h_.1)))); (case side2 => exact (Kd.R_reads' HO620.out).2.1); (case side3 => refine (Kd.R_reads' (e := 25) (base := w.heap.size) (ok := fun k_ => some k_ ≠ (.slice Ao13 t618.length co13 : Value).ownBlock) (n := t621.length) (c := co14) ?_).2.2; exact (by (with_reducible repeat (first | apply ra | apply rb | apply rc)); exact (Kd.R_mono (Kd.R_far (p := ⟨gb624, 1, none⟩) (Kd.R_far (p := ⟨gb624, 0, none⟩) (Kd.R_types HO623.out BK624.out (by decide)) (fun _ hk => hk.2) (.int .i64 t617)) (fun _ hk => hk.2) (.slice Ao13 t618.length co13)) (fun _ h_ => h_.1)))); (case side4 => exact (Kd.R_reads' HO623.out).2.1); rintro e w15 ⟨v627, rfl, ho0, hb⟩; refine ⟨_, rfl, ?_⟩; have n0_ := Aside0.mk (Kd.R_elder' (by (with_reducible repeat (first | apply ra | apply rb | apply rc)); exact (Kd.R_mono (Kd.R_far (p := ⟨gb624, 1, none⟩) (Kd.R_far (p := ⟨gb624, 0, none⟩) (Kd.R_types HO620.out BK624.out (by decide)) (fun _ hk => hk.2) (.int .i64 t617)) (fun _ hk => hk.2) (.slice Ao13 t618.length co13)) (fun _ h_ => h_.1))) (Kd.R_base ho0) hb); have n1_ := Aside0.mk (Kd.R_elder' (by (with_reducible repeat (first | apply ra | apply rb | apply rc)); exact (Kd.R_mono (Kd.R_far (p := ⟨gb624, 1, none⟩) (Kd.R_far (p := ⟨gb624, 0, none⟩) (Kd.R_types HO623.out BK624.out (by decide)) (fun _ hk => hk.2) (.int .i64 t617)) (fun _ hk => hk.2) (.slice Ao13 t618.length co13)) (fun _ h_ => h_.1))) (Kd.R_base ho0) hb); have n2_ := Aside0.mk (Kd.R_lower (Kd.R_new' (Kd.R_new' ho0 (Kd.R_lt (by (with_reducible repeat (first | apply ra | apply rb | apply rc)); exact (Kd.R_mono (Kd.R_far (p := ⟨gb624, 1, none⟩) (Kd.R_far (p := ⟨gb624, 0, none⟩) (Kd.R_types HO620.out BK624.out (by decide)) (fun _ hk => hk.2) (.int .i64 t617)) (fun _ hk => hk.2) (.slice Ao13 t618.length co13)) (fun _ h_ => h_.1))))) (Kd.R_lt (by (with_reducible repeat (first | apply ra | apply rb | apply rc)); exact (Kd.R_mono (Kd.R_far (p := ⟨gb624, 1, none⟩) (Kd.R_far (p := ⟨gb624, 0, none⟩) (Kd.R_types HO623.out BK624.out (by decide)) (fun _ hk => hk.2) (.int .i64 t617)) (fun _ hk => hk.2) (.slice Ao13 t618.length co13)) (fun _ h_ => h_.1))))) (below_size (z22_6))); have n3_ := Aside0.mk (blk_below (g := gb624) (o := .cells #[.int .i64 t617, .slice Ao13 t618.length co13] 46 (0, 0)) (by (with_reducible repeat (first | refine ba ?_ _ | refine bb ?_ | refine bc ?_ _)); refine blk_put (cs := #[.int .i64 t617, .slice none 0 0]) ?_ 1 _ rfl; (with_reducible repeat (first | refine ba ?_ _ | refine bb ?_ | refine bc ?_ _)); refine blk_put (cs := #[.int .i64 0, .slice none 0 0]) ?_ 0 _ rfl; (with_reducible repeat (first | refine ba ?_ _ | refine bb ?_ | refine bc ?_ _)); exact BK624.out) hb); have n4_ := Aside0.mk (below_step (z22_6) hb); clear HO620; clear HO623; clear BK624; clear HB; have HO620 := n0_; have HO623 := n1_; have HO628 := n2_; have BK624 := n3_; have HB := n4_; clear n0_ n1_ n2_ n3_ n4_; (try clear hb); (try clear hb2); (try clear hk); (try clear hi); (try clear ho0)) | ((with_reducible refine gate_dst (N := 7) rfl ?_); (try (refine gate_guard (by rfl) ?_; dsimp only)); refine box_event ?hg (N := 7) ?hd (cs := #[.int .i64 0, .slice none 0 0]) (t := 46) ?hr ?_; (case hd => rfl); (case hg => rfl); (case hr => first | (go_simp; done) | (go_simp; rfl)); intro gb630 hg w16 hbox hb; have n0_ := Aside0.mk (Kd.R_below (by (with_reducible repeat (first | apply ra | apply rb | apply rc)); exact HO620.out) hb); have n1_ := Aside0.mk (Kd.R_below (by (with_reducible repeat (first | apply ra | apply rb | apply rc)); exact HO623.out) hb); have n2_ := Aside0.mk (Kd.R_below (by (with_reducible repeat (first | apply ra | apply rb | apply rc)); exact HO628.out) hb); have n3_ := Aside0.mk (blk_below (g := gb624) (o := .cells #[.int .i64 t617, .slice Ao13 t618.length co13] 46 (0, 0)) (z22_9) hb); have n4_ := Aside0.mk (below_step (z22_6) hb); have n5_ := Aside0.mk (hbox); have n6_ := Aside0.mk ((by rw [hg]; exact (below_size (z22_6)) : w.heap.size ≤ gb630)); have n7_ := Aside0.mk ((by rw [hg]; exact (below_size (z22_6)) : w.heap.size ≤ gb630)); have n8_ := Aside0.mk ((by rw [hg]; exact Nat.ne_of_lt (blk_lt (g := gb624) (o := .cells #[.int .i64 t617, .slice Ao13 t618.length co13] 46 (0, 0)) (z22_9)) : gb624 ≠ gb630)); have n9_ := Aside0.mk ((by rw [hg]; exact Nat.ne_of_gt (blk_lt (g := gb624) (o := .cells #[.int .i64 t617, .slice Ao13 t618.length co13] 46 (0, 0)) (z22_9)) : gb630 ≠ gb624)); clear HO620; clear HO623; clear HO628; clear BK624; clear HB; have HO620 := n0_; have HO623 := n1_; have HO628 := n2_; have BK624 := n3_; have HB := n4_; have BK630 := n5_; have GW630 := n6_; have GE630 := n7_; have NB624_630 := n8_; have NB630_624 := n9_; clear n0_ n1_ n2_ n3_ n4_ n5_ n6_ n7_ n8_ n9_; clear hb hbox hg; have hnb17 := NB630_624.out; have hnc17 := NB624_630.out; have hcz18_0 : w16.cell? ⟨gb630, 0, none⟩ = some (.int .i64 0) := (blk_cell BK630.out 0).trans rfl; have hcz18_1 : w16.cell? ⟨gb630, 1, none⟩ = some (.slice none 0 0) := (blk_cell BK630.out 1).trans rfl; have hfz18_0 := blk_frozen BK630.out 0; have hfz18_1 := blk_frozen BK630.out 1; obtain ⟨Ao19, co19, eo19⟩ := Kd.R_slice HO628.out; subst eo19; have hcz20_0 : w16.cell? ⟨gb624, 0, none⟩ = some (.int .i64 t617) := (blk_cell BK624.out 0).trans rfl; have hcz20_1 : w16.cell? ⟨gb624, 1, none⟩ = some (.slice Ao13 t618.length co13) := (blk_cell BK624.out 1).trans rfl; have hfz20_0 := blk_frozen BK624.out 0; have hfz20_1 := blk_frozen BK624.out 1) | ((with_reducible refine gate_callee (f := 46) rfl ?_); refine goesL_ (some 43) rfl rfl Try.func46 (by kernel_rfl) rfl #[.agg #[.int .i64 t617, .slice Ao13 t618.length co13], .slice Ao14 t621.length co14] rfl (z22_7) ?_; (with_reducible refine (spec_PoolAll.calls kj2 t617 _ _ t618 _ _ t621 t631 t632 t635 _ ?side1 ?side2 ?side3 ?side4 A8.out).mono ?_); (case side1 => refine (Kd.R_reads' (e := 25) (base := w.heap.size) (ok := fun k_ => (some k_ ≠ (.slice Ao14 t621.length co14 : Value).ownBlock ∧ some k_ ≠ (.slice Ao19 t626.length co19 : Value).ownBlock)) (n := t618.length) (c := co13) ?_).2.2; exact (by (with_reducible repeat (first | apply ra | apply rb | apply rc)); exact (Kd.R_mono (Kd.R_far (p := ⟨gb630, 1, none⟩) (Kd.R_far (p := ⟨gb630, 0, none⟩) (Kd.R_types HO620.out BK630.out (by decide)) (fun _ hk => hk.2) (.int .i64 t625)) (fun _ hk => hk.2) (.slice Ao19 t626.length co19)) (fun _ h_ => h_.1)))); (case side2 => exact (Kd.R_reads' HO620.out).2.1); (case side3 => refine (Kd.R_reads' (e := 25) (base := w.heap.size) (ok := fun k_ => (some k_ ≠ (.slice Ao13 t618.length co13 : Value).ownBlock ∧ some k_ ≠ (.slice Ao19 t626.length co19 : Value).ownBlock)) (n := t621.length) (c := co14) ?_).2.2; exact (by (with_reducible repeat (first | apply ra | apply rb | apply rc)); exact (Kd.R_mono (Kd.R_far (p := ⟨gb630, 1, none⟩) (Kd.R_far (p := ⟨gb630, 0, none⟩) (Kd.R_types HO623.out BK630.out (by decide)) (fun _ hk => hk.2) (.int .i64 t625)) (fun _ hk => hk.2) (.slice Ao19 t626.length co19)) (fun _ h_ => h_.1)))); (case side4 => exact (Kd.R_reads' HO623.out).2.1); rintro e w21 ⟨v633, rfl, ho0, hb⟩; refine ⟨_, rfl, ?_⟩; have n0_ := Aside0.mk (Kd.R_elder' (by (with_reducible repeat (first | apply ra | apply rb | apply rc)); exact (Kd.R_mono (Kd.R_far (p := ⟨gb630, 1, none⟩) (Kd.R_far (p := ⟨gb630, 0, none⟩) (Kd.R_types HO620.out BK630.out (by decide)) (fun _ hk => hk.2) (.int .i64 t625)) (fun _ hk => hk.2) (.slice Ao19 t626.length co19)) (fun _ h_ => h_.1))) (Kd.R_base ho0) hb); have n1_ := Aside0.mk (Kd.R_elder' (by (with_reducible repeat (first | apply ra | apply rb | apply rc)); exact (Kd.R_mono (Kd.R_far (p := ⟨gb630, 1, none⟩) (Kd.R_far (p := ⟨gb630, 0, none⟩) (Kd.R_types HO623.out BK630.out (by decide)) (fun _ hk => hk.2) (.int .i64 t625)) (fun _ hk => hk.2) (.slice Ao19 t626.length co19)) (fun _ h_ => h_.1))) (Kd.R_base ho0) hb); have n2_ := Aside0.mk (Kd.R_elder' (by (with_reducible repeat (first | apply ra | apply rb | apply rc)); exact (Kd.R_mono (Kd.R_far (p := ⟨gb630, 1, none⟩) (Kd.R_far (p := ⟨gb630, 0, none⟩) (Kd.R_types HO628.out BK630.out (by decide)) (fun _ hk => hk.2) (.int .i64 t625)) (fun _ hk => hk.2) (.slice Ao19 t626.length co19)) (fun _ h_ => h_.1))) (Kd.R_base ho0) hb); have n3_ := Aside0.mk (Kd.R_lower (Kd.R_new' (Kd.R_new' (Kd.R_new' ho0 (Kd.R_lt (by (with_reducible repeat (first | apply ra | apply rb | apply rc)); exact (Kd.R_mono (Kd.R_far (p := ⟨gb630, 1, none⟩) (Kd.R_far (p := ⟨gb630, 0, none⟩) (Kd.R_types HO620.out BK630.out (by decide)) (fun _ hk => hk.2) (.int .i64 t625)) (fun _ hk => hk.2) (.slice Ao19 t626.length co19)) (fun _ h_ => h_.1))))) (Kd.R_lt (by (with_reducible repeat (first | apply ra | apply rb | apply rc)); exact (Kd.R_mono (Kd.R_far (p := ⟨gb630, 1, none⟩) (Kd.R_far (p := ⟨gb630, 0, none⟩) (Kd.R_types HO623.out BK630.out (by decide)) (fun _ hk => hk.2) (.int .i64 t625)) (fun _ hk => hk.2) (.slice Ao19 t626.length co19)) (fun _ h_ => h_.1))))) (Kd.R_lt (by (with_reducible repeat (first | apply ra | apply rb | apply rc)); exact (Kd.R_mono (Kd.R_far (p := ⟨gb630, 1, none⟩) (Kd.R_far (p := ⟨gb630, 0, none⟩) (Kd.R_types HO628.out BK630.out (by decide)) (fun _ hk => hk.2) (.int .i64 t625)) (fun _ hk => hk.2) (.slice Ao19 t626.length co19)) (fun _ h_ => h_.1))))) (below_size (z22_5))); have n4_ := Aside0.mk (blk_below (g := gb624) (o := .cells #[.int .i64 t617, .slice Ao13 t618.length co13] 46 (0, 0)) (by (with_reducible repeat (first | refine ba ?_ _ | refine bb ?_ | refine bc ?_ _)); refine blk_far ?_ NB624_630.out _; (with_reducible repeat (first | refine ba ?_ _ | refine bb ?_ | refine bc ?_ _)); refine blk_far ?_ NB624_630.out _; (with_reducible repeat (first | refine ba ?_ _ | refine bb ?_ | refine bc ?_ _)); exact BK624.out) hb); have n5_ := Aside0.mk (blk_below (g := gb630) (o := .cells #[.int .i64 t625, .slice Ao19 t626.length co19] 46 (0, 0)) (by (with_reducible repeat (first | refine ba ?_ _ | refine bb ?_ | refine bc ?_ _)); refine blk_put (cs := #[.int .i64 t625, .slice none 0 0]) ?_ 1 _ rfl; (with_reducible repeat (first | refine ba ?_ _ | refine bb ?_ | refine bc ?_ _)); refine blk_put (cs := #[.int .i64 0, .slice none 0 0]) ?_ 0 _ rfl; (with_reducible repeat (first | refine ba ?_ _ | refine bb ?_ | refine bc ?_ _)); exact BK630.out) hb); have n6_ := Aside0.mk (below_step (z22_5) hb); clear HO620; clear HO623; clear HO628; clear BK624; clear BK630; clear HB; have HO620 := n0_; have HO623 := n1_; have HO628 := n2_; have HO634 := n3_; have BK624 := n4_; have BK630 := n5_; have HB := n6_; clear n0_ n1_ n2_ n3_ n4_ n5_ n6_; (try clear hb); (try clear hb2); (try clear hk); (try clear hi); (try clear ho0)) | ((with_reducible refine gate_dst (N := 9) rfl ?_); (try (refine gate_guard (by rfl) ?_; dsimp only)); refine box_event ?hg (N := 9) ?hd (cs := #[.int .i64 0, .slice none 0 0]) (t := 46) ?hr ?_; (case hd => rfl); (case hg => rfl); (case hr => first | (go_simp; done) | (go_simp; rfl)); intro gb636 hg w22 hbox hb; have n0_ := Aside0.mk (Kd.R_below (by (with_reducible repeat (first | apply ra | apply rb | apply rc)); exact HO620.out) hb); have n1_ := Aside0.mk (Kd.R_below (by (with_reducible repeat (first | apply ra | apply rb | apply rc)); exact HO623.out) hb); have n2_ := Aside0.mk (Kd.R_below (by (with_reducible repeat (first | apply ra | apply rb | apply rc)); exact HO628.out) hb); have n3_ := Aside0.mk (Kd.R_below (by (with_reducible repeat (first | apply ra | apply rb | apply rc)); exact HO634.out) hb); have n4_ := Aside0.mk (blk_below (g := gb624) (o := .cells #[.int .i64 t617, .slice Ao13 t618.length co13] 46 (0, 0)) (z22_9) hb); have n5_ := Aside0.mk (blk_below (g := gb630) (o := .cells #[.int .i64 t625, .slice Ao19 t626.length co19] 46 (0, 0)) (z22_10) hb); have n6_ := Aside0.mk (below_step (z22_5) hb); have n7_ := Aside0.mk (hbox); have n8_ := Aside0.mk ((by rw [hg]; exact (below_size (z22_5)) : w.heap.size ≤ gb636)); have n9_ := Aside0.mk ((by rw [hg]; exact (below_size (z22_5)) : w.heap.size ≤ gb636)); have n10_ := Aside0.mk ((by rw [hg]; exact Nat.ne_of_lt (blk_lt (g := gb624) (o := .cells #[.int .i64 t617, .slice Ao13 t618.length co13] 46 (0, 0)) (z22_9)) : gb624 ≠ gb636)); have n11_ := Aside0.mk ((by rw [hg]; exact Nat.ne_of_gt (blk_lt (g := gb624) (o := .cells #[.int .i64 t617, .slice Ao13 t618.length co13] 46 (0, 0)) (z22_9)) : gb636 ≠ gb624)); have n12_ := Aside0.mk ((by rw [hg]; exact Nat.ne_of_lt (blk_lt (g := gb630) (o := .cells #[.int .i64 t625, .slice Ao19 t626.length co19] 46 (0, 0)) (z22_10)) : gb630 ≠ gb636)); have n13_ := Aside0.mk ((by rw [hg]; exact Nat.ne_of_gt (blk_lt (g := gb630) (o := .cells #[.int .i64 t625, .slice Ao19 t626.length co19] 46 (0, 0)) (z22_10)) : gb636 ≠ gb630)); clear HO620; clear HO623; clear HO628; clear HO634; clear BK624; clear BK630; clear HB; have HO620 := n0_; have HO623 := n1_; have HO628 := n2_; have HO634 := n3_; have BK624 := n4_; have BK630 := n5_; have HB := n6_; have BK636 := n7_; have GW636 := n8_; have GE636 := n9_; have NB624_636 := n10_; have NB636_624 := n11_; have NB630_636 := n12_; have NB636_630 := n13_; clear n0_ n1_ n2_ n3_ n4_ n5_ n6_ n7_ n8_ n9_ n10_ n11_ n12_ n13_; clear hb hbox hg; have hnb23 := NB636_624.out; have hnc23 := NB624_636.out; have hnb24 := NB636_630.out; have hnc24 := NB630_636.out; have hcz25_0 : w22.cell? ⟨gb636, 0, none⟩ = some (.int .i64 0) := (blk_cell BK636.out 0).trans rfl; have hcz25_1 : w22.cell? ⟨gb636, 1, none⟩ = some (.slice none 0 0) := (blk_cell BK636.out 1).trans rfl; have hfz25_0 := blk_frozen BK636.out 0; have hfz25_1 := blk_frozen BK636.out 1; obtain ⟨Ao26, co26, eo26⟩ := Kd.R_slice HO634.out; subst eo26))
    (try simp only [Act.put, List.setIfInBounds_toArray, List.set_cons_zero, List.set_cons_succ])
    go_cut [70] (fun v70 wc => ∃ (kq : Nat) (x70_8 : Bool), v70 = .bool x70_8 ∧ Aside0 (laws_FnPoolAll.j1 kq l1 t621 t629 t635 x70_8 t617 t618 t625 t626 t631 t632 = some r) ∧ Aside0 (kq ≤ kj2) ∧ Aside0 (Kd.R k25 25 wc w.heap.size (fun k_ => some k_ ≠ ((.slice Ao13 t618.length co13) : Value).ownBlock ∧ some k_ ≠ ((.slice Ao19 t626.length co19) : Value).ownBlock ∧ some k_ ≠ ((.slice Ao26 t632.length co26) : Value).ownBlock) (.slice Ao14 t621.length co14) t621) ∧ Aside0 (Kd.R k25 25 wc w.heap.size (fun k_ => some k_ ≠ ((.slice Ao14 t621.length co14) : Value).ownBlock ∧ some k_ ≠ ((.slice Ao19 t626.length co19) : Value).ownBlock ∧ some k_ ≠ ((.slice Ao26 t632.length co26) : Value).ownBlock) (.slice Ao13 t618.length co13) t618) ∧ Aside0 (Kd.R k25 25 wc w.heap.size (fun k_ => some k_ ≠ ((.slice Ao14 t621.length co14) : Value).ownBlock ∧ some k_ ≠ ((.slice Ao13 t618.length co13) : Value).ownBlock ∧ some k_ ≠ ((.slice Ao26 t632.length co26) : Value).ownBlock) (.slice Ao19 t626.length co19) t626) ∧ Aside0 (Kd.R k25 25 wc w.heap.size (fun k_ => some k_ ≠ ((.slice Ao14 t621.length co14) : Value).ownBlock ∧ some k_ ≠ ((.slice Ao13 t618.length co13) : Value).ownBlock ∧ some k_ ≠ ((.slice Ao19 t626.length co19) : Value).ownBlock) (.slice Ao26 t632.length co26) t632) ∧ Aside0 (wc.heap[gb624]? = some (.cells #[.int .i64 t617, (.slice Ao13 t618.length co13)] 46 (0, 0))) ∧ Aside0 (wc.heap[gb630]? = some (.cells #[.int .i64 t625, (.slice Ao19 t626.length co19)] 46 (0, 0))) ∧ Aside0 (wc.heap[gb636]? = some (.cells #[.int .i64 t631, (.slice Ao26 t632.length co26)] 46 (0, 0))) ∧ Aside0 (Below w.heap.size w wc))
    case first =>
     have H := HC9.out
     clear HC9
     by_cases c27 : t629 = t635
     ·rw [if_pos c27] at H
      have c27b0 : (t629 == t635) = true := beq_iff_eq.mpr c27
      have c27b1 : (t629 != t635) = false := bne_eq_false_iff_eq.mpr c27
      clear c27
      (first | rw [c27b0] | (simp only [i64_w, i32_w]; rw [c27b0]) | skip)
      replace H := Option.bind_eq_some_iff.mp H
      obtain ⟨t637, A280, H⟩ := H
      replace H : (if t637 = true then ((spec_PoolOk.f kj2 t617 t618).bind fun t638 => (if t638 = true then (if (t626.length : Int) = 0 then (laws_FnPoolAll.j1 kj2 l1 t621 t629 t635 (t625 == 0) t617 t618 t625 t626 t631 t632) else (laws_FnPoolAll.j1 kj2 l1 t621 t629 t635 false t617 t618 t625 t626 t631 t632)) else (laws_FnPoolAll.j1 kj2 l1 t621 t629 t635 true t617 t618 t625 t626 t631 t632))) else (laws_FnPoolAll.j1 kj2 l1 t621 t629 t635 true t617 t618 t625 t626 t631 t632)) = some r := H
      have A28 := Aside0.mk A280
      clear A280
      by_cases c29 : t637 = true
      ·subst c29
       have H1 : ((spec_PoolOk.f kj2 t617 t618).bind fun t638 => (if t638 = true then (if (t626.length : Int) = 0 then (laws_FnPoolAll.j1 kj2 l1 t621 t629 t635 (t625 == 0) t617 t618 t625 t626 t631 t632) else (laws_FnPoolAll.j1 kj2 l1 t621 t629 t635 false t617 t618 t625 t626 t631 t632)) else (laws_FnPoolAll.j1 kj2 l1 t621 t629 t635 true t617 t618 t625 t626 t631 t632))) = some r := by rw [if_pos rfl] at H; exact H
       clear H
       have H := H1
       clear H1
       replace H := Option.bind_eq_some_iff.mp H
       obtain ⟨t638, A300, H⟩ := H
       replace H : (if t638 = true then (if (t626.length : Int) = 0 then (laws_FnPoolAll.j1 kj2 l1 t621 t629 t635 (t625 == 0) t617 t618 t625 t626 t631 t632) else (laws_FnPoolAll.j1 kj2 l1 t621 t629 t635 false t617 t618 t625 t626 t631 t632)) else (laws_FnPoolAll.j1 kj2 l1 t621 t629 t635 true t617 t618 t625 t626 t631 t632)) = some r := H
       have A30 := Aside0.mk A300
       clear A300
       by_cases c31 : t638 = true
       ·subst c31
        have H1 : (if (t626.length : Int) = 0 then (laws_FnPoolAll.j1 kj2 l1 t621 t629 t635 (t625 == 0) t617 t618 t625 t626 t631 t632) else (laws_FnPoolAll.j1 kj2 l1 t621 t629 t635 false t617 t618 t625 t626 t631 t632)) = some r := by rw [if_pos rfl] at H; exact H
        clear H
        have H := H1
        clear H1
        by_cases c32 : (t626.length : Int) = 0
        ·rw [if_pos c32] at H
         have c32b0 : ((t626.length : Int) == 0) = true := beq_iff_eq.mpr c32
         have c32b1 : ((t626.length : Int) != 0) = false := bne_eq_false_iff_eq.mpr c32
         clear c32
         have H' := Aside0.mk H
         clear H
         have hnb33 := NB630_624.out
         have hnc33 := NB624_630.out
         have hnb34 := NB630_636.out
         have hnc34 := NB636_630.out
         have hcz35_0 : w22.cell? ⟨gb630, 0, none⟩ = some (.int .i64 t625) := (blk_cell BK630.out 0).trans rfl
         have hcz35_1 : w22.cell? ⟨gb630, 1, none⟩ = some (.slice Ao19 t626.length co19) := (blk_cell BK630.out 1).trans rfl
         have hfz35_0 := blk_frozen BK630.out 0
         have hfz35_1 := blk_frozen BK630.out 1
         have hnb36 := NB636_624.out
         have hnc36 := NB624_636.out
         have hcz37_0 : w22.cell? ⟨gb636, 0, none⟩ = some (.int .i64 0) := (blk_cell BK636.out 0).trans rfl
         have hcz37_1 : w22.cell? ⟨gb636, 1, none⟩ = some (.slice none 0 0) := (blk_cell BK636.out 1).trans rfl
         have hfz37_0 := blk_frozen BK636.out 0
         have hfz37_1 := blk_frozen BK636.out 1
         go_wp2_with (first | (go_at_call 35; (with_reducible refine (impl_PoolSame.calls kj2 t625 _ _ t626 t631 _ _ t632 true _ ?side1 ?side2 ?side3 ?side4 A28.out).mono ?_); (case side1 => refine (Kd.R_reads' (e := 25) (base := w.heap.size) (ok := fun k_ => (((True ∧ some k_ ≠ (.slice Ao13 t618.length co13 : Value).ownBlock) ∧ some k_ ≠ (.slice Ao14 t621.length co14 : Value).ownBlock) ∧ some k_ ≠ (.slice Ao26 t632.length co26 : Value).ownBlock)) (n := t626.length) (c := co19) ?_).2.2; exact (by (with_reducible repeat (first | apply ra | apply rb | apply rc)); exact (Kd.R_mono (Kd.R_far (p := ⟨gb636, 1, none⟩) (Kd.R_far (p := ⟨gb636, 0, none⟩) (Kd.R_types HO628.out BK636.out (by decide)) (fun _ hk => hk.2) (.int .i64 t631)) (fun _ hk => hk.2) (.slice Ao26 t632.length co26)) (fun _ h_ => h_.1)))); (case side2 => exact (Kd.R_reads' HO628.out).2.1); (case side3 => refine (Kd.R_reads' (e := 25) (base := w.heap.size) (ok := fun k_ => (((True ∧ some k_ ≠ (.slice Ao13 t618.length co13 : Value).ownBlock) ∧ some k_ ≠ (.slice Ao14 t621.length co14 : Value).ownBlock) ∧ some k_ ≠ (.slice Ao19 t626.length co19 : Value).ownBlock)) (n := t632.length) (c := co26) ?_).2.2; exact (by (with_reducible repeat (first | apply ra | apply rb | apply rc)); exact (Kd.R_mono (Kd.R_far (p := ⟨gb636, 1, none⟩) (Kd.R_far (p := ⟨gb636, 0, none⟩) (Kd.R_types HO634.out BK636.out (by decide)) (fun _ hk => hk.2) (.int .i64 t631)) (fun _ hk => hk.2) (.slice Ao26 t632.length co26)) (fun _ h_ => h_.1)))); (case side4 => exact (Kd.R_reads' HO634.out).2.1); rintro e w38 ⟨rfl, hb⟩; have n0_ := Aside0.mk (Kd.R_below (by (with_reducible repeat (first | apply ra | apply rb | apply rc)); exact (Kd.R_mono (Kd.R_far (p := ⟨gb636, 1, none⟩) (Kd.R_far (p := ⟨gb636, 0, none⟩) (Kd.R_types HO620.out BK636.out (by decide)) (fun _ hk => hk.2) (.int .i64 t631)) (fun _ hk => hk.2) (.slice Ao26 t632.length co26)) (fun _ h_ => h_.1))) hb); have n1_ := Aside0.mk (Kd.R_below (by (with_reducible repeat (first | apply ra | apply rb | apply rc)); exact (Kd.R_mono (Kd.R_far (p := ⟨gb636, 1, none⟩) (Kd.R_far (p := ⟨gb636, 0, none⟩) (Kd.R_types HO623.out BK636.out (by decide)) (fun _ hk => hk.2) (.int .i64 t631)) (fun _ hk => hk.2) (.slice Ao26 t632.length co26)) (fun _ h_ => h_.1))) hb); have n2_ := Aside0.mk (Kd.R_below (by (with_reducible repeat (first | apply ra | apply rb | apply rc)); exact (Kd.R_mono (Kd.R_far (p := ⟨gb636, 1, none⟩) (Kd.R_far (p := ⟨gb636, 0, none⟩) (Kd.R_types HO628.out BK636.out (by decide)) (fun _ hk => hk.2) (.int .i64 t631)) (fun _ hk => hk.2) (.slice Ao26 t632.length co26)) (fun _ h_ => h_.1))) hb); have n3_ := Aside0.mk (Kd.R_below (by (with_reducible repeat (first | apply ra | apply rb | apply rc)); exact (Kd.R_mono (Kd.R_far (p := ⟨gb636, 1, none⟩) (Kd.R_far (p := ⟨gb636, 0, none⟩) (Kd.R_types HO634.out BK636.out (by decide)) (fun _ hk => hk.2) (.int .i64 t631)) (fun _ hk => hk.2) (.slice Ao26 t632.length co26)) (fun _ h_ => h_.1))) hb); have n4_ := Aside0.mk (blk_below (g := gb624) (o := .cells #[.int .i64 t617, .slice Ao13 t618.length co13] 46 (0, 0)) (z22_0) hb); have n5_ := Aside0.mk (blk_below (g := gb630) (o := .cells #[.int .i64 t625, .slice Ao19 t626.length co19] 46 (0, 0)) (z22_1) hb); have n6_ := Aside0.mk (blk_below (g := gb636) (o := .cells #[.int .i64 t631, .slice Ao26 t632.length co26] 46 (0, 0)) (by (with_reducible repeat (first | refine ba ?_ _ | refine bb ?_ | refine bc ?_ _)); refine blk_put (cs := #[.int .i64 t631, .slice none 0 0]) ?_ 1 _ rfl; (with_reducible repeat (first | refine ba ?_ _ | refine bb ?_ | refine bc ?_ _)); refine blk_put (cs := #[.int .i64 0, .slice none 0 0]) ?_ 0 _ rfl; (with_reducible repeat (first | refine ba ?_ _ | refine bb ?_ | refine bc ?_ _)); exact BK636.out) hb); have n7_ := Aside0.mk (below_step (z22_4) hb); clear HO620; clear HO623; clear HO628; clear HO634; clear BK624; clear BK630; clear BK636; clear HB; have HO620 := n0_; have HO623 := n1_; have HO628 := n2_; have HO634 := n3_; have BK624 := n4_; have BK630 := n5_; have BK636 := n6_; have HB := n7_; clear n0_ n1_ n2_ n3_ n4_ n5_ n6_ n7_; (try clear hb); (try clear hb2); (try clear hk); (try clear hi); have hcz39_0 : w38.cell? ⟨gb624, 0, none⟩ = some (.int .i64 t617) := (blk_cell BK624.out 0).trans rfl; have hcz39_1 : w38.cell? ⟨gb624, 1, none⟩ = some (.slice Ao13 t618.length co13) := (blk_cell BK624.out 1).trans rfl; have hfz39_0 := blk_frozen BK624.out 0; have hfz39_1 := blk_frozen BK624.out 1) | (go_at_call 37; (with_reducible refine (spec_PoolOk.calls kj2 t617 _ _ t618 true _ ?side1 ?side2 A30.out).mono ?_); (case side1 => repeat (first | exact (Kd.R_reads' HO620.out).2.2 | (with_reducible refine Kd.C_alloc ?_ _) | (with_reducible refine Kd.C_drewN ?_ _) | (with_reducible refine Kd.C_drew ?_))); (case side2 => exact (Kd.R_reads' HO620.out).2.1); rintro e w40 ⟨rfl, hb⟩; have n0_ := Aside0.mk (Kd.R_below (by (with_reducible repeat (first | apply ra | apply rb | apply rc)); exact HO620.out) hb); have n1_ := Aside0.mk (Kd.R_below (by (with_reducible repeat (first | apply ra | apply rb | apply rc)); exact HO623.out) hb); have n2_ := Aside0.mk (Kd.R_below (by (with_reducible repeat (first | apply ra | apply rb | apply rc)); exact HO628.out) hb); have n3_ := Aside0.mk (Kd.R_below (by (with_reducible repeat (first | apply ra | apply rb | apply rc)); exact HO634.out) hb); have n4_ := Aside0.mk (blk_below (g := gb624) (o := .cells #[.int .i64 t617, .slice Ao13 t618.length co13] 46 (0, 0)) (z22_9) hb); have n5_ := Aside0.mk (blk_below (g := gb630) (o := .cells #[.int .i64 t625, .slice Ao19 t626.length co19] 46 (0, 0)) (z22_10) hb); have n6_ := Aside0.mk (blk_below (g := gb636) (o := .cells #[.int .i64 t631, .slice Ao26 t632.length co26] 46 (0, 0)) (z22_11) hb); have n7_ := Aside0.mk (below_step (z22_4) hb); clear HO620; clear HO623; clear HO628; clear HO634; clear BK624; clear BK630; clear BK636; clear HB; have HO620 := n0_; have HO623 := n1_; have HO628 := n2_; have HO634 := n3_; have BK624 := n4_; have BK630 := n5_; have BK636 := n6_; have HB := n7_; clear n0_ n1_ n2_ n3_ n4_ n5_ n6_ n7_; (try clear hb); (try clear hb2); (try clear hk); (try clear hi); have hcz41_0 : w40.cell? ⟨gb630, 0, none⟩ = some (.int .i64 t625) := (blk_cell BK630.out 0).trans rfl; have hcz41_1 : w40.cell? ⟨gb630, 1, none⟩ = some (.slice Ao19 t626.length co19) := (blk_cell BK630.out 1).trans rfl; have hfz41_0 := blk_frozen BK630.out 0; have hfz41_1 := blk_frozen BK630.out 1))
         go_meet
         case rel => exact ⟨_, ((t625 == 0)), (z22_16), H', ⟨by have := HJ2.out; first | omega | exact Nat.le_refl _⟩, ⟨by (with_reducible repeat (first | apply ra | apply rb | apply rc)); exact Kd.R_mono HO623.out (fun _ hk => ⟨hk.1.1, ⟨hk.1.2, hk.2⟩⟩)⟩, ⟨by (with_reducible repeat (first | apply ra | apply rb | apply rc)); exact Kd.R_mono HO620.out (fun _ hk => ⟨hk.1.1, ⟨hk.1.2, hk.2⟩⟩)⟩, ⟨by (with_reducible repeat (first | apply ra | apply rb | apply rc)); exact Kd.R_mono HO628.out (fun _ hk => ⟨hk.1.2, ⟨hk.1.1.2, hk.2⟩⟩)⟩, ⟨by (with_reducible repeat (first | apply ra | apply rb | apply rc)); exact Kd.R_mono HO634.out (fun _ hk => ⟨hk.1.2, ⟨hk.1.1.2, hk.2⟩⟩)⟩, ⟨by (with_reducible repeat (first | refine ba ?_ _ | refine bb ?_ | refine bc ?_ _)); exact BK624.out⟩, ⟨by (with_reducible repeat (first | refine ba ?_ _ | refine bb ?_ | refine bc ?_ _)); exact BK630.out⟩, ⟨by (with_reducible repeat (first | refine ba ?_ _ | refine bb ?_ | refine bc ?_ _)); exact BK636.out⟩, ⟨by repeat (first | (with_reducible first | exact HB.out | apply below_alloc | apply pw_below_drewN | apply below_drew1 | refine below_set ?_ GE624.out | refine below_set ?_ GE630.out | refine below_set ?_ GE636.out) | exact HB.out)⟩⟩
        ·rw [if_neg c32] at H
         have c32b0 : ((t626.length : Int) == 0) = false := beq_eq_false_iff_ne.mpr c32
         have c32b1 : ((t626.length : Int) != 0) = true := bne_iff_ne.mpr c32
         have c32b2 : ¬ (t626 = []) := fun h_ => c32 (by rw [h_]; rfl)
         have H' := Aside0.mk H
         clear H
         have hnb42 := NB630_624.out
         have hnc42 := NB624_630.out
         have hnb43 := NB630_636.out
         have hnc43 := NB636_630.out
         have hcz44_0 : w22.cell? ⟨gb630, 0, none⟩ = some (.int .i64 t625) := (blk_cell BK630.out 0).trans rfl
         have hcz44_1 : w22.cell? ⟨gb630, 1, none⟩ = some (.slice Ao19 t626.length co19) := (blk_cell BK630.out 1).trans rfl
         have hfz44_0 := blk_frozen BK630.out 0
         have hfz44_1 := blk_frozen BK630.out 1
         have hnb45 := NB636_624.out
         have hnc45 := NB624_636.out
         have hcz46_0 : w22.cell? ⟨gb636, 0, none⟩ = some (.int .i64 0) := (blk_cell BK636.out 0).trans rfl
         have hcz46_1 : w22.cell? ⟨gb636, 1, none⟩ = some (.slice none 0 0) := (blk_cell BK636.out 1).trans rfl
         have hfz46_0 := blk_frozen BK636.out 0
         have hfz46_1 := blk_frozen BK636.out 1
         go_wp2_with (first | (go_at_call 35; (with_reducible refine (impl_PoolSame.calls kj2 t625 _ _ t626 t631 _ _ t632 true _ ?side1 ?side2 ?side3 ?side4 A28.out).mono ?_); (case side1 => refine (Kd.R_reads' (e := 25) (base := w.heap.size) (ok := fun k_ => (((True ∧ some k_ ≠ (.slice Ao13 t618.length co13 : Value).ownBlock) ∧ some k_ ≠ (.slice Ao14 t621.length co14 : Value).ownBlock) ∧ some k_ ≠ (.slice Ao26 t632.length co26 : Value).ownBlock)) (n := t626.length) (c := co19) ?_).2.2; exact (by (with_reducible repeat (first | apply ra | apply rb | apply rc)); exact (Kd.R_mono (Kd.R_far (p := ⟨gb636, 1, none⟩) (Kd.R_far (p := ⟨gb636, 0, none⟩) (Kd.R_types HO628.out BK636.out (by decide)) (fun _ hk => hk.2) (.int .i64 t631)) (fun _ hk => hk.2) (.slice Ao26 t632.length co26)) (fun _ h_ => h_.1)))); (case side2 => exact (Kd.R_reads' HO628.out).2.1); (case side3 => refine (Kd.R_reads' (e := 25) (base := w.heap.size) (ok := fun k_ => (((True ∧ some k_ ≠ (.slice Ao13 t618.length co13 : Value).ownBlock) ∧ some k_ ≠ (.slice Ao14 t621.length co14 : Value).ownBlock) ∧ some k_ ≠ (.slice Ao19 t626.length co19 : Value).ownBlock)) (n := t632.length) (c := co26) ?_).2.2; exact (by (with_reducible repeat (first | apply ra | apply rb | apply rc)); exact (Kd.R_mono (Kd.R_far (p := ⟨gb636, 1, none⟩) (Kd.R_far (p := ⟨gb636, 0, none⟩) (Kd.R_types HO634.out BK636.out (by decide)) (fun _ hk => hk.2) (.int .i64 t631)) (fun _ hk => hk.2) (.slice Ao26 t632.length co26)) (fun _ h_ => h_.1)))); (case side4 => exact (Kd.R_reads' HO634.out).2.1); rintro e w47 ⟨rfl, hb⟩; have n0_ := Aside0.mk (Kd.R_below (by (with_reducible repeat (first | apply ra | apply rb | apply rc)); exact (Kd.R_mono (Kd.R_far (p := ⟨gb636, 1, none⟩) (Kd.R_far (p := ⟨gb636, 0, none⟩) (Kd.R_types HO620.out BK636.out (by decide)) (fun _ hk => hk.2) (.int .i64 t631)) (fun _ hk => hk.2) (.slice Ao26 t632.length co26)) (fun _ h_ => h_.1))) hb); have n1_ := Aside0.mk (Kd.R_below (by (with_reducible repeat (first | apply ra | apply rb | apply rc)); exact (Kd.R_mono (Kd.R_far (p := ⟨gb636, 1, none⟩) (Kd.R_far (p := ⟨gb636, 0, none⟩) (Kd.R_types HO623.out BK636.out (by decide)) (fun _ hk => hk.2) (.int .i64 t631)) (fun _ hk => hk.2) (.slice Ao26 t632.length co26)) (fun _ h_ => h_.1))) hb); have n2_ := Aside0.mk (Kd.R_below (by (with_reducible repeat (first | apply ra | apply rb | apply rc)); exact (Kd.R_mono (Kd.R_far (p := ⟨gb636, 1, none⟩) (Kd.R_far (p := ⟨gb636, 0, none⟩) (Kd.R_types HO628.out BK636.out (by decide)) (fun _ hk => hk.2) (.int .i64 t631)) (fun _ hk => hk.2) (.slice Ao26 t632.length co26)) (fun _ h_ => h_.1))) hb); have n3_ := Aside0.mk (Kd.R_below (by (with_reducible repeat (first | apply ra | apply rb | apply rc)); exact (Kd.R_mono (Kd.R_far (p := ⟨gb636, 1, none⟩) (Kd.R_far (p := ⟨gb636, 0, none⟩) (Kd.R_types HO634.out BK636.out (by decide)) (fun _ hk => hk.2) (.int .i64 t631)) (fun _ hk => hk.2) (.slice Ao26 t632.length co26)) (fun _ h_ => h_.1))) hb); have n4_ := Aside0.mk (blk_below (g := gb624) (o := .cells #[.int .i64 t617, .slice Ao13 t618.length co13] 46 (0, 0)) (z22_0) hb); have n5_ := Aside0.mk (blk_below (g := gb630) (o := .cells #[.int .i64 t625, .slice Ao19 t626.length co19] 46 (0, 0)) (z22_1) hb); have n6_ := Aside0.mk (blk_below (g := gb636) (o := .cells #[.int .i64 t631, .slice Ao26 t632.length co26] 46 (0, 0)) (by (with_reducible repeat (first | refine ba ?_ _ | refine bb ?_ | refine bc ?_ _)); refine blk_put (cs := #[.int .i64 t631, .slice none 0 0]) ?_ 1 _ rfl; (with_reducible repeat (first | refine ba ?_ _ | refine bb ?_ | refine bc ?_ _)); refine blk_put (cs := #[.int .i64 0, .slice none 0 0]) ?_ 0 _ rfl; (with_reducible repeat (first | refine ba ?_ _ | refine bb ?_ | refine bc ?_ _)); exact BK636.out) hb); have n7_ := Aside0.mk (below_step (z22_4) hb); clear HO620; clear HO623; clear HO628; clear HO634; clear BK624; clear BK630; clear BK636; clear HB; have HO620 := n0_; have HO623 := n1_; have HO628 := n2_; have HO634 := n3_; have BK624 := n4_; have BK630 := n5_; have BK636 := n6_; have HB := n7_; clear n0_ n1_ n2_ n3_ n4_ n5_ n6_ n7_; (try clear hb); (try clear hb2); (try clear hk); (try clear hi); have hcz48_0 : w47.cell? ⟨gb624, 0, none⟩ = some (.int .i64 t617) := (blk_cell BK624.out 0).trans rfl; have hcz48_1 : w47.cell? ⟨gb624, 1, none⟩ = some (.slice Ao13 t618.length co13) := (blk_cell BK624.out 1).trans rfl; have hfz48_0 := blk_frozen BK624.out 0; have hfz48_1 := blk_frozen BK624.out 1) | (go_at_call 37; (with_reducible refine (spec_PoolOk.calls kj2 t617 _ _ t618 true _ ?side1 ?side2 A30.out).mono ?_); (case side1 => repeat (first | exact (Kd.R_reads' HO620.out).2.2 | (with_reducible refine Kd.C_alloc ?_ _) | (with_reducible refine Kd.C_drewN ?_ _) | (with_reducible refine Kd.C_drew ?_))); (case side2 => exact (Kd.R_reads' HO620.out).2.1); rintro e w49 ⟨rfl, hb⟩; have n0_ := Aside0.mk (Kd.R_below (by (with_reducible repeat (first | apply ra | apply rb | apply rc)); exact HO620.out) hb); have n1_ := Aside0.mk (Kd.R_below (by (with_reducible repeat (first | apply ra | apply rb | apply rc)); exact HO623.out) hb); have n2_ := Aside0.mk (Kd.R_below (by (with_reducible repeat (first | apply ra | apply rb | apply rc)); exact HO628.out) hb); have n3_ := Aside0.mk (Kd.R_below (by (with_reducible repeat (first | apply ra | apply rb | apply rc)); exact HO634.out) hb); have n4_ := Aside0.mk (blk_below (g := gb624) (o := .cells #[.int .i64 t617, .slice Ao13 t618.length co13] 46 (0, 0)) (z22_9) hb); have n5_ := Aside0.mk (blk_below (g := gb630) (o := .cells #[.int .i64 t625, .slice Ao19 t626.length co19] 46 (0, 0)) (z22_10) hb); have n6_ := Aside0.mk (blk_below (g := gb636) (o := .cells #[.int .i64 t631, .slice Ao26 t632.length co26] 46 (0, 0)) (z22_11) hb); have n7_ := Aside0.mk (below_step (z22_4) hb); clear HO620; clear HO623; clear HO628; clear HO634; clear BK624; clear BK630; clear BK636; clear HB; have HO620 := n0_; have HO623 := n1_; have HO628 := n2_; have HO634 := n3_; have BK624 := n4_; have BK630 := n5_; have BK636 := n6_; have HB := n7_; clear n0_ n1_ n2_ n3_ n4_ n5_ n6_ n7_; (try clear hb); (try clear hb2); (try clear hk); (try clear hi); have hcz50_0 : w49.cell? ⟨gb630, 0, none⟩ = some (.int .i64 t625) := (blk_cell BK630.out 0).trans rfl; have hcz50_1 : w49.cell? ⟨gb630, 1, none⟩ = some (.slice Ao19 t626.length co19) := (blk_cell BK630.out 1).trans rfl; have hfz50_0 := blk_frozen BK630.out 0; have hfz50_1 := blk_frozen BK630.out 1))
         go_meet
         case rel => exact ⟨_, (false), (z22_16), H', ⟨by have := HJ2.out; first | omega | exact Nat.le_refl _⟩, ⟨by (with_reducible repeat (first | apply ra | apply rb | apply rc)); exact Kd.R_mono HO623.out (fun _ hk => ⟨hk.1.1, ⟨hk.1.2, hk.2⟩⟩)⟩, ⟨by (with_reducible repeat (first | apply ra | apply rb | apply rc)); exact Kd.R_mono HO620.out (fun _ hk => ⟨hk.1.1, ⟨hk.1.2, hk.2⟩⟩)⟩, ⟨by (with_reducible repeat (first | apply ra | apply rb | apply rc)); exact Kd.R_mono HO628.out (fun _ hk => ⟨hk.1.2, ⟨hk.1.1.2, hk.2⟩⟩)⟩, ⟨by (with_reducible repeat (first | apply ra | apply rb | apply rc)); exact Kd.R_mono HO634.out (fun _ hk => ⟨hk.1.2, ⟨hk.1.1.2, hk.2⟩⟩)⟩, ⟨by (with_reducible repeat (first | refine ba ?_ _ | refine bb ?_ | refine bc ?_ _)); exact BK624.out⟩, ⟨by (with_reducible repeat (first | refine ba ?_ _ | refine bb ?_ | refine bc ?_ _)); exact BK630.out⟩, ⟨by (with_reducible repeat (first | refine ba ?_ _ | refine bb ?_ | refine bc ?_ _)); exact BK636.out⟩, ⟨by repeat (first | (with_reducible first | exact HB.out | apply below_alloc | apply pw_below_drewN | apply below_drew1 | refine below_set ?_ GE624.out | refine below_set ?_ GE630.out | refine below_set ?_ GE636.out) | exact HB.out)⟩⟩
       ·replace c31 := Bool.eq_false_iff.mpr c31
        subst c31
        have H1 : (laws_FnPoolAll.j1 kj2 l1 t621 t629 t635 true t617 t618 t625 t626 t631 t632) = some r := by rw [if_neg (show ¬ (false = true) by decide)] at H; exact H
        clear H
        have H := H1
        clear H1
        have H' := Aside0.mk H
        clear H
        have hnb51 := NB630_624.out
        have hnc51 := NB624_630.out
        have hnb52 := NB630_636.out
        have hnc52 := NB636_630.out
        have hcz53_0 : w22.cell? ⟨gb630, 0, none⟩ = some (.int .i64 t625) := (blk_cell BK630.out 0).trans rfl
        have hcz53_1 : w22.cell? ⟨gb630, 1, none⟩ = some (.slice Ao19 t626.length co19) := (blk_cell BK630.out 1).trans rfl
        have hfz53_0 := blk_frozen BK630.out 0
        have hfz53_1 := blk_frozen BK630.out 1
        have hnb54 := NB636_624.out
        have hnc54 := NB624_636.out
        have hcz55_0 : w22.cell? ⟨gb636, 0, none⟩ = some (.int .i64 0) := (blk_cell BK636.out 0).trans rfl
        have hcz55_1 : w22.cell? ⟨gb636, 1, none⟩ = some (.slice none 0 0) := (blk_cell BK636.out 1).trans rfl
        have hfz55_0 := blk_frozen BK636.out 0
        have hfz55_1 := blk_frozen BK636.out 1
        go_wp2_with (first | (go_at_call 35; (with_reducible refine (impl_PoolSame.calls kj2 t625 _ _ t626 t631 _ _ t632 true _ ?side1 ?side2 ?side3 ?side4 A28.out).mono ?_); (case side1 => refine (Kd.R_reads' (e := 25) (base := w.heap.size) (ok := fun k_ => (((True ∧ some k_ ≠ (.slice Ao13 t618.length co13 : Value).ownBlock) ∧ some k_ ≠ (.slice Ao14 t621.length co14 : Value).ownBlock) ∧ some k_ ≠ (.slice Ao26 t632.length co26 : Value).ownBlock)) (n := t626.length) (c := co19) ?_).2.2; exact (by (with_reducible repeat (first | apply ra | apply rb | apply rc)); exact (Kd.R_mono (Kd.R_far (p := ⟨gb636, 1, none⟩) (Kd.R_far (p := ⟨gb636, 0, none⟩) (Kd.R_types HO628.out BK636.out (by decide)) (fun _ hk => hk.2) (.int .i64 t631)) (fun _ hk => hk.2) (.slice Ao26 t632.length co26)) (fun _ h_ => h_.1)))); (case side2 => exact (Kd.R_reads' HO628.out).2.1); (case side3 => refine (Kd.R_reads' (e := 25) (base := w.heap.size) (ok := fun k_ => (((True ∧ some k_ ≠ (.slice Ao13 t618.length co13 : Value).ownBlock) ∧ some k_ ≠ (.slice Ao14 t621.length co14 : Value).ownBlock) ∧ some k_ ≠ (.slice Ao19 t626.length co19 : Value).ownBlock)) (n := t632.length) (c := co26) ?_).2.2; exact (by (with_reducible repeat (first | apply ra | apply rb | apply rc)); exact (Kd.R_mono (Kd.R_far (p := ⟨gb636, 1, none⟩) (Kd.R_far (p := ⟨gb636, 0, none⟩) (Kd.R_types HO634.out BK636.out (by decide)) (fun _ hk => hk.2) (.int .i64 t631)) (fun _ hk => hk.2) (.slice Ao26 t632.length co26)) (fun _ h_ => h_.1)))); (case side4 => exact (Kd.R_reads' HO634.out).2.1); rintro e w56 ⟨rfl, hb⟩; have n0_ := Aside0.mk (Kd.R_below (by (with_reducible repeat (first | apply ra | apply rb | apply rc)); exact (Kd.R_mono (Kd.R_far (p := ⟨gb636, 1, none⟩) (Kd.R_far (p := ⟨gb636, 0, none⟩) (Kd.R_types HO620.out BK636.out (by decide)) (fun _ hk => hk.2) (.int .i64 t631)) (fun _ hk => hk.2) (.slice Ao26 t632.length co26)) (fun _ h_ => h_.1))) hb); have n1_ := Aside0.mk (Kd.R_below (by (with_reducible repeat (first | apply ra | apply rb | apply rc)); exact (Kd.R_mono (Kd.R_far (p := ⟨gb636, 1, none⟩) (Kd.R_far (p := ⟨gb636, 0, none⟩) (Kd.R_types HO623.out BK636.out (by decide)) (fun _ hk => hk.2) (.int .i64 t631)) (fun _ hk => hk.2) (.slice Ao26 t632.length co26)) (fun _ h_ => h_.1))) hb); have n2_ := Aside0.mk (Kd.R_below (by (with_reducible repeat (first | apply ra | apply rb | apply rc)); exact (Kd.R_mono (Kd.R_far (p := ⟨gb636, 1, none⟩) (Kd.R_far (p := ⟨gb636, 0, none⟩) (Kd.R_types HO628.out BK636.out (by decide)) (fun _ hk => hk.2) (.int .i64 t631)) (fun _ hk => hk.2) (.slice Ao26 t632.length co26)) (fun _ h_ => h_.1))) hb); have n3_ := Aside0.mk (Kd.R_below (by (with_reducible repeat (first | apply ra | apply rb | apply rc)); exact (Kd.R_mono (Kd.R_far (p := ⟨gb636, 1, none⟩) (Kd.R_far (p := ⟨gb636, 0, none⟩) (Kd.R_types HO634.out BK636.out (by decide)) (fun _ hk => hk.2) (.int .i64 t631)) (fun _ hk => hk.2) (.slice Ao26 t632.length co26)) (fun _ h_ => h_.1))) hb); have n4_ := Aside0.mk (blk_below (g := gb624) (o := .cells #[.int .i64 t617, .slice Ao13 t618.length co13] 46 (0, 0)) (z22_0) hb); have n5_ := Aside0.mk (blk_below (g := gb630) (o := .cells #[.int .i64 t625, .slice Ao19 t626.length co19] 46 (0, 0)) (z22_1) hb); have n6_ := Aside0.mk (blk_below (g := gb636) (o := .cells #[.int .i64 t631, .slice Ao26 t632.length co26] 46 (0, 0)) (by (with_reducible repeat (first | refine ba ?_ _ | refine bb ?_ | refine bc ?_ _)); refine blk_put (cs := #[.int .i64 t631, .slice none 0 0]) ?_ 1 _ rfl; (with_reducible repeat (first | refine ba ?_ _ | refine bb ?_ | refine bc ?_ _)); refine blk_put (cs := #[.int .i64 0, .slice none 0 0]) ?_ 0 _ rfl; (with_reducible repeat (first | refine ba ?_ _ | refine bb ?_ | refine bc ?_ _)); exact BK636.out) hb); have n7_ := Aside0.mk (below_step (z22_4) hb); clear HO620; clear HO623; clear HO628; clear HO634; clear BK624; clear BK630; clear BK636; clear HB; have HO620 := n0_; have HO623 := n1_; have HO628 := n2_; have HO634 := n3_; have BK624 := n4_; have BK630 := n5_; have BK636 := n6_; have HB := n7_; clear n0_ n1_ n2_ n3_ n4_ n5_ n6_ n7_; (try clear hb); (try clear hb2); (try clear hk); (try clear hi); have hcz57_0 : w56.cell? ⟨gb624, 0, none⟩ = some (.int .i64 t617) := (blk_cell BK624.out 0).trans rfl; have hcz57_1 : w56.cell? ⟨gb624, 1, none⟩ = some (.slice Ao13 t618.length co13) := (blk_cell BK624.out 1).trans rfl; have hfz57_0 := blk_frozen BK624.out 0; have hfz57_1 := blk_frozen BK624.out 1) | (go_at_call 37; (with_reducible refine (spec_PoolOk.calls kj2 t617 _ _ t618 false _ ?side1 ?side2 A30.out).mono ?_); (case side1 => repeat (first | exact (Kd.R_reads' HO620.out).2.2 | (with_reducible refine Kd.C_alloc ?_ _) | (with_reducible refine Kd.C_drewN ?_ _) | (with_reducible refine Kd.C_drew ?_))); (case side2 => exact (Kd.R_reads' HO620.out).2.1); rintro e w58 ⟨rfl, hb⟩; have n0_ := Aside0.mk (Kd.R_below (by (with_reducible repeat (first | apply ra | apply rb | apply rc)); exact HO620.out) hb); have n1_ := Aside0.mk (Kd.R_below (by (with_reducible repeat (first | apply ra | apply rb | apply rc)); exact HO623.out) hb); have n2_ := Aside0.mk (Kd.R_below (by (with_reducible repeat (first | apply ra | apply rb | apply rc)); exact HO628.out) hb); have n3_ := Aside0.mk (Kd.R_below (by (with_reducible repeat (first | apply ra | apply rb | apply rc)); exact HO634.out) hb); have n4_ := Aside0.mk (blk_below (g := gb624) (o := .cells #[.int .i64 t617, .slice Ao13 t618.length co13] 46 (0, 0)) (z22_9) hb); have n5_ := Aside0.mk (blk_below (g := gb630) (o := .cells #[.int .i64 t625, .slice Ao19 t626.length co19] 46 (0, 0)) (z22_10) hb); have n6_ := Aside0.mk (blk_below (g := gb636) (o := .cells #[.int .i64 t631, .slice Ao26 t632.length co26] 46 (0, 0)) (z22_11) hb); have n7_ := Aside0.mk (below_step (z22_4) hb); clear HO620; clear HO623; clear HO628; clear HO634; clear BK624; clear BK630; clear BK636; clear HB; have HO620 := n0_; have HO623 := n1_; have HO628 := n2_; have HO634 := n3_; have BK624 := n4_; have BK630 := n5_; have BK636 := n6_; have HB := n7_; clear n0_ n1_ n2_ n3_ n4_ n5_ n6_ n7_; (try clear hb); (try clear hb2); (try clear hk); (try clear hi)))
        go_meet
        case rel => exact ⟨_, (true), (z22_16), H', ⟨by have := HJ2.out; first | omega | exact Nat.le_refl _⟩, ⟨by (with_reducible repeat (first | apply ra | apply rb | apply rc)); exact Kd.R_mono HO623.out (fun _ hk => ⟨hk.1.1, ⟨hk.1.2, hk.2⟩⟩)⟩, ⟨by (with_reducible repeat (first | apply ra | apply rb | apply rc)); exact Kd.R_mono HO620.out (fun _ hk => ⟨hk.1.1, ⟨hk.1.2, hk.2⟩⟩)⟩, ⟨by (with_reducible repeat (first | apply ra | apply rb | apply rc)); exact Kd.R_mono HO628.out (fun _ hk => ⟨hk.1.2, ⟨hk.1.1.2, hk.2⟩⟩)⟩, ⟨by (with_reducible repeat (first | apply ra | apply rb | apply rc)); exact Kd.R_mono HO634.out (fun _ hk => ⟨hk.1.2, ⟨hk.1.1.2, hk.2⟩⟩)⟩, ⟨by (with_reducible repeat (first | refine ba ?_ _ | refine bb ?_ | refine bc ?_ _)); exact BK624.out⟩, ⟨by (with_reducible repeat (first | refine ba ?_ _ | refine bb ?_ | refine bc ?_ _)); exact BK630.out⟩, ⟨by (with_reducible repeat (first | refine ba ?_ _ | refine bb ?_ | refine bc ?_ _)); exact BK636.out⟩, ⟨by repeat (first | (with_reducible first | exact HB.out | apply below_alloc | apply pw_below_drewN | apply below_drew1 | refine below_set ?_ GE624.out | refine below_set ?_ GE630.out | refine below_set ?_ GE636.out) | exact HB.out)⟩⟩
      ·replace c29 := Bool.eq_false_iff.mpr c29
       subst c29
       have H1 : (laws_FnPoolAll.j1 kj2 l1 t621 t629 t635 true t617 t618 t625 t626 t631 t632) = some r := by rw [if_neg (show ¬ (false = true) by decide)] at H; exact H
       clear H
       have H := H1
       clear H1
       have H' := Aside0.mk H
       clear H
       have hnb59 := NB630_624.out
       have hnc59 := NB624_630.out
       have hnb60 := NB630_636.out
       have hnc60 := NB636_630.out
       have hcz61_0 : w22.cell? ⟨gb630, 0, none⟩ = some (.int .i64 t625) := (blk_cell BK630.out 0).trans rfl
       have hcz61_1 : w22.cell? ⟨gb630, 1, none⟩ = some (.slice Ao19 t626.length co19) := (blk_cell BK630.out 1).trans rfl
       have hfz61_0 := blk_frozen BK630.out 0
       have hfz61_1 := blk_frozen BK630.out 1
       have hnb62 := NB636_624.out
       have hnc62 := NB624_636.out
       have hcz63_0 : w22.cell? ⟨gb636, 0, none⟩ = some (.int .i64 0) := (blk_cell BK636.out 0).trans rfl
       have hcz63_1 : w22.cell? ⟨gb636, 1, none⟩ = some (.slice none 0 0) := (blk_cell BK636.out 1).trans rfl
       have hfz63_0 := blk_frozen BK636.out 0
       have hfz63_1 := blk_frozen BK636.out 1
       go_wp2_with (first | (go_at_call 35; (with_reducible refine (impl_PoolSame.calls kj2 t625 _ _ t626 t631 _ _ t632 false _ ?side1 ?side2 ?side3 ?side4 A28.out).mono ?_); (case side1 => refine (Kd.R_reads' (e := 25) (base := w.heap.size) (ok := fun k_ => (((True ∧ some k_ ≠ (.slice Ao13 t618.length co13 : Value).ownBlock) ∧ some k_ ≠ (.slice Ao14 t621.length co14 : Value).ownBlock) ∧ some k_ ≠ (.slice Ao26 t632.length co26 : Value).ownBlock)) (n := t626.length) (c := co19) ?_).2.2; exact (by (with_reducible repeat (first | apply ra | apply rb | apply rc)); exact (Kd.R_mono (Kd.R_far (p := ⟨gb636, 1, none⟩) (Kd.R_far (p := ⟨gb636, 0, none⟩) (Kd.R_types HO628.out BK636.out (by decide)) (fun _ hk => hk.2) (.int .i64 t631)) (fun _ hk => hk.2) (.slice Ao26 t632.length co26)) (fun _ h_ => h_.1)))); (case side2 => exact (Kd.R_reads' HO628.out).2.1); (case side3 => refine (Kd.R_reads' (e := 25) (base := w.heap.size) (ok := fun k_ => (((True ∧ some k_ ≠ (.slice Ao13 t618.length co13 : Value).ownBlock) ∧ some k_ ≠ (.slice Ao14 t621.length co14 : Value).ownBlock) ∧ some k_ ≠ (.slice Ao19 t626.length co19 : Value).ownBlock)) (n := t632.length) (c := co26) ?_).2.2; exact (by (with_reducible repeat (first | apply ra | apply rb | apply rc)); exact (Kd.R_mono (Kd.R_far (p := ⟨gb636, 1, none⟩) (Kd.R_far (p := ⟨gb636, 0, none⟩) (Kd.R_types HO634.out BK636.out (by decide)) (fun _ hk => hk.2) (.int .i64 t631)) (fun _ hk => hk.2) (.slice Ao26 t632.length co26)) (fun _ h_ => h_.1)))); (case side4 => exact (Kd.R_reads' HO634.out).2.1); rintro e w64 ⟨rfl, hb⟩; have n0_ := Aside0.mk (Kd.R_below (by (with_reducible repeat (first | apply ra | apply rb | apply rc)); exact (Kd.R_mono (Kd.R_far (p := ⟨gb636, 1, none⟩) (Kd.R_far (p := ⟨gb636, 0, none⟩) (Kd.R_types HO620.out BK636.out (by decide)) (fun _ hk => hk.2) (.int .i64 t631)) (fun _ hk => hk.2) (.slice Ao26 t632.length co26)) (fun _ h_ => h_.1))) hb); have n1_ := Aside0.mk (Kd.R_below (by (with_reducible repeat (first | apply ra | apply rb | apply rc)); exact (Kd.R_mono (Kd.R_far (p := ⟨gb636, 1, none⟩) (Kd.R_far (p := ⟨gb636, 0, none⟩) (Kd.R_types HO623.out BK636.out (by decide)) (fun _ hk => hk.2) (.int .i64 t631)) (fun _ hk => hk.2) (.slice Ao26 t632.length co26)) (fun _ h_ => h_.1))) hb); have n2_ := Aside0.mk (Kd.R_below (by (with_reducible repeat (first | apply ra | apply rb | apply rc)); exact (Kd.R_mono (Kd.R_far (p := ⟨gb636, 1, none⟩) (Kd.R_far (p := ⟨gb636, 0, none⟩) (Kd.R_types HO628.out BK636.out (by decide)) (fun _ hk => hk.2) (.int .i64 t631)) (fun _ hk => hk.2) (.slice Ao26 t632.length co26)) (fun _ h_ => h_.1))) hb); have n3_ := Aside0.mk (Kd.R_below (by (with_reducible repeat (first | apply ra | apply rb | apply rc)); exact (Kd.R_mono (Kd.R_far (p := ⟨gb636, 1, none⟩) (Kd.R_far (p := ⟨gb636, 0, none⟩) (Kd.R_types HO634.out BK636.out (by decide)) (fun _ hk => hk.2) (.int .i64 t631)) (fun _ hk => hk.2) (.slice Ao26 t632.length co26)) (fun _ h_ => h_.1))) hb); have n4_ := Aside0.mk (blk_below (g := gb624) (o := .cells #[.int .i64 t617, .slice Ao13 t618.length co13] 46 (0, 0)) (z22_0) hb); have n5_ := Aside0.mk (blk_below (g := gb630) (o := .cells #[.int .i64 t625, .slice Ao19 t626.length co19] 46 (0, 0)) (z22_1) hb); have n6_ := Aside0.mk (blk_below (g := gb636) (o := .cells #[.int .i64 t631, .slice Ao26 t632.length co26] 46 (0, 0)) (by (with_reducible repeat (first | refine ba ?_ _ | refine bb ?_ | refine bc ?_ _)); refine blk_put (cs := #[.int .i64 t631, .slice none 0 0]) ?_ 1 _ rfl; (with_reducible repeat (first | refine ba ?_ _ | refine bb ?_ | refine bc ?_ _)); refine blk_put (cs := #[.int .i64 0, .slice none 0 0]) ?_ 0 _ rfl; (with_reducible repeat (first | refine ba ?_ _ | refine bb ?_ | refine bc ?_ _)); exact BK636.out) hb); have n7_ := Aside0.mk (below_step (z22_4) hb); clear HO620; clear HO623; clear HO628; clear HO634; clear BK624; clear BK630; clear BK636; clear HB; have HO620 := n0_; have HO623 := n1_; have HO628 := n2_; have HO634 := n3_; have BK624 := n4_; have BK630 := n5_; have BK636 := n6_; have HB := n7_; clear n0_ n1_ n2_ n3_ n4_ n5_ n6_ n7_; (try clear hb); (try clear hb2); (try clear hk); (try clear hi)))
       go_meet
       case rel => exact ⟨_, (true), (z22_16), H', ⟨by have := HJ2.out; first | omega | exact Nat.le_refl _⟩, ⟨by (with_reducible repeat (first | apply ra | apply rb | apply rc)); exact Kd.R_mono HO623.out (fun _ hk => ⟨hk.1.1, ⟨hk.1.2, hk.2⟩⟩)⟩, ⟨by (with_reducible repeat (first | apply ra | apply rb | apply rc)); exact Kd.R_mono HO620.out (fun _ hk => ⟨hk.1.1, ⟨hk.1.2, hk.2⟩⟩)⟩, ⟨by (with_reducible repeat (first | apply ra | apply rb | apply rc)); exact Kd.R_mono HO628.out (fun _ hk => ⟨hk.1.2, ⟨hk.1.1.2, hk.2⟩⟩)⟩, ⟨by (with_reducible repeat (first | apply ra | apply rb | apply rc)); exact Kd.R_mono HO634.out (fun _ hk => ⟨hk.1.2, ⟨hk.1.1.2, hk.2⟩⟩)⟩, ⟨by (with_reducible repeat (first | refine ba ?_ _ | refine bb ?_ | refine bc ?_ _)); exact BK624.out⟩, ⟨by (with_reducible repeat (first | refine ba ?_ _ | refine bb ?_ | refine bc ?_ _)); exact BK630.out⟩, ⟨by (with_reducible repeat (first | refine ba ?_ _ | refine bb ?_ | refine bc ?_ _)); exact BK636.out⟩, ⟨by repeat (first | (with_reducible first | exact HB.out | apply below_alloc | apply pw_below_drewN | apply below_drew1 | refine below_set ?_ GE624.out | refine below_set ?_ GE630.out | refine below_set ?_ GE636.out) | exact HB.out)⟩⟩
     ·rw [if_neg c27] at H
      have c27b0 : (t629 == t635) = false := beq_eq_false_iff_ne.mpr c27
      have c27b1 : (t629 != t635) = true := bne_iff_ne.mpr c27
      (first | rw [c27b0] | (simp only [i64_w, i32_w]; rw [c27b0]) | skip)
      have H' := Aside0.mk H
      clear H
      go_wp2
      go_meet
      case rel => exact ⟨_, (true), (z22_16), H', ⟨by have := HJ2.out; first | omega | exact Nat.le_refl _⟩, ⟨by (with_reducible repeat (first | apply ra | apply rb | apply rc)); exact Kd.R_mono (Kd.R_far (p := ⟨gb636, 1, none⟩) (Kd.R_far (p := ⟨gb636, 0, none⟩) (Kd.R_types HO623.out BK636.out (by decide)) (fun _ hk => hk.2) (.int .i64 t631)) (fun _ hk => hk.2) (.slice Ao26 t632.length co26)) (fun _ hk => ⟨hk.1.1.1, ⟨hk.1.1.2, hk.1.2⟩⟩)⟩, ⟨by (with_reducible repeat (first | apply ra | apply rb | apply rc)); exact Kd.R_mono (Kd.R_far (p := ⟨gb636, 1, none⟩) (Kd.R_far (p := ⟨gb636, 0, none⟩) (Kd.R_types HO620.out BK636.out (by decide)) (fun _ hk => hk.2) (.int .i64 t631)) (fun _ hk => hk.2) (.slice Ao26 t632.length co26)) (fun _ hk => ⟨hk.1.1.1, ⟨hk.1.1.2, hk.1.2⟩⟩)⟩, ⟨by (with_reducible repeat (first | apply ra | apply rb | apply rc)); exact Kd.R_mono (Kd.R_far (p := ⟨gb636, 1, none⟩) (Kd.R_far (p := ⟨gb636, 0, none⟩) (Kd.R_types HO628.out BK636.out (by decide)) (fun _ hk => hk.2) (.int .i64 t631)) (fun _ hk => hk.2) (.slice Ao26 t632.length co26)) (fun _ hk => ⟨hk.1.1.2, ⟨hk.1.1.1.2, hk.1.2⟩⟩)⟩, ⟨by (with_reducible repeat (first | apply ra | apply rb | apply rc)); exact Kd.R_mono (Kd.R_far (p := ⟨gb636, 1, none⟩) (Kd.R_far (p := ⟨gb636, 0, none⟩) (Kd.R_types HO634.out BK636.out (by decide)) (fun _ hk => hk.2) (.int .i64 t631)) (fun _ hk => hk.2) (.slice Ao26 t632.length co26)) (fun _ hk => ⟨hk.1.1.2, ⟨hk.1.1.1.2, hk.1.2⟩⟩)⟩, ⟨by (with_reducible repeat (first | refine ba ?_ _ | refine bb ?_ | refine bc ?_ _)); refine blk_far ?_ NB624_636.out _; (with_reducible repeat (first | refine ba ?_ _ | refine bb ?_ | refine bc ?_ _)); refine blk_far ?_ NB624_636.out _; (with_reducible repeat (first | refine ba ?_ _ | refine bb ?_ | refine bc ?_ _)); exact BK624.out⟩, ⟨by (with_reducible repeat (first | refine ba ?_ _ | refine bb ?_ | refine bc ?_ _)); refine blk_far ?_ NB630_636.out _; (with_reducible repeat (first | refine ba ?_ _ | refine bb ?_ | refine bc ?_ _)); refine blk_far ?_ NB630_636.out _; (with_reducible repeat (first | refine ba ?_ _ | refine bb ?_ | refine bc ?_ _)); exact BK630.out⟩, ⟨by (with_reducible repeat (first | refine ba ?_ _ | refine bb ?_ | refine bc ?_ _)); refine blk_put (cs := #[.int .i64 t631, .slice none 0 0]) ?_ 1 _ rfl; (with_reducible repeat (first | refine ba ?_ _ | refine bb ?_ | refine bc ?_ _)); refine blk_put (cs := #[.int .i64 0, .slice none 0 0]) ?_ 0 _ rfl; (with_reducible repeat (first | refine ba ?_ _ | refine bb ?_ | refine bc ?_ _)); exact BK636.out⟩, ⟨by repeat (first | (with_reducible first | exact HB.out | apply below_alloc | apply pw_below_drewN | apply below_drew1 | refine below_set ?_ GE624.out | refine below_set ?_ GE630.out | refine below_set ?_ GE636.out) | exact HB.out)⟩⟩
    case rest =>
     clear HC9
     try clear c1
     try clear c2
     try clear p2
     try clear c3
     try clear c4
     try clear c4b0
     try clear c4b1
     try clear c5
     try clear c6
     try clear c12
     try clear c17
     try clear c23
     try clear c24
     try clear c27
     try clear c27b0
     try clear c27b1
     try clear c29
     try clear c31
     try clear c32
     try clear c32b0
     try clear c32b1
     try clear c32b2
     try clear c33
     try clear c34
     try clear c36
     try clear c42
     try clear c43
     try clear c44
     try clear c45
     try clear c46
     try clear c51
     try clear c52
     try clear c54
     try clear c59
     try clear c60
     try clear c62
     try clear hcz12_0
     try clear hcz12_1
     try clear hcz18_0
     try clear hcz18_1
     try clear hcz20_0
     try clear hcz20_1
     try clear hcz25_0
     try clear hcz25_1
     try clear hcz35_0
     try clear hcz35_1
     try clear hcz37_0
     try clear hcz37_1
     try clear hcz39_0
     try clear hcz39_1
     try clear hcz41_0
     try clear hcz41_1
     try clear hcz44_0
     try clear hcz44_1
     try clear hcz46_0
     try clear hcz46_1
     try clear hcz48_0
     try clear hcz48_1
     try clear hcz50_0
     try clear hcz50_1
     try clear hcz53_0
     try clear hcz53_1
     try clear hcz55_0
     try clear hcz55_1
     try clear hcz57_0
     try clear hcz57_1
     try clear hcz61_0
     try clear hcz61_1
     try clear hcz63_0
     try clear hcz63_1
     try clear hfz12_0
     try clear hfz12_1
     try clear hfz18_0
     try clear hfz18_1
     try clear hfz20_0
     try clear hfz20_1
     try clear hfz25_0
     try clear hfz25_1
     try clear hfz35_0
     try clear hfz35_1
     try clear hfz37_0
     try clear hfz37_1
     try clear hfz39_0
     try clear hfz39_1
     try clear hfz41_0
     try clear hfz41_1
     try clear hfz44_0
     try clear hfz44_1
     try clear hfz46_0
     try clear hfz46_1
     try clear hfz48_0
     try clear hfz48_1
     try clear hfz50_0
     try clear hfz50_1
     try clear hfz53_0
     try clear hfz53_1
     try clear hfz55_0
     try clear hfz55_1
     try clear hfz57_0
     try clear hfz57_1
     try clear hfz61_0
     try clear hfz61_1
     try clear hfz63_0
     try clear hfz63_1
     try clear p2
     obtain ⟨kq, x70_8, rfl, HA, HJ8, HO_6, HO_625001, HO_631001, HO_637001, BK624, BK630, BK636, HB⟩ := hcut
     cases kq with
     | zero => exact absurd HA.out (by simp [laws_FnPoolAll.j1])
     | succ kj8 =>
      have H := HA.out
      clear HA
      simp only [laws_FnPoolAll.j1] at H
      by_cases c65 : x70_8 = true
      ·subst c65
       have H1 : (if t629 = t635 then ((impl_PoolSame.f kj8 t625 t626 t631 t632).bind fun t639 => (some t639)) else (some false)) = some r := by rw [if_pos rfl] at H; exact H
       clear H
       have H := H1
       clear H1
       by_cases c66 : t629 = t635
       ·rw [if_pos c66] at H
        have c66b0 : (t629 == t635) = true := beq_iff_eq.mpr c66
        have c66b1 : (t629 != t635) = false := bne_eq_false_iff_eq.mpr c66
        clear c66
        replace H := Option.bind_eq_some_iff.mp H
        obtain ⟨t639, A670, H⟩ := H
        replace H : (some t639) = some r := H
        have A67 := Aside0.mk A670
        clear A670
        obtain rfl := Option.some.inj H
        have hnb68 := NB630_624.out
        have hnc68 := NB624_630.out
        have hnb69 := NB630_636.out
        have hnc69 := NB636_630.out
        have hcz70_0 : wc.cell? ⟨gb630, 0, none⟩ = some (.int .i64 t625) := (blk_cell BK630.out 0).trans rfl
        have hcz70_1 : wc.cell? ⟨gb630, 1, none⟩ = some (.slice Ao19 t626.length co19) := (blk_cell BK630.out 1).trans rfl
        have hfz70_0 := blk_frozen BK630.out 0
        have hfz70_1 := blk_frozen BK630.out 1
        have hnb71 := NB636_624.out
        have hnc71 := NB624_636.out
        have hcz72_0 : wc.cell? ⟨gb636, 0, none⟩ = some (.int .i64 t631) := (blk_cell BK636.out 0).trans rfl
        have hcz72_1 : wc.cell? ⟨gb636, 1, none⟩ = some (.slice Ao26 t632.length co26) := (blk_cell BK636.out 1).trans rfl
        have hfz72_0 := blk_frozen BK636.out 0
        have hfz72_1 := blk_frozen BK636.out 1
        go_wp2_with (first | (go_at_call 35; (with_reducible refine (impl_PoolSame.calls kj8 t625 _ _ t626 t631 _ _ t632 t639 _ ?side1 ?side2 ?side3 ?side4 A67.out).mono ?_); (case side1 => repeat (first | exact (Kd.R_reads' HO_631001.out).2.2 | (with_reducible refine Kd.C_alloc ?_ _) | (with_reducible refine Kd.C_drewN ?_ _) | (with_reducible refine Kd.C_drew ?_))); (case side2 => exact (Kd.R_reads' HO_631001.out).2.1); (case side3 => repeat (first | exact (Kd.R_reads' HO_637001.out).2.2 | (with_reducible refine Kd.C_alloc ?_ _) | (with_reducible refine Kd.C_drewN ?_ _) | (with_reducible refine Kd.C_drew ?_))); (case side4 => exact (Kd.R_reads' HO_637001.out).2.1); rintro e w73 ⟨rfl, hb⟩; have n0_ := Aside0.mk (Kd.R_below (by (with_reducible repeat (first | apply ra | apply rb | apply rc)); exact HO_6.out) hb); have n1_ := Aside0.mk (Kd.R_below (by (with_reducible repeat (first | apply ra | apply rb | apply rc)); exact HO_625001.out) hb); have n2_ := Aside0.mk (Kd.R_below (by (with_reducible repeat (first | apply ra | apply rb | apply rc)); exact HO_631001.out) hb); have n3_ := Aside0.mk (Kd.R_below (by (with_reducible repeat (first | apply ra | apply rb | apply rc)); exact HO_637001.out) hb); have n4_ := Aside0.mk (blk_below (g := gb624) (o := .cells #[.int .i64 t617, .slice Ao13 t618.length co13] 46 (0, 0)) (z22_9) hb); have n5_ := Aside0.mk (blk_below (g := gb630) (o := .cells #[.int .i64 t625, .slice Ao19 t626.length co19] 46 (0, 0)) (z22_10) hb); have n6_ := Aside0.mk (blk_below (g := gb636) (o := .cells #[.int .i64 t631, .slice Ao26 t632.length co26] 46 (0, 0)) (z22_11) hb); have n7_ := Aside0.mk (below_step (z22_4) hb); clear HO_6; clear HO_625001; clear HO_631001; clear HO_637001; clear BK624; clear BK630; clear BK636; clear HB; have HO_6 := n0_; have HO_625001 := n1_; have HO_631001 := n2_; have HO_637001 := n3_; have BK624 := n4_; have BK630 := n5_; have BK636 := n6_; have HB := n7_; clear n0_ n1_ n2_ n3_ n4_ n5_ n6_ n7_; (try clear hb); (try clear hb2); (try clear hk); (try clear hi)))
        go_ret
        exact ⟨by first | rfl | (simp [errW_none, errW_some] <;> rfl) | (simp [*, errW_none, errW_some] <;> rfl), by repeat (first | (with_reducible first | exact HB.out | apply below_alloc | apply pw_below_drewN | apply below_drew1 | refine below_set ?_ GE624.out | refine below_set ?_ GE630.out | refine below_set ?_ GE636.out) | exact HB.out)⟩
       ·rw [if_neg c66] at H
        have c66b0 : (t629 == t635) = false := beq_eq_false_iff_ne.mpr c66
        have c66b1 : (t629 != t635) = true := bne_iff_ne.mpr c66
        exact absurd ((Option.some.inj H).trans hT) (by simp)
      ·replace c65 := Bool.eq_false_iff.mpr c65
       subst c65
       have H1 : (if (wrap64 ((t621.length : Int) + 1)) = 0 then (none) else (if 0 ≤ ((l1.length : Int) % (wrap64 ((t621.length : Int) + 1))) then (if ((l1.length : Int) % (wrap64 ((t621.length : Int) + 1))) ≤ (t621.length : Int) then ((impl_PoolAll.f t617 t618 (t621.take (((l1.length : Int) % (wrap64 ((t621.length : Int) + 1))) : Int).toNat)).bind fun bt644 => ((impl_PoolAll.f bt644.1 bt644.2.1 (t621.drop (((l1.length : Int) % (wrap64 ((t621.length : Int) + 1))) : Int).toNat)).bind fun bt654 => (laws_FnPoolAll.l0 kj8 t621 t629 bt644.2.2 bt654.2.2 0 0 t617 t618 t625 t626 bt654.1 bt654.2.1))) else (none)) else (none))) = some r := by rw [if_neg (show ¬ (false = true) by decide)] at H; exact H
       clear H
       have H := H1
       clear H1
       by_cases c74 : (wrap64 ((t621.length : Int) + 1)) = 0
       ·rw [if_pos c74] at H
        exact absurd H (by simp)
       ·rw [if_neg c74] at H
        have c74b0 : ((wrap64 ((t621.length : Int) + 1)) == 0) = false := beq_eq_false_iff_ne.mpr c74
        have c74b1 : ((wrap64 ((t621.length : Int) + 1)) != 0) = true := bne_iff_ne.mpr c74
        obtain ⟨ji75, hji75⟩ : ∃ j_ : Int, ((l1.length : Int) % (wrap64 ((t621.length : Int) + 1))) = j_ := ⟨_, rfl⟩
        replace H : (if 0 ≤ (ji75) then (if (ji75) ≤ (t621.length : Int) then ((impl_PoolAll.f t617 t618 (t621.take ((ji75) : Int).toNat)).bind fun bt644 => ((impl_PoolAll.f bt644.1 bt644.2.1 (t621.drop ((ji75) : Int).toNat)).bind fun bt654 => (laws_FnPoolAll.l0 kj8 t621 t629 bt644.2.2 bt654.2.2 0 0 t617 t618 t625 t626 bt654.1 bt654.2.1))) else (none)) else (none)) = some r := by first | (rw [hji75] at H; exact H) | (simp only [hji75] at H ⊢; exact H)
        by_cases c76 : 0 ≤ (ji75)
        ·rw [if_pos c76] at H
         have c76b0 := eq_true c76
         have c76b1 : decide (0 ≤ (ji75)) = true := decide_eq_true c76
         clear c76
         by_cases c77 : (ji75) ≤ (t621.length : Int)
         ·rw [if_pos c77] at H
          have c77b0 := eq_true c77
          have c77b1 : decide ((ji75) ≤ (t621.length : Int)) = true := decide_eq_true c77
          clear c77
          obtain ⟨y640, hy640⟩ : ∃ y_ : List (S25), y_ = (t621.take ((ji75) : Int).toNat) := ⟨_, rfl⟩
          replace H : ((impl_PoolAll.f t617 t618 y640).bind fun bt644 => ((impl_PoolAll.f bt644.1 bt644.2.1 (t621.drop ((ji75) : Int).toNat)).bind fun bt654 => (laws_FnPoolAll.l0 kj8 t621 t629 bt644.2.2 bt654.2.2 0 0 t617 t618 t625 t626 bt654.1 bt654.2.1))) = some r := by first | (rw [hy640]; with_reducible exact H) | (have H2_ := (Option.bind_some _ _).symm.trans H; rw [hy640]; with_reducible exact H2_) | (have H2_ := (Option.bind_some _ _).symm.trans H; with_reducible exact H2_) | with_reducible exact H | (rw [hy640]; exact H) | exact H
          have Ny640 := Aside0.mk hy640
          clear hy640
          replace H := Option.bind_eq_some_iff.mp H
          obtain ⟨⟨t644, t645, t648⟩, A780, H⟩ := H
          replace H : ((impl_PoolAll.f t644 t645 (t621.drop ((ji75) : Int).toNat)).bind fun bt654 => (laws_FnPoolAll.l0 kj8 t621 t629 t648 bt654.2.2 0 0 t617 t618 t625 t626 bt654.1 bt654.2.1)) = some r := H
          have A78 := Aside0.mk A780
          clear A780
          have c79b0 := eq_true (of_decide_eq_true (z22_15) : 0 ≤ (ji75))
          have c80b0 := eq_true (of_decide_eq_true (z22_15) : (ji75) ≤ (t621.length : Int))
          obtain ⟨y650, hy650⟩ : ∃ y_ : List (S25), y_ = (t621.drop ((ji75) : Int).toNat) := ⟨_, rfl⟩
          replace H : ((impl_PoolAll.f t644 t645 y650).bind fun bt654 => (laws_FnPoolAll.l0 kj8 t621 t629 t648 bt654.2.2 0 0 t617 t618 t625 t626 bt654.1 bt654.2.1)) = some r := by first | (rw [hy650]; with_reducible exact H) | (have H2_ := (Option.bind_some _ _).symm.trans H; rw [hy650]; with_reducible exact H2_) | (have H2_ := (Option.bind_some _ _).symm.trans H; with_reducible exact H2_) | with_reducible exact H | (rw [hy650]; exact H) | exact H
          have Ny650 := Aside0.mk hy650
          clear hy650
          replace H := Option.bind_eq_some_iff.mp H
          obtain ⟨⟨t654, t655, t658⟩, A810, H⟩ := H
          replace H : (laws_FnPoolAll.l0 kj8 t621 t629 t648 t658 0 0 t617 t618 t625 t626 t654 t655) = some r := H
          have A81 := Aside0.mk A810
          clear A810
          have H' := Aside0.mk H
          clear H
          try go_wp2
          have n0_ := Aside0.mk (Kd.R_drew HO_6.out)
          have n1_ := Aside0.mk (Kd.R_drew HO_625001.out)
          have n2_ := Aside0.mk (Kd.R_drew HO_631001.out)
          have n3_ := Aside0.mk (Kd.R_drew HO_637001.out)
          have n4_ := Aside0.mk (blk_drew BK624.out)
          have n5_ := Aside0.mk (blk_drew BK630.out)
          have n6_ := Aside0.mk (blk_drew BK636.out)
          have n7_ := Aside0.mk (below_drew1 HB.out)
          clear HO_6
          clear HO_625001
          clear HO_631001
          clear HO_637001
          clear BK624
          clear BK630
          clear BK636
          clear HB
          have HO_6 := n0_
          have HO_625001 := n1_
          have HO_631001 := n2_
          have HO_637001 := n3_
          have BK624 := n4_
          have BK630 := n5_
          have BK636 := n6_
          have HB := n7_
          clear n0_ n1_ n2_ n3_ n4_ n5_ n6_ n7_
          have q83 : ((ji75) : Int) ≤ ((t621.length : Int) : Int) := of_decide_eq_true (z22_15)
          obtain ⟨i083, hi083, _, hsz83, _⟩ := info_parts info25
          have hroom83 : t621.length ≤ co14 := (Kd.R_reads' HO_6.out).2.1
          have hC83 : Kd.C k25 _ Ao14 t621.length t621 := (Kd.R_reads' HO_6.out).2.2
          have hcut83 := cut_to (P := Try.prog) 28 25 .i64 Try.underlying28 hi083 Ao14 t621.length co14 (ji75) (of_decide_eq_true (z22_15)) q83 hroom83
          have hr83 := Kd.C_take (m := ((ji75) : Int).toNat) hC83 (by omega)
          have hy83 : y640.length = ((ji75) : Int).toNat := (by rw [Ny640.out, List.length_take]; omega)
          rw [← Ny640.out] at hr83
          rw [← hy83] at hcut83
          have HR643 := Aside0.mk hr83
          have HC643 := Aside0.mk (show y640.length ≤ co14 from by omega)
          clear hr83 hC83 hroom83 hi083 hsz83
          have KY83 := Aside0.mk hy83
          clear hy83
          have KL83 := Aside0.mk (show ((ji75) : Int).toNat ≤ t621.length from by omega)
          replace q83 := eq_true q83
          refine start_ (n := 11) (S := fun w' => w'.cell? ⟨gb624, 0, none⟩ = some (.int .i64 t617) ∧ w'.cell? ⟨gb624, 1, none⟩ = some (.slice Ao13 t618.length co13)) (ds := []) #[ff,ff,ff,ff,ff,ff,ff,ff,ff,ff,ff] (by kernel_rfl) rfl rfl ⟨(blk_cell BK624.out 0).trans rfl, (blk_cell BK624.out 1).trans rfl⟩ (fun hHeld => ?_); refine with_tabW laws_FnPoolAll.tab9 laws_FnPoolAll.bits9 (fun HT_ HW_ => ?_)
          generalize wc.drew = w82 at HO_6 HO_625001 HO_631001 HO_637001 BK624 BK630 BK636 HB HR643 hHeld ⊢
          refine pure_ (i := 1) (N := some 87) (v := ?_) (a' := ?_) #[ff,tt,ff,ff,ff,ff,ff,ff,ff,ff,ff] rfl rfl (any_of HT_.out (by kernel_rfl)) (fun _ _ _ h => h) (Or.inl ⟨by rfl, ?_⟩) ?_ ?_
          rotate_left
          ·intro w'
           go_simp
           with_reducible rfl
          rotate_left
          ·simp only [Act.put, List.setIfInBounds_toArray, List.set_cons_zero, List.set_cons_succ, i64_w, i32_w]
           rfl
          refine pure_ (i := 2) (N := some 88) (v := ?_) (a' := ?_) #[ff,tt,tt,ff,ff,ff,ff,ff,ff,ff,ff] rfl rfl (any_of HT_.out (by kernel_rfl)) (fun _ _ _ h => h) (Or.inl ⟨by rfl, ?_⟩) ?_ ?_
          rotate_left
          ·intro w'
           go_simp
           with_reducible rfl
          rotate_left
          ·simp only [Act.put, List.setIfInBounds_toArray, List.set_cons_zero, List.set_cons_succ, i64_w, i32_w]
           rfl
          refine pure_ (i := 3) (N := some 89) (v := ?_) (a' := ?_) #[ff,tt,tt,tt,ff,ff,ff,ff,ff,ff,ff] rfl rfl (any_of HT_.out (by kernel_rfl)) (fun _ _ _ h => h) (Or.inl ⟨by rfl, ?_⟩) ?_ ?_
          rotate_left
          ·intro w'
           go_simp
           with_reducible rfl
          rotate_left
          ·simp only [Act.put, List.setIfInBounds_toArray, List.set_cons_zero, List.set_cons_succ, i64_w, i32_w]
           rfl
          refine take_ (i := 0) (N := some 86) (v := ?_) (a' := ?_) #[tt,tt,tt,tt,ff,ff,ff,ff,ff,ff,ff] rfl rfl (take_ofW HT_.out HW_.out (by kernel_rfl)) (fun _ _ _ h => h) (Or.inl ⟨by rfl, ?_⟩) hHeld ?_ ?_
          rotate_left
          ·rintro w' ⟨s0, s1⟩
           go_simp
           with_reducible rfl
          rotate_left
          ·simp only [Act.put, List.setIfInBounds_toArray, List.set_cons_zero, List.set_cons_succ, i64_w, i32_w]
           rfl
          refine join_ (σ := Value × Nat) 2 #[tt,tt,tt,tt,tt,tt,tt,tt,tt,ff,ff] (fun s_ => [(90, .tuple #[.agg #[.int .i64 t644, s_.1], .int .i64 t648]), (12, .pointer (some ⟨s_.2, 0, none⟩)), (85, .tuple #[.agg #[.int .i64 t644, s_.1], .int .i64 t648]), (91, .agg #[.int .i64 t644, s_.1]), (92, .int .i64 t648)]) (fun s_ w' => (w'.cell? ⟨gb624, 0, none⟩ = some (.int .i64 t617) ∧ w'.cell? ⟨gb624, 1, none⟩ = some (.slice Ao13 t618.length co13)) ∧ (Kd.R k25 25 w' w.heap.size (fun k_ => some k_ ≠ (.slice Ao14 t621.length co14 : Value).ownBlock ∧ some k_ ≠ (.slice Ao13 t618.length co13 : Value).ownBlock ∧ some k_ ≠ (.slice Ao19 t626.length co19 : Value).ownBlock ∧ some k_ ≠ (.slice Ao26 t632.length co26 : Value).ownBlock) s_.1 t645) ∧ (Kd.R k25 25 w' w.heap.size (fun k_ => some k_ ≠ (s_.1 : Value).ownBlock ∧ some k_ ≠ (.slice Ao13 t618.length co13 : Value).ownBlock ∧ some k_ ≠ (.slice Ao19 t626.length co19 : Value).ownBlock ∧ some k_ ≠ (.slice Ao26 t632.length co26 : Value).ownBlock) (.slice Ao14 t621.length co14) t621) ∧ (Kd.R k25 25 w' w.heap.size (fun k_ => some k_ ≠ (s_.1 : Value).ownBlock ∧ some k_ ≠ (.slice Ao14 t621.length co14 : Value).ownBlock ∧ some k_ ≠ (.slice Ao19 t626.length co19 : Value).ownBlock ∧ some k_ ≠ (.slice Ao26 t632.length co26 : Value).ownBlock) (.slice Ao13 t618.length co13) t618) ∧ (Kd.R k25 25 w' w.heap.size (fun k_ => some k_ ≠ (s_.1 : Value).ownBlock ∧ some k_ ≠ (.slice Ao14 t621.length co14 : Value).ownBlock ∧ some k_ ≠ (.slice Ao13 t618.length co13 : Value).ownBlock ∧ some k_ ≠ (.slice Ao26 t632.length co26 : Value).ownBlock) (.slice Ao19 t626.length co19) t626) ∧ (Kd.R k25 25 w' w.heap.size (fun k_ => some k_ ≠ (s_.1 : Value).ownBlock ∧ some k_ ≠ (.slice Ao14 t621.length co14 : Value).ownBlock ∧ some k_ ≠ (.slice Ao13 t618.length co13 : Value).ownBlock ∧ some k_ ≠ (.slice Ao19 t626.length co19 : Value).ownBlock) (.slice Ao26 t632.length co26) t632) ∧ (w'.heap[gb624]? = some (.cells #[.int .i64 t617, .slice Ao13 t618.length co13] 46 (0, 0))) ∧ (w'.heap[gb630]? = some (.cells #[.int .i64 t625, .slice Ao19 t626.length co19] 46 (0, 0))) ∧ (w'.heap[gb636]? = some (.cells #[.int .i64 t631, .slice Ao26 t632.length co26] 46 (0, 0))) ∧ (w'.heap[s_.2]? = some (.cells #[.int .i64 0, .slice none 0 0] 46 (0, 0))) ∧ (w.heap.size ≤ s_.2) ∧ (w.heap.size ≤ s_.2) ∧ (gb624 ≠ s_.2) ∧ (s_.2 ≠ gb624) ∧ (gb630 ≠ s_.2) ∧ (s_.2 ≠ gb630) ∧ (gb636 ≠ s_.2) ∧ (s_.2 ≠ gb636) ∧ (Below w.heap.size w w')) ?_ ?_
          rotate_left
          ·intro hCont
           refine two_ (i := 4) (j := 8) (Ni := some 90) (Nj := some 12) #[tt,tt,tt,tt,tt,ff,ff,ff,ff,ff,ff] #[tt,tt,tt,tt,ff,ff,ff,ff,tt,ff,ff] rfl rfl rfl rfl (two_of HT_.out (by kernel_rfl)) (by decide) (by decide) (fun K hK => ?_) (fun K hK => ?_)
           ·skip
            refine goes_ Try.func45 (by kernel_rfl) rfl #[.agg #[.int .i64 t617, .slice Ao13 t618.length co13], .slice Ao14 y640.length co14] (by rfl) rfl rfl (z22_7) ?_
            with_reducible refine (impl_PoolAll.calls t617 _ _ t618 _ _ y640 t644 t645 t648 _ ?side1 ?side2 ?side3 ?side4 A78.out).mono ?_
            (case side1 => repeat (first | exact (Kd.R_reads' HO_625001.out).2.2 | (with_reducible refine Kd.C_alloc ?_ _) | (with_reducible refine Kd.C_drewN ?_ _) | (with_reducible refine Kd.C_drew ?_)))
            (case side2 => exact (Kd.R_reads' HO_625001.out).2.1)
            (case side3 => repeat (first | exact (by repeat (first | (with_reducible exact HR643.out) | (with_reducible refine Kd.C_alloc ?_ _) | (with_reducible refine Kd.C_drewN ?_ _) | (with_reducible refine Kd.C_drew ?_) | exact HR643.out)) | (with_reducible refine Kd.C_alloc ?_ _) | (with_reducible refine Kd.C_drewN ?_ _) | (with_reducible refine Kd.C_drew ?_)))
            (case side4 => exact HC643.out)
            rintro e w84 ⟨v646, rfl, ho0, hb⟩
            refine ⟨_, rfl, ?_⟩
            have n0_ := Aside0.mk (Kd.R_elder' (by (with_reducible repeat (first | apply ra | apply rb | apply rc)); exact HO_6.out) (Kd.R_base ho0) hb)
            have n1_ := Aside0.mk (Kd.R_elder' (by (with_reducible repeat (first | apply ra | apply rb | apply rc)); exact HO_625001.out) (Kd.R_base ho0) hb)
            have n2_ := Aside0.mk (Kd.R_elder' (by (with_reducible repeat (first | apply ra | apply rb | apply rc)); exact HO_631001.out) (Kd.R_base ho0) hb)
            have n3_ := Aside0.mk (Kd.R_elder' (by (with_reducible repeat (first | apply ra | apply rb | apply rc)); exact HO_637001.out) (Kd.R_base ho0) hb)
            have n4_ := Aside0.mk (Kd.R_lower (Kd.R_new' (Kd.R_new' (Kd.R_new' (Kd.R_new' ho0 (Kd.R_lt (by (with_reducible repeat (first | apply ra | apply rb | apply rc)); exact HO_6.out))) (Kd.R_lt (by (with_reducible repeat (first | apply ra | apply rb | apply rc)); exact HO_625001.out))) (Kd.R_lt (by (with_reducible repeat (first | apply ra | apply rb | apply rc)); exact HO_631001.out))) (Kd.R_lt (by (with_reducible repeat (first | apply ra | apply rb | apply rc)); exact HO_637001.out))) (below_size (z22_4)))
            have n5_ := Aside0.mk (blk_below (g := gb624) (o := .cells #[.int .i64 t617, .slice Ao13 t618.length co13] 46 (0, 0)) (z22_9) hb)
            have n6_ := Aside0.mk (blk_below (g := gb630) (o := .cells #[.int .i64 t625, .slice Ao19 t626.length co19] 46 (0, 0)) (z22_10) hb)
            have n7_ := Aside0.mk (blk_below (g := gb636) (o := .cells #[.int .i64 t631, .slice Ao26 t632.length co26] 46 (0, 0)) (z22_11) hb)
            have n8_ := Aside0.mk (Kd.C_below (by repeat (first | (with_reducible exact HR643.out) | (with_reducible refine Kd.C_alloc ?_ _) | (with_reducible refine Kd.C_drewN ?_ _) | (with_reducible refine Kd.C_drew ?_) | exact HR643.out)) hb)
            have n9_ := Aside0.mk (below_step (z22_4) hb)
            clear HO_6
            clear HO_625001
            clear HO_631001
            clear HO_637001
            clear BK624
            clear BK630
            clear BK636
            clear HR643
            clear HB
            have HO_6 := n0_
            have HO_625001 := n1_
            have HO_631001 := n2_
            have HO_637001 := n3_
            have HO647 := n4_
            have BK624 := n5_
            have BK630 := n6_
            have BK636 := n7_
            have HR643 := n8_
            have HB := n9_
            clear n0_ n1_ n2_ n3_ n4_ n5_ n6_ n7_ n8_ n9_
            (try clear hb)
            (try clear hb2)
            (try clear hk)
            (try clear hi)
            (try clear ho0)
            refine hK.out _ _ ⟨(blk_cell BK624.out 0).trans rfl, (blk_cell BK624.out 1).trans rfl⟩ (fun hHeld => ?_)
            clear hK K
            refine norm_ (a' := ?_) ?_ ?_
            rotate_left
            ·show Act.put _ (some 90) _ = _
             simp only [Act.put, List.setIfInBounds_toArray, List.set_cons_zero, List.set_cons_succ, i64_w, i32_w]
             rfl
            refine pure_ (i := 5) (N := some 85) (v := ?_) (a' := ?_) #[tt,tt,tt,tt,tt,tt,ff,ff,ff,ff,ff] rfl rfl (any_of HT_.out (by kernel_rfl)) (fun _ _ _ h => h) (Or.inl ⟨by rfl, ?_⟩) ?_ ?_
            rotate_left
            ·intro w'
             go_simp
             with_reducible rfl
            rotate_left
            ·simp only [Act.put, List.setIfInBounds_toArray, List.set_cons_zero, List.set_cons_succ, i64_w, i32_w]
             rfl
            refine pure_ (i := 6) (N := some 91) (v := ?_) (a' := ?_) #[tt,tt,tt,tt,tt,tt,tt,ff,ff,ff,ff] rfl rfl (any_of HT_.out (by kernel_rfl)) (fun _ _ _ h => h) (Or.inl ⟨by rfl, ?_⟩) ?_ ?_
            rotate_left
            ·intro w'
             go_simp
             with_reducible rfl
            rotate_left
            ·simp only [Act.put, List.setIfInBounds_toArray, List.set_cons_zero, List.set_cons_succ, i64_w, i32_w]
             rfl
            refine pure_ (i := 7) (N := some 92) (v := ?_) (a' := ?_) #[tt,tt,tt,tt,tt,tt,tt,tt,ff,ff,ff] rfl rfl (any_of HT_.out (by kernel_rfl)) (fun _ _ _ h => h) (Or.inl ⟨by rfl, ?_⟩) ?_ ?_
            rotate_left
            ·intro w'
             go_simp
             with_reducible rfl
            rotate_left
            ·simp only [Act.put, List.setIfInBounds_toArray, List.set_cons_zero, List.set_cons_succ, i64_w, i32_w]
             rfl
            refine one_ (i := 8) (N := some 12) #[tt,tt,tt,tt,tt,tt,tt,tt,tt,ff,ff] rfl rfl (one_of HT_.out (by kernel_rfl)) (by decide) (fun K hK => ?_)
            refine box_step ?hg (N := 12) ?hd (cs := #[.int .i64 0, .slice none 0 0]) (t := 46) ?hr ?_; (case hd => rfl); (case hg => rfl); (case hr => first | (go_simp; done) | (go_simp; rfl))
            intro gb649 hg w85 hbox hb
            have n0_ := Aside0.mk (Kd.R_below (by (with_reducible repeat (first | apply ra | apply rb | apply rc)); exact HO_6.out) hb)
            have n1_ := Aside0.mk (Kd.R_below (by (with_reducible repeat (first | apply ra | apply rb | apply rc)); exact HO_625001.out) hb)
            have n2_ := Aside0.mk (Kd.R_below (by (with_reducible repeat (first | apply ra | apply rb | apply rc)); exact HO_631001.out) hb)
            have n3_ := Aside0.mk (Kd.R_below (by (with_reducible repeat (first | apply ra | apply rb | apply rc)); exact HO_637001.out) hb)
            have n4_ := Aside0.mk (Kd.R_below (by (with_reducible repeat (first | apply ra | apply rb | apply rc)); exact HO647.out) hb)
            have n5_ := Aside0.mk (blk_below (g := gb624) (o := .cells #[.int .i64 t617, .slice Ao13 t618.length co13] 46 (0, 0)) (z22_9) hb)
            have n6_ := Aside0.mk (blk_below (g := gb630) (o := .cells #[.int .i64 t625, .slice Ao19 t626.length co19] 46 (0, 0)) (z22_10) hb)
            have n7_ := Aside0.mk (blk_below (g := gb636) (o := .cells #[.int .i64 t631, .slice Ao26 t632.length co26] 46 (0, 0)) (z22_11) hb)
            have n8_ := Aside0.mk (Kd.C_below (by repeat (first | (with_reducible exact HR643.out) | (with_reducible refine Kd.C_alloc ?_ _) | (with_reducible refine Kd.C_drewN ?_ _) | (with_reducible refine Kd.C_drew ?_) | exact HR643.out)) hb)
            have n9_ := Aside0.mk (below_step (z22_4) hb)
            have n10_ := Aside0.mk (hbox)
            have n11_ := Aside0.mk ((by rw [hg]; exact (below_size (z22_4)) : w.heap.size ≤ gb649))
            have n12_ := Aside0.mk ((by rw [hg]; exact (below_size (z22_4)) : w.heap.size ≤ gb649))
            have n13_ := Aside0.mk ((by rw [hg]; exact Nat.ne_of_lt (blk_lt (g := gb624) (o := .cells #[.int .i64 t617, .slice Ao13 t618.length co13] 46 (0, 0)) (z22_9)) : gb624 ≠ gb649))
            have n14_ := Aside0.mk ((by rw [hg]; exact Nat.ne_of_gt (blk_lt (g := gb624) (o := .cells #[.int .i64 t617, .slice Ao13 t618.length co13] 46 (0, 0)) (z22_9)) : gb649 ≠ gb624))
            have n15_ := Aside0.mk ((by rw [hg]; exact Nat.ne_of_lt (blk_lt (g := gb630) (o := .cells #[.int .i64 t625, .slice Ao19 t626.length co19] 46 (0, 0)) (z22_10)) : gb630 ≠ gb649))
            have n16_ := Aside0.mk ((by rw [hg]; exact Nat.ne_of_gt (blk_lt (g := gb630) (o := .cells #[.int .i64 t625, .slice Ao19 t626.length co19] 46 (0, 0)) (z22_10)) : gb649 ≠ gb630))
            have n17_ := Aside0.mk ((by rw [hg]; exact Nat.ne_of_lt (blk_lt (g := gb636) (o := .cells #[.int .i64 t631, .slice Ao26 t632.length co26] 46 (0, 0)) (z22_11)) : gb636 ≠ gb649))
            have n18_ := Aside0.mk ((by rw [hg]; exact Nat.ne_of_gt (blk_lt (g := gb636) (o := .cells #[.int .i64 t631, .slice Ao26 t632.length co26] 46 (0, 0)) (z22_11)) : gb649 ≠ gb636))
            clear HO_6
            clear HO_625001
            clear HO_631001
            clear HO_637001
            clear HO647
            clear BK624
            clear BK630
            clear BK636
            clear HR643
            clear HB
            have HO_6 := n0_
            have HO_625001 := n1_
            have HO_631001 := n2_
            have HO_637001 := n3_
            have HO647 := n4_
            have BK624 := n5_
            have BK630 := n6_
            have BK636 := n7_
            have HR643 := n8_
            have HB := n9_
            have BK649 := n10_
            have GW649 := n11_
            have GE649 := n12_
            have NB624_649 := n13_
            have NB649_624 := n14_
            have NB630_649 := n15_
            have NB649_630 := n16_
            have NB636_649 := n17_
            have NB649_636 := n18_
            clear n0_ n1_ n2_ n3_ n4_ n5_ n6_ n7_ n8_ n9_ n10_ n11_ n12_ n13_ n14_ n15_ n16_ n17_ n18_
            clear hb hbox hg
            refine hK.out _ _ ⟨(blk_cell BK624.out 0).trans rfl, (blk_cell BK624.out 1).trans rfl⟩ (fun hHeld => ?_)
            clear hK K
            refine norm_ (a' := ?_) ?_ ?_
            rotate_left
            ·show Act.put _ (some 12) _ = _
             simp only [Act.put, List.setIfInBounds_toArray, List.set_cons_zero, List.set_cons_succ, i64_w, i32_w]
             rfl
            exact norm_ (z22_14) (hCont (v646, gb649) _ ⟨hHeld, (by (with_reducible repeat (first | apply ra | apply rb | apply rc)); exact Kd.R_mono HO647.out (fun _ hk => ⟨hk.1.1.1.2, ⟨hk.1.1.2, ⟨hk.1.2, hk.2⟩⟩⟩)), (by (with_reducible repeat (first | apply ra | apply rb | apply rc)); exact Kd.R_mono HO_6.out (fun _ hk => ⟨hk.2, ⟨hk.1.1, ⟨hk.1.2.1, hk.1.2.2⟩⟩⟩)), (by (with_reducible repeat (first | apply ra | apply rb | apply rc)); exact Kd.R_mono HO_625001.out (fun _ hk => ⟨hk.2, ⟨hk.1.1, ⟨hk.1.2.1, hk.1.2.2⟩⟩⟩)), (by (with_reducible repeat (first | apply ra | apply rb | apply rc)); exact Kd.R_mono HO_631001.out (fun _ hk => ⟨hk.2, ⟨hk.1.1, ⟨hk.1.2.1, hk.1.2.2⟩⟩⟩)), (by (with_reducible repeat (first | apply ra | apply rb | apply rc)); exact Kd.R_mono HO_637001.out (fun _ hk => ⟨hk.2, ⟨hk.1.1, ⟨hk.1.2.1, hk.1.2.2⟩⟩⟩)), (z22_9), (z22_10), (z22_11), (z22_12), GW649.out, GE649.out, NB624_649.out, NB649_624.out, NB630_649.out, NB649_630.out, NB636_649.out, NB649_636.out, (z22_3)⟩)
           ·skip
            refine box_step ?hg (N := 12) ?hd (cs := #[.int .i64 0, .slice none 0 0]) (t := 46) ?hr ?_; (case hd => rfl); (case hg => rfl); (case hr => first | (go_simp; done) | (go_simp; rfl))
            intro gb649 hg w84 hbox hb
            have n0_ := Aside0.mk (Kd.R_below (by (with_reducible repeat (first | apply ra | apply rb | apply rc)); exact HO_6.out) hb)
            have n1_ := Aside0.mk (Kd.R_below (by (with_reducible repeat (first | apply ra | apply rb | apply rc)); exact HO_625001.out) hb)
            have n2_ := Aside0.mk (Kd.R_below (by (with_reducible repeat (first | apply ra | apply rb | apply rc)); exact HO_631001.out) hb)
            have n3_ := Aside0.mk (Kd.R_below (by (with_reducible repeat (first | apply ra | apply rb | apply rc)); exact HO_637001.out) hb)
            have n4_ := Aside0.mk (blk_below (g := gb624) (o := .cells #[.int .i64 t617, .slice Ao13 t618.length co13] 46 (0, 0)) (z22_9) hb)
            have n5_ := Aside0.mk (blk_below (g := gb630) (o := .cells #[.int .i64 t625, .slice Ao19 t626.length co19] 46 (0, 0)) (z22_10) hb)
            have n6_ := Aside0.mk (blk_below (g := gb636) (o := .cells #[.int .i64 t631, .slice Ao26 t632.length co26] 46 (0, 0)) (z22_11) hb)
            have n7_ := Aside0.mk (Kd.C_below (by repeat (first | (with_reducible exact HR643.out) | (with_reducible refine Kd.C_alloc ?_ _) | (with_reducible refine Kd.C_drewN ?_ _) | (with_reducible refine Kd.C_drew ?_) | exact HR643.out)) hb)
            have n8_ := Aside0.mk (below_step (z22_4) hb)
            have n9_ := Aside0.mk (hbox)
            have n10_ := Aside0.mk ((by rw [hg]; exact (below_size (z22_4)) : w.heap.size ≤ gb649))
            have n11_ := Aside0.mk ((by rw [hg]; exact (below_size (z22_4)) : w.heap.size ≤ gb649))
            have n12_ := Aside0.mk ((by rw [hg]; exact Nat.ne_of_lt (blk_lt (g := gb624) (o := .cells #[.int .i64 t617, .slice Ao13 t618.length co13] 46 (0, 0)) (z22_9)) : gb624 ≠ gb649))
            have n13_ := Aside0.mk ((by rw [hg]; exact Nat.ne_of_gt (blk_lt (g := gb624) (o := .cells #[.int .i64 t617, .slice Ao13 t618.length co13] 46 (0, 0)) (z22_9)) : gb649 ≠ gb624))
            have n14_ := Aside0.mk ((by rw [hg]; exact Nat.ne_of_lt (blk_lt (g := gb630) (o := .cells #[.int .i64 t625, .slice Ao19 t626.length co19] 46 (0, 0)) (z22_10)) : gb630 ≠ gb649))
            have n15_ := Aside0.mk ((by rw [hg]; exact Nat.ne_of_gt (blk_lt (g := gb630) (o := .cells #[.int .i64 t625, .slice Ao19 t626.length co19] 46 (0, 0)) (z22_10)) : gb649 ≠ gb630))
            have n16_ := Aside0.mk ((by rw [hg]; exact Nat.ne_of_lt (blk_lt (g := gb636) (o := .cells #[.int .i64 t631, .slice Ao26 t632.length co26] 46 (0, 0)) (z22_11)) : gb636 ≠ gb649))
            have n17_ := Aside0.mk ((by rw [hg]; exact Nat.ne_of_gt (blk_lt (g := gb636) (o := .cells #[.int .i64 t631, .slice Ao26 t632.length co26] 46 (0, 0)) (z22_11)) : gb649 ≠ gb636))
            clear HO_6
            clear HO_625001
            clear HO_631001
            clear HO_637001
            clear BK624
            clear BK630
            clear BK636
            clear HR643
            clear HB
            have HO_6 := n0_
            have HO_625001 := n1_
            have HO_631001 := n2_
            have HO_637001 := n3_
            have BK624 := n4_
            have BK630 := n5_
            have BK636 := n6_
            have HR643 := n7_
            have HB := n8_
            have BK649 := n9_
            have GW649 := n10_
            have GE649 := n11_
            have NB624_649 := n12_
            have NB649_624 := n13_
            have NB630_649 := n14_
            have NB649_630 := n15_
            have NB636_649 := n16_
            have NB649_636 := n17_
            clear n0_ n1_ n2_ n3_ n4_ n5_ n6_ n7_ n8_ n9_ n10_ n11_ n12_ n13_ n14_ n15_ n16_ n17_
            clear hb hbox hg
            refine hK.out _ _ ⟨(blk_cell BK624.out 0).trans rfl, (blk_cell BK624.out 1).trans rfl⟩ (fun hHeld => ?_)
            clear hK K
            refine norm_ (a' := ?_) ?_ ?_
            rotate_left
            ·show Act.put _ (some 12) _ = _
             simp only [Act.put, List.setIfInBounds_toArray, List.set_cons_zero, List.set_cons_succ, i64_w, i32_w]
             rfl
            refine one_ (i := 4) (N := some 90) #[tt,tt,tt,tt,tt,ff,ff,ff,tt,ff,ff] rfl rfl (one_of HT_.out (by kernel_rfl)) (by decide) (fun K hK => ?_)
            refine goes_ Try.func45 (by kernel_rfl) rfl #[.agg #[.int .i64 t617, .slice Ao13 t618.length co13], .slice Ao14 y640.length co14] (by rfl) rfl rfl (z22_7) ?_
            with_reducible refine (impl_PoolAll.calls t617 _ _ t618 _ _ y640 t644 t645 t648 _ ?side1 ?side2 ?side3 ?side4 A78.out).mono ?_
            (case side1 => repeat (first | exact (Kd.R_reads' HO_625001.out).2.2 | (with_reducible refine Kd.C_alloc ?_ _) | (with_reducible refine Kd.C_drewN ?_ _) | (with_reducible refine Kd.C_drew ?_)))
            (case side2 => exact (Kd.R_reads' HO_625001.out).2.1)
            (case side3 => repeat (first | exact (by repeat (first | (with_reducible exact HR643.out) | (with_reducible refine Kd.C_alloc ?_ _) | (with_reducible refine Kd.C_drewN ?_ _) | (with_reducible refine Kd.C_drew ?_) | exact HR643.out)) | (with_reducible refine Kd.C_alloc ?_ _) | (with_reducible refine Kd.C_drewN ?_ _) | (with_reducible refine Kd.C_drew ?_)))
            (case side4 => exact HC643.out)
            rintro e w85 ⟨v646, rfl, ho0, hb⟩
            refine ⟨_, rfl, ?_⟩
            have n0_ := Aside0.mk (Kd.R_elder' (by (with_reducible repeat (first | apply ra | apply rb | apply rc)); exact HO_6.out) (Kd.R_base ho0) hb)
            have n1_ := Aside0.mk (Kd.R_elder' (by (with_reducible repeat (first | apply ra | apply rb | apply rc)); exact HO_625001.out) (Kd.R_base ho0) hb)
            have n2_ := Aside0.mk (Kd.R_elder' (by (with_reducible repeat (first | apply ra | apply rb | apply rc)); exact HO_631001.out) (Kd.R_base ho0) hb)
            have n3_ := Aside0.mk (Kd.R_elder' (by (with_reducible repeat (first | apply ra | apply rb | apply rc)); exact HO_637001.out) (Kd.R_base ho0) hb)
            have n4_ := Aside0.mk (Kd.R_lower (Kd.R_new' (Kd.R_new' (Kd.R_new' (Kd.R_new' ho0 (Kd.R_lt (by (with_reducible repeat (first | apply ra | apply rb | apply rc)); exact HO_6.out))) (Kd.R_lt (by (with_reducible repeat (first | apply ra | apply rb | apply rc)); exact HO_625001.out))) (Kd.R_lt (by (with_reducible repeat (first | apply ra | apply rb | apply rc)); exact HO_631001.out))) (Kd.R_lt (by (with_reducible repeat (first | apply ra | apply rb | apply rc)); exact HO_637001.out))) (below_size (z22_3)))
            have n5_ := Aside0.mk (blk_below (g := gb624) (o := .cells #[.int .i64 t617, .slice Ao13 t618.length co13] 46 (0, 0)) (z22_9) hb)
            have n6_ := Aside0.mk (blk_below (g := gb630) (o := .cells #[.int .i64 t625, .slice Ao19 t626.length co19] 46 (0, 0)) (z22_10) hb)
            have n7_ := Aside0.mk (blk_below (g := gb636) (o := .cells #[.int .i64 t631, .slice Ao26 t632.length co26] 46 (0, 0)) (z22_11) hb)
            have n8_ := Aside0.mk (Kd.C_below (by repeat (first | (with_reducible exact HR643.out) | (with_reducible refine Kd.C_alloc ?_ _) | (with_reducible refine Kd.C_drewN ?_ _) | (with_reducible refine Kd.C_drew ?_) | exact HR643.out)) hb)
            have n9_ := Aside0.mk (blk_below (g := gb649) (o := .cells #[.int .i64 0, .slice none 0 0] 46 (0, 0)) (z22_12) hb)
            have n10_ := Aside0.mk (below_step (z22_3) hb)
            clear HO_6
            clear HO_625001
            clear HO_631001
            clear HO_637001
            clear BK624
            clear BK630
            clear BK636
            clear HR643
            clear BK649
            clear HB
            have HO_6 := n0_
            have HO_625001 := n1_
            have HO_631001 := n2_
            have HO_637001 := n3_
            have HO647 := n4_
            have BK624 := n5_
            have BK630 := n6_
            have BK636 := n7_
            have HR643 := n8_
            have BK649 := n9_
            have HB := n10_
            clear n0_ n1_ n2_ n3_ n4_ n5_ n6_ n7_ n8_ n9_ n10_
            (try clear hb)
            (try clear hb2)
            (try clear hk)
            (try clear hi)
            (try clear ho0)
            refine hK.out _ _ ⟨(blk_cell BK624.out 0).trans rfl, (blk_cell BK624.out 1).trans rfl⟩ (fun hHeld => ?_)
            clear hK K
            refine norm_ (a' := ?_) ?_ ?_
            rotate_left
            ·show Act.put _ (some 90) _ = _
             simp only [Act.put, List.setIfInBounds_toArray, List.set_cons_zero, List.set_cons_succ, i64_w, i32_w]
             rfl
            refine pure_ (i := 5) (N := some 85) (v := ?_) (a' := ?_) #[tt,tt,tt,tt,tt,tt,ff,ff,tt,ff,ff] rfl rfl (any_of HT_.out (by kernel_rfl)) (fun _ _ _ h => h) (Or.inl ⟨by rfl, ?_⟩) ?_ ?_
            rotate_left
            ·intro w'
             go_simp
             with_reducible rfl
            rotate_left
            ·simp only [Act.put, List.setIfInBounds_toArray, List.set_cons_zero, List.set_cons_succ, i64_w, i32_w]
             rfl
            refine pure_ (i := 6) (N := some 91) (v := ?_) (a' := ?_) #[tt,tt,tt,tt,tt,tt,tt,ff,tt,ff,ff] rfl rfl (any_of HT_.out (by kernel_rfl)) (fun _ _ _ h => h) (Or.inl ⟨by rfl, ?_⟩) ?_ ?_
            rotate_left
            ·intro w'
             go_simp
             with_reducible rfl
            rotate_left
            ·simp only [Act.put, List.setIfInBounds_toArray, List.set_cons_zero, List.set_cons_succ, i64_w, i32_w]
             rfl
            refine pure_ (i := 7) (N := some 92) (v := ?_) (a' := ?_) #[tt,tt,tt,tt,tt,tt,tt,tt,tt,ff,ff] rfl rfl (any_of HT_.out (by kernel_rfl)) (fun _ _ _ h => h) (Or.inl ⟨by rfl, ?_⟩) ?_ ?_
            rotate_left
            ·intro w'
             go_simp
             with_reducible rfl
            rotate_left
            ·simp only [Act.put, List.setIfInBounds_toArray, List.set_cons_zero, List.set_cons_succ, i64_w, i32_w]
             rfl
            exact norm_ (z22_14) (hCont (v646, gb649) _ ⟨hHeld, (by (with_reducible repeat (first | apply ra | apply rb | apply rc)); exact Kd.R_mono HO647.out (fun _ hk => ⟨hk.1.1.1.2, ⟨hk.1.1.2, ⟨hk.1.2, hk.2⟩⟩⟩)), (by (with_reducible repeat (first | apply ra | apply rb | apply rc)); exact Kd.R_mono HO_6.out (fun _ hk => ⟨hk.2, ⟨hk.1.1, ⟨hk.1.2.1, hk.1.2.2⟩⟩⟩)), (by (with_reducible repeat (first | apply ra | apply rb | apply rc)); exact Kd.R_mono HO_625001.out (fun _ hk => ⟨hk.2, ⟨hk.1.1, ⟨hk.1.2.1, hk.1.2.2⟩⟩⟩)), (by (with_reducible repeat (first | apply ra | apply rb | apply rc)); exact Kd.R_mono HO_631001.out (fun _ hk => ⟨hk.2, ⟨hk.1.1, ⟨hk.1.2.1, hk.1.2.2⟩⟩⟩)), (by (with_reducible repeat (first | apply ra | apply rb | apply rc)); exact Kd.R_mono HO_637001.out (fun _ hk => ⟨hk.2, ⟨hk.1.1, ⟨hk.1.2.1, hk.1.2.2⟩⟩⟩)), (z22_9), (z22_10), (z22_11), (z22_12), GW649.out, GE649.out, NB624_649.out, NB649_624.out, NB630_649.out, NB649_630.out, NB636_649.out, NB649_636.out, (z22_3)⟩)
          rintro ⟨v646, gb649⟩ w86 ⟨hS_, h0_, h1_, h2_, h3_, h4_, h5_, h6_, h7_, h8_, h9_, h10_, h11_, h12_, h13_, h14_, h15_, h16_, h17_⟩
          have n0_ : Aside0 (Kd.R k25 25 w86 w.heap.size (fun k_ => some k_ ≠ (.slice Ao14 t621.length co14 : Value).ownBlock ∧ some k_ ≠ (.slice Ao13 t618.length co13 : Value).ownBlock ∧ some k_ ≠ (.slice Ao19 t626.length co19 : Value).ownBlock ∧ some k_ ≠ (.slice Ao26 t632.length co26 : Value).ownBlock) v646 t645) := ⟨h0_⟩
          have n1_ : Aside0 (Kd.R k25 25 w86 w.heap.size (fun k_ => some k_ ≠ (v646 : Value).ownBlock ∧ some k_ ≠ (.slice Ao13 t618.length co13 : Value).ownBlock ∧ some k_ ≠ (.slice Ao19 t626.length co19 : Value).ownBlock ∧ some k_ ≠ (.slice Ao26 t632.length co26 : Value).ownBlock) (.slice Ao14 t621.length co14) t621) := ⟨h1_⟩
          have n2_ : Aside0 (Kd.R k25 25 w86 w.heap.size (fun k_ => some k_ ≠ (v646 : Value).ownBlock ∧ some k_ ≠ (.slice Ao14 t621.length co14 : Value).ownBlock ∧ some k_ ≠ (.slice Ao19 t626.length co19 : Value).ownBlock ∧ some k_ ≠ (.slice Ao26 t632.length co26 : Value).ownBlock) (.slice Ao13 t618.length co13) t618) := ⟨h2_⟩
          have n3_ : Aside0 (Kd.R k25 25 w86 w.heap.size (fun k_ => some k_ ≠ (v646 : Value).ownBlock ∧ some k_ ≠ (.slice Ao14 t621.length co14 : Value).ownBlock ∧ some k_ ≠ (.slice Ao13 t618.length co13 : Value).ownBlock ∧ some k_ ≠ (.slice Ao26 t632.length co26 : Value).ownBlock) (.slice Ao19 t626.length co19) t626) := ⟨h3_⟩
          have n4_ : Aside0 (Kd.R k25 25 w86 w.heap.size (fun k_ => some k_ ≠ (v646 : Value).ownBlock ∧ some k_ ≠ (.slice Ao14 t621.length co14 : Value).ownBlock ∧ some k_ ≠ (.slice Ao13 t618.length co13 : Value).ownBlock ∧ some k_ ≠ (.slice Ao19 t626.length co19 : Value).ownBlock) (.slice Ao26 t632.length co26) t632) := ⟨h4_⟩
          have n5_ : Aside0 (w86.heap[gb624]? = some (.cells #[.int .i64 t617, .slice Ao13 t618.length co13] 46 (0, 0))) := ⟨h5_⟩
          have n6_ : Aside0 (w86.heap[gb630]? = some (.cells #[.int .i64 t625, .slice Ao19 t626.length co19] 46 (0, 0))) := ⟨h6_⟩
          have n7_ : Aside0 (w86.heap[gb636]? = some (.cells #[.int .i64 t631, .slice Ao26 t632.length co26] 46 (0, 0))) := ⟨h7_⟩
          have n8_ : Aside0 (w86.heap[gb649]? = some (.cells #[.int .i64 0, .slice none 0 0] 46 (0, 0))) := ⟨h8_⟩
          have n9_ : Aside0 (w.heap.size ≤ gb649) := ⟨h9_⟩
          have n10_ : Aside0 (w.heap.size ≤ gb649) := ⟨h10_⟩
          have n11_ : Aside0 (gb624 ≠ gb649) := ⟨h11_⟩
          have n12_ : Aside0 (gb649 ≠ gb624) := ⟨h12_⟩
          have n13_ : Aside0 (gb630 ≠ gb649) := ⟨h13_⟩
          have n14_ : Aside0 (gb649 ≠ gb630) := ⟨h14_⟩
          have n15_ : Aside0 (gb636 ≠ gb649) := ⟨h15_⟩
          have n16_ : Aside0 (gb649 ≠ gb636) := ⟨h16_⟩
          have n17_ : Aside0 (Below w.heap.size w w86) := ⟨h17_⟩
          clear HO_6
          clear HO_625001
          clear HO_631001
          clear HO_637001
          clear BK624
          clear BK630
          clear BK636
          clear HB
          clear h0_ h1_ h2_ h3_ h4_ h5_ h6_ h7_ h8_ h9_ h10_ h11_ h12_ h13_ h14_ h15_ h16_ h17_
          have HO647 := n0_
          have HO_6 := n1_
          have HO_625001 := n2_
          have HO_631001 := n3_
          have HO_637001 := n4_
          have BK624 := n5_
          have BK630 := n6_
          have BK636 := n7_
          have BK649 := n8_
          have GW649 := n9_
          have GE649 := n10_
          have NB624_649 := n11_
          have NB649_624 := n12_
          have NB630_649 := n13_
          have NB649_630 := n14_
          have NB636_649 := n15_
          have NB649_636 := n16_
          have HB := n17_
          clear n0_ n1_ n2_ n3_ n4_ n5_ n6_ n7_ n8_ n9_ n10_ n11_ n12_ n13_ n14_ n15_ n16_ n17_
          have hHeld : w86.cell? ⟨gb624, 0, none⟩ = some (.int .i64 t617) ∧ w86.cell? ⟨gb624, 1, none⟩ = some (.slice Ao13 t618.length co13) := hS_
          obtain ⟨Ao88, co88, eo88⟩ := Kd.R_slice HO647.out
          (first | subst eo88 | (injection eo88 with f1_ f2_ f3_; have f4_ := f1_.symm; have f5_ := f3_.symm; clear f1_ f2_ f3_; subst f4_; subst f5_))
          refine norm_ (a' := ?_) ?_ ?_
          rotate_left
          ·simp only [putAll, Act.put, List.setIfInBounds_toArray, List.set_cons_zero, List.set_cons_succ]
           rfl
          refine one_ (i := 9) (N := none) #[tt,tt,tt,tt,tt,tt,tt,tt,tt,tt,ff] rfl rfl (one_of HT_.out (by kernel_rfl)) (by decide) (fun K hK => ?_)
          have hs87 : w86.cell? ⟨gb649, 0, none⟩ = some (.int .i64 0) := (blk_cell BK649.out 0).trans rfl
          have hfs87 := blk_frozen BK649.out 0
          have hns87_0 := NB624_649.out
          have hns87_1 := NB630_649.out
          have hns87_2 := NB636_649.out
          have hms87_0 := NB649_624.out
          have hms87_1 := NB649_630.out
          have hms87_2 := NB649_636.out
          have hs89 : w86.cell? ⟨gb649, 1, none⟩ = some (.slice none 0 0) := (blk_cell BK649.out 1).trans rfl
          have hfs89 := blk_frozen BK649.out 1
          have hns89_0 := NB624_649.out
          have hns89_1 := NB630_649.out
          have hns89_2 := NB636_649.out
          have hms89_0 := NB649_624.out
          have hms89_1 := NB649_630.out
          have hms89_2 := NB649_636.out
          refine skip_ (w1 := ?_) (by rfl) rfl ?_ ?_
          rotate_left
          ·go_simp
           rfl
          refine hK.out _ _ ⟨((cell_far (p := ⟨gb649, _, none⟩) NB624_649.out _).trans (((cell_far (p := ⟨gb649, _, none⟩) NB624_649.out _).trans (hHeld.1)))), ((cell_far (p := ⟨gb649, _, none⟩) NB624_649.out _).trans (((cell_far (p := ⟨gb649, _, none⟩) NB624_649.out _).trans (hHeld.2))))⟩ (fun hHeld => ?_)
          clear hK K
          refine pure_ (i := 10) (N := some 13) (v := ?_) (a' := ?_) #[tt,tt,tt,tt,tt,tt,tt,tt,tt,tt,tt] rfl rfl (any_of HT_.out (by kernel_rfl)) (fun _ _ _ h => h) (Or.inl ⟨by rfl, ?_⟩) ?_ ?_
          rotate_left
          ·intro w'
           go_simp
           with_reducible rfl
          rotate_left
          ·simp only [Act.put, List.setIfInBounds_toArray, List.set_cons_zero, List.set_cons_succ, i64_w, i32_w]
           rfl
          refine done_ (done_of HT_.out (by kernel_rfl)) ?_
          try go_wp2
          have n0_ : Aside0 (Kd.R k25 25 ((w86.setCell ⟨gb649, 0, none⟩ (.int .i64 t644)).setCell ⟨gb649, 1, none⟩ (.slice Ao88 t645.length co88)) w.heap.size (fun k_ => some k_ ≠ (.slice Ao13 t618.length co13 : Value).ownBlock ∧ some k_ ≠ (.slice Ao19 t626.length co19 : Value).ownBlock ∧ some k_ ≠ (.slice Ao26 t632.length co26 : Value).ownBlock ∧ some k_ ≠ (.slice Ao88 t645.length co88 : Value).ownBlock) (.slice Ao14 t621.length co14) t621) := ⟨by (with_reducible repeat (first | apply ra | apply rb | apply rc)); exact Kd.R_mono (Kd.R_far (p := ⟨gb649, 1, none⟩) (Kd.R_far (p := ⟨gb649, 0, none⟩) (Kd.R_types HO_6.out BK649.out (by decide)) (fun _ hk => hk.2) (.int .i64 t644)) (fun _ hk => hk.2) (.slice Ao88 t645.length co88)) (fun _ hk => ⟨hk.1.2.1, ⟨hk.1.2.2.1, ⟨hk.1.2.2.2, hk.1.1⟩⟩⟩)⟩
          have n1_ : Aside0 (Kd.R k25 25 ((w86.setCell ⟨gb649, 0, none⟩ (.int .i64 t644)).setCell ⟨gb649, 1, none⟩ (.slice Ao88 t645.length co88)) w.heap.size (fun k_ => some k_ ≠ (.slice Ao14 t621.length co14 : Value).ownBlock ∧ some k_ ≠ (.slice Ao19 t626.length co19 : Value).ownBlock ∧ some k_ ≠ (.slice Ao26 t632.length co26 : Value).ownBlock ∧ some k_ ≠ (.slice Ao88 t645.length co88 : Value).ownBlock) (.slice Ao13 t618.length co13) t618) := ⟨by (with_reducible repeat (first | apply ra | apply rb | apply rc)); exact Kd.R_mono (Kd.R_far (p := ⟨gb649, 1, none⟩) (Kd.R_far (p := ⟨gb649, 0, none⟩) (Kd.R_types HO_625001.out BK649.out (by decide)) (fun _ hk => hk.2) (.int .i64 t644)) (fun _ hk => hk.2) (.slice Ao88 t645.length co88)) (fun _ hk => ⟨hk.1.2.1, ⟨hk.1.2.2.1, ⟨hk.1.2.2.2, hk.1.1⟩⟩⟩)⟩
          have n2_ : Aside0 (Kd.R k25 25 ((w86.setCell ⟨gb649, 0, none⟩ (.int .i64 t644)).setCell ⟨gb649, 1, none⟩ (.slice Ao88 t645.length co88)) w.heap.size (fun k_ => some k_ ≠ (.slice Ao14 t621.length co14 : Value).ownBlock ∧ some k_ ≠ (.slice Ao13 t618.length co13 : Value).ownBlock ∧ some k_ ≠ (.slice Ao26 t632.length co26 : Value).ownBlock ∧ some k_ ≠ (.slice Ao88 t645.length co88 : Value).ownBlock) (.slice Ao19 t626.length co19) t626) := ⟨by (with_reducible repeat (first | apply ra | apply rb | apply rc)); exact Kd.R_mono (Kd.R_far (p := ⟨gb649, 1, none⟩) (Kd.R_far (p := ⟨gb649, 0, none⟩) (Kd.R_types HO_631001.out BK649.out (by decide)) (fun _ hk => hk.2) (.int .i64 t644)) (fun _ hk => hk.2) (.slice Ao88 t645.length co88)) (fun _ hk => ⟨hk.1.2.1, ⟨hk.1.2.2.1, ⟨hk.1.2.2.2, hk.1.1⟩⟩⟩)⟩
          have n3_ : Aside0 (Kd.R k25 25 ((w86.setCell ⟨gb649, 0, none⟩ (.int .i64 t644)).setCell ⟨gb649, 1, none⟩ (.slice Ao88 t645.length co88)) w.heap.size (fun k_ => some k_ ≠ (.slice Ao14 t621.length co14 : Value).ownBlock ∧ some k_ ≠ (.slice Ao13 t618.length co13 : Value).ownBlock ∧ some k_ ≠ (.slice Ao19 t626.length co19 : Value).ownBlock ∧ some k_ ≠ (.slice Ao88 t645.length co88 : Value).ownBlock) (.slice Ao26 t632.length co26) t632) := ⟨by (with_reducible repeat (first | apply ra | apply rb | apply rc)); exact Kd.R_mono (Kd.R_far (p := ⟨gb649, 1, none⟩) (Kd.R_far (p := ⟨gb649, 0, none⟩) (Kd.R_types HO_637001.out BK649.out (by decide)) (fun _ hk => hk.2) (.int .i64 t644)) (fun _ hk => hk.2) (.slice Ao88 t645.length co88)) (fun _ hk => ⟨hk.1.2.1, ⟨hk.1.2.2.1, ⟨hk.1.2.2.2, hk.1.1⟩⟩⟩)⟩
          have n4_ : Aside0 (Kd.R k25 25 ((w86.setCell ⟨gb649, 0, none⟩ (.int .i64 t644)).setCell ⟨gb649, 1, none⟩ (.slice Ao88 t645.length co88)) w.heap.size (fun k_ => some k_ ≠ (.slice Ao14 t621.length co14 : Value).ownBlock ∧ some k_ ≠ (.slice Ao13 t618.length co13 : Value).ownBlock ∧ some k_ ≠ (.slice Ao19 t626.length co19 : Value).ownBlock ∧ some k_ ≠ (.slice Ao26 t632.length co26 : Value).ownBlock) (.slice Ao88 t645.length co88) t645) := ⟨by (with_reducible repeat (first | apply ra | apply rb | apply rc)); exact Kd.R_mono (Kd.R_far (p := ⟨gb649, 1, none⟩) (Kd.R_far (p := ⟨gb649, 0, none⟩) (Kd.R_types HO647.out BK649.out (by decide)) (fun _ hk => hk.2) (.int .i64 t644)) (fun _ hk => hk.2) (.slice Ao88 t645.length co88)) (fun _ hk => ⟨hk.1.1, ⟨hk.1.2.1, ⟨hk.1.2.2.1, hk.1.2.2.2⟩⟩⟩)⟩
          have n5_ : Aside0 (((w86.setCell ⟨gb649, 0, none⟩ (.int .i64 t644)).setCell ⟨gb649, 1, none⟩ (.slice Ao88 t645.length co88)).heap[gb624]? = some (.cells #[.int .i64 t617, .slice Ao13 t618.length co13] 46 (0, 0))) := ⟨by (with_reducible repeat (first | refine ba ?_ _ | refine bb ?_ | refine bc ?_ _)); refine blk_far ?_ NB624_649.out _; (with_reducible repeat (first | refine ba ?_ _ | refine bb ?_ | refine bc ?_ _)); refine blk_far ?_ NB624_649.out _; (with_reducible repeat (first | refine ba ?_ _ | refine bb ?_ | refine bc ?_ _)); exact BK624.out⟩
          have n6_ : Aside0 (((w86.setCell ⟨gb649, 0, none⟩ (.int .i64 t644)).setCell ⟨gb649, 1, none⟩ (.slice Ao88 t645.length co88)).heap[gb630]? = some (.cells #[.int .i64 t625, .slice Ao19 t626.length co19] 46 (0, 0))) := ⟨by (with_reducible repeat (first | refine ba ?_ _ | refine bb ?_ | refine bc ?_ _)); refine blk_far ?_ NB630_649.out _; (with_reducible repeat (first | refine ba ?_ _ | refine bb ?_ | refine bc ?_ _)); refine blk_far ?_ NB630_649.out _; (with_reducible repeat (first | refine ba ?_ _ | refine bb ?_ | refine bc ?_ _)); exact BK630.out⟩
          have n7_ : Aside0 (((w86.setCell ⟨gb649, 0, none⟩ (.int .i64 t644)).setCell ⟨gb649, 1, none⟩ (.slice Ao88 t645.length co88)).heap[gb636]? = some (.cells #[.int .i64 t631, .slice Ao26 t632.length co26] 46 (0, 0))) := ⟨by (with_reducible repeat (first | refine ba ?_ _ | refine bb ?_ | refine bc ?_ _)); refine blk_far ?_ NB636_649.out _; (with_reducible repeat (first | refine ba ?_ _ | refine bb ?_ | refine bc ?_ _)); refine blk_far ?_ NB636_649.out _; (with_reducible repeat (first | refine ba ?_ _ | refine bb ?_ | refine bc ?_ _)); exact BK636.out⟩
          have n8_ : Aside0 (((w86.setCell ⟨gb649, 0, none⟩ (.int .i64 t644)).setCell ⟨gb649, 1, none⟩ (.slice Ao88 t645.length co88)).heap[gb649]? = some (.cells #[.int .i64 t644, .slice Ao88 t645.length co88] 46 (0, 0))) := ⟨by (with_reducible repeat (first | refine ba ?_ _ | refine bb ?_ | refine bc ?_ _)); refine blk_put (cs := #[.int .i64 t644, .slice none 0 0]) ?_ 1 _ rfl; (with_reducible repeat (first | refine ba ?_ _ | refine bb ?_ | refine bc ?_ _)); refine blk_put (cs := #[.int .i64 0, .slice none 0 0]) ?_ 0 _ rfl; (with_reducible repeat (first | refine ba ?_ _ | refine bb ?_ | refine bc ?_ _)); exact BK649.out⟩
          have n9_ : Aside0 (Below w.heap.size w ((w86.setCell ⟨gb649, 0, none⟩ (.int .i64 t644)).setCell ⟨gb649, 1, none⟩ (.slice Ao88 t645.length co88))) := ⟨by repeat (first | (with_reducible first | exact HB.out | apply below_alloc | apply pw_below_drewN | apply below_drew1 | refine below_set ?_ GE624.out | refine below_set ?_ GE630.out | refine below_set ?_ GE636.out | refine below_set ?_ GE649.out) | exact HB.out)⟩
          (try clear HO_6)
          (try clear HO_625001)
          (try clear HO_631001)
          (try clear HO_637001)
          (try clear HO647)
          (try clear BK624)
          (try clear BK630)
          (try clear BK636)
          (try clear BK649)
          (try clear HB)
          generalize ((w86.setCell ⟨gb649, 0, none⟩ (.int .i64 t644)).setCell ⟨gb649, 1, none⟩ (.slice Ao88 t645.length co88)) = w90 at n0_ n1_ n2_ n3_ n4_ n5_ n6_ n7_ n8_ n9_ ⊢
          have HO_6 := n0_
          have HO_625001 := n1_
          have HO_631001 := n2_
          have HO_637001 := n3_
          have HO647 := n4_
          have BK624 := n5_
          have BK630 := n6_
          have BK636 := n7_
          have BK649 := n8_
          have HB := n9_
          clear n0_ n1_ n2_ n3_ n4_ n5_ n6_ n7_ n8_ n9_
          have n0_ := Aside0.mk (Kd.R_drew HO_6.out)
          have n1_ := Aside0.mk (Kd.R_drew HO_625001.out)
          have n2_ := Aside0.mk (Kd.R_drew HO_631001.out)
          have n3_ := Aside0.mk (Kd.R_drew HO_637001.out)
          have n4_ := Aside0.mk (Kd.R_drew HO647.out)
          have n5_ := Aside0.mk (blk_drew BK624.out)
          have n6_ := Aside0.mk (blk_drew BK630.out)
          have n7_ := Aside0.mk (blk_drew BK636.out)
          have n8_ := Aside0.mk (blk_drew BK649.out)
          have n9_ := Aside0.mk (below_drew1 HB.out)
          clear HO_6
          clear HO_625001
          clear HO_631001
          clear HO_637001
          clear HO647
          clear BK624
          clear BK630
          clear BK636
          clear BK649
          clear HB
          have HO_6 := n0_
          have HO_625001 := n1_
          have HO_631001 := n2_
          have HO_637001 := n3_
          have HO647 := n4_
          have BK624 := n5_
          have BK630 := n6_
          have BK636 := n7_
          have BK649 := n8_
          have HB := n9_
          clear n0_ n1_ n2_ n3_ n4_ n5_ n6_ n7_ n8_ n9_
          have q92 : ((ji75) : Int) ≤ ((t621.length : Int) : Int) := of_decide_eq_true (z22_15)
          obtain ⟨i092, hi092, _, hsz92, _⟩ := info_parts info25
          have hroom92 : t621.length ≤ co14 := (Kd.R_reads' HO_6.out).2.1
          have hC92 : Kd.C k25 _ Ao14 t621.length t621 := (Kd.R_reads' HO_6.out).2.2
          have q092 : (0 : Int) ≤ ((ji75) : Int) := of_decide_eq_true (z22_15)
          have hcut92 := cut_from (P := Try.prog) 28 25 .i64 Try.underlying28 hi092 2 hsz92 Ao14 t621.length co14 (ji75) q092 q92
          have hr92 := Kd.C_drop (m := ((ji75) : Int).toNat) (c := co14) hC92 (by omega) hroom92
          obtain ⟨A92, hA92⟩ : ∃ A1, A1 = (if co14 = ((ji75) : Int).toNat then Ao14 else (Ao14 : Option Addr).map (·.add (((ji75) : Int).toNat * 2))) := ⟨_, rfl⟩
          obtain ⟨c92, hc92⟩ : ∃ c1, c1 = co14 - ((ji75) : Int).toNat := ⟨_, rfl⟩
          have hy92 : y650.length = t621.length - ((ji75) : Int).toNat := (by rw [Ny650.out, List.length_drop] <;> omega)
          rw [show (t621).drop ((ji75) : Int).toNat = y650 from Ny650.out.symm] at hr92
          replace hr92 : Kd.C k25 _ A92 y650.length y650 := (by rw [hA92]; exact hr92)
          rw [← hy92, ← hA92, ← hc92] at hcut92
          have HR653 := Aside0.mk hr92
          have HC653 := Aside0.mk (show y650.length ≤ c92 from by rw [hy92, hc92]; exact Nat.sub_le_sub_right hroom92 _)
          clear hr92 hC92 hroom92 hi092 hsz92 hc92
          have KY92 := Aside0.mk hy92
          have KA92 := Aside0.mk hA92
          clear hy92 hA92
          have KL92 := Aside0.mk (show ((ji75) : Int).toNat ≤ t621.length from by omega)
          replace q92 := eq_true q92
          refine start_ (n := 11) (S := fun w' => w'.cell? ⟨gb649, 0, none⟩ = some (.int .i64 t644) ∧ w'.cell? ⟨gb649, 1, none⟩ = some (.slice Ao88 t645.length co88)) (ds := []) #[ff,ff,ff,ff,ff,ff,ff,ff,ff,ff,ff] (by kernel_rfl) rfl rfl ⟨(blk_cell BK649.out 0).trans rfl, (blk_cell BK649.out 1).trans rfl⟩ (fun hHeld => ?_); refine with_tabW laws_FnPoolAll.tab10 laws_FnPoolAll.bits10 (fun HT_ HW_ => ?_)
          generalize w90.drew = w91 at HO_6 HO_625001 HO_631001 HO_637001 HO647 BK624 BK630 BK636 BK649 HB HR653 hHeld ⊢
          refine pure_ (i := 1) (N := some 95) (v := ?_) (a' := ?_) #[ff,tt,ff,ff,ff,ff,ff,ff,ff,ff,ff] rfl rfl (any_of HT_.out (by kernel_rfl)) (fun _ _ _ h => h) (Or.inl ⟨by rfl, ?_⟩) ?_ ?_
          rotate_left
          ·intro w'
           go_simp
           with_reducible rfl
          rotate_left
          ·simp only [Act.put, List.setIfInBounds_toArray, List.set_cons_zero, List.set_cons_succ, i64_w, i32_w]
           rfl
          refine pure_ (i := 2) (N := some 96) (v := ?_) (a' := ?_) #[ff,tt,tt,ff,ff,ff,ff,ff,ff,ff,ff] rfl rfl (any_of HT_.out (by kernel_rfl)) (fun _ _ _ h => h) (Or.inl ⟨by rfl, ?_⟩) ?_ ?_
          rotate_left
          ·intro w'
           go_simp
           with_reducible rfl
          rotate_left
          ·simp only [Act.put, List.setIfInBounds_toArray, List.set_cons_zero, List.set_cons_succ, i64_w, i32_w]
           rfl
          refine pure_ (i := 3) (N := some 97) (v := ?_) (a' := ?_) #[ff,tt,tt,tt,ff,ff,ff,ff,ff,ff,ff] rfl rfl (any_of HT_.out (by kernel_rfl)) (fun _ _ _ h => h) (Or.inl ⟨by rfl, ?_⟩) ?_ ?_
          rotate_left
          ·intro w'
           go_simp
           with_reducible rfl
          rotate_left
          ·simp only [Act.put, List.setIfInBounds_toArray, List.set_cons_zero, List.set_cons_succ, i64_w, i32_w]
           rfl
          refine take_ (i := 0) (N := some 94) (v := ?_) (a' := ?_) #[tt,tt,tt,tt,ff,ff,ff,ff,ff,ff,ff] rfl rfl (take_ofW HT_.out HW_.out (by kernel_rfl)) (fun _ _ _ h => h) (Or.inl ⟨by rfl, ?_⟩) hHeld ?_ ?_
          rotate_left
          ·rintro w' ⟨s0, s1⟩
           go_simp
           with_reducible rfl
          rotate_left
          ·simp only [Act.put, List.setIfInBounds_toArray, List.set_cons_zero, List.set_cons_succ, i64_w, i32_w]
           rfl
          refine join_ (σ := Value × Nat) 2 #[tt,tt,tt,tt,tt,tt,tt,tt,tt,ff,ff] (fun s_ => [(98, .tuple #[.agg #[.int .i64 t654, s_.1], .int .i64 t658]), (14, .pointer (some ⟨s_.2, 0, none⟩)), (93, .tuple #[.agg #[.int .i64 t654, s_.1], .int .i64 t658]), (99, .agg #[.int .i64 t654, s_.1]), (100, .int .i64 t658)]) (fun s_ w' => (w'.cell? ⟨gb649, 0, none⟩ = some (.int .i64 t644) ∧ w'.cell? ⟨gb649, 1, none⟩ = some (.slice Ao88 t645.length co88)) ∧ (Kd.R k25 25 w' w.heap.size (fun k_ => some k_ ≠ (s_.1 : Value).ownBlock ∧ some k_ ≠ (.slice Ao14 t621.length co14 : Value).ownBlock ∧ some k_ ≠ (.slice Ao13 t618.length co13 : Value).ownBlock ∧ some k_ ≠ (.slice Ao19 t626.length co19 : Value).ownBlock ∧ some k_ ≠ (.slice Ao26 t632.length co26 : Value).ownBlock) (.slice Ao88 t645.length co88) t645) ∧ (Kd.R k25 25 w' w.heap.size (fun k_ => some k_ ≠ (.slice Ao88 t645.length co88 : Value).ownBlock ∧ some k_ ≠ (.slice Ao14 t621.length co14 : Value).ownBlock ∧ some k_ ≠ (.slice Ao13 t618.length co13 : Value).ownBlock ∧ some k_ ≠ (.slice Ao19 t626.length co19 : Value).ownBlock ∧ some k_ ≠ (.slice Ao26 t632.length co26 : Value).ownBlock) s_.1 t655) ∧ (Kd.R k25 25 w' w.heap.size (fun k_ => some k_ ≠ (.slice Ao88 t645.length co88 : Value).ownBlock ∧ some k_ ≠ (s_.1 : Value).ownBlock ∧ some k_ ≠ (.slice Ao13 t618.length co13 : Value).ownBlock ∧ some k_ ≠ (.slice Ao19 t626.length co19 : Value).ownBlock ∧ some k_ ≠ (.slice Ao26 t632.length co26 : Value).ownBlock) (.slice Ao14 t621.length co14) t621) ∧ (Kd.R k25 25 w' w.heap.size (fun k_ => some k_ ≠ (.slice Ao88 t645.length co88 : Value).ownBlock ∧ some k_ ≠ (s_.1 : Value).ownBlock ∧ some k_ ≠ (.slice Ao14 t621.length co14 : Value).ownBlock ∧ some k_ ≠ (.slice Ao19 t626.length co19 : Value).ownBlock ∧ some k_ ≠ (.slice Ao26 t632.length co26 : Value).ownBlock) (.slice Ao13 t618.length co13) t618) ∧ (Kd.R k25 25 w' w.heap.size (fun k_ => some k_ ≠ (.slice Ao88 t645.length co88 : Value).ownBlock ∧ some k_ ≠ (s_.1 : Value).ownBlock ∧ some k_ ≠ (.slice Ao14 t621.length co14 : Value).ownBlock ∧ some k_ ≠ (.slice Ao13 t618.length co13 : Value).ownBlock ∧ some k_ ≠ (.slice Ao26 t632.length co26 : Value).ownBlock) (.slice Ao19 t626.length co19) t626) ∧ (Kd.R k25 25 w' w.heap.size (fun k_ => some k_ ≠ (.slice Ao88 t645.length co88 : Value).ownBlock ∧ some k_ ≠ (s_.1 : Value).ownBlock ∧ some k_ ≠ (.slice Ao14 t621.length co14 : Value).ownBlock ∧ some k_ ≠ (.slice Ao13 t618.length co13 : Value).ownBlock ∧ some k_ ≠ (.slice Ao19 t626.length co19 : Value).ownBlock) (.slice Ao26 t632.length co26) t632) ∧ (w'.heap[gb624]? = some (.cells #[.int .i64 t617, .slice Ao13 t618.length co13] 46 (0, 0))) ∧ (w'.heap[gb630]? = some (.cells #[.int .i64 t625, .slice Ao19 t626.length co19] 46 (0, 0))) ∧ (w'.heap[gb636]? = some (.cells #[.int .i64 t631, .slice Ao26 t632.length co26] 46 (0, 0))) ∧ (w'.heap[gb649]? = some (.cells #[.int .i64 t644, .slice Ao88 t645.length co88] 46 (0, 0))) ∧ (w'.heap[s_.2]? = some (.cells #[.int .i64 0, .slice none 0 0] 46 (0, 0))) ∧ (w.heap.size ≤ s_.2) ∧ (w.heap.size ≤ s_.2) ∧ (gb624 ≠ s_.2) ∧ (s_.2 ≠ gb624) ∧ (gb630 ≠ s_.2) ∧ (s_.2 ≠ gb630) ∧ (gb636 ≠ s_.2) ∧ (s_.2 ≠ gb636) ∧ (gb649 ≠ s_.2) ∧ (s_.2 ≠ gb649) ∧ (Below w.heap.size w w')) ?_ ?_
          rotate_left
          ·intro hCont
           refine two_ (i := 4) (j := 8) (Ni := some 98) (Nj := some 14) #[tt,tt,tt,tt,tt,ff,ff,ff,ff,ff,ff] #[tt,tt,tt,tt,ff,ff,ff,ff,tt,ff,ff] rfl rfl rfl rfl (two_of HT_.out (by kernel_rfl)) (by decide) (by decide) (fun K hK => ?_) (fun K hK => ?_)
           ·skip
            refine goes_ Try.func45 (by kernel_rfl) rfl #[.agg #[.int .i64 t644, .slice Ao88 t645.length co88], .slice A92 y650.length c92] (by rfl) rfl rfl (z22_7) ?_
            with_reducible refine (impl_PoolAll.calls t644 _ _ t645 _ _ y650 t654 t655 t658 _ ?side1 ?side2 ?side3 ?side4 A81.out).mono ?_
            (case side1 => repeat (first | exact (Kd.R_reads' HO647.out).2.2 | (with_reducible refine Kd.C_alloc ?_ _) | (with_reducible refine Kd.C_drewN ?_ _) | (with_reducible refine Kd.C_drew ?_)))
            (case side2 => exact (Kd.R_reads' HO647.out).2.1)
            (case side3 => repeat (first | exact (by repeat (first | (with_reducible exact HR653.out) | (with_reducible refine Kd.C_alloc ?_ _) | (with_reducible refine Kd.C_drewN ?_ _) | (with_reducible refine Kd.C_drew ?_) | exact HR653.out)) | (with_reducible refine Kd.C_alloc ?_ _) | (with_reducible refine Kd.C_drewN ?_ _) | (with_reducible refine Kd.C_drew ?_)))
            (case side4 => exact HC653.out)
            rintro e w93 ⟨v656, rfl, ho0, hb⟩
            refine ⟨_, rfl, ?_⟩
            have n0_ := Aside0.mk (Kd.R_elder' (by (with_reducible repeat (first | apply ra | apply rb | apply rc)); exact HO_6.out) (Kd.R_base ho0) hb)
            have n1_ := Aside0.mk (Kd.R_elder' (by (with_reducible repeat (first | apply ra | apply rb | apply rc)); exact HO_625001.out) (Kd.R_base ho0) hb)
            have n2_ := Aside0.mk (Kd.R_elder' (by (with_reducible repeat (first | apply ra | apply rb | apply rc)); exact HO_631001.out) (Kd.R_base ho0) hb)
            have n3_ := Aside0.mk (Kd.R_elder' (by (with_reducible repeat (first | apply ra | apply rb | apply rc)); exact HO_637001.out) (Kd.R_base ho0) hb)
            have n4_ := Aside0.mk (Kd.R_elder' (by (with_reducible repeat (first | apply ra | apply rb | apply rc)); exact HO647.out) (Kd.R_base ho0) hb)
            have n5_ := Aside0.mk (Kd.R_lower (Kd.R_new' (Kd.R_new' (Kd.R_new' (Kd.R_new' (Kd.R_new' ho0 (Kd.R_lt (by (with_reducible repeat (first | apply ra | apply rb | apply rc)); exact HO_6.out))) (Kd.R_lt (by (with_reducible repeat (first | apply ra | apply rb | apply rc)); exact HO_625001.out))) (Kd.R_lt (by (with_reducible repeat (first | apply ra | apply rb | apply rc)); exact HO_631001.out))) (Kd.R_lt (by (with_reducible repeat (first | apply ra | apply rb | apply rc)); exact HO_637001.out))) (Kd.R_lt (by (with_reducible repeat (first | apply ra | apply rb | apply rc)); exact HO647.out))) (below_size (z22_3)))
            have n6_ := Aside0.mk (blk_below (g := gb624) (o := .cells #[.int .i64 t617, .slice Ao13 t618.length co13] 46 (0, 0)) (z22_9) hb)
            have n7_ := Aside0.mk (blk_below (g := gb630) (o := .cells #[.int .i64 t625, .slice Ao19 t626.length co19] 46 (0, 0)) (z22_10) hb)
            have n8_ := Aside0.mk (blk_below (g := gb636) (o := .cells #[.int .i64 t631, .slice Ao26 t632.length co26] 46 (0, 0)) (z22_11) hb)
            have n9_ := Aside0.mk (blk_below (g := gb649) (o := .cells #[.int .i64 t644, .slice Ao88 t645.length co88] 46 (0, 0)) (z22_12) hb)
            have n10_ := Aside0.mk (Kd.C_below (by repeat (first | (with_reducible exact HR653.out) | (with_reducible refine Kd.C_alloc ?_ _) | (with_reducible refine Kd.C_drewN ?_ _) | (with_reducible refine Kd.C_drew ?_) | exact HR653.out)) hb)
            have n11_ := Aside0.mk (below_step (z22_3) hb)
            clear HO_6
            clear HO_625001
            clear HO_631001
            clear HO_637001
            clear HO647
            clear BK624
            clear BK630
            clear BK636
            clear BK649
            clear HR653
            clear HB
            have HO_6 := n0_
            have HO_625001 := n1_
            have HO_631001 := n2_
            have HO_637001 := n3_
            have HO647 := n4_
            have HO657 := n5_
            have BK624 := n6_
            have BK630 := n7_
            have BK636 := n8_
            have BK649 := n9_
            have HR653 := n10_
            have HB := n11_
            clear n0_ n1_ n2_ n3_ n4_ n5_ n6_ n7_ n8_ n9_ n10_ n11_
            (try clear hb)
            (try clear hb2)
            (try clear hk)
            (try clear hi)
            (try clear ho0)
            refine hK.out _ _ ⟨(blk_cell BK649.out 0).trans rfl, (blk_cell BK649.out 1).trans rfl⟩ (fun hHeld => ?_)
            clear hK K
            refine norm_ (a' := ?_) ?_ ?_
            rotate_left
            ·show Act.put _ (some 98) _ = _
             simp only [Act.put, List.setIfInBounds_toArray, List.set_cons_zero, List.set_cons_succ, i64_w, i32_w]
             rfl
            refine pure_ (i := 5) (N := some 93) (v := ?_) (a' := ?_) #[tt,tt,tt,tt,tt,tt,ff,ff,ff,ff,ff] rfl rfl (any_of HT_.out (by kernel_rfl)) (fun _ _ _ h => h) (Or.inl ⟨by rfl, ?_⟩) ?_ ?_
            rotate_left
            ·intro w'
             go_simp
             with_reducible rfl
            rotate_left
            ·simp only [Act.put, List.setIfInBounds_toArray, List.set_cons_zero, List.set_cons_succ, i64_w, i32_w]
             rfl
            refine pure_ (i := 6) (N := some 99) (v := ?_) (a' := ?_) #[tt,tt,tt,tt,tt,tt,tt,ff,ff,ff,ff] rfl rfl (any_of HT_.out (by kernel_rfl)) (fun _ _ _ h => h) (Or.inl ⟨by rfl, ?_⟩) ?_ ?_
            rotate_left
            ·intro w'
             go_simp
             with_reducible rfl
            rotate_left
            ·simp only [Act.put, List.setIfInBounds_toArray, List.set_cons_zero, List.set_cons_succ, i64_w, i32_w]
             rfl
            refine pure_ (i := 7) (N := some 100) (v := ?_) (a' := ?_) #[tt,tt,tt,tt,tt,tt,tt,tt,ff,ff,ff] rfl rfl (any_of HT_.out (by kernel_rfl)) (fun _ _ _ h => h) (Or.inl ⟨by rfl, ?_⟩) ?_ ?_
            rotate_left
            ·intro w'
             go_simp
             with_reducible rfl
            rotate_left
            ·simp only [Act.put, List.setIfInBounds_toArray, List.set_cons_zero, List.set_cons_succ, i64_w, i32_w]
             rfl
            refine one_ (i := 8) (N := some 14) #[tt,tt,tt,tt,tt,tt,tt,tt,tt,ff,ff] rfl rfl (one_of HT_.out (by kernel_rfl)) (by decide) (fun K hK => ?_)
            refine box_step ?hg (N := 14) ?hd (cs := #[.int .i64 0, .slice none 0 0]) (t := 46) ?hr ?_; (case hd => rfl); (case hg => rfl); (case hr => first | (go_simp; done) | (go_simp; rfl))
            intro gb659 hg w94 hbox hb
            have n0_ := Aside0.mk (Kd.R_below (by (with_reducible repeat (first | apply ra | apply rb | apply rc)); exact HO_6.out) hb)
            have n1_ := Aside0.mk (Kd.R_below (by (with_reducible repeat (first | apply ra | apply rb | apply rc)); exact HO_625001.out) hb)
            have n2_ := Aside0.mk (Kd.R_below (by (with_reducible repeat (first | apply ra | apply rb | apply rc)); exact HO_631001.out) hb)
            have n3_ := Aside0.mk (Kd.R_below (by (with_reducible repeat (first | apply ra | apply rb | apply rc)); exact HO_637001.out) hb)
            have n4_ := Aside0.mk (Kd.R_below (by (with_reducible repeat (first | apply ra | apply rb | apply rc)); exact HO647.out) hb)
            have n5_ := Aside0.mk (Kd.R_below (by (with_reducible repeat (first | apply ra | apply rb | apply rc)); exact HO657.out) hb)
            have n6_ := Aside0.mk (blk_below (g := gb624) (o := .cells #[.int .i64 t617, .slice Ao13 t618.length co13] 46 (0, 0)) (z22_9) hb)
            have n7_ := Aside0.mk (blk_below (g := gb630) (o := .cells #[.int .i64 t625, .slice Ao19 t626.length co19] 46 (0, 0)) (z22_10) hb)
            have n8_ := Aside0.mk (blk_below (g := gb636) (o := .cells #[.int .i64 t631, .slice Ao26 t632.length co26] 46 (0, 0)) (z22_11) hb)
            have n9_ := Aside0.mk (blk_below (g := gb649) (o := .cells #[.int .i64 t644, .slice Ao88 t645.length co88] 46 (0, 0)) (z22_12) hb)
            have n10_ := Aside0.mk (Kd.C_below (by repeat (first | (with_reducible exact HR653.out) | (with_reducible refine Kd.C_alloc ?_ _) | (with_reducible refine Kd.C_drewN ?_ _) | (with_reducible refine Kd.C_drew ?_) | exact HR653.out)) hb)
            have n11_ := Aside0.mk (below_step (z22_3) hb)
            have n12_ := Aside0.mk (hbox)
            have n13_ := Aside0.mk ((by rw [hg]; exact (below_size (z22_3)) : w.heap.size ≤ gb659))
            have n14_ := Aside0.mk ((by rw [hg]; exact (below_size (z22_3)) : w.heap.size ≤ gb659))
            have n15_ := Aside0.mk ((by rw [hg]; exact Nat.ne_of_lt (blk_lt (g := gb624) (o := .cells #[.int .i64 t617, .slice Ao13 t618.length co13] 46 (0, 0)) (z22_9)) : gb624 ≠ gb659))
            have n16_ := Aside0.mk ((by rw [hg]; exact Nat.ne_of_gt (blk_lt (g := gb624) (o := .cells #[.int .i64 t617, .slice Ao13 t618.length co13] 46 (0, 0)) (z22_9)) : gb659 ≠ gb624))
            have n17_ := Aside0.mk ((by rw [hg]; exact Nat.ne_of_lt (blk_lt (g := gb630) (o := .cells #[.int .i64 t625, .slice Ao19 t626.length co19] 46 (0, 0)) (z22_10)) : gb630 ≠ gb659))
            have n18_ := Aside0.mk ((by rw [hg]; exact Nat.ne_of_gt (blk_lt (g := gb630) (o := .cells #[.int .i64 t625, .slice Ao19 t626.length co19] 46 (0, 0)) (z22_10)) : gb659 ≠ gb630))
            have n19_ := Aside0.mk ((by rw [hg]; exact Nat.ne_of_lt (blk_lt (g := gb636) (o := .cells #[.int .i64 t631, .slice Ao26 t632.length co26] 46 (0, 0)) (z22_11)) : gb636 ≠ gb659))
            have n20_ := Aside0.mk ((by rw [hg]; exact Nat.ne_of_gt (blk_lt (g := gb636) (o := .cells #[.int .i64 t631, .slice Ao26 t632.length co26] 46 (0, 0)) (z22_11)) : gb659 ≠ gb636))
            have n21_ := Aside0.mk ((by rw [hg]; exact Nat.ne_of_lt (blk_lt (g := gb649) (o := .cells #[.int .i64 t644, .slice Ao88 t645.length co88] 46 (0, 0)) (z22_12)) : gb649 ≠ gb659))
            have n22_ := Aside0.mk ((by rw [hg]; exact Nat.ne_of_gt (blk_lt (g := gb649) (o := .cells #[.int .i64 t644, .slice Ao88 t645.length co88] 46 (0, 0)) (z22_12)) : gb659 ≠ gb649))
            clear HO_6
            clear HO_625001
            clear HO_631001
            clear HO_637001
            clear HO647
            clear HO657
            clear BK624
            clear BK630
            clear BK636
            clear BK649
            clear HR653
            clear HB
            have HO_6 := n0_
            have HO_625001 := n1_
            have HO_631001 := n2_
            have HO_637001 := n3_
            have HO647 := n4_
            have HO657 := n5_
            have BK624 := n6_
            have BK630 := n7_
            have BK636 := n8_
            have BK649 := n9_
            have HR653 := n10_
            have HB := n11_
            have BK659 := n12_
            have GW659 := n13_
            have GE659 := n14_
            have NB624_659 := n15_
            have NB659_624 := n16_
            have NB630_659 := n17_
            have NB659_630 := n18_
            have NB636_659 := n19_
            have NB659_636 := n20_
            have NB649_659 := n21_
            have NB659_649 := n22_
            clear n0_ n1_ n2_ n3_ n4_ n5_ n6_ n7_ n8_ n9_ n10_ n11_ n12_ n13_ n14_ n15_ n16_ n17_ n18_ n19_ n20_ n21_ n22_
            clear hb hbox hg
            refine hK.out _ _ ⟨(blk_cell BK649.out 0).trans rfl, (blk_cell BK649.out 1).trans rfl⟩ (fun hHeld => ?_)
            clear hK K
            refine norm_ (a' := ?_) ?_ ?_
            rotate_left
            ·show Act.put _ (some 14) _ = _
             simp only [Act.put, List.setIfInBounds_toArray, List.set_cons_zero, List.set_cons_succ, i64_w, i32_w]
             rfl
            exact norm_ (z22_14) (hCont (v656, gb659) _ ⟨hHeld, (by (with_reducible repeat (first | apply ra | apply rb | apply rc)); exact Kd.R_mono HO647.out (fun _ hk => ⟨hk.2, ⟨hk.1.1, ⟨hk.1.2.1, ⟨hk.1.2.2.1, hk.1.2.2.2⟩⟩⟩⟩)), (by (with_reducible repeat (first | apply ra | apply rb | apply rc)); exact Kd.R_mono HO657.out (fun _ hk => ⟨hk.2, ⟨hk.1.1.1.1.2, ⟨hk.1.1.1.2, ⟨hk.1.1.2, hk.1.2⟩⟩⟩⟩)), (by (with_reducible repeat (first | apply ra | apply rb | apply rc)); exact Kd.R_mono HO_6.out (fun _ hk => ⟨hk.1.2.2.2, ⟨hk.2, ⟨hk.1.1, ⟨hk.1.2.1, hk.1.2.2.1⟩⟩⟩⟩)), (by (with_reducible repeat (first | apply ra | apply rb | apply rc)); exact Kd.R_mono HO_625001.out (fun _ hk => ⟨hk.1.2.2.2, ⟨hk.2, ⟨hk.1.1, ⟨hk.1.2.1, hk.1.2.2.1⟩⟩⟩⟩)), (by (with_reducible repeat (first | apply ra | apply rb | apply rc)); exact Kd.R_mono HO_631001.out (fun _ hk => ⟨hk.1.2.2.2, ⟨hk.2, ⟨hk.1.1, ⟨hk.1.2.1, hk.1.2.2.1⟩⟩⟩⟩)), (by (with_reducible repeat (first | apply ra | apply rb | apply rc)); exact Kd.R_mono HO_637001.out (fun _ hk => ⟨hk.1.2.2.2, ⟨hk.2, ⟨hk.1.1, ⟨hk.1.2.1, hk.1.2.2.1⟩⟩⟩⟩)), (z22_9), (z22_10), (z22_11), (z22_12), (z22_13), GW659.out, GE659.out, NB624_659.out, NB659_624.out, NB630_659.out, NB659_630.out, NB636_659.out, NB659_636.out, NB649_659.out, NB659_649.out, (z22_2)⟩)
           ·skip
            refine box_step ?hg (N := 14) ?hd (cs := #[.int .i64 0, .slice none 0 0]) (t := 46) ?hr ?_; (case hd => rfl); (case hg => rfl); (case hr => first | (go_simp; done) | (go_simp; rfl))
            intro gb659 hg w93 hbox hb
            have n0_ := Aside0.mk (Kd.R_below (by (with_reducible repeat (first | apply ra | apply rb | apply rc)); exact HO_6.out) hb)
            have n1_ := Aside0.mk (Kd.R_below (by (with_reducible repeat (first | apply ra | apply rb | apply rc)); exact HO_625001.out) hb)
            have n2_ := Aside0.mk (Kd.R_below (by (with_reducible repeat (first | apply ra | apply rb | apply rc)); exact HO_631001.out) hb)
            have n3_ := Aside0.mk (Kd.R_below (by (with_reducible repeat (first | apply ra | apply rb | apply rc)); exact HO_637001.out) hb)
            have n4_ := Aside0.mk (Kd.R_below (by (with_reducible repeat (first | apply ra | apply rb | apply rc)); exact HO647.out) hb)
            have n5_ := Aside0.mk (blk_below (g := gb624) (o := .cells #[.int .i64 t617, .slice Ao13 t618.length co13] 46 (0, 0)) (z22_9) hb)
            have n6_ := Aside0.mk (blk_below (g := gb630) (o := .cells #[.int .i64 t625, .slice Ao19 t626.length co19] 46 (0, 0)) (z22_10) hb)
            have n7_ := Aside0.mk (blk_below (g := gb636) (o := .cells #[.int .i64 t631, .slice Ao26 t632.length co26] 46 (0, 0)) (z22_11) hb)
            have n8_ := Aside0.mk (blk_below (g := gb649) (o := .cells #[.int .i64 t644, .slice Ao88 t645.length co88] 46 (0, 0)) (z22_12) hb)
            have n9_ := Aside0.mk (Kd.C_below (by repeat (first | (with_reducible exact HR653.out) | (with_reducible refine Kd.C_alloc ?_ _) | (with_reducible refine Kd.C_drewN ?_ _) | (with_reducible refine Kd.C_drew ?_) | exact HR653.out)) hb)
            have n10_ := Aside0.mk (below_step (z22_3) hb)
            have n11_ := Aside0.mk (hbox)
            have n12_ := Aside0.mk ((by rw [hg]; exact (below_size (z22_3)) : w.heap.size ≤ gb659))
            have n13_ := Aside0.mk ((by rw [hg]; exact (below_size (z22_3)) : w.heap.size ≤ gb659))
            have n14_ := Aside0.mk ((by rw [hg]; exact Nat.ne_of_lt (blk_lt (g := gb624) (o := .cells #[.int .i64 t617, .slice Ao13 t618.length co13] 46 (0, 0)) (z22_9)) : gb624 ≠ gb659))
            have n15_ := Aside0.mk ((by rw [hg]; exact Nat.ne_of_gt (blk_lt (g := gb624) (o := .cells #[.int .i64 t617, .slice Ao13 t618.length co13] 46 (0, 0)) (z22_9)) : gb659 ≠ gb624))
            have n16_ := Aside0.mk ((by rw [hg]; exact Nat.ne_of_lt (blk_lt (g := gb630) (o := .cells #[.int .i64 t625, .slice Ao19 t626.length co19] 46 (0, 0)) (z22_10)) : gb630 ≠ gb659))
            have n17_ := Aside0.mk ((by rw [hg]; exact Nat.ne_of_gt (blk_lt (g := gb630) (o := .cells #[.int .i64 t625, .slice Ao19 t626.length co19] 46 (0, 0)) (z22_10)) : gb659 ≠ gb630))
            have n18_ := Aside0.mk ((by rw [hg]; exact Nat.ne_of_lt (blk_lt (g := gb636) (o := .cells #[.int .i64 t631, .slice Ao26 t632.length co26] 46 (0, 0)) (z22_11)) : gb636 ≠ gb659))
            have n19_ := Aside0.mk ((by rw [hg]; exact Nat.ne_of_gt (blk_lt (g := gb636) (o := .cells #[.int .i64 t631, .slice Ao26 t632.length co26] 46 (0, 0)) (z22_11)) : gb659 ≠ gb636))
            have n20_ := Aside0.mk ((by rw [hg]; exact Nat.ne_of_lt (blk_lt (g := gb649) (o := .cells #[.int .i64 t644, .slice Ao88 t645.length co88] 46 (0, 0)) (z22_12)) : gb649 ≠ gb659))
            have n21_ := Aside0.mk ((by rw [hg]; exact Nat.ne_of_gt (blk_lt (g := gb649) (o := .cells #[.int .i64 t644, .slice Ao88 t645.length co88] 46 (0, 0)) (z22_12)) : gb659 ≠ gb649))
            clear HO_6
            clear HO_625001
            clear HO_631001
            clear HO_637001
            clear HO647
            clear BK624
            clear BK630
            clear BK636
            clear BK649
            clear HR653
            clear HB
            have HO_6 := n0_
            have HO_625001 := n1_
            have HO_631001 := n2_
            have HO_637001 := n3_
            have HO647 := n4_
            have BK624 := n5_
            have BK630 := n6_
            have BK636 := n7_
            have BK649 := n8_
            have HR653 := n9_
            have HB := n10_
            have BK659 := n11_
            have GW659 := n12_
            have GE659 := n13_
            have NB624_659 := n14_
            have NB659_624 := n15_
            have NB630_659 := n16_
            have NB659_630 := n17_
            have NB636_659 := n18_
            have NB659_636 := n19_
            have NB649_659 := n20_
            have NB659_649 := n21_
            clear n0_ n1_ n2_ n3_ n4_ n5_ n6_ n7_ n8_ n9_ n10_ n11_ n12_ n13_ n14_ n15_ n16_ n17_ n18_ n19_ n20_ n21_
            clear hb hbox hg
            refine hK.out _ _ ⟨(blk_cell BK649.out 0).trans rfl, (blk_cell BK649.out 1).trans rfl⟩ (fun hHeld => ?_)
            clear hK K
            refine norm_ (a' := ?_) ?_ ?_
            rotate_left
            ·show Act.put _ (some 14) _ = _
             simp only [Act.put, List.setIfInBounds_toArray, List.set_cons_zero, List.set_cons_succ, i64_w, i32_w]
             rfl
            refine one_ (i := 4) (N := some 98) #[tt,tt,tt,tt,tt,ff,ff,ff,tt,ff,ff] rfl rfl (one_of HT_.out (by kernel_rfl)) (by decide) (fun K hK => ?_)
            refine goes_ Try.func45 (by kernel_rfl) rfl #[.agg #[.int .i64 t644, .slice Ao88 t645.length co88], .slice A92 y650.length c92] (by rfl) rfl rfl (z22_7) ?_
            with_reducible refine (impl_PoolAll.calls t644 _ _ t645 _ _ y650 t654 t655 t658 _ ?side1 ?side2 ?side3 ?side4 A81.out).mono ?_
            (case side1 => repeat (first | exact (Kd.R_reads' HO647.out).2.2 | (with_reducible refine Kd.C_alloc ?_ _) | (with_reducible refine Kd.C_drewN ?_ _) | (with_reducible refine Kd.C_drew ?_)))
            (case side2 => exact (Kd.R_reads' HO647.out).2.1)
            (case side3 => repeat (first | exact (by repeat (first | (with_reducible exact HR653.out) | (with_reducible refine Kd.C_alloc ?_ _) | (with_reducible refine Kd.C_drewN ?_ _) | (with_reducible refine Kd.C_drew ?_) | exact HR653.out)) | (with_reducible refine Kd.C_alloc ?_ _) | (with_reducible refine Kd.C_drewN ?_ _) | (with_reducible refine Kd.C_drew ?_)))
            (case side4 => exact HC653.out)
            rintro e w94 ⟨v656, rfl, ho0, hb⟩
            refine ⟨_, rfl, ?_⟩
            have n0_ := Aside0.mk (Kd.R_elder' (by (with_reducible repeat (first | apply ra | apply rb | apply rc)); exact HO_6.out) (Kd.R_base ho0) hb)
            have n1_ := Aside0.mk (Kd.R_elder' (by (with_reducible repeat (first | apply ra | apply rb | apply rc)); exact HO_625001.out) (Kd.R_base ho0) hb)
            have n2_ := Aside0.mk (Kd.R_elder' (by (with_reducible repeat (first | apply ra | apply rb | apply rc)); exact HO_631001.out) (Kd.R_base ho0) hb)
            have n3_ := Aside0.mk (Kd.R_elder' (by (with_reducible repeat (first | apply ra | apply rb | apply rc)); exact HO_637001.out) (Kd.R_base ho0) hb)
            have n4_ := Aside0.mk (Kd.R_elder' (by (with_reducible repeat (first | apply ra | apply rb | apply rc)); exact HO647.out) (Kd.R_base ho0) hb)
            have n5_ := Aside0.mk (Kd.R_lower (Kd.R_new' (Kd.R_new' (Kd.R_new' (Kd.R_new' (Kd.R_new' ho0 (Kd.R_lt (by (with_reducible repeat (first | apply ra | apply rb | apply rc)); exact HO_6.out))) (Kd.R_lt (by (with_reducible repeat (first | apply ra | apply rb | apply rc)); exact HO_625001.out))) (Kd.R_lt (by (with_reducible repeat (first | apply ra | apply rb | apply rc)); exact HO_631001.out))) (Kd.R_lt (by (with_reducible repeat (first | apply ra | apply rb | apply rc)); exact HO_637001.out))) (Kd.R_lt (by (with_reducible repeat (first | apply ra | apply rb | apply rc)); exact HO647.out))) (below_size (z22_2)))
            have n6_ := Aside0.mk (blk_below (g := gb624) (o := .cells #[.int .i64 t617, .slice Ao13 t618.length co13] 46 (0, 0)) (z22_9) hb)
            have n7_ := Aside0.mk (blk_below (g := gb630) (o := .cells #[.int .i64 t625, .slice Ao19 t626.length co19] 46 (0, 0)) (z22_10) hb)
            have n8_ := Aside0.mk (blk_below (g := gb636) (o := .cells #[.int .i64 t631, .slice Ao26 t632.length co26] 46 (0, 0)) (z22_11) hb)
            have n9_ := Aside0.mk (blk_below (g := gb649) (o := .cells #[.int .i64 t644, .slice Ao88 t645.length co88] 46 (0, 0)) (z22_12) hb)
            have n10_ := Aside0.mk (Kd.C_below (by repeat (first | (with_reducible exact HR653.out) | (with_reducible refine Kd.C_alloc ?_ _) | (with_reducible refine Kd.C_drewN ?_ _) | (with_reducible refine Kd.C_drew ?_) | exact HR653.out)) hb)
            have n11_ := Aside0.mk (blk_below (g := gb659) (o := .cells #[.int .i64 0, .slice none 0 0] 46 (0, 0)) (z22_13) hb)
            have n12_ := Aside0.mk (below_step (z22_2) hb)
            clear HO_6
            clear HO_625001
            clear HO_631001
            clear HO_637001
            clear HO647
            clear BK624
            clear BK630
            clear BK636
            clear BK649
            clear HR653
            clear BK659
            clear HB
            have HO_6 := n0_
            have HO_625001 := n1_
            have HO_631001 := n2_
            have HO_637001 := n3_
            have HO647 := n4_
            have HO657 := n5_
            have BK624 := n6_
            have BK630 := n7_
            have BK636 := n8_
            have BK649 := n9_
            have HR653 := n10_
            have BK659 := n11_
            have HB := n12_
            clear n0_ n1_ n2_ n3_ n4_ n5_ n6_ n7_ n8_ n9_ n10_ n11_ n12_
            (try clear hb)
            (try clear hb2)
            (try clear hk)
            (try clear hi)
            (try clear ho0)
            refine hK.out _ _ ⟨(blk_cell BK649.out 0).trans rfl, (blk_cell BK649.out 1).trans rfl⟩ (fun hHeld => ?_)
            clear hK K
            refine norm_ (a' := ?_) ?_ ?_
            rotate_left
            ·show Act.put _ (some 98) _ = _
             simp only [Act.put, List.setIfInBounds_toArray, List.set_cons_zero, List.set_cons_succ, i64_w, i32_w]
             rfl
            refine pure_ (i := 5) (N := some 93) (v := ?_) (a' := ?_) #[tt,tt,tt,tt,tt,tt,ff,ff,tt,ff,ff] rfl rfl (any_of HT_.out (by kernel_rfl)) (fun _ _ _ h => h) (Or.inl ⟨by rfl, ?_⟩) ?_ ?_
            rotate_left
            ·intro w'
             go_simp
             with_reducible rfl
            rotate_left
            ·simp only [Act.put, List.setIfInBounds_toArray, List.set_cons_zero, List.set_cons_succ, i64_w, i32_w]
             rfl
            refine pure_ (i := 6) (N := some 99) (v := ?_) (a' := ?_) #[tt,tt,tt,tt,tt,tt,tt,ff,tt,ff,ff] rfl rfl (any_of HT_.out (by kernel_rfl)) (fun _ _ _ h => h) (Or.inl ⟨by rfl, ?_⟩) ?_ ?_
            rotate_left
            ·intro w'
             go_simp
             with_reducible rfl
            rotate_left
            ·simp only [Act.put, List.setIfInBounds_toArray, List.set_cons_zero, List.set_cons_succ, i64_w, i32_w]
             rfl
            refine pure_ (i := 7) (N := some 100) (v := ?_) (a' := ?_) #[tt,tt,tt,tt,tt,tt,tt,tt,tt,ff,ff] rfl rfl (any_of HT_.out (by kernel_rfl)) (fun _ _ _ h => h) (Or.inl ⟨by rfl, ?_⟩) ?_ ?_
            rotate_left
            ·intro w'
             go_simp
             with_reducible rfl
            rotate_left
            ·simp only [Act.put, List.setIfInBounds_toArray, List.set_cons_zero, List.set_cons_succ, i64_w, i32_w]
             rfl
            exact norm_ (z22_14) (hCont (v656, gb659) _ ⟨hHeld, (by (with_reducible repeat (first | apply ra | apply rb | apply rc)); exact Kd.R_mono HO647.out (fun _ hk => ⟨hk.2, ⟨hk.1.1, ⟨hk.1.2.1, ⟨hk.1.2.2.1, hk.1.2.2.2⟩⟩⟩⟩)), (by (with_reducible repeat (first | apply ra | apply rb | apply rc)); exact Kd.R_mono HO657.out (fun _ hk => ⟨hk.2, ⟨hk.1.1.1.1.2, ⟨hk.1.1.1.2, ⟨hk.1.1.2, hk.1.2⟩⟩⟩⟩)), (by (with_reducible repeat (first | apply ra | apply rb | apply rc)); exact Kd.R_mono HO_6.out (fun _ hk => ⟨hk.1.2.2.2, ⟨hk.2, ⟨hk.1.1, ⟨hk.1.2.1, hk.1.2.2.1⟩⟩⟩⟩)), (by (with_reducible repeat (first | apply ra | apply rb | apply rc)); exact Kd.R_mono HO_625001.out (fun _ hk => ⟨hk.1.2.2.2, ⟨hk.2, ⟨hk.1.1, ⟨hk.1.2.1, hk.1.2.2.1⟩⟩⟩⟩)), (by (with_reducible repeat (first | apply ra | apply rb | apply rc)); exact Kd.R_mono HO_631001.out (fun _ hk => ⟨hk.1.2.2.2, ⟨hk.2, ⟨hk.1.1, ⟨hk.1.2.1, hk.1.2.2.1⟩⟩⟩⟩)), (by (with_reducible repeat (first | apply ra | apply rb | apply rc)); exact Kd.R_mono HO_637001.out (fun _ hk => ⟨hk.1.2.2.2, ⟨hk.2, ⟨hk.1.1, ⟨hk.1.2.1, hk.1.2.2.1⟩⟩⟩⟩)), (z22_9), (z22_10), (z22_11), (z22_12), (z22_13), GW659.out, GE659.out, NB624_659.out, NB659_624.out, NB630_659.out, NB659_630.out, NB636_659.out, NB659_636.out, NB649_659.out, NB659_649.out, (z22_2)⟩)
          rintro ⟨v656, gb659⟩ w95 ⟨hS_, h0_, h1_, h2_, h3_, h4_, h5_, h6_, h7_, h8_, h9_, h10_, h11_, h12_, h13_, h14_, h15_, h16_, h17_, h18_, h19_, h20_, h21_⟩
          have n0_ : Aside0 (Kd.R k25 25 w95 w.heap.size (fun k_ => some k_ ≠ (v656 : Value).ownBlock ∧ some k_ ≠ (.slice Ao14 t621.length co14 : Value).ownBlock ∧ some k_ ≠ (.slice Ao13 t618.length co13 : Value).ownBlock ∧ some k_ ≠ (.slice Ao19 t626.length co19 : Value).ownBlock ∧ some k_ ≠ (.slice Ao26 t632.length co26 : Value).ownBlock) (.slice Ao88 t645.length co88) t645) := ⟨h0_⟩
          have n1_ : Aside0 (Kd.R k25 25 w95 w.heap.size (fun k_ => some k_ ≠ (.slice Ao88 t645.length co88 : Value).ownBlock ∧ some k_ ≠ (.slice Ao14 t621.length co14 : Value).ownBlock ∧ some k_ ≠ (.slice Ao13 t618.length co13 : Value).ownBlock ∧ some k_ ≠ (.slice Ao19 t626.length co19 : Value).ownBlock ∧ some k_ ≠ (.slice Ao26 t632.length co26 : Value).ownBlock) v656 t655) := ⟨h1_⟩
          have n2_ : Aside0 (Kd.R k25 25 w95 w.heap.size (fun k_ => some k_ ≠ (.slice Ao88 t645.length co88 : Value).ownBlock ∧ some k_ ≠ (v656 : Value).ownBlock ∧ some k_ ≠ (.slice Ao13 t618.length co13 : Value).ownBlock ∧ some k_ ≠ (.slice Ao19 t626.length co19 : Value).ownBlock ∧ some k_ ≠ (.slice Ao26 t632.length co26 : Value).ownBlock) (.slice Ao14 t621.length co14) t621) := ⟨h2_⟩
          have n3_ : Aside0 (Kd.R k25 25 w95 w.heap.size (fun k_ => some k_ ≠ (.slice Ao88 t645.length co88 : Value).ownBlock ∧ some k_ ≠ (v656 : Value).ownBlock ∧ some k_ ≠ (.slice Ao14 t621.length co14 : Value).ownBlock ∧ some k_ ≠ (.slice Ao19 t626.length co19 : Value).ownBlock ∧ some k_ ≠ (.slice Ao26 t632.length co26 : Value).ownBlock) (.slice Ao13 t618.length co13) t618) := ⟨h3_⟩
          have n4_ : Aside0 (Kd.R k25 25 w95 w.heap.size (fun k_ => some k_ ≠ (.slice Ao88 t645.length co88 : Value).ownBlock ∧ some k_ ≠ (v656 : Value).ownBlock ∧ some k_ ≠ (.slice Ao14 t621.length co14 : Value).ownBlock ∧ some k_ ≠ (.slice Ao13 t618.length co13 : Value).ownBlock ∧ some k_ ≠ (.slice Ao26 t632.length co26 : Value).ownBlock) (.slice Ao19 t626.length co19) t626) := ⟨h4_⟩
          have n5_ : Aside0 (Kd.R k25 25 w95 w.heap.size (fun k_ => some k_ ≠ (.slice Ao88 t645.length co88 : Value).ownBlock ∧ some k_ ≠ (v656 : Value).ownBlock ∧ some k_ ≠ (.slice Ao14 t621.length co14 : Value).ownBlock ∧ some k_ ≠ (.slice Ao13 t618.length co13 : Value).ownBlock ∧ some k_ ≠ (.slice Ao19 t626.length co19 : Value).ownBlock) (.slice Ao26 t632.length co26) t632) := ⟨h5_⟩
          have n6_ : Aside0 (w95.heap[gb624]? = some (.cells #[.int .i64 t617, .slice Ao13 t618.length co13] 46 (0, 0))) := ⟨h6_⟩
          have n7_ : Aside0 (w95.heap[gb630]? = some (.cells #[.int .i64 t625, .slice Ao19 t626.length co19] 46 (0, 0))) := ⟨h7_⟩
          have n8_ : Aside0 (w95.heap[gb636]? = some (.cells #[.int .i64 t631, .slice Ao26 t632.length co26] 46 (0, 0))) := ⟨h8_⟩
          have n9_ : Aside0 (w95.heap[gb649]? = some (.cells #[.int .i64 t644, .slice Ao88 t645.length co88] 46 (0, 0))) := ⟨h9_⟩
          have n10_ : Aside0 (w95.heap[gb659]? = some (.cells #[.int .i64 0, .slice none 0 0] 46 (0, 0))) := ⟨h10_⟩
          have n11_ : Aside0 (w.heap.size ≤ gb659) := ⟨h11_⟩
          have n12_ : Aside0 (w.heap.size ≤ gb659) := ⟨h12_⟩
          have n13_ : Aside0 (gb624 ≠ gb659) := ⟨h13_⟩
          have n14_ : Aside0 (gb659 ≠ gb624) := ⟨h14_⟩
          have n15_ : Aside0 (gb630 ≠ gb659) := ⟨h15_⟩
          have n16_ : Aside0 (gb659 ≠ gb630) := ⟨h16_⟩
          have n17_ : Aside0 (gb636 ≠ gb659) := ⟨h17_⟩
          have n18_ : Aside0 (gb659 ≠ gb636) := ⟨h18_⟩
          have n19_ : Aside0 (gb649 ≠ gb659) := ⟨h19_⟩
          have n20_ : Aside0 (gb659 ≠ gb649) := ⟨h20_⟩
          have n21_ : Aside0 (Below w.heap.size w w95) := ⟨h21_⟩
          clear HO_6
          clear HO_625001
          clear HO_631001
          clear HO_637001
          clear HO647
          clear BK624
          clear BK630
          clear BK636
          clear BK649
          clear HB
          clear h0_ h1_ h2_ h3_ h4_ h5_ h6_ h7_ h8_ h9_ h10_ h11_ h12_ h13_ h14_ h15_ h16_ h17_ h18_ h19_ h20_ h21_
          have HO647 := n0_
          have HO657 := n1_
          have HO_6 := n2_
          have HO_625001 := n3_
          have HO_631001 := n4_
          have HO_637001 := n5_
          have BK624 := n6_
          have BK630 := n7_
          have BK636 := n8_
          have BK649 := n9_
          have BK659 := n10_
          have GW659 := n11_
          have GE659 := n12_
          have NB624_659 := n13_
          have NB659_624 := n14_
          have NB630_659 := n15_
          have NB659_630 := n16_
          have NB636_659 := n17_
          have NB659_636 := n18_
          have NB649_659 := n19_
          have NB659_649 := n20_
          have HB := n21_
          clear n0_ n1_ n2_ n3_ n4_ n5_ n6_ n7_ n8_ n9_ n10_ n11_ n12_ n13_ n14_ n15_ n16_ n17_ n18_ n19_ n20_ n21_
          have hHeld : w95.cell? ⟨gb649, 0, none⟩ = some (.int .i64 t644) ∧ w95.cell? ⟨gb649, 1, none⟩ = some (.slice Ao88 t645.length co88) := hS_
          obtain ⟨Ao97, co97, eo97⟩ := Kd.R_slice HO657.out
          (first | subst eo97 | (injection eo97 with f1_ f2_ f3_; have f4_ := f1_.symm; have f5_ := f3_.symm; clear f1_ f2_ f3_; subst f4_; subst f5_))
          refine norm_ (a' := ?_) ?_ ?_
          rotate_left
          ·simp only [putAll, Act.put, List.setIfInBounds_toArray, List.set_cons_zero, List.set_cons_succ]
           rfl
          refine one_ (i := 9) (N := none) #[tt,tt,tt,tt,tt,tt,tt,tt,tt,tt,ff] rfl rfl (one_of HT_.out (by kernel_rfl)) (by decide) (fun K hK => ?_)
          have hs96 : w95.cell? ⟨gb659, 0, none⟩ = some (.int .i64 0) := (blk_cell BK659.out 0).trans rfl
          have hfs96 := blk_frozen BK659.out 0
          have hns96_0 := NB624_659.out
          have hns96_1 := NB630_659.out
          have hns96_2 := NB636_659.out
          have hns96_3 := NB649_659.out
          have hms96_0 := NB659_624.out
          have hms96_1 := NB659_630.out
          have hms96_2 := NB659_636.out
          have hms96_3 := NB659_649.out
          have hs98 : w95.cell? ⟨gb659, 1, none⟩ = some (.slice none 0 0) := (blk_cell BK659.out 1).trans rfl
          have hfs98 := blk_frozen BK659.out 1
          have hns98_0 := NB624_659.out
          have hns98_1 := NB630_659.out
          have hns98_2 := NB636_659.out
          have hns98_3 := NB649_659.out
          have hms98_0 := NB659_624.out
          have hms98_1 := NB659_630.out
          have hms98_2 := NB659_636.out
          have hms98_3 := NB659_649.out
          refine skip_ (w1 := ?_) (by rfl) rfl ?_ ?_
          rotate_left
          ·go_simp
           rfl
          refine hK.out _ _ ⟨((cell_far (p := ⟨gb659, _, none⟩) NB649_659.out _).trans (((cell_far (p := ⟨gb659, _, none⟩) NB649_659.out _).trans (hHeld.1)))), ((cell_far (p := ⟨gb659, _, none⟩) NB649_659.out _).trans (((cell_far (p := ⟨gb659, _, none⟩) NB649_659.out _).trans (hHeld.2))))⟩ (fun hHeld => ?_)
          clear hK K
          refine pure_ (i := 10) (N := some 15) (v := ?_) (a' := ?_) #[tt,tt,tt,tt,tt,tt,tt,tt,tt,tt,tt] rfl rfl (any_of HT_.out (by kernel_rfl)) (fun _ _ _ h => h) (Or.inl ⟨by rfl, ?_⟩) ?_ ?_
          rotate_left
          ·intro w'
           go_simp
           with_reducible rfl
          rotate_left
          ·simp only [Act.put, List.setIfInBounds_toArray, List.set_cons_zero, List.set_cons_succ, i64_w, i32_w]
           rfl
          refine done_ (done_of HT_.out (by kernel_rfl)) ?_
          try go_wp2
          have HJI75 := Aside0.mk hji75
          clear hji75
          go_loopg [16, 17] kj8 (fun kq v16 v17 w' => ∃ (x16_3 : Int) (x17_3 : Int), v16 = .int .i64 x16_3 ∧ v17 = .int .i64 x17_3 ∧ Aside0 (laws_FnPoolAll.l0 kq t621 t629 t648 t658 x16_3 x17_3 t617 t618 t625 t626 t654 t655 = some r) ∧ Aside0 (kq ≤ kj8) ∧ Aside0 (Kd.R k25 25 w' w.heap.size (fun k_ => some k_ ≠ ((.slice Ao13 t618.length co13) : Value).ownBlock ∧ some k_ ≠ ((.slice Ao19 t626.length co19) : Value).ownBlock ∧ some k_ ≠ ((.slice Ao26 t632.length co26) : Value).ownBlock ∧ some k_ ≠ ((.slice Ao88 t645.length co88) : Value).ownBlock ∧ some k_ ≠ ((.slice Ao97 t655.length co97) : Value).ownBlock) (.slice Ao14 t621.length co14) t621) ∧ Aside0 (Kd.R k25 25 w' w.heap.size (fun k_ => some k_ ≠ ((.slice Ao14 t621.length co14) : Value).ownBlock ∧ some k_ ≠ ((.slice Ao19 t626.length co19) : Value).ownBlock ∧ some k_ ≠ ((.slice Ao26 t632.length co26) : Value).ownBlock ∧ some k_ ≠ ((.slice Ao88 t645.length co88) : Value).ownBlock ∧ some k_ ≠ ((.slice Ao97 t655.length co97) : Value).ownBlock) (.slice Ao13 t618.length co13) t618) ∧ Aside0 (Kd.R k25 25 w' w.heap.size (fun k_ => some k_ ≠ ((.slice Ao14 t621.length co14) : Value).ownBlock ∧ some k_ ≠ ((.slice Ao13 t618.length co13) : Value).ownBlock ∧ some k_ ≠ ((.slice Ao26 t632.length co26) : Value).ownBlock ∧ some k_ ≠ ((.slice Ao88 t645.length co88) : Value).ownBlock ∧ some k_ ≠ ((.slice Ao97 t655.length co97) : Value).ownBlock) (.slice Ao19 t626.length co19) t626) ∧ Aside0 (Kd.R k25 25 w' w.heap.size (fun k_ => some k_ ≠ ((.slice Ao14 t621.length co14) : Value).ownBlock ∧ some k_ ≠ ((.slice Ao13 t618.length co13) : Value).ownBlock ∧ some k_ ≠ ((.slice Ao19 t626.length co19) : Value).ownBlock ∧ some k_ ≠ ((.slice Ao88 t645.length co88) : Value).ownBlock ∧ some k_ ≠ ((.slice Ao97 t655.length co97) : Value).ownBlock) (.slice Ao26 t632.length co26) t632) ∧ Aside0 (Kd.R k25 25 w' w.heap.size (fun k_ => some k_ ≠ ((.slice Ao14 t621.length co14) : Value).ownBlock ∧ some k_ ≠ ((.slice Ao13 t618.length co13) : Value).ownBlock ∧ some k_ ≠ ((.slice Ao19 t626.length co19) : Value).ownBlock ∧ some k_ ≠ ((.slice Ao26 t632.length co26) : Value).ownBlock ∧ some k_ ≠ ((.slice Ao97 t655.length co97) : Value).ownBlock) (.slice Ao88 t645.length co88) t645) ∧ Aside0 (Kd.R k25 25 w' w.heap.size (fun k_ => some k_ ≠ ((.slice Ao14 t621.length co14) : Value).ownBlock ∧ some k_ ≠ ((.slice Ao13 t618.length co13) : Value).ownBlock ∧ some k_ ≠ ((.slice Ao19 t626.length co19) : Value).ownBlock ∧ some k_ ≠ ((.slice Ao26 t632.length co26) : Value).ownBlock ∧ some k_ ≠ ((.slice Ao88 t645.length co88) : Value).ownBlock) (.slice Ao97 t655.length co97) t655) ∧ Aside0 (w'.heap[gb624]? = some (.cells #[.int .i64 t617, (.slice Ao13 t618.length co13)] 46 (0, 0))) ∧ Aside0 (w'.heap[gb630]? = some (.cells #[.int .i64 t625, (.slice Ao19 t626.length co19)] 46 (0, 0))) ∧ Aside0 (w'.heap[gb636]? = some (.cells #[.int .i64 t631, (.slice Ao26 t632.length co26)] 46 (0, 0))) ∧ Aside0 (w'.heap[gb649]? = some (.cells #[.int .i64 t644, (.slice Ao88 t645.length co88)] 46 (0, 0))) ∧ Aside0 (w'.heap[gb659]? = some (.cells #[.int .i64 t654, (.slice Ao97 t655.length co97)] 46 (0, 0))) ∧ Aside0 (Below w.heap.size w w'))
          case atStart => exact ⟨(0), (0), (z22_16), (z22_16), H', ⟨Nat.le_refl _⟩, ⟨by (with_reducible repeat (first | apply ra | apply rb | apply rc)); exact Kd.R_mono (Kd.R_far (p := ⟨gb659, 1, none⟩) (Kd.R_far (p := ⟨gb659, 0, none⟩) (Kd.R_types HO_6.out BK659.out (by decide)) (fun _ hk => hk.2) (.int .i64 t654)) (fun _ hk => hk.2) (.slice Ao97 t655.length co97)) (fun _ hk => ⟨hk.1.2.2.1, ⟨hk.1.2.2.2.1, ⟨hk.1.2.2.2.2, ⟨hk.1.1, hk.1.2.1⟩⟩⟩⟩)⟩, ⟨by (with_reducible repeat (first | apply ra | apply rb | apply rc)); exact Kd.R_mono (Kd.R_far (p := ⟨gb659, 1, none⟩) (Kd.R_far (p := ⟨gb659, 0, none⟩) (Kd.R_types HO_625001.out BK659.out (by decide)) (fun _ hk => hk.2) (.int .i64 t654)) (fun _ hk => hk.2) (.slice Ao97 t655.length co97)) (fun _ hk => ⟨hk.1.2.2.1, ⟨hk.1.2.2.2.1, ⟨hk.1.2.2.2.2, ⟨hk.1.1, hk.1.2.1⟩⟩⟩⟩)⟩, ⟨by (with_reducible repeat (first | apply ra | apply rb | apply rc)); exact Kd.R_mono (Kd.R_far (p := ⟨gb659, 1, none⟩) (Kd.R_far (p := ⟨gb659, 0, none⟩) (Kd.R_types HO_631001.out BK659.out (by decide)) (fun _ hk => hk.2) (.int .i64 t654)) (fun _ hk => hk.2) (.slice Ao97 t655.length co97)) (fun _ hk => ⟨hk.1.2.2.1, ⟨hk.1.2.2.2.1, ⟨hk.1.2.2.2.2, ⟨hk.1.1, hk.1.2.1⟩⟩⟩⟩)⟩, ⟨by (with_reducible repeat (first | apply ra | apply rb | apply rc)); exact Kd.R_mono (Kd.R_far (p := ⟨gb659, 1, none⟩) (Kd.R_far (p := ⟨gb659, 0, none⟩) (Kd.R_types HO_637001.out BK659.out (by decide)) (fun _ hk => hk.2) (.int .i64 t654)) (fun _ hk => hk.2) (.slice Ao97 t655.length co97)) (fun _ hk => ⟨hk.1.2.2.1, ⟨hk.1.2.2.2.1, ⟨hk.1.2.2.2.2, ⟨hk.1.1, hk.1.2.1⟩⟩⟩⟩)⟩, ⟨by (with_reducible repeat (first | apply ra | apply rb | apply rc)); exact Kd.R_mono (Kd.R_far (p := ⟨gb659, 1, none⟩) (Kd.R_far (p := ⟨gb659, 0, none⟩) (Kd.R_types HO647.out BK659.out (by decide)) (fun _ hk => hk.2) (.int .i64 t654)) (fun _ hk => hk.2) (.slice Ao97 t655.length co97)) (fun _ hk => ⟨hk.1.2.1, ⟨hk.1.2.2.1, ⟨hk.1.2.2.2.1, ⟨hk.1.2.2.2.2, hk.1.1⟩⟩⟩⟩)⟩, ⟨by (with_reducible repeat (first | apply ra | apply rb | apply rc)); exact Kd.R_mono (Kd.R_far (p := ⟨gb659, 1, none⟩) (Kd.R_far (p := ⟨gb659, 0, none⟩) (Kd.R_types HO657.out BK659.out (by decide)) (fun _ hk => hk.2) (.int .i64 t654)) (fun _ hk => hk.2) (.slice Ao97 t655.length co97)) (fun _ hk => ⟨hk.1.2.1, ⟨hk.1.2.2.1, ⟨hk.1.2.2.2.1, ⟨hk.1.2.2.2.2, hk.1.1⟩⟩⟩⟩)⟩, ⟨by (with_reducible repeat (first | refine ba ?_ _ | refine bb ?_ | refine bc ?_ _)); refine blk_far ?_ NB624_659.out _; (with_reducible repeat (first | refine ba ?_ _ | refine bb ?_ | refine bc ?_ _)); refine blk_far ?_ NB624_659.out _; (with_reducible repeat (first | refine ba ?_ _ | refine bb ?_ | refine bc ?_ _)); exact BK624.out⟩, ⟨by (with_reducible repeat (first | refine ba ?_ _ | refine bb ?_ | refine bc ?_ _)); refine blk_far ?_ NB630_659.out _; (with_reducible repeat (first | refine ba ?_ _ | refine bb ?_ | refine bc ?_ _)); refine blk_far ?_ NB630_659.out _; (with_reducible repeat (first | refine ba ?_ _ | refine bb ?_ | refine bc ?_ _)); exact BK630.out⟩, ⟨by (with_reducible repeat (first | refine ba ?_ _ | refine bb ?_ | refine bc ?_ _)); refine blk_far ?_ NB636_659.out _; (with_reducible repeat (first | refine ba ?_ _ | refine bb ?_ | refine bc ?_ _)); refine blk_far ?_ NB636_659.out _; (with_reducible repeat (first | refine ba ?_ _ | refine bb ?_ | refine bc ?_ _)); exact BK636.out⟩, ⟨by (with_reducible repeat (first | refine ba ?_ _ | refine bb ?_ | refine bc ?_ _)); refine blk_far ?_ NB649_659.out _; (with_reducible repeat (first | refine ba ?_ _ | refine bb ?_ | refine bc ?_ _)); refine blk_far ?_ NB649_659.out _; (with_reducible repeat (first | refine ba ?_ _ | refine bb ?_ | refine bc ?_ _)); exact BK649.out⟩, ⟨by (with_reducible repeat (first | refine ba ?_ _ | refine bb ?_ | refine bc ?_ _)); refine blk_put (cs := #[.int .i64 t654, .slice none 0 0]) ?_ 1 _ rfl; (with_reducible repeat (first | refine ba ?_ _ | refine bb ?_ | refine bc ?_ _)); refine blk_put (cs := #[.int .i64 0, .slice none 0 0]) ?_ 0 _ rfl; (with_reducible repeat (first | refine ba ?_ _ | refine bb ?_ | refine bc ?_ _)); exact BK659.out⟩, ⟨by repeat (first | (with_reducible first | exact HB.out | apply below_alloc | apply pw_below_drewN | apply below_drew1 | refine below_set ?_ GE624.out | refine below_set ?_ GE630.out | refine below_set ?_ GE636.out | refine below_set ?_ GE649.out | refine below_set ?_ GE659.out) | exact HB.out)⟩⟩
          case round =>
           clear H'
           try clear c1
           try clear p2
           try clear c4
           try clear c9
           try clear q9
           try clear c45
           try clear c92
           try clear q92
           try clear q092
           try clear q92
           obtain ⟨x16_3, x17_3, rfl, rfl, HA, HK3, HO_6, HO_625001, HO_631001, HO_637001, HO_650001, HO_660001, BK624, BK630, BK636, BK649, BK659, HB⟩ := hrel
           cases gk with
           | zero => exact absurd HA.out (by simp [laws_FnPoolAll.l0])
           | succ k3 =>
            have H := HA.out
            clear HA
            simp only [laws_FnPoolAll.l0] at H
            by_cases c99 : x17_3 < (t621.length : Int)
            ·rw [if_pos c99] at H
             have c99b0 : decide (x17_3 < (t621.length : Int)) = true := decide_eq_true c99
             clear c99
             have H' := Aside0.mk H
             clear H
             go_wp2
             go_loopg [18, 19] k3 (fun kq v18 v19 w' => ∃ (x18_4 : Bool) (x19_4 : Int), v18 = .bool x18_4 ∧ v19 = .int .i64 x19_4 ∧ Aside0 (laws_FnPoolAll.l1 kq t621 t629 t648 t658 x16_3 x17_3 x18_4 x19_4 t617 t618 t625 t626 t654 t655 = some r) ∧ Aside0 (kq ≤ k3) ∧ Aside0 (Kd.R k25 25 w' w.heap.size (fun k_ => some k_ ≠ ((.slice Ao13 t618.length co13) : Value).ownBlock ∧ some k_ ≠ ((.slice Ao19 t626.length co19) : Value).ownBlock ∧ some k_ ≠ ((.slice Ao26 t632.length co26) : Value).ownBlock ∧ some k_ ≠ ((.slice Ao88 t645.length co88) : Value).ownBlock ∧ some k_ ≠ ((.slice Ao97 t655.length co97) : Value).ownBlock) (.slice Ao14 t621.length co14) t621) ∧ Aside0 (Kd.R k25 25 w' w.heap.size (fun k_ => some k_ ≠ ((.slice Ao14 t621.length co14) : Value).ownBlock ∧ some k_ ≠ ((.slice Ao19 t626.length co19) : Value).ownBlock ∧ some k_ ≠ ((.slice Ao26 t632.length co26) : Value).ownBlock ∧ some k_ ≠ ((.slice Ao88 t645.length co88) : Value).ownBlock ∧ some k_ ≠ ((.slice Ao97 t655.length co97) : Value).ownBlock) (.slice Ao13 t618.length co13) t618) ∧ Aside0 (Kd.R k25 25 w' w.heap.size (fun k_ => some k_ ≠ ((.slice Ao14 t621.length co14) : Value).ownBlock ∧ some k_ ≠ ((.slice Ao13 t618.length co13) : Value).ownBlock ∧ some k_ ≠ ((.slice Ao26 t632.length co26) : Value).ownBlock ∧ some k_ ≠ ((.slice Ao88 t645.length co88) : Value).ownBlock ∧ some k_ ≠ ((.slice Ao97 t655.length co97) : Value).ownBlock) (.slice Ao19 t626.length co19) t626) ∧ Aside0 (Kd.R k25 25 w' w.heap.size (fun k_ => some k_ ≠ ((.slice Ao14 t621.length co14) : Value).ownBlock ∧ some k_ ≠ ((.slice Ao13 t618.length co13) : Value).ownBlock ∧ some k_ ≠ ((.slice Ao19 t626.length co19) : Value).ownBlock ∧ some k_ ≠ ((.slice Ao88 t645.length co88) : Value).ownBlock ∧ some k_ ≠ ((.slice Ao97 t655.length co97) : Value).ownBlock) (.slice Ao26 t632.length co26) t632) ∧ Aside0 (Kd.R k25 25 w' w.heap.size (fun k_ => some k_ ≠ ((.slice Ao14 t621.length co14) : Value).ownBlock ∧ some k_ ≠ ((.slice Ao13 t618.length co13) : Value).ownBlock ∧ some k_ ≠ ((.slice Ao19 t626.length co19) : Value).ownBlock ∧ some k_ ≠ ((.slice Ao26 t632.length co26) : Value).ownBlock ∧ some k_ ≠ ((.slice Ao97 t655.length co97) : Value).ownBlock) (.slice Ao88 t645.length co88) t645) ∧ Aside0 (Kd.R k25 25 w' w.heap.size (fun k_ => some k_ ≠ ((.slice Ao14 t621.length co14) : Value).ownBlock ∧ some k_ ≠ ((.slice Ao13 t618.length co13) : Value).ownBlock ∧ some k_ ≠ ((.slice Ao19 t626.length co19) : Value).ownBlock ∧ some k_ ≠ ((.slice Ao26 t632.length co26) : Value).ownBlock ∧ some k_ ≠ ((.slice Ao88 t645.length co88) : Value).ownBlock) (.slice Ao97 t655.length co97) t655) ∧ Aside0 (w'.heap[gb624]? = some (.cells #[.int .i64 t617, (.slice Ao13 t618.length co13)] 46 (0, 0))) ∧ Aside0 (w'.heap[gb630]? = some (.cells #[.int .i64 t625, (.slice Ao19 t626.length co19)] 46 (0, 0))) ∧ Aside0 (w'.heap[gb636]? = some (.cells #[.int .i64 t631, (.slice Ao26 t632.length co26)] 46 (0, 0))) ∧ Aside0 (w'.heap[gb649]? = some (.cells #[.int .i64 t644, (.slice Ao88 t645.length co88)] 46 (0, 0))) ∧ Aside0 (w'.heap[gb659]? = some (.cells #[.int .i64 t654, (.slice Ao97 t655.length co97)] 46 (0, 0))) ∧ Aside0 (Below w.heap.size w w'))
             case atStart => exact ⟨(false), (0), (z22_16), (z22_16), H', ⟨Nat.le_refl _⟩, ⟨by (with_reducible repeat (first | apply ra | apply rb | apply rc)); exact HO_6.out⟩, ⟨by (with_reducible repeat (first | apply ra | apply rb | apply rc)); exact HO_625001.out⟩, ⟨by (with_reducible repeat (first | apply ra | apply rb | apply rc)); exact HO_631001.out⟩, ⟨by (with_reducible repeat (first | apply ra | apply rb | apply rc)); exact HO_637001.out⟩, ⟨by (with_reducible repeat (first | apply ra | apply rb | apply rc)); exact HO_650001.out⟩, ⟨by (with_reducible repeat (first | apply ra | apply rb | apply rc)); exact HO_660001.out⟩, ⟨by (with_reducible repeat (first | refine ba ?_ _ | refine bb ?_ | refine bc ?_ _)); exact BK624.out⟩, ⟨by (with_reducible repeat (first | refine ba ?_ _ | refine bb ?_ | refine bc ?_ _)); exact BK630.out⟩, ⟨by (with_reducible repeat (first | refine ba ?_ _ | refine bb ?_ | refine bc ?_ _)); exact BK636.out⟩, ⟨by (with_reducible repeat (first | refine ba ?_ _ | refine bb ?_ | refine bc ?_ _)); exact BK649.out⟩, ⟨by (with_reducible repeat (first | refine ba ?_ _ | refine bb ?_ | refine bc ?_ _)); exact BK659.out⟩, ⟨by repeat (first | (with_reducible first | exact HB.out | apply below_alloc | apply pw_below_drewN | apply below_drew1 | refine below_set ?_ GE624.out | refine below_set ?_ GE630.out | refine below_set ?_ GE636.out | refine below_set ?_ GE649.out | refine below_set ?_ GE659.out) | exact HB.out)⟩⟩
             case round =>
              clear H'
              try clear c1
              try clear p2
              try clear c4
              try clear c9
              try clear q9
              try clear c45
              try clear c92
              try clear q92
              try clear c99
              try clear c99b0
              try clear p2
              try clear q092
              try clear q9
              try clear q92
              obtain ⟨x18_4, x19_4, rfl, rfl, HA, HK4, HO_6, HO_625001, HO_631001, HO_637001, HO_650001, HO_660001, BK624, BK630, BK636, BK649, BK659, HB⟩ := hrel
              cases gk with
              | zero => exact absurd HA.out (by simp [laws_FnPoolAll.l1])
              | succ k4 =>
               have H := HA.out
               clear HA
               simp only [laws_FnPoolAll.l1] at H
               by_cases c100 : x19_4 < x17_3
               ·rw [if_pos c100] at H
                have c100b0 : decide (x19_4 < x17_3) = true := decide_eq_true c100
                clear c100
                by_cases c101 : x18_4 = true
                ·subst c101
                 have H1 : (laws_FnPoolAll.l1 k4 t621 t629 t648 t658 x16_3 x17_3 true (wrap64 (x19_4 + 1)) t617 t618 t625 t626 t654 t655) = some r := by rw [if_pos rfl] at H; exact H
                 clear H
                 have H := H1
                 clear H1
                 have H' := Aside0.mk H
                 clear H
                 try go_wp2
                 have n0_ := Aside0.mk (Kd.R_drew HO_6.out)
                 have n1_ := Aside0.mk (Kd.R_drew HO_625001.out)
                 have n2_ := Aside0.mk (Kd.R_drew HO_631001.out)
                 have n3_ := Aside0.mk (Kd.R_drew HO_637001.out)
                 have n4_ := Aside0.mk (Kd.R_drew HO_650001.out)
                 have n5_ := Aside0.mk (Kd.R_drew HO_660001.out)
                 have n6_ := Aside0.mk (blk_drew BK624.out)
                 have n7_ := Aside0.mk (blk_drew BK630.out)
                 have n8_ := Aside0.mk (blk_drew BK636.out)
                 have n9_ := Aside0.mk (blk_drew BK649.out)
                 have n10_ := Aside0.mk (blk_drew BK659.out)
                 have n11_ := Aside0.mk (below_drew1 HB.out)
                 clear HO_6
                 clear HO_625001
                 clear HO_631001
                 clear HO_637001
                 clear HO_650001
                 clear HO_660001
                 clear BK624
                 clear BK630
                 clear BK636
                 clear BK649
                 clear BK659
                 clear HB
                 have HO_6 := n0_
                 have HO_625001 := n1_
                 have HO_631001 := n2_
                 have HO_637001 := n3_
                 have HO_650001 := n4_
                 have HO_660001 := n5_
                 have BK624 := n6_
                 have BK630 := n7_
                 have BK636 := n8_
                 have BK649 := n9_
                 have BK659 := n10_
                 have HB := n11_
                 clear n0_ n1_ n2_ n3_ n4_ n5_ n6_ n7_ n8_ n9_ n10_ n11_
                 refine start_ (n := 13) (S := fun w' => True) (ds := []) #[ff,ff,ff,ff,ff,ff,ff,ff,ff,ff,ff,ff,ff] (by kernel_rfl) rfl rfl trivial (fun hHeld => ?_); refine with_tabW laws_FnPoolAll.tab19 laws_FnPoolAll.bits19 (fun HT_ HW_ => ?_)
                 generalize wr.drew = w102 at HO_6 HO_625001 HO_631001 HO_637001 HO_650001 HO_660001 BK624 BK630 BK636 BK649 BK659 HB hHeld ⊢
                 refine pure_ (i := 0) (N := some 112) (v := ?_) (a' := ?_) #[tt,ff,ff,ff,ff,ff,ff,ff,ff,ff,ff,ff,ff] rfl rfl (any_of HT_.out (by kernel_rfl)) (fun _ _ _ h => h) (Or.inl ⟨by rfl, ?_⟩) ?_ ?_
                 rotate_left
                 ·intro w'
                  go_simp
                  with_reducible rfl
                 rotate_left
                 ·simp only [Act.put, List.setIfInBounds_toArray, List.set_cons_zero, List.set_cons_succ, i64_w, i32_w]
                  rfl
                 refine pure_ (i := 1) (N := some 113) (v := ?_) (a' := ?_) #[tt,tt,ff,ff,ff,ff,ff,ff,ff,ff,ff,ff,ff] rfl rfl (any_of HT_.out (by kernel_rfl)) (fun _ _ _ h => h) (Or.inl ⟨by rfl, ?_⟩) ?_ ?_
                 rotate_left
                 ·intro w'
                  go_simp
                  with_reducible rfl
                 rotate_left
                 ·simp only [Act.put, List.setIfInBounds_toArray, List.set_cons_zero, List.set_cons_succ, i64_w, i32_w]
                  rfl
                 refine pure_ (i := 2) (N := some 114) (v := undef) (a' := ?_) #[tt,tt,tt,ff,ff,ff,ff,ff,ff,ff,ff,ff,ff] rfl rfl (any_of HT_.out (by kernel_rfl)) (fun _ _ _ h => h) (Or.inr ⟨by rfl, rfl⟩) ?_ ?_
                 rotate_left
                 ·simp only [Act.put, List.setIfInBounds_toArray, List.set_cons_zero, List.set_cons_succ, i64_w, i32_w]
                  rfl
                 refine pure_ (i := 3) (N := some 115) (v := undef) (a' := ?_) #[tt,tt,tt,tt,ff,ff,ff,ff,ff,ff,ff,ff,ff] rfl rfl (any_of HT_.out (by kernel_rfl)) (fun _ _ _ h => h) (Or.inr ⟨by rfl, rfl⟩) ?_ ?_
                 rotate_left
                 ·simp only [Act.put, List.setIfInBounds_toArray, List.set_cons_zero, List.set_cons_succ, i64_w, i32_w]
                  rfl
                 refine pure_ (i := 4) (N := some 116) (v := undef) (a' := ?_) #[tt,tt,tt,tt,tt,ff,ff,ff,ff,ff,ff,ff,ff] rfl rfl (any_of HT_.out (by kernel_rfl)) (fun _ _ _ h => h) (Or.inr ⟨by rfl, rfl⟩) ?_ ?_
                 rotate_left
                 ·simp only [Act.put, List.setIfInBounds_toArray, List.set_cons_zero, List.set_cons_succ, i64_w, i32_w]
                  rfl
                 refine pure_ (i := 5) (N := some 117) (v := undef) (a' := ?_) #[tt,tt,tt,tt,tt,tt,ff,ff,ff,ff,ff,ff,ff] rfl rfl (any_of HT_.out (by kernel_rfl)) (fun _ _ _ h => h) (Or.inr ⟨by rfl, rfl⟩) ?_ ?_
                 rotate_left
                 ·simp only [Act.put, List.setIfInBounds_toArray, List.set_cons_zero, List.set_cons_succ, i64_w, i32_w]
                  rfl
                 refine pure_ (i := 6) (N := some 118) (v := undef) (a' := ?_) #[tt,tt,tt,tt,tt,tt,tt,ff,ff,ff,ff,ff,ff] rfl rfl (any_of HT_.out (by kernel_rfl)) (fun _ _ _ h => h) (Or.inr ⟨by rfl, rfl⟩) ?_ ?_
                 rotate_left
                 ·simp only [Act.put, List.setIfInBounds_toArray, List.set_cons_zero, List.set_cons_succ, i64_w, i32_w]
                  rfl
                 refine pure_ (i := 7) (N := some 119) (v := undef) (a' := ?_) #[tt,tt,tt,tt,tt,tt,tt,tt,ff,ff,ff,ff,ff] rfl rfl (any_of HT_.out (by kernel_rfl)) (fun _ _ _ h => h) (Or.inr ⟨by rfl, rfl⟩) ?_ ?_
                 rotate_left
                 ·simp only [Act.put, List.setIfInBounds_toArray, List.set_cons_zero, List.set_cons_succ, i64_w, i32_w]
                  rfl
                 refine pure_ (i := 8) (N := some 120) (v := undef) (a' := ?_) #[tt,tt,tt,tt,tt,tt,tt,tt,tt,ff,ff,ff,ff] rfl rfl (any_of HT_.out (by kernel_rfl)) (fun _ _ _ h => h) (Or.inr ⟨by rfl, rfl⟩) ?_ ?_
                 rotate_left
                 ·simp only [Act.put, List.setIfInBounds_toArray, List.set_cons_zero, List.set_cons_succ, i64_w, i32_w]
                  rfl
                 refine pure_ (i := 9) (N := some 121) (v := undef) (a' := ?_) #[tt,tt,tt,tt,tt,tt,tt,tt,tt,tt,ff,ff,ff] rfl rfl (any_of HT_.out (by kernel_rfl)) (fun _ _ _ h => h) (Or.inr ⟨by rfl, rfl⟩) ?_ ?_
                 rotate_left
                 ·simp only [Act.put, List.setIfInBounds_toArray, List.set_cons_zero, List.set_cons_succ, i64_w, i32_w]
                  rfl
                 refine pure_ (i := 10) (N := some 122) (v := undef) (a' := ?_) #[tt,tt,tt,tt,tt,tt,tt,tt,tt,tt,tt,ff,ff] rfl rfl (any_of HT_.out (by kernel_rfl)) (fun _ _ _ h => h) (Or.inr ⟨by rfl, rfl⟩) ?_ ?_
                 rotate_left
                 ·simp only [Act.put, List.setIfInBounds_toArray, List.set_cons_zero, List.set_cons_succ, i64_w, i32_w]
                  rfl
                 refine pure_ (i := 11) (N := some 123) (v := ?_) (a' := ?_) #[tt,tt,tt,tt,tt,tt,tt,tt,tt,tt,tt,tt,ff] rfl rfl (any_of HT_.out (by kernel_rfl)) (fun _ _ _ h => h) (Or.inl ⟨by rfl, ?_⟩) ?_ ?_
                 rotate_left
                 ·intro w'
                  go_simp
                  with_reducible rfl
                 rotate_left
                 ·simp only [Act.put, List.setIfInBounds_toArray, List.set_cons_zero, List.set_cons_succ, i64_w, i32_w]
                  rfl
                 refine pure_ (i := 12) (N := some 18) (v := ?_) (a' := ?_) #[tt,tt,tt,tt,tt,tt,tt,tt,tt,tt,tt,tt,tt] rfl rfl (any_of HT_.out (by kernel_rfl)) (fun _ _ _ h => h) (Or.inl ⟨by rfl, ?_⟩) ?_ ?_
                 rotate_left
                 ·intro w'
                  go_simp
                  with_reducible rfl
                 rotate_left
                 ·simp only [Act.put, List.setIfInBounds_toArray, List.set_cons_zero, List.set_cons_succ, i64_w, i32_w]
                  rfl
                 refine done_ (done_of HT_.out (by kernel_rfl)) ?_
                 try go_wp2
                 go_roundg k4
                 case measure => have := HJ2.out; have := HJ8.out; have := HK3.out; have := HK4.out; omega
                 case rel => exact ⟨(true), (wrap64 (x19_4 + 1)), (z22_16), (z22_16), H', ⟨by have := HJ2.out; have := HJ8.out; have := HK3.out; have := HK4.out; omega⟩, ⟨by (with_reducible repeat (first | apply ra | apply rb | apply rc)); exact HO_6.out⟩, ⟨by (with_reducible repeat (first | apply ra | apply rb | apply rc)); exact HO_625001.out⟩, ⟨by (with_reducible repeat (first | apply ra | apply rb | apply rc)); exact HO_631001.out⟩, ⟨by (with_reducible repeat (first | apply ra | apply rb | apply rc)); exact HO_637001.out⟩, ⟨by (with_reducible repeat (first | apply ra | apply rb | apply rc)); exact HO_650001.out⟩, ⟨by (with_reducible repeat (first | apply ra | apply rb | apply rc)); exact HO_660001.out⟩, ⟨by (with_reducible repeat (first | refine ba ?_ _ | refine bb ?_ | refine bc ?_ _)); exact BK624.out⟩, ⟨by (with_reducible repeat (first | refine ba ?_ _ | refine bb ?_ | refine bc ?_ _)); exact BK630.out⟩, ⟨by (with_reducible repeat (first | refine ba ?_ _ | refine bb ?_ | refine bc ?_ _)); exact BK636.out⟩, ⟨by (with_reducible repeat (first | refine ba ?_ _ | refine bb ?_ | refine bc ?_ _)); exact BK649.out⟩, ⟨by (with_reducible repeat (first | refine ba ?_ _ | refine bb ?_ | refine bc ?_ _)); exact BK659.out⟩, ⟨by repeat (first | (with_reducible first | exact HB.out | apply below_alloc | apply pw_below_drewN | apply below_drew1 | refine below_set ?_ GE624.out | refine below_set ?_ GE630.out | refine below_set ?_ GE636.out | refine below_set ?_ GE649.out | refine below_set ?_ GE659.out) | exact HB.out)⟩⟩
                ·replace c101 := Bool.eq_false_iff.mpr c101
                 subst c101
                 have H1 : (if 0 ≤ x19_4 then (if x19_4 < (t621.length : Int) then (if 0 ≤ x17_3 then (if x17_3 < (t621.length : Int) then (laws_FnPoolAll.l1 k4 t621 t629 t648 t658 x16_3 x17_3 (((rd_T25 t621 x19_4).f0) == ((rd_T25 t621 x17_3).f0) && (((rd_T25 t621 x19_4).f1) == ((rd_T25 t621 x17_3).f1))) (wrap64 (x19_4 + 1)) t617 t618 t625 t626 t654 t655) else (none)) else (none)) else (none)) else (none)) = some r := by rw [if_neg (show ¬ (false = true) by decide)] at H; exact H
                 clear H
                 have H := H1
                 clear H1
                 by_cases c103 : 0 ≤ x19_4
                 ·rw [if_pos c103] at H
                  have c103b0 : decide (0 ≤ x19_4) = true := decide_eq_true c103
                  clear c103
                  by_cases c104 : x19_4 < (t621.length : Int)
                  ·rw [if_pos c104] at H
                   have c104b0 : decide (x19_4 < (t621.length : Int)) = true := decide_eq_true c104
                   clear c104
                   by_cases c105 : 0 ≤ x17_3
                   ·rw [if_pos c105] at H
                    have c105b0 : decide (0 ≤ x17_3) = true := decide_eq_true c105
                    clear c105
                    by_cases c106 : x17_3 < (t621.length : Int)
                    ·rw [if_pos c106] at H
                     have c106b0 : decide (x17_3 < (t621.length : Int)) = true := decide_eq_true c106
                     clear c106
                     have H' := Aside0.mk H
                     clear H
                     try go_wp2
                     have n0_ := Aside0.mk (Kd.R_drew HO_6.out)
                     have n1_ := Aside0.mk (Kd.R_drew HO_625001.out)
                     have n2_ := Aside0.mk (Kd.R_drew HO_631001.out)
                     have n3_ := Aside0.mk (Kd.R_drew HO_637001.out)
                     have n4_ := Aside0.mk (Kd.R_drew HO_650001.out)
                     have n5_ := Aside0.mk (Kd.R_drew HO_660001.out)
                     have n6_ := Aside0.mk (blk_drew BK624.out)
                     have n7_ := Aside0.mk (blk_drew BK630.out)
                     have n8_ := Aside0.mk (blk_drew BK636.out)
                     have n9_ := Aside0.mk (blk_drew BK649.out)
                     have n10_ := Aside0.mk (blk_drew BK659.out)
                     have n11_ := Aside0.mk (below_drew1 HB.out)
                     clear HO_6
                     clear HO_625001
                     clear HO_631001
                     clear HO_637001
                     clear HO_650001
                     clear HO_660001
                     clear BK624
                     clear BK630
                     clear BK636
                     clear BK649
                     clear BK659
                     clear HB
                     have HO_6 := n0_
                     have HO_625001 := n1_
                     have HO_631001 := n2_
                     have HO_637001 := n3_
                     have HO_650001 := n4_
                     have HO_660001 := n5_
                     have BK624 := n6_
                     have BK630 := n7_
                     have BK636 := n8_
                     have BK649 := n9_
                     have BK659 := n10_
                     have HB := n11_
                     clear n0_ n1_ n2_ n3_ n4_ n5_ n6_ n7_ n8_ n9_ n10_ n11_
                     have p662 : 0 ≤ (x19_4 : Int) := of_decide_eq_true (z22_15)
                     have q662 : x19_4 < (t621.length : Int) := of_decide_eq_true (z22_15)
                     obtain ⟨ad662, e662, hx662_0, hx662_1⟩ := at_T25 (Kd.R_reads' HO_6.out).2.2 x19_4 p662 q662
                     cases e662
                     replace p662 := eq_true p662
                     replace q662 := eq_true q662
                     have p663 : 0 ≤ (x17_3 : Int) := of_decide_eq_true (z22_15)
                     have q663 : x17_3 < (t621.length : Int) := of_decide_eq_true (z22_15)
                     obtain ⟨ad663, e663, hx663_0, hx663_1⟩ := at_T25 (Kd.R_reads' HO_6.out).2.2 x17_3 p663 q663
                     obtain rfl : ad662 = ad663 := (by injection e663)
                     replace p663 := eq_true p663
                     replace q663 := eq_true q663
                     refine start_ (n := 13) (S := fun w' => w'.cell? (ad662.add ((x19_4).toNat * 2)) = some (.int .i64 ((rd_T25 t621 x19_4).f0)) ∧ w'.cell? ⟨(ad662.add ((x19_4).toNat * 2)).block, (ad662.add ((x19_4).toNat * 2)).off + 1, none⟩ = some (.int .i64 ((rd_T25 t621 x19_4).f1)) ∧ w'.cell? (ad662.add ((x17_3).toNat * 2)) = some (.int .i64 ((rd_T25 t621 x17_3).f0)) ∧ w'.cell? ⟨(ad662.add ((x17_3).toNat * 2)).block, (ad662.add ((x17_3).toNat * 2)).off + 1, none⟩ = some (.int .i64 ((rd_T25 t621 x17_3).f1))) (ds := []) #[ff,ff,ff,ff,ff,ff,ff,ff,ff,ff,ff,ff,ff] (by kernel_rfl) rfl rfl ⟨hx662_0, hx662_1, hx663_0, hx663_1⟩ (fun hHeld => ?_); refine with_tabW laws_FnPoolAll.tab19 laws_FnPoolAll.bits19 (fun HT_ HW_ => ?_)
                     generalize wr.drew = w107 at HO_6 HO_625001 HO_631001 HO_637001 HO_650001 HO_660001 BK624 BK630 BK636 BK649 BK659 HB hx662_0 hx662_1 hx663_0 hx663_1 hHeld ⊢
                     refine pure_ (i := 0) (N := some 112) (v := ?_) (a' := ?_) #[tt,ff,ff,ff,ff,ff,ff,ff,ff,ff,ff,ff,ff] rfl rfl (any_of HT_.out (by kernel_rfl)) (fun _ _ _ h => h) (Or.inl ⟨by rfl, ?_⟩) ?_ ?_
                     rotate_left
                     ·intro w'
                      go_simp
                      with_reducible rfl
                     rotate_left
                     ·simp only [Act.put, List.setIfInBounds_toArray, List.set_cons_zero, List.set_cons_succ, i64_w, i32_w]
                      rfl
                     refine pure_ (i := 1) (N := some 113) (v := ?_) (a' := ?_) #[tt,tt,ff,ff,ff,ff,ff,ff,ff,ff,ff,ff,ff] rfl rfl (any_of HT_.out (by kernel_rfl)) (fun _ _ _ h => h) (Or.inl ⟨by rfl, ?_⟩) ?_ ?_
                     rotate_left
                     ·intro w'
                      go_simp
                      with_reducible rfl
                     rotate_left
                     ·simp only [Act.put, List.setIfInBounds_toArray, List.set_cons_zero, List.set_cons_succ, i64_w, i32_w]
                      rfl
                     refine pure_ (i := 2) (N := some 114) (v := ?_) (a' := ?_) #[tt,tt,tt,ff,ff,ff,ff,ff,ff,ff,ff,ff,ff] rfl rfl (any_of HT_.out (by kernel_rfl)) (fun _ _ _ h => h) (Or.inl ⟨by rfl, ?_⟩) ?_ ?_
                     rotate_left
                     ·intro w'
                      go_simp
                      with_reducible rfl
                     rotate_left
                     ·simp only [Act.put, List.setIfInBounds_toArray, List.set_cons_zero, List.set_cons_succ, i64_w, i32_w]
                      rfl
                     refine pure_ (i := 3) (N := some 115) (v := ?_) (a' := ?_) #[tt,tt,tt,tt,ff,ff,ff,ff,ff,ff,ff,ff,ff] rfl rfl (any_of HT_.out (by kernel_rfl)) (fun _ _ _ h => h) (Or.inl ⟨by rfl, ?_⟩) ?_ ?_
                     rotate_left
                     ·intro w'
                      go_simp
                      with_reducible rfl
                     rotate_left
                     ·simp only [Act.put, List.setIfInBounds_toArray, List.set_cons_zero, List.set_cons_succ, i64_w, i32_w]
                      rfl
                     refine pure_ (i := 4) (N := some 116) (v := ?_) (a' := ?_) #[tt,tt,tt,tt,tt,ff,ff,ff,ff,ff,ff,ff,ff] rfl rfl (any_of HT_.out (by kernel_rfl)) (fun _ _ _ h => h) (Or.inl ⟨by rfl, ?_⟩) ?_ ?_
                     rotate_left
                     ·intro w'
                      go_simp
                      with_reducible rfl
                     rotate_left
                     ·simp only [Act.put, List.setIfInBounds_toArray, List.set_cons_zero, List.set_cons_succ, i64_w, i32_w]
                      rfl
                     refine pure_ (i := 6) (N := some 118) (v := ?_) (a' := ?_) #[tt,tt,tt,tt,tt,ff,tt,ff,ff,ff,ff,ff,ff] rfl rfl (any_of HT_.out (by kernel_rfl)) (fun _ _ _ h => h) (Or.inl ⟨by rfl, ?_⟩) ?_ ?_
                     rotate_left
                     ·intro w'
                      go_simp
                      with_reducible rfl
                     rotate_left
                     ·simp only [Act.put, List.setIfInBounds_toArray, List.set_cons_zero, List.set_cons_succ, i64_w, i32_w]
                      rfl
                     refine pure_ (i := 7) (N := some 119) (v := ?_) (a' := ?_) #[tt,tt,tt,tt,tt,ff,tt,tt,ff,ff,ff,ff,ff] rfl rfl (any_of HT_.out (by kernel_rfl)) (fun _ _ _ h => h) (Or.inl ⟨by rfl, ?_⟩) ?_ ?_
                     rotate_left
                     ·intro w'
                      go_simp
                      with_reducible rfl
                     rotate_left
                     ·simp only [Act.put, List.setIfInBounds_toArray, List.set_cons_zero, List.set_cons_succ, i64_w, i32_w]
                      rfl
                     refine pure_ (i := 8) (N := some 120) (v := ?_) (a' := ?_) #[tt,tt,tt,tt,tt,ff,tt,tt,tt,ff,ff,ff,ff] rfl rfl (any_of HT_.out (by kernel_rfl)) (fun _ _ _ h => h) (Or.inl ⟨by rfl, ?_⟩) ?_ ?_
                     rotate_left
                     ·intro w'
                      go_simp
                      with_reducible rfl
                     rotate_left
                     ·simp only [Act.put, List.setIfInBounds_toArray, List.set_cons_zero, List.set_cons_succ, i64_w, i32_w]
                      rfl
                     refine take_ (i := 5) (N := some 117) (v := ?_) (a' := ?_) #[tt,tt,tt,tt,tt,tt,tt,tt,tt,ff,ff,ff,ff] rfl rfl (take_ofW HT_.out HW_.out (by kernel_rfl)) (fun _ _ _ h => h) (Or.inl ⟨by rfl, ?_⟩) hHeld ?_ ?_
                     rotate_left
                     ·rintro w' ⟨s0, s1, s2, s3⟩
                      go_simp
                      with_reducible rfl
                     rotate_left
                     ·simp only [Act.put, List.setIfInBounds_toArray, List.set_cons_zero, List.set_cons_succ, i64_w, i32_w]
                      rfl
                     refine take_ (i := 9) (N := some 121) (v := ?_) (a' := ?_) #[tt,tt,tt,tt,tt,tt,tt,tt,tt,tt,ff,ff,ff] rfl rfl (take_ofW HT_.out HW_.out (by kernel_rfl)) (fun _ _ _ h => h) (Or.inl ⟨by rfl, ?_⟩) hHeld ?_ ?_
                     rotate_left
                     ·rintro w' ⟨s0, s1, s2, s3⟩
                      go_simp
                      with_reducible rfl
                     rotate_left
                     ·simp only [Act.put, List.setIfInBounds_toArray, List.set_cons_zero, List.set_cons_succ, i64_w, i32_w]
                      rfl
                     refine pure_ (i := 10) (N := some 122) (v := ?_) (a' := ?_) #[tt,tt,tt,tt,tt,tt,tt,tt,tt,tt,tt,ff,ff] rfl rfl (any_of HT_.out (by kernel_rfl)) (fun _ _ _ h => h) (Or.inl ⟨by rfl, ?_⟩) ?_ ?_
                     rotate_left
                     ·intro w'
                      go_simp
                      with_reducible rfl
                     rotate_left
                     ·simp only [Act.put, List.setIfInBounds_toArray, List.set_cons_zero, List.set_cons_succ, i64_w, i32_w]
                      rfl
                     refine pure_ (i := 11) (N := some 123) (v := ?_) (a' := ?_) #[tt,tt,tt,tt,tt,tt,tt,tt,tt,tt,tt,tt,ff] rfl rfl (any_of HT_.out (by kernel_rfl)) (fun _ _ _ h => h) (Or.inl ⟨by rfl, ?_⟩) ?_ ?_
                     rotate_left
                     ·intro w'
                      go_simp
                      with_reducible rfl
                     rotate_left
                     ·simp only [Act.put, List.setIfInBounds_toArray, List.set_cons_zero, List.set_cons_succ, i64_w, i32_w]
                      rfl
                     refine pure_ (i := 12) (N := some 18) (v := ?_) (a' := ?_) #[tt,tt,tt,tt,tt,tt,tt,tt,tt,tt,tt,tt,tt] rfl rfl (any_of HT_.out (by kernel_rfl)) (fun _ _ _ h => h) (Or.inl ⟨by rfl, ?_⟩) ?_ ?_
                     rotate_left
                     ·intro w'
                      go_simp
                      with_reducible rfl
                     rotate_left
                     ·simp only [Act.put, List.setIfInBounds_toArray, List.set_cons_zero, List.set_cons_succ, i64_w, i32_w]
                      rfl
                     refine done_ (done_of HT_.out (by kernel_rfl)) ?_
                     try go_wp2
                     go_roundg k4
                     case measure => have := HJ2.out; have := HJ8.out; have := HK3.out; have := HK4.out; omega
                     case rel => exact ⟨((((rd_T25 t621 x19_4).f0) == ((rd_T25 t621 x17_3).f0) && (((rd_T25 t621 x19_4).f1) == ((rd_T25 t621 x17_3).f1)))), (wrap64 (x19_4 + 1)), (z22_16), (z22_16), H', ⟨by have := HJ2.out; have := HJ8.out; have := HK3.out; have := HK4.out; omega⟩, ⟨by (with_reducible repeat (first | apply ra | apply rb | apply rc)); exact HO_6.out⟩, ⟨by (with_reducible repeat (first | apply ra | apply rb | apply rc)); exact HO_625001.out⟩, ⟨by (with_reducible repeat (first | apply ra | apply rb | apply rc)); exact HO_631001.out⟩, ⟨by (with_reducible repeat (first | apply ra | apply rb | apply rc)); exact HO_637001.out⟩, ⟨by (with_reducible repeat (first | apply ra | apply rb | apply rc)); exact HO_650001.out⟩, ⟨by (with_reducible repeat (first | apply ra | apply rb | apply rc)); exact HO_660001.out⟩, ⟨by (with_reducible repeat (first | refine ba ?_ _ | refine bb ?_ | refine bc ?_ _)); exact BK624.out⟩, ⟨by (with_reducible repeat (first | refine ba ?_ _ | refine bb ?_ | refine bc ?_ _)); exact BK630.out⟩, ⟨by (with_reducible repeat (first | refine ba ?_ _ | refine bb ?_ | refine bc ?_ _)); exact BK636.out⟩, ⟨by (with_reducible repeat (first | refine ba ?_ _ | refine bb ?_ | refine bc ?_ _)); exact BK649.out⟩, ⟨by (with_reducible repeat (first | refine ba ?_ _ | refine bb ?_ | refine bc ?_ _)); exact BK659.out⟩, ⟨by repeat (first | (with_reducible first | exact HB.out | apply below_alloc | apply pw_below_drewN | apply below_drew1 | refine below_set ?_ GE624.out | refine below_set ?_ GE630.out | refine below_set ?_ GE636.out | refine below_set ?_ GE649.out | refine below_set ?_ GE659.out) | exact HB.out)⟩⟩
                    ·rw [if_neg c106] at H
                     exact absurd H (by simp)
                   ·rw [if_neg c105] at H
                    exact absurd H (by simp)
                  ·rw [if_neg c104] at H
                   exact absurd H (by simp)
                 ·rw [if_neg c103] at H
                  exact absurd H (by simp)
               ·rw [if_neg c100] at H
                have c100b0 : decide (x19_4 < x17_3) = false := decide_eq_false c100
                clear c100
                have H' := Aside0.mk H
                clear H
                go_wp2
                go_loopg [18, 20] k4 (fun kq v18 v20 w' => ∃ (x18_5 : Bool) (x20_5 : Int), v18 = .bool x18_5 ∧ v20 = .int .i64 x20_5 ∧ Aside0 (laws_FnPoolAll.l2 kq t621 t629 t648 t658 x16_3 x17_3 x18_5 x20_5 t617 t618 t625 t626 t654 t655 = some r) ∧ Aside0 (kq ≤ k4) ∧ Aside0 (Kd.R k25 25 w' w.heap.size (fun k_ => some k_ ≠ ((.slice Ao13 t618.length co13) : Value).ownBlock ∧ some k_ ≠ ((.slice Ao19 t626.length co19) : Value).ownBlock ∧ some k_ ≠ ((.slice Ao26 t632.length co26) : Value).ownBlock ∧ some k_ ≠ ((.slice Ao88 t645.length co88) : Value).ownBlock ∧ some k_ ≠ ((.slice Ao97 t655.length co97) : Value).ownBlock) (.slice Ao14 t621.length co14) t621) ∧ Aside0 (Kd.R k25 25 w' w.heap.size (fun k_ => some k_ ≠ ((.slice Ao14 t621.length co14) : Value).ownBlock ∧ some k_ ≠ ((.slice Ao19 t626.length co19) : Value).ownBlock ∧ some k_ ≠ ((.slice Ao26 t632.length co26) : Value).ownBlock ∧ some k_ ≠ ((.slice Ao88 t645.length co88) : Value).ownBlock ∧ some k_ ≠ ((.slice Ao97 t655.length co97) : Value).ownBlock) (.slice Ao13 t618.length co13) t618) ∧ Aside0 (Kd.R k25 25 w' w.heap.size (fun k_ => some k_ ≠ ((.slice Ao14 t621.length co14) : Value).ownBlock ∧ some k_ ≠ ((.slice Ao13 t618.length co13) : Value).ownBlock ∧ some k_ ≠ ((.slice Ao26 t632.length co26) : Value).ownBlock ∧ some k_ ≠ ((.slice Ao88 t645.length co88) : Value).ownBlock ∧ some k_ ≠ ((.slice Ao97 t655.length co97) : Value).ownBlock) (.slice Ao19 t626.length co19) t626) ∧ Aside0 (Kd.R k25 25 w' w.heap.size (fun k_ => some k_ ≠ ((.slice Ao14 t621.length co14) : Value).ownBlock ∧ some k_ ≠ ((.slice Ao13 t618.length co13) : Value).ownBlock ∧ some k_ ≠ ((.slice Ao19 t626.length co19) : Value).ownBlock ∧ some k_ ≠ ((.slice Ao88 t645.length co88) : Value).ownBlock ∧ some k_ ≠ ((.slice Ao97 t655.length co97) : Value).ownBlock) (.slice Ao26 t632.length co26) t632) ∧ Aside0 (Kd.R k25 25 w' w.heap.size (fun k_ => some k_ ≠ ((.slice Ao14 t621.length co14) : Value).ownBlock ∧ some k_ ≠ ((.slice Ao13 t618.length co13) : Value).ownBlock ∧ some k_ ≠ ((.slice Ao19 t626.length co19) : Value).ownBlock ∧ some k_ ≠ ((.slice Ao26 t632.length co26) : Value).ownBlock ∧ some k_ ≠ ((.slice Ao97 t655.length co97) : Value).ownBlock) (.slice Ao88 t645.length co88) t645) ∧ Aside0 (Kd.R k25 25 w' w.heap.size (fun k_ => some k_ ≠ ((.slice Ao14 t621.length co14) : Value).ownBlock ∧ some k_ ≠ ((.slice Ao13 t618.length co13) : Value).ownBlock ∧ some k_ ≠ ((.slice Ao19 t626.length co19) : Value).ownBlock ∧ some k_ ≠ ((.slice Ao26 t632.length co26) : Value).ownBlock ∧ some k_ ≠ ((.slice Ao88 t645.length co88) : Value).ownBlock) (.slice Ao97 t655.length co97) t655) ∧ Aside0 (w'.heap[gb624]? = some (.cells #[.int .i64 t617, (.slice Ao13 t618.length co13)] 46 (0, 0))) ∧ Aside0 (w'.heap[gb630]? = some (.cells #[.int .i64 t625, (.slice Ao19 t626.length co19)] 46 (0, 0))) ∧ Aside0 (w'.heap[gb636]? = some (.cells #[.int .i64 t631, (.slice Ao26 t632.length co26)] 46 (0, 0))) ∧ Aside0 (w'.heap[gb649]? = some (.cells #[.int .i64 t644, (.slice Ao88 t645.length co88)] 46 (0, 0))) ∧ Aside0 (w'.heap[gb659]? = some (.cells #[.int .i64 t654, (.slice Ao97 t655.length co97)] 46 (0, 0))) ∧ Aside0 (Below w.heap.size w w'))
                case atStart => exact ⟨(x18_4), (0), (z22_16), (z22_16), H', ⟨Nat.le_refl _⟩, ⟨by (with_reducible repeat (first | apply ra | apply rb | apply rc)); exact HO_6.out⟩, ⟨by (with_reducible repeat (first | apply ra | apply rb | apply rc)); exact HO_625001.out⟩, ⟨by (with_reducible repeat (first | apply ra | apply rb | apply rc)); exact HO_631001.out⟩, ⟨by (with_reducible repeat (first | apply ra | apply rb | apply rc)); exact HO_637001.out⟩, ⟨by (with_reducible repeat (first | apply ra | apply rb | apply rc)); exact HO_650001.out⟩, ⟨by (with_reducible repeat (first | apply ra | apply rb | apply rc)); exact HO_660001.out⟩, ⟨by (with_reducible repeat (first | refine ba ?_ _ | refine bb ?_ | refine bc ?_ _)); exact BK624.out⟩, ⟨by (with_reducible repeat (first | refine ba ?_ _ | refine bb ?_ | refine bc ?_ _)); exact BK630.out⟩, ⟨by (with_reducible repeat (first | refine ba ?_ _ | refine bb ?_ | refine bc ?_ _)); exact BK636.out⟩, ⟨by (with_reducible repeat (first | refine ba ?_ _ | refine bb ?_ | refine bc ?_ _)); exact BK649.out⟩, ⟨by (with_reducible repeat (first | refine ba ?_ _ | refine bb ?_ | refine bc ?_ _)); exact BK659.out⟩, ⟨by repeat (first | (with_reducible first | exact HB.out | apply below_alloc | apply pw_below_drewN | apply below_drew1 | refine below_set ?_ GE624.out | refine below_set ?_ GE630.out | refine below_set ?_ GE636.out | refine below_set ?_ GE649.out | refine below_set ?_ GE659.out) | exact HB.out)⟩⟩
                case round =>
                 clear H'
                 try clear c1
                 try clear p2
                 try clear c4
                 try clear p6
                 try clear q6
                 try clear hx6
                 try clear c9
                 try clear q9
                 try clear c10
                 try clear c45
                 try clear p64
                 try clear p66
                 try clear q66
                 try clear hx66
                 try clear c92
                 try clear q92
                 try clear c99
                 try clear c99b0
                 try clear c100
                 try clear c100b0
                 try clear c101
                 try clear c103
                 try clear c103b0
                 try clear c104
                 try clear c104b0
                 try clear c105
                 try clear c105b0
                 try clear c106
                 try clear c106b0
                 try clear hx662_0
                 try clear hx662_1
                 try clear hx663_0
                 try clear hx663_1
                 try clear p2
                 try clear p662
                 try clear p663
                 try clear q092
                 try clear q662
                 try clear q663
                 try clear q9
                 try clear q92
                 obtain ⟨x18_5, x20_5, rfl, rfl, HA, HK5, HO_6, HO_625001, HO_631001, HO_637001, HO_650001, HO_660001, BK624, BK630, BK636, BK649, BK659, HB⟩ := hrel
                 cases gk with
                 | zero => exact absurd HA.out (by simp [laws_FnPoolAll.l2])
                 | succ k5 =>
                  have H := HA.out
                  clear HA
                  simp only [laws_FnPoolAll.l2] at H
                  by_cases c108 : x20_5 < (t618.length : Int)
                  ·rw [if_pos c108] at H
                   have c108b0 : decide (x20_5 < (t618.length : Int)) = true := decide_eq_true c108
                   clear c108
                   by_cases c109 : x18_5 = true
                   ·subst c109
                    have H1 : (laws_FnPoolAll.l2 k5 t621 t629 t648 t658 x16_3 x17_3 true (wrap64 (x20_5 + 1)) t617 t618 t625 t626 t654 t655) = some r := by rw [if_pos rfl] at H; exact H
                    clear H
                    have H := H1
                    clear H1
                    have H' := Aside0.mk H
                    clear H
                    have hnb110 := NB624_630.out
                    have hnc110 := NB630_624.out
                    have hnb111 := NB624_636.out
                    have hnc111 := NB636_624.out
                    have hnb112 := NB624_649.out
                    have hnc112 := NB649_624.out
                    have hnb113 := NB624_659.out
                    have hnc113 := NB659_624.out
                    have hcz114_0 : wr.cell? ⟨gb624, 0, none⟩ = some (.int .i64 t617) := (blk_cell BK624.out 0).trans rfl
                    have hcz114_1 : wr.cell? ⟨gb624, 1, none⟩ = some (.slice Ao13 t618.length co13) := (blk_cell BK624.out 1).trans rfl
                    have hfz114_0 := blk_frozen BK624.out 0
                    have hfz114_1 := blk_frozen BK624.out 1
                    try go_wp2
                    have n0_ := Aside0.mk (Kd.R_drew HO_6.out)
                    have n1_ := Aside0.mk (Kd.R_drew HO_625001.out)
                    have n2_ := Aside0.mk (Kd.R_drew HO_631001.out)
                    have n3_ := Aside0.mk (Kd.R_drew HO_637001.out)
                    have n4_ := Aside0.mk (Kd.R_drew HO_650001.out)
                    have n5_ := Aside0.mk (Kd.R_drew HO_660001.out)
                    have n6_ := Aside0.mk (blk_drew BK624.out)
                    have n7_ := Aside0.mk (blk_drew BK630.out)
                    have n8_ := Aside0.mk (blk_drew BK636.out)
                    have n9_ := Aside0.mk (blk_drew BK649.out)
                    have n10_ := Aside0.mk (blk_drew BK659.out)
                    have n11_ := Aside0.mk (below_drew1 HB.out)
                    clear HO_6
                    clear HO_625001
                    clear HO_631001
                    clear HO_637001
                    clear HO_650001
                    clear HO_660001
                    clear BK624
                    clear BK630
                    clear BK636
                    clear BK649
                    clear BK659
                    clear HB
                    have HO_6 := n0_
                    have HO_625001 := n1_
                    have HO_631001 := n2_
                    have HO_637001 := n3_
                    have HO_650001 := n4_
                    have HO_660001 := n5_
                    have BK624 := n6_
                    have BK630 := n7_
                    have BK636 := n8_
                    have BK649 := n9_
                    have BK659 := n10_
                    have HB := n11_
                    clear n0_ n1_ n2_ n3_ n4_ n5_ n6_ n7_ n8_ n9_ n10_ n11_
                    refine start_ (n := 14) (S := fun w' => True) (ds := []) #[ff,ff,ff,ff,ff,ff,ff,ff,ff,ff,ff,ff,ff,ff] (by kernel_rfl) rfl rfl trivial (fun hHeld => ?_); refine with_tabW laws_FnPoolAll.tab23 laws_FnPoolAll.bits23 (fun HT_ HW_ => ?_)
                    generalize wr.drew = w115 at HO_6 HO_625001 HO_631001 HO_637001 HO_650001 HO_660001 BK624 BK630 BK636 BK649 BK659 HB hHeld ⊢
                    refine pure_ (i := 0) (N := some 131) (v := ?_) (a' := ?_) #[tt,ff,ff,ff,ff,ff,ff,ff,ff,ff,ff,ff,ff,ff] rfl rfl (any_of HT_.out (by kernel_rfl)) (fun _ _ _ h => h) (Or.inl ⟨by rfl, ?_⟩) ?_ ?_
                    rotate_left
                    ·intro w'
                     go_simp
                     with_reducible rfl
                    rotate_left
                    ·simp only [Act.put, List.setIfInBounds_toArray, List.set_cons_zero, List.set_cons_succ, i64_w, i32_w]
                     rfl
                    refine pure_ (i := 1) (N := some 132) (v := ?_) (a' := ?_) #[tt,tt,ff,ff,ff,ff,ff,ff,ff,ff,ff,ff,ff,ff] rfl rfl (any_of HT_.out (by kernel_rfl)) (fun _ _ _ h => h) (Or.inl ⟨by rfl, ?_⟩) ?_ ?_
                    rotate_left
                    ·intro w'
                     go_simp
                     with_reducible rfl
                    rotate_left
                    ·simp only [Act.put, List.setIfInBounds_toArray, List.set_cons_zero, List.set_cons_succ, i64_w, i32_w]
                     rfl
                    refine pure_ (i := 2) (N := some 133) (v := undef) (a' := ?_) #[tt,tt,tt,ff,ff,ff,ff,ff,ff,ff,ff,ff,ff,ff] rfl rfl (any_of HT_.out (by kernel_rfl)) (fun _ _ _ h => h) (Or.inr ⟨by rfl, rfl⟩) ?_ ?_
                    rotate_left
                    ·simp only [Act.put, List.setIfInBounds_toArray, List.set_cons_zero, List.set_cons_succ, i64_w, i32_w]
                     rfl
                    refine pure_ (i := 3) (N := some 134) (v := undef) (a' := ?_) #[tt,tt,tt,tt,ff,ff,ff,ff,ff,ff,ff,ff,ff,ff] rfl rfl (any_of HT_.out (by kernel_rfl)) (fun _ _ _ h => h) (Or.inr ⟨by rfl, rfl⟩) ?_ ?_
                    rotate_left
                    ·simp only [Act.put, List.setIfInBounds_toArray, List.set_cons_zero, List.set_cons_succ, i64_w, i32_w]
                     rfl
                    refine pure_ (i := 4) (N := some 135) (v := undef) (a' := ?_) #[tt,tt,tt,tt,tt,ff,ff,ff,ff,ff,ff,ff,ff,ff] rfl rfl (any_of HT_.out (by kernel_rfl)) (fun _ _ _ h => h) (Or.inr ⟨by rfl, rfl⟩) ?_ ?_
                    rotate_left
                    ·simp only [Act.put, List.setIfInBounds_toArray, List.set_cons_zero, List.set_cons_succ, i64_w, i32_w]
                     rfl
                    refine pure_ (i := 5) (N := some 136) (v := undef) (a' := ?_) #[tt,tt,tt,tt,tt,tt,ff,ff,ff,ff,ff,ff,ff,ff] rfl rfl (any_of HT_.out (by kernel_rfl)) (fun _ _ _ h => h) (Or.inr ⟨by rfl, rfl⟩) ?_ ?_
                    rotate_left
                    ·simp only [Act.put, List.setIfInBounds_toArray, List.set_cons_zero, List.set_cons_succ, i64_w, i32_w]
                     rfl
                    refine pure_ (i := 6) (N := some 137) (v := undef) (a' := ?_) #[tt,tt,tt,tt,tt,tt,tt,ff,ff,ff,ff,ff,ff,ff] rfl rfl (any_of HT_.out (by kernel_rfl)) (fun _ _ _ h => h) (Or.inr ⟨by rfl, rfl⟩) ?_ ?_
                    rotate_left
                    ·simp only [Act.put, List.setIfInBounds_toArray, List.set_cons_zero, List.set_cons_succ, i64_w, i32_w]
                     rfl
                    refine pure_ (i := 7) (N := some 138) (v := undef) (a' := ?_) #[tt,tt,tt,tt,tt,tt,tt,tt,ff,ff,ff,ff,ff,ff] rfl rfl (any_of HT_.out (by kernel_rfl)) (fun _ _ _ h => h) (Or.inr ⟨by rfl, rfl⟩) ?_ ?_
                    rotate_left
                    ·simp only [Act.put, List.setIfInBounds_toArray, List.set_cons_zero, List.set_cons_succ, i64_w, i32_w]
                     rfl
                    refine pure_ (i := 8) (N := some 139) (v := undef) (a' := ?_) #[tt,tt,tt,tt,tt,tt,tt,tt,tt,ff,ff,ff,ff,ff] rfl rfl (any_of HT_.out (by kernel_rfl)) (fun _ _ _ h => h) (Or.inr ⟨by rfl, rfl⟩) ?_ ?_
                    rotate_left
                    ·simp only [Act.put, List.setIfInBounds_toArray, List.set_cons_zero, List.set_cons_succ, i64_w, i32_w]
                     rfl
                    refine pure_ (i := 9) (N := some 140) (v := undef) (a' := ?_) #[tt,tt,tt,tt,tt,tt,tt,tt,tt,tt,ff,ff,ff,ff] rfl rfl (any_of HT_.out (by kernel_rfl)) (fun _ _ _ h => h) (Or.inr ⟨by rfl, rfl⟩) ?_ ?_
                    rotate_left
                    ·simp only [Act.put, List.setIfInBounds_toArray, List.set_cons_zero, List.set_cons_succ, i64_w, i32_w]
                     rfl
                    refine pure_ (i := 10) (N := some 141) (v := undef) (a' := ?_) #[tt,tt,tt,tt,tt,tt,tt,tt,tt,tt,tt,ff,ff,ff] rfl rfl (any_of HT_.out (by kernel_rfl)) (fun _ _ _ h => h) (Or.inr ⟨by rfl, rfl⟩) ?_ ?_
                    rotate_left
                    ·simp only [Act.put, List.setIfInBounds_toArray, List.set_cons_zero, List.set_cons_succ, i64_w, i32_w]
                     rfl
                    refine pure_ (i := 11) (N := some 142) (v := undef) (a' := ?_) #[tt,tt,tt,tt,tt,tt,tt,tt,tt,tt,tt,tt,ff,ff] rfl rfl (any_of HT_.out (by kernel_rfl)) (fun _ _ _ h => h) (Or.inr ⟨by rfl, rfl⟩) ?_ ?_
                    rotate_left
                    ·simp only [Act.put, List.setIfInBounds_toArray, List.set_cons_zero, List.set_cons_succ, i64_w, i32_w]
                     rfl
                    refine pure_ (i := 12) (N := some 143) (v := ?_) (a' := ?_) #[tt,tt,tt,tt,tt,tt,tt,tt,tt,tt,tt,tt,tt,ff] rfl rfl (any_of HT_.out (by kernel_rfl)) (fun _ _ _ h => h) (Or.inl ⟨by rfl, ?_⟩) ?_ ?_
                    rotate_left
                    ·intro w'
                     go_simp
                     with_reducible rfl
                    rotate_left
                    ·simp only [Act.put, List.setIfInBounds_toArray, List.set_cons_zero, List.set_cons_succ, i64_w, i32_w]
                     rfl
                    refine pure_ (i := 13) (N := some 18) (v := ?_) (a' := ?_) #[tt,tt,tt,tt,tt,tt,tt,tt,tt,tt,tt,tt,tt,tt] rfl rfl (any_of HT_.out (by kernel_rfl)) (fun _ _ _ h => h) (Or.inl ⟨by rfl, ?_⟩) ?_ ?_
                    rotate_left
                    ·intro w'
                     go_simp
                     with_reducible rfl
                    rotate_left
                    ·simp only [Act.put, List.setIfInBounds_toArray, List.set_cons_zero, List.set_cons_succ, i64_w, i32_w]
                     rfl
                    refine done_ (done_of HT_.out (by kernel_rfl)) ?_
                    try go_wp2
                    go_roundg k5
                    case measure => have := HJ2.out; have := HJ8.out; have := HK3.out; have := HK4.out; have := HK5.out; omega
                    case rel => exact ⟨(true), (wrap64 (x20_5 + 1)), (z22_16), (z22_16), H', ⟨by have := HJ2.out; have := HJ8.out; have := HK3.out; have := HK4.out; have := HK5.out; omega⟩, ⟨by (with_reducible repeat (first | apply ra | apply rb | apply rc)); exact HO_6.out⟩, ⟨by (with_reducible repeat (first | apply ra | apply rb | apply rc)); exact HO_625001.out⟩, ⟨by (with_reducible repeat (first | apply ra | apply rb | apply rc)); exact HO_631001.out⟩, ⟨by (with_reducible repeat (first | apply ra | apply rb | apply rc)); exact HO_637001.out⟩, ⟨by (with_reducible repeat (first | apply ra | apply rb | apply rc)); exact HO_650001.out⟩, ⟨by (with_reducible repeat (first | apply ra | apply rb | apply rc)); exact HO_660001.out⟩, ⟨by (with_reducible repeat (first | refine ba ?_ _ | refine bb ?_ | refine bc ?_ _)); exact BK624.out⟩, ⟨by (with_reducible repeat (first | refine ba ?_ _ | refine bb ?_ | refine bc ?_ _)); exact BK630.out⟩, ⟨by (with_reducible repeat (first | refine ba ?_ _ | refine bb ?_ | refine bc ?_ _)); exact BK636.out⟩, ⟨by (with_reducible repeat (first | refine ba ?_ _ | refine bb ?_ | refine bc ?_ _)); exact BK649.out⟩, ⟨by (with_reducible repeat (first | refine ba ?_ _ | refine bb ?_ | refine bc ?_ _)); exact BK659.out⟩, ⟨by repeat (first | (with_reducible first | exact HB.out | apply below_alloc | apply pw_below_drewN | apply below_drew1 | refine below_set ?_ GE624.out | refine below_set ?_ GE630.out | refine below_set ?_ GE636.out | refine below_set ?_ GE649.out | refine below_set ?_ GE659.out) | exact HB.out)⟩⟩
                   ·replace c109 := Bool.eq_false_iff.mpr c109
                    subst c109
                    have H1 : (if 0 ≤ x20_5 then (if 0 ≤ x17_3 then (if x17_3 < (t621.length : Int) then (laws_FnPoolAll.l2 k5 t621 t629 t648 t658 x16_3 x17_3 (((rd_T25 t618 x20_5).f0) == ((rd_T25 t621 x17_3).f0) && (((rd_T25 t618 x20_5).f1) == ((rd_T25 t621 x17_3).f1))) (wrap64 (x20_5 + 1)) t617 t618 t625 t626 t654 t655) else (none)) else (none)) else (none)) = some r := by rw [if_neg (show ¬ (false = true) by decide)] at H; exact H
                    clear H
                    have H := H1
                    clear H1
                    by_cases c116 : 0 ≤ x20_5
                    ·rw [if_pos c116] at H
                     have c116b0 : decide (0 ≤ x20_5) = true := decide_eq_true c116
                     clear c116
                     by_cases c117 : 0 ≤ x17_3
                     ·rw [if_pos c117] at H
                      have c117b0 : decide (0 ≤ x17_3) = true := decide_eq_true c117
                      clear c117
                      by_cases c118 : x17_3 < (t621.length : Int)
                      ·rw [if_pos c118] at H
                       have c118b0 : decide (x17_3 < (t621.length : Int)) = true := decide_eq_true c118
                       clear c118
                       have H' := Aside0.mk H
                       clear H
                       have hnb119 := NB624_630.out
                       have hnc119 := NB630_624.out
                       have hnb120 := NB624_636.out
                       have hnc120 := NB636_624.out
                       have hnb121 := NB624_649.out
                       have hnc121 := NB649_624.out
                       have hnb122 := NB624_659.out
                       have hnc122 := NB659_624.out
                       have hcz123_0 : wr.cell? ⟨gb624, 0, none⟩ = some (.int .i64 t617) := (blk_cell BK624.out 0).trans rfl
                       have hcz123_1 : wr.cell? ⟨gb624, 1, none⟩ = some (.slice Ao13 t618.length co13) := (blk_cell BK624.out 1).trans rfl
                       have hfz123_0 := blk_frozen BK624.out 0
                       have hfz123_1 := blk_frozen BK624.out 1
                       try go_wp2
                       have n0_ := Aside0.mk (Kd.R_drew HO_6.out)
                       have n1_ := Aside0.mk (Kd.R_drew HO_625001.out)
                       have n2_ := Aside0.mk (Kd.R_drew HO_631001.out)
                       have n3_ := Aside0.mk (Kd.R_drew HO_637001.out)
                       have n4_ := Aside0.mk (Kd.R_drew HO_650001.out)
                       have n5_ := Aside0.mk (Kd.R_drew HO_660001.out)
                       have n6_ := Aside0.mk (blk_drew BK624.out)
                       have n7_ := Aside0.mk (blk_drew BK630.out)
                       have n8_ := Aside0.mk (blk_drew BK636.out)
                       have n9_ := Aside0.mk (blk_drew BK649.out)
                       have n10_ := Aside0.mk (blk_drew BK659.out)
                       have n11_ := Aside0.mk (below_drew1 HB.out)
                       clear HO_6
                       clear HO_625001
                       clear HO_631001
                       clear HO_637001
                       clear HO_650001
                       clear HO_660001
                       clear BK624
                       clear BK630
                       clear BK636
                       clear BK649
                       clear BK659
                       clear HB
                       have HO_6 := n0_
                       have HO_625001 := n1_
                       have HO_631001 := n2_
                       have HO_637001 := n3_
                       have HO_650001 := n4_
                       have HO_660001 := n5_
                       have BK624 := n6_
                       have BK630 := n7_
                       have BK636 := n8_
                       have BK649 := n9_
                       have BK659 := n10_
                       have HB := n11_
                       clear n0_ n1_ n2_ n3_ n4_ n5_ n6_ n7_ n8_ n9_ n10_ n11_
                       have p664 : 0 ≤ (x20_5 : Int) := of_decide_eq_true (z22_15)
                       have q664 : x20_5 < (t618.length : Int) := of_decide_eq_true (z22_15)
                       obtain ⟨ad664, e664, hx664_0, hx664_1⟩ := at_T25 (Kd.R_reads' HO_625001.out).2.2 x20_5 p664 q664
                       cases e664
                       replace p664 := eq_true p664
                       replace q664 := eq_true q664
                       have p665 : 0 ≤ (x17_3 : Int) := of_decide_eq_true (z22_15)
                       have q665 : x17_3 < (t621.length : Int) := of_decide_eq_true (z22_15)
                       obtain ⟨ad665, e665, hx665_0, hx665_1⟩ := at_T25 (Kd.R_reads' HO_6.out).2.2 x17_3 p665 q665
                       cases e665
                       replace p665 := eq_true p665
                       replace q665 := eq_true q665
                       refine start_ (n := 14) (S := fun w' => w'.cell? ⟨gb624, 0, none⟩ = some (.int .i64 t617) ∧ w'.cell? ⟨gb624, 1, none⟩ = some (.slice (some ad664) t618.length co13) ∧ w'.cell? (ad664.add ((x20_5).toNat * 2)) = some (.int .i64 ((rd_T25 t618 x20_5).f0)) ∧ w'.cell? ⟨(ad664.add ((x20_5).toNat * 2)).block, (ad664.add ((x20_5).toNat * 2)).off + 1, none⟩ = some (.int .i64 ((rd_T25 t618 x20_5).f1)) ∧ w'.cell? (ad665.add ((x17_3).toNat * 2)) = some (.int .i64 ((rd_T25 t621 x17_3).f0)) ∧ w'.cell? ⟨(ad665.add ((x17_3).toNat * 2)).block, (ad665.add ((x17_3).toNat * 2)).off + 1, none⟩ = some (.int .i64 ((rd_T25 t621 x17_3).f1))) (ds := []) #[ff,ff,ff,ff,ff,ff,ff,ff,ff,ff,ff,ff,ff,ff] (by kernel_rfl) rfl rfl ⟨(blk_cell BK624.out 0).trans rfl, (blk_cell BK624.out 1).trans rfl, hx664_0, hx664_1, hx665_0, hx665_1⟩ (fun hHeld => ?_); refine with_tabW laws_FnPoolAll.tab23 laws_FnPoolAll.bits23 (fun HT_ HW_ => ?_)
                       generalize wr.drew = w124 at HO_6 HO_625001 HO_631001 HO_637001 HO_650001 HO_660001 BK624 BK630 BK636 BK649 BK659 HB hx664_0 hx664_1 hx665_0 hx665_1 hHeld ⊢
                       refine pure_ (i := 0) (N := some 131) (v := ?_) (a' := ?_) #[tt,ff,ff,ff,ff,ff,ff,ff,ff,ff,ff,ff,ff,ff] rfl rfl (any_of HT_.out (by kernel_rfl)) (fun _ _ _ h => h) (Or.inl ⟨by rfl, ?_⟩) ?_ ?_
                       rotate_left
                       ·intro w'
                        go_simp
                        with_reducible rfl
                       rotate_left
                       ·simp only [Act.put, List.setIfInBounds_toArray, List.set_cons_zero, List.set_cons_succ, i64_w, i32_w]
                        rfl
                       refine pure_ (i := 1) (N := some 132) (v := ?_) (a' := ?_) #[tt,tt,ff,ff,ff,ff,ff,ff,ff,ff,ff,ff,ff,ff] rfl rfl (any_of HT_.out (by kernel_rfl)) (fun _ _ _ h => h) (Or.inl ⟨by rfl, ?_⟩) ?_ ?_
                       rotate_left
                       ·intro w'
                        go_simp
                        with_reducible rfl
                       rotate_left
                       ·simp only [Act.put, List.setIfInBounds_toArray, List.set_cons_zero, List.set_cons_succ, i64_w, i32_w]
                        rfl
                       refine pure_ (i := 2) (N := some 133) (v := ?_) (a' := ?_) #[tt,tt,tt,ff,ff,ff,ff,ff,ff,ff,ff,ff,ff,ff] rfl rfl (any_of HT_.out (by kernel_rfl)) (fun _ _ _ h => h) (Or.inl ⟨by rfl, ?_⟩) ?_ ?_
                       rotate_left
                       ·intro w'
                        go_simp
                        with_reducible rfl
                       rotate_left
                       ·simp only [Act.put, List.setIfInBounds_toArray, List.set_cons_zero, List.set_cons_succ, i64_w, i32_w]
                        rfl
                       refine pure_ (i := 4) (N := some 135) (v := ?_) (a' := ?_) #[tt,tt,tt,ff,tt,ff,ff,ff,ff,ff,ff,ff,ff,ff] rfl rfl (any_of HT_.out (by kernel_rfl)) (fun _ _ _ h => h) (Or.inl ⟨by rfl, ?_⟩) ?_ ?_
                       rotate_left
                       ·intro w'
                        go_simp
                        with_reducible rfl
                       rotate_left
                       ·simp only [Act.put, List.setIfInBounds_toArray, List.set_cons_zero, List.set_cons_succ, i64_w, i32_w]
                        rfl
                       refine pure_ (i := 7) (N := some 138) (v := ?_) (a' := ?_) #[tt,tt,tt,ff,tt,ff,ff,tt,ff,ff,ff,ff,ff,ff] rfl rfl (any_of HT_.out (by kernel_rfl)) (fun _ _ _ h => h) (Or.inl ⟨by rfl, ?_⟩) ?_ ?_
                       rotate_left
                       ·intro w'
                        go_simp
                        with_reducible rfl
                       rotate_left
                       ·simp only [Act.put, List.setIfInBounds_toArray, List.set_cons_zero, List.set_cons_succ, i64_w, i32_w]
                        rfl
                       refine pure_ (i := 8) (N := some 139) (v := ?_) (a' := ?_) #[tt,tt,tt,ff,tt,ff,ff,tt,tt,ff,ff,ff,ff,ff] rfl rfl (any_of HT_.out (by kernel_rfl)) (fun _ _ _ h => h) (Or.inl ⟨by rfl, ?_⟩) ?_ ?_
                       rotate_left
                       ·intro w'
                        go_simp
                        with_reducible rfl
                       rotate_left
                       ·simp only [Act.put, List.setIfInBounds_toArray, List.set_cons_zero, List.set_cons_succ, i64_w, i32_w]
                        rfl
                       refine pure_ (i := 9) (N := some 140) (v := ?_) (a' := ?_) #[tt,tt,tt,ff,tt,ff,ff,tt,tt,tt,ff,ff,ff,ff] rfl rfl (any_of HT_.out (by kernel_rfl)) (fun _ _ _ h => h) (Or.inl ⟨by rfl, ?_⟩) ?_ ?_
                       rotate_left
                       ·intro w'
                        go_simp
                        with_reducible rfl
                       rotate_left
                       ·simp only [Act.put, List.setIfInBounds_toArray, List.set_cons_zero, List.set_cons_succ, i64_w, i32_w]
                        rfl
                       refine take_ (i := 3) (N := some 134) (v := ?_) (a' := ?_) #[tt,tt,tt,tt,tt,ff,ff,tt,tt,tt,ff,ff,ff,ff] rfl rfl (take_ofW HT_.out HW_.out (by kernel_rfl)) (fun _ _ _ h => h) (Or.inl ⟨by rfl, ?_⟩) hHeld ?_ ?_
                       rotate_left
                       ·rintro w' ⟨s0, s1, s2, s3, s4, s5⟩
                        go_simp
                        with_reducible rfl
                       rotate_left
                       ·simp only [Act.put, List.setIfInBounds_toArray, List.set_cons_zero, List.set_cons_succ, i64_w, i32_w]
                        rfl
                       refine pure_ (i := 5) (N := some 136) (v := ?_) (a' := ?_) #[tt,tt,tt,tt,tt,tt,ff,tt,tt,tt,ff,ff,ff,ff] rfl rfl (any_of HT_.out (by kernel_rfl)) (fun _ _ _ h => h) (Or.inl ⟨by rfl, ?_⟩) ?_ ?_
                       rotate_left
                       ·intro w'
                        go_simp
                        with_reducible rfl
                       rotate_left
                       ·simp only [Act.put, List.setIfInBounds_toArray, List.set_cons_zero, List.set_cons_succ, i64_w, i32_w]
                        rfl
                       refine take_ (i := 6) (N := some 137) (v := ?_) (a' := ?_) #[tt,tt,tt,tt,tt,tt,tt,tt,tt,tt,ff,ff,ff,ff] rfl rfl (take_ofW HT_.out HW_.out (by kernel_rfl)) (fun _ _ _ h => h) (Or.inl ⟨by rfl, ?_⟩) hHeld ?_ ?_
                       rotate_left
                       ·rintro w' ⟨s0, s1, s2, s3, s4, s5⟩
                        go_simp
                        with_reducible rfl
                       rotate_left
                       ·simp only [Act.put, List.setIfInBounds_toArray, List.set_cons_zero, List.set_cons_succ, i64_w, i32_w]
                        rfl
                       refine take_ (i := 10) (N := some 141) (v := ?_) (a' := ?_) #[tt,tt,tt,tt,tt,tt,tt,tt,tt,tt,tt,ff,ff,ff] rfl rfl (take_ofW HT_.out HW_.out (by kernel_rfl)) (fun _ _ _ h => h) (Or.inl ⟨by rfl, ?_⟩) hHeld ?_ ?_
                       rotate_left
                       ·rintro w' ⟨s0, s1, s2, s3, s4, s5⟩
                        go_simp
                        with_reducible rfl
                       rotate_left
                       ·simp only [Act.put, List.setIfInBounds_toArray, List.set_cons_zero, List.set_cons_succ, i64_w, i32_w]
                        rfl
                       refine pure_ (i := 11) (N := some 142) (v := ?_) (a' := ?_) #[tt,tt,tt,tt,tt,tt,tt,tt,tt,tt,tt,tt,ff,ff] rfl rfl (any_of HT_.out (by kernel_rfl)) (fun _ _ _ h => h) (Or.inl ⟨by rfl, ?_⟩) ?_ ?_
                       rotate_left
                       ·intro w'
                        go_simp
                        with_reducible rfl
                       rotate_left
                       ·simp only [Act.put, List.setIfInBounds_toArray, List.set_cons_zero, List.set_cons_succ, i64_w, i32_w]
                        rfl
                       refine pure_ (i := 12) (N := some 143) (v := ?_) (a' := ?_) #[tt,tt,tt,tt,tt,tt,tt,tt,tt,tt,tt,tt,tt,ff] rfl rfl (any_of HT_.out (by kernel_rfl)) (fun _ _ _ h => h) (Or.inl ⟨by rfl, ?_⟩) ?_ ?_
                       rotate_left
                       ·intro w'
                        go_simp
                        with_reducible rfl
                       rotate_left
                       ·simp only [Act.put, List.setIfInBounds_toArray, List.set_cons_zero, List.set_cons_succ, i64_w, i32_w]
                        rfl
                       refine pure_ (i := 13) (N := some 18) (v := ?_) (a' := ?_) #[tt,tt,tt,tt,tt,tt,tt,tt,tt,tt,tt,tt,tt,tt] rfl rfl (any_of HT_.out (by kernel_rfl)) (fun _ _ _ h => h) (Or.inl ⟨by rfl, ?_⟩) ?_ ?_
                       rotate_left
                       ·intro w'
                        go_simp
                        with_reducible rfl
                       rotate_left
                       ·simp only [Act.put, List.setIfInBounds_toArray, List.set_cons_zero, List.set_cons_succ, i64_w, i32_w]
                        rfl
                       refine done_ (done_of HT_.out (by kernel_rfl)) ?_
                       try go_wp2
                       go_roundg k5
                       case measure => have := HJ2.out; have := HJ8.out; have := HK3.out; have := HK4.out; have := HK5.out; omega
                       case rel => exact ⟨((((rd_T25 t618 x20_5).f0) == ((rd_T25 t621 x17_3).f0) && (((rd_T25 t618 x20_5).f1) == ((rd_T25 t621 x17_3).f1)))), (wrap64 (x20_5 + 1)), (z22_16), (z22_16), H', ⟨by have := HJ2.out; have := HJ8.out; have := HK3.out; have := HK4.out; have := HK5.out; omega⟩, ⟨by (with_reducible repeat (first | apply ra | apply rb | apply rc)); exact HO_6.out⟩, ⟨by (with_reducible repeat (first | apply ra | apply rb | apply rc)); exact HO_625001.out⟩, ⟨by (with_reducible repeat (first | apply ra | apply rb | apply rc)); exact HO_631001.out⟩, ⟨by (with_reducible repeat (first | apply ra | apply rb | apply rc)); exact HO_637001.out⟩, ⟨by (with_reducible repeat (first | apply ra | apply rb | apply rc)); exact HO_650001.out⟩, ⟨by (with_reducible repeat (first | apply ra | apply rb | apply rc)); exact HO_660001.out⟩, ⟨by (with_reducible repeat (first | refine ba ?_ _ | refine bb ?_ | refine bc ?_ _)); exact BK624.out⟩, ⟨by (with_reducible repeat (first | refine ba ?_ _ | refine bb ?_ | refine bc ?_ _)); exact BK630.out⟩, ⟨by (with_reducible repeat (first | refine ba ?_ _ | refine bb ?_ | refine bc ?_ _)); exact BK636.out⟩, ⟨by (with_reducible repeat (first | refine ba ?_ _ | refine bb ?_ | refine bc ?_ _)); exact BK649.out⟩, ⟨by (with_reducible repeat (first | refine ba ?_ _ | refine bb ?_ | refine bc ?_ _)); exact BK659.out⟩, ⟨by repeat (first | (with_reducible first | exact HB.out | apply below_alloc | apply pw_below_drewN | apply below_drew1 | refine below_set ?_ GE624.out | refine below_set ?_ GE630.out | refine below_set ?_ GE636.out | refine below_set ?_ GE649.out | refine below_set ?_ GE659.out) | exact HB.out)⟩⟩
                      ·rw [if_neg c118] at H
                       exact absurd H (by simp)
                     ·rw [if_neg c117] at H
                      exact absurd H (by simp)
                    ·rw [if_neg c116] at H
                     exact absurd H (by simp)
                  ·rw [if_neg c108] at H
                   have c108b0 : decide (x20_5 < (t618.length : Int)) = false := decide_eq_false c108
                   clear c108
                   by_cases c125 : x18_5 = true
                   ·subst c125
                    have H1 : (laws_FnPoolAll.l0 k5 t621 t629 t648 t658 x16_3 (wrap64 (x17_3 + 1)) t617 t618 t625 t626 t654 t655) = some r := by rw [if_pos rfl] at H; exact H
                    clear H
                    have H := H1
                    clear H1
                    have H' := Aside0.mk H
                    clear H
                    have hnb126 := NB624_630.out
                    have hnc126 := NB630_624.out
                    have hnb127 := NB624_636.out
                    have hnc127 := NB636_624.out
                    have hnb128 := NB624_649.out
                    have hnc128 := NB649_624.out
                    have hnb129 := NB624_659.out
                    have hnc129 := NB659_624.out
                    have hcz130_0 : wr.cell? ⟨gb624, 0, none⟩ = some (.int .i64 t617) := (blk_cell BK624.out 0).trans rfl
                    have hcz130_1 : wr.cell? ⟨gb624, 1, none⟩ = some (.slice Ao13 t618.length co13) := (blk_cell BK624.out 1).trans rfl
                    have hfz130_0 := blk_frozen BK624.out 0
                    have hfz130_1 := blk_frozen BK624.out 1
                    go_wp2
                    go_roundg k5
                    case measure => have := HJ2.out; have := HJ8.out; have := HK3.out; have := HK4.out; have := HK5.out; omega
                    case rel => exact ⟨(x16_3), (wrap64 (x17_3 + 1)), (z22_16), (z22_16), H', ⟨by have := HJ2.out; have := HJ8.out; have := HK3.out; have := HK4.out; have := HK5.out; omega⟩, ⟨by (with_reducible repeat (first | apply ra | apply rb | apply rc)); exact HO_6.out⟩, ⟨by (with_reducible repeat (first | apply ra | apply rb | apply rc)); exact HO_625001.out⟩, ⟨by (with_reducible repeat (first | apply ra | apply rb | apply rc)); exact HO_631001.out⟩, ⟨by (with_reducible repeat (first | apply ra | apply rb | apply rc)); exact HO_637001.out⟩, ⟨by (with_reducible repeat (first | apply ra | apply rb | apply rc)); exact HO_650001.out⟩, ⟨by (with_reducible repeat (first | apply ra | apply rb | apply rc)); exact HO_660001.out⟩, ⟨by (with_reducible repeat (first | refine ba ?_ _ | refine bb ?_ | refine bc ?_ _)); exact BK624.out⟩, ⟨by (with_reducible repeat (first | refine ba ?_ _ | refine bb ?_ | refine bc ?_ _)); exact BK630.out⟩, ⟨by (with_reducible repeat (first | refine ba ?_ _ | refine bb ?_ | refine bc ?_ _)); exact BK636.out⟩, ⟨by (with_reducible repeat (first | refine ba ?_ _ | refine bb ?_ | refine bc ?_ _)); exact BK649.out⟩, ⟨by (with_reducible repeat (first | refine ba ?_ _ | refine bb ?_ | refine bc ?_ _)); exact BK659.out⟩, ⟨by repeat (first | (with_reducible first | exact HB.out | apply below_alloc | apply pw_below_drewN | apply below_drew1 | refine below_set ?_ GE624.out | refine below_set ?_ GE630.out | refine below_set ?_ GE636.out | refine below_set ?_ GE649.out | refine below_set ?_ GE659.out) | exact HB.out)⟩⟩
                   ·replace c125 := Bool.eq_false_iff.mpr c125
                    subst c125
                    have H1 : (laws_FnPoolAll.l0 k5 t621 t629 t648 t658 (wrap64 (x16_3 + 1)) (wrap64 (x17_3 + 1)) t617 t618 t625 t626 t654 t655) = some r := by rw [if_neg (show ¬ (false = true) by decide)] at H; exact H
                    clear H
                    have H := H1
                    clear H1
                    have H' := Aside0.mk H
                    clear H
                    have hnb131 := NB624_630.out
                    have hnc131 := NB630_624.out
                    have hnb132 := NB624_636.out
                    have hnc132 := NB636_624.out
                    have hnb133 := NB624_649.out
                    have hnc133 := NB649_624.out
                    have hnb134 := NB624_659.out
                    have hnc134 := NB659_624.out
                    have hcz135_0 : wr.cell? ⟨gb624, 0, none⟩ = some (.int .i64 t617) := (blk_cell BK624.out 0).trans rfl
                    have hcz135_1 : wr.cell? ⟨gb624, 1, none⟩ = some (.slice Ao13 t618.length co13) := (blk_cell BK624.out 1).trans rfl
                    have hfz135_0 := blk_frozen BK624.out 0
                    have hfz135_1 := blk_frozen BK624.out 1
                    go_wp2
                    go_roundg k5
                    case measure => have := HJ2.out; have := HJ8.out; have := HK3.out; have := HK4.out; have := HK5.out; omega
                    case rel => exact ⟨(wrap64 (x16_3 + 1)), (wrap64 (x17_3 + 1)), (z22_16), (z22_16), H', ⟨by have := HJ2.out; have := HJ8.out; have := HK3.out; have := HK4.out; have := HK5.out; omega⟩, ⟨by (with_reducible repeat (first | apply ra | apply rb | apply rc)); exact HO_6.out⟩, ⟨by (with_reducible repeat (first | apply ra | apply rb | apply rc)); exact HO_625001.out⟩, ⟨by (with_reducible repeat (first | apply ra | apply rb | apply rc)); exact HO_631001.out⟩, ⟨by (with_reducible repeat (first | apply ra | apply rb | apply rc)); exact HO_637001.out⟩, ⟨by (with_reducible repeat (first | apply ra | apply rb | apply rc)); exact HO_650001.out⟩, ⟨by (with_reducible repeat (first | apply ra | apply rb | apply rc)); exact HO_660001.out⟩, ⟨by (with_reducible repeat (first | refine ba ?_ _ | refine bb ?_ | refine bc ?_ _)); exact BK624.out⟩, ⟨by (with_reducible repeat (first | refine ba ?_ _ | refine bb ?_ | refine bc ?_ _)); exact BK630.out⟩, ⟨by (with_reducible repeat (first | refine ba ?_ _ | refine bb ?_ | refine bc ?_ _)); exact BK636.out⟩, ⟨by (with_reducible repeat (first | refine ba ?_ _ | refine bb ?_ | refine bc ?_ _)); exact BK649.out⟩, ⟨by (with_reducible repeat (first | refine ba ?_ _ | refine bb ?_ | refine bc ?_ _)); exact BK659.out⟩, ⟨by repeat (first | (with_reducible first | exact HB.out | apply below_alloc | apply pw_below_drewN | apply below_drew1 | refine below_set ?_ GE624.out | refine below_set ?_ GE630.out | refine below_set ?_ GE636.out | refine below_set ?_ GE649.out | refine below_set ?_ GE659.out) | exact HB.out)⟩⟩
            ·rw [if_neg c99] at H
             have c99b0 : decide (x17_3 < (t621.length : Int)) = false := decide_eq_false c99
             clear c99
             replace H := Option.bind_eq_some_iff.mp H
             obtain ⟨t660, A1360, H⟩ := H
             replace H : (if t660 = true then ((impl_PoolSame.f k3 t654 t655 t625 t626).bind fun t661 => (if t661 = true then (if (wrap64 (t648 + t658)) = t629 then (if t629 ≥ x16_3 then (some (decide (t629 ≤ (t621.length : Int)))) else (some false)) else (some false)) else (some false))) else (some false)) = some r := H
             have A136 := Aside0.mk A1360
             clear A1360
             by_cases c137 : t660 = true
             ·subst c137
              have H1 : ((impl_PoolSame.f k3 t654 t655 t625 t626).bind fun t661 => (if t661 = true then (if (wrap64 (t648 + t658)) = t629 then (if t629 ≥ x16_3 then (some (decide (t629 ≤ (t621.length : Int)))) else (some false)) else (some false)) else (some false))) = some r := by rw [if_pos rfl] at H; exact H
              clear H
              have H := H1
              clear H1
              replace H := Option.bind_eq_some_iff.mp H
              obtain ⟨t661, A1380, H⟩ := H
              replace H : (if t661 = true then (if (wrap64 (t648 + t658)) = t629 then (if t629 ≥ x16_3 then (some (decide (t629 ≤ (t621.length : Int)))) else (some false)) else (some false)) else (some false)) = some r := H
              have A138 := Aside0.mk A1380
              clear A1380
              by_cases c139 : t661 = true
              ·subst c139
               have H1 : (if (wrap64 (t648 + t658)) = t629 then (if t629 ≥ x16_3 then (some (decide (t629 ≤ (t621.length : Int)))) else (some false)) else (some false)) = some r := by rw [if_pos rfl] at H; exact H
               clear H
               have H := H1
               clear H1
               by_cases c140 : (wrap64 (t648 + t658)) = t629
               ·rw [if_pos c140] at H
                have c140b0 : ((wrap64 (t648 + t658)) == t629) = true := beq_iff_eq.mpr c140
                have c140b1 : ((wrap64 (t648 + t658)) != t629) = false := bne_eq_false_iff_eq.mpr c140
                clear c140
                by_cases c141 : t629 ≥ x16_3
                ·rw [if_pos c141] at H
                 have c141b0 : decide (x16_3 ≤ t629) = true := decide_eq_true c141
                 clear c141
                 obtain rfl := Option.some.inj H
                 have hnb142 := NB630_624.out
                 have hnc142 := NB624_630.out
                 have hnb143 := NB630_636.out
                 have hnc143 := NB636_630.out
                 have hnb144 := NB630_649.out
                 have hnc144 := NB649_630.out
                 have hnb145 := NB630_659.out
                 have hnc145 := NB659_630.out
                 have hcz146_0 : wr.cell? ⟨gb630, 0, none⟩ = some (.int .i64 t625) := (blk_cell BK630.out 0).trans rfl
                 have hcz146_1 : wr.cell? ⟨gb630, 1, none⟩ = some (.slice Ao19 t626.length co19) := (blk_cell BK630.out 1).trans rfl
                 have hfz146_0 := blk_frozen BK630.out 0
                 have hfz146_1 := blk_frozen BK630.out 1
                 go_wp2_with (first | ((with_reducible refine gate_callee (f := 38) rfl ?_); refine goesL_ (some 149) rfl rfl Try.func38 (by kernel_rfl) rfl #[.agg #[.int .i64 t625, .slice Ao19 t626.length co19]] rfl (z22_7) ?_; (with_reducible refine (impl_PoolOk.calls k3 t625 _ _ t626 true _ ?side1 ?side2 A136.out).mono ?_); (case side1 => repeat (first | exact (Kd.R_reads' HO_631001.out).2.2 | (with_reducible refine Kd.C_alloc ?_ _) | (with_reducible refine Kd.C_drewN ?_ _) | (with_reducible refine Kd.C_drew ?_))); (case side2 => exact (Kd.R_reads' HO_631001.out).2.1); rintro e w147 ⟨rfl, hb⟩; refine ⟨_, rfl, ?_⟩; have n0_ := Aside0.mk (Kd.R_below (by (with_reducible repeat (first | apply ra | apply rb | apply rc)); exact HO_6.out) hb); have n1_ := Aside0.mk (Kd.R_below (by (with_reducible repeat (first | apply ra | apply rb | apply rc)); exact HO_625001.out) hb); have n2_ := Aside0.mk (Kd.R_below (by (with_reducible repeat (first | apply ra | apply rb | apply rc)); exact HO_631001.out) hb); have n3_ := Aside0.mk (Kd.R_below (by (with_reducible repeat (first | apply ra | apply rb | apply rc)); exact HO_637001.out) hb); have n4_ := Aside0.mk (Kd.R_below (by (with_reducible repeat (first | apply ra | apply rb | apply rc)); exact HO_650001.out) hb); have n5_ := Aside0.mk (Kd.R_below (by (with_reducible repeat (first | apply ra | apply rb | apply rc)); exact HO_660001.out) hb); have n6_ := Aside0.mk (blk_below (g := gb624) (o := .cells #[.int .i64 t617, .slice Ao13 t618.length co13] 46 (0, 0)) (z22_9) hb); have n7_ := Aside0.mk (blk_below (g := gb630) (o := .cells #[.int .i64 t625, .slice Ao19 t626.length co19] 46 (0, 0)) (z22_10) hb); have n8_ := Aside0.mk (blk_below (g := gb636) (o := .cells #[.int .i64 t631, .slice Ao26 t632.length co26] 46 (0, 0)) (z22_11) hb); have n9_ := Aside0.mk (blk_below (g := gb649) (o := .cells #[.int .i64 t644, .slice Ao88 t645.length co88] 46 (0, 0)) (z22_12) hb); have n10_ := Aside0.mk (blk_below (g := gb659) (o := .cells #[.int .i64 t654, .slice Ao97 t655.length co97] 46 (0, 0)) (z22_13) hb); have n11_ := Aside0.mk (below_step (z22_2) hb); clear HO_6; clear HO_625001; clear HO_631001; clear HO_637001; clear HO_650001; clear HO_660001; clear BK624; clear BK630; clear BK636; clear BK649; clear BK659; clear HB; have HO_6 := n0_; have HO_625001 := n1_; have HO_631001 := n2_; have HO_637001 := n3_; have HO_650001 := n4_; have HO_660001 := n5_; have BK624 := n6_; have BK630 := n7_; have BK636 := n8_; have BK649 := n9_; have BK659 := n10_; have HB := n11_; clear n0_ n1_ n2_ n3_ n4_ n5_ n6_ n7_ n8_ n9_ n10_ n11_; (try clear hb); (try clear hb2); (try clear hk); (try clear hi); have hnb148 := NB659_624.out; have hnc148 := NB624_659.out; have hnb149 := NB659_636.out; have hnc149 := NB636_659.out; have hnb150 := NB659_649.out; have hnc150 := NB649_659.out; have hcz151_0 : w147.cell? ⟨gb659, 0, none⟩ = some (.int .i64 t654) := (blk_cell BK659.out 0).trans rfl; have hcz151_1 : w147.cell? ⟨gb659, 1, none⟩ = some (.slice Ao97 t655.length co97) := (blk_cell BK659.out 1).trans rfl; have hfz151_0 := blk_frozen BK659.out 0; have hfz151_1 := blk_frozen BK659.out 1; have hcz152_0 : w147.cell? ⟨gb630, 0, none⟩ = some (.int .i64 t625) := (blk_cell BK630.out 0).trans rfl; have hcz152_1 : w147.cell? ⟨gb630, 1, none⟩ = some (.slice Ao19 t626.length co19) := (blk_cell BK630.out 1).trans rfl; have hfz152_0 := blk_frozen BK630.out 0; have hfz152_1 := blk_frozen BK630.out 1) | (go_at_call 35; (with_reducible refine (impl_PoolSame.calls k3 t654 _ _ t655 t625 _ _ t626 true _ ?side1 ?side2 ?side3 ?side4 A138.out).mono ?_); (case side1 => repeat (first | exact (Kd.R_reads' HO_660001.out).2.2 | (with_reducible refine Kd.C_alloc ?_ _) | (with_reducible refine Kd.C_drewN ?_ _) | (with_reducible refine Kd.C_drew ?_))); (case side2 => exact (Kd.R_reads' HO_660001.out).2.1); (case side3 => repeat (first | exact (Kd.R_reads' HO_631001.out).2.2 | (with_reducible refine Kd.C_alloc ?_ _) | (with_reducible refine Kd.C_drewN ?_ _) | (with_reducible refine Kd.C_drew ?_))); (case side4 => exact (Kd.R_reads' HO_631001.out).2.1); rintro e w153 ⟨rfl, hb⟩; have n0_ := Aside0.mk (Kd.R_below (by (with_reducible repeat (first | apply ra | apply rb | apply rc)); exact HO_6.out) hb); have n1_ := Aside0.mk (Kd.R_below (by (with_reducible repeat (first | apply ra | apply rb | apply rc)); exact HO_625001.out) hb); have n2_ := Aside0.mk (Kd.R_below (by (with_reducible repeat (first | apply ra | apply rb | apply rc)); exact HO_631001.out) hb); have n3_ := Aside0.mk (Kd.R_below (by (with_reducible repeat (first | apply ra | apply rb | apply rc)); exact HO_637001.out) hb); have n4_ := Aside0.mk (Kd.R_below (by (with_reducible repeat (first | apply ra | apply rb | apply rc)); exact HO_650001.out) hb); have n5_ := Aside0.mk (Kd.R_below (by (with_reducible repeat (first | apply ra | apply rb | apply rc)); exact HO_660001.out) hb); have n6_ := Aside0.mk (blk_below (g := gb624) (o := .cells #[.int .i64 t617, .slice Ao13 t618.length co13] 46 (0, 0)) (z22_9) hb); have n7_ := Aside0.mk (blk_below (g := gb630) (o := .cells #[.int .i64 t625, .slice Ao19 t626.length co19] 46 (0, 0)) (z22_10) hb); have n8_ := Aside0.mk (blk_below (g := gb636) (o := .cells #[.int .i64 t631, .slice Ao26 t632.length co26] 46 (0, 0)) (z22_11) hb); have n9_ := Aside0.mk (blk_below (g := gb649) (o := .cells #[.int .i64 t644, .slice Ao88 t645.length co88] 46 (0, 0)) (z22_12) hb); have n10_ := Aside0.mk (blk_below (g := gb659) (o := .cells #[.int .i64 t654, .slice Ao97 t655.length co97] 46 (0, 0)) (z22_13) hb); have n11_ := Aside0.mk (below_step (z22_2) hb); clear HO_6; clear HO_625001; clear HO_631001; clear HO_637001; clear HO_650001; clear HO_660001; clear BK624; clear BK630; clear BK636; clear BK649; clear BK659; clear HB; have HO_6 := n0_; have HO_625001 := n1_; have HO_631001 := n2_; have HO_637001 := n3_; have HO_650001 := n4_; have HO_660001 := n5_; have BK624 := n6_; have BK630 := n7_; have BK636 := n8_; have BK649 := n9_; have BK659 := n10_; have HB := n11_; clear n0_ n1_ n2_ n3_ n4_ n5_ n6_ n7_ n8_ n9_ n10_ n11_; (try clear hb); (try clear hb2); (try clear hk); (try clear hi)))
                 go_ret
                 exact ⟨by first | rfl | (simp [errW_none, errW_some] <;> rfl) | (simp only [← hji75]; first | rfl | (simp [errW_none, errW_some] <;> rfl)) | (simp [*, errW_none, errW_some] <;> rfl), by repeat (first | (with_reducible first | exact HB.out | apply below_alloc | apply pw_below_drewN | apply below_drew1 | refine below_set ?_ GE624.out | refine below_set ?_ GE630.out | refine below_set ?_ GE636.out | refine below_set ?_ GE649.out | refine below_set ?_ GE659.out) | exact HB.out)⟩
                ·rw [if_neg c141] at H
                 have c141b0 : decide (x16_3 ≤ t629) = false := decide_eq_false c141
                 clear c141
                 exact absurd ((Option.some.inj H).trans hT) (by simp)
               ·rw [if_neg c140] at H
                have c140b0 : ((wrap64 (t648 + t658)) == t629) = false := beq_eq_false_iff_ne.mpr c140
                have c140b1 : ((wrap64 (t648 + t658)) != t629) = true := bne_iff_ne.mpr c140
                exact absurd ((Option.some.inj H).trans hT) (by simp)
              ·replace c139 := Bool.eq_false_iff.mpr c139
               subst c139
               have H1 : (some false) = some r := by rw [if_neg (show ¬ (false = true) by decide)] at H; exact H
               clear H
               have H := H1
               clear H1
               exact absurd ((Option.some.inj H).trans hT) (by simp)
             ·replace c137 := Bool.eq_false_iff.mpr c137
              subst c137
              have H1 : (some false) = some r := by rw [if_neg (show ¬ (false = true) by decide)] at H; exact H
              clear H
              have H := H1
              clear H1
              exact absurd ((Option.some.inj H).trans hT) (by simp)
         ·rw [if_neg c77] at H
          exact absurd H (by simp)
        ·rw [if_neg c76] at H
         exact absurd H (by simp)

/-- THE ONE PURE STATEMENT of laws_FnPoolAll: yours. -/
theorem laws_FnPoolAll.walk (P : laws_FnPoolAll.Pure) (a0 : Option Addr) (len0 cap0 : Nat) (z0 : List Int) (a1 : Option Addr) (len1 cap1 : Nat) (z1 : List Int) (w : World) (w0 : (a0 = none ∧ len0 = 0 ∧ cap0 = 0 ∧ z0 = []) ∨ ∃ x, a0 = some x ∧ len0 ≤ cap0 ∧ cap0 ≤ maxLen ∧ z0.length = cap0 ∧ (∀ i, i < z0.length → w.cell? (x.add i) = some (.int .u8 (z0.getD i 0))) ∧ ∀ n ∈ z0, (Lit.int .u8 n).wf = true) (y0 : len0 * 1 ≤ 140737488351232) (w1 : (a1 = none ∧ len1 = 0 ∧ cap1 = 0 ∧ z1 = []) ∨ ∃ x, a1 = some x ∧ len1 ≤ cap1 ∧ cap1 ≤ maxLen ∧ z1.length = cap1 ∧ (∀ i, i < z1.length → w.cell? (x.add i) = some (.int .u8 (z1.getD i 0))) ∧ ∀ n ∈ z1, (Lit.int .u8 n).wf = true) (y1 : len1 * 1 ≤ 140737488351232) :
  Calls Try.prog 12 #[.slice a0 len0 cap0, .slice a1 len1 cap1] w fun e w' => e = .returned (.bool true) ∧ Below w.heap.size w w' := by
 obtain ⟨l0, rfl, hr0, hm0, hw0, hc0⟩ := ReadsInt.ofRowC w0
 obtain ⟨l1, rfl, hr1, hm1, hw1, hc1⟩ := ReadsInt.ofRowC w1
 obtain ⟨k, h⟩ := P l0 l1 hm0 y0 hw0 hm1 y1 hw1
 refine (laws_FnPoolAll.calls k _ _ l0 _ _ l1 true w (Kd.C_of_reads (d := (0 : Int)) (h1 := fun _ => rfl) hr0) hc0 (Kd.C_of_reads (d := (0 : Int)) (h1 := fun _ => rfl) hr1) hc1 rfl h).mono ?_
 rintro e w' ⟨rfl, hd⟩
 exact ⟨rfl, hd⟩

end Go.Proofs.Ytcobbpghipeoeaa.R
