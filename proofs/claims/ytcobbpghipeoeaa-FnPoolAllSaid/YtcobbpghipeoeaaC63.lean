/- Contracts of Go functions, printed by a program (the kit's print.py under reprint.py) and shortened (post.py): each call comes to what the plain function of its name tells. Where that tells nothing, nothing is said. -/
import Derived.Test.YtcobbpghipeoeaaR0
import Derived.Test.YtcobbpghipeoeaaR1
import Derived.Test.YtcobbpghipeoeaaF
import Derived.Test.YtcobbpghipeoeaaC55
import Derived.Test.YtcobbpghipeoeaaC60
import Derived.Test.YtcobbpghipeoeaaC59
import Derived.Test.YtcobbpghipeoeaaC61
namespace Go.Proofs.Ytcobbpghipeoeaa.R
open Go.RowKit Go.Proofs.YtcobbpghipeoeaaV.PrintWords Go.Proofs.YtcobbpghipeoeaaV.PrintLast Go.Proofs.YtcobbpghipeoeaaV.PrintMore
attribute [local go_sem] max2_int min2_int max_two min_two max_three min_three max_four min_four   -- for this text's walks alone
set_option linter.unusedVariables false
set_option linter.unusedSimpArgs false


def spec_l5Pool.T2 : Bool × List (List Nat × List Nat) := (true, [([], []), ([], []), ([1], [1]), ([0, 2, 2], [0, 2]), ([3], [3]), ([4], [4]), ([4], [4]), ([5, 3, 0, 1, 2, 3, 4, 5], [5])])
def spec_l5Pool.B2 : List Nat := [0, 0, 2, 7, 15, 31, 31, 63]
theorem spec_l5Pool.tab2 : rtab .any (opsOf Try.f63 2) = spec_l5Pool.T2 := by kernel_rfl
theorem spec_l5Pool.bits2 : waitsOk spec_l5Pool.T2.2 spec_l5Pool.B2 = true := by kernel_rfl
set_option maxHeartbeats 8000000 in
set_option maxRecDepth 100000 in
theorem spec_l5Pool.calls (k : Nat) (g : Nat) (s0_0 : List Int) (s0_1 : Int) (r1 : Int) (r2 : List (S25)) (r3 : Int) (w0 w : World) (hI : IsS81 w0 w g s0_0 s0_1) (hB : Below w0.heap.size w0 w) (h : spec_l5Pool.f k s0_0 s0_1 = some (r1, r2, r3)) :
  Calls Try.prog 63 #[.pointer (some ⟨g, 0, none⟩)] w fun e w' => ∃ v1_ : Value, e = .returned (.agg #[.int .i64 r1, v1_]) ∧ Kd.R k25 25 w' w.heap.size (fun _ => True) v1_ r2 ∧ IsS81 w0 w' g s0_0 r3 ∧ Below w0.heap.size w0 w' ∧ KeepBut w w' g none := by
 have hu46 := Try.underlying46
 have hu25 := Try.underlying25
 have HI0 := Aside0.mk hI
 have HK := Aside0.mk (KeepBut.refl w g none)
 have HL := Aside0.mk hB.size
 clear hI
 have HW0 := Aside0.mk hB.size
 have HB := Aside0.mk hB
 clear hB
 have H : ((spec_l9Rd_num.f k s0_0 s0_1 (([2, 3, 4, 1, 0, 6, 12] : List Int))).bind fun bt413 => ((spec_l5Pages.f k s0_0 bt413.2).bind fun bt416 => ((spec_l5All.f k bt413.1 ([] : List (S25)) bt416.1).bind fun bt420 => ((spec_l9Rd_pick.f k s0_0 bt416.2 40).bind fun bt425 => (if bt425.1 = 0 then ((spec_l9Rd_num.f k s0_0 bt425.2 (([(-1), 13, wrap64 (bt420.1 - 1)] : List Int))).bind fun bt430 => (some (bt430.1, bt420.2.1, bt430.2))) else (if bt425.1 = 1 then (if bt420.2.1.length + bt420.2.1.length < 8796093022208 then (some (bt420.1, (bt420.2.1 ++ bt420.2.1), bt425.2)) else (none)) else (if bt425.1 = 2 then (if bt420.2.1.length < 8796093022208 then (some (bt420.1, (bt420.2.1 ++ [(⟨9, 0⟩ : S25)]), bt425.2)) else (none)) else (some (bt420.1, bt420.2.1, bt425.2))))))))) = some (r1, r2, r3) := h
 clear h
 obtain ⟨y410, hy410⟩ : ∃ y_ : List Int, y_ = (([2, 3, 4, 1, 0, 6, 12] : List Int)) := ⟨_, rfl⟩
 replace H : ((spec_l9Rd_num.f k s0_0 s0_1 y410).bind fun bt413 => ((spec_l5Pages.f k s0_0 bt413.2).bind fun bt416 => ((spec_l5All.f k bt413.1 ([] : List (S25)) bt416.1).bind fun bt420 => ((spec_l9Rd_pick.f k s0_0 bt416.2 40).bind fun bt425 => (if bt425.1 = 0 then ((spec_l9Rd_num.f k s0_0 bt425.2 (([(-1), 13, wrap64 (bt420.1 - 1)] : List Int))).bind fun bt430 => (some (bt430.1, bt420.2.1, bt430.2))) else (if bt425.1 = 1 then (if bt420.2.1.length + bt420.2.1.length < 8796093022208 then (some (bt420.1, (bt420.2.1 ++ bt420.2.1), bt425.2)) else (none)) else (if bt425.1 = 2 then (if bt420.2.1.length < 8796093022208 then (some (bt420.1, (bt420.2.1 ++ [(⟨9, 0⟩ : S25)]), bt425.2)) else (none)) else (some (bt420.1, bt420.2.1, bt425.2))))))))) = some (r1, r2, r3) := by first | (rw [hy410]; with_reducible exact H) | (have H2_ := (Option.bind_some _ _).symm.trans H; rw [hy410]; with_reducible exact H2_) | (have H2_ := (Option.bind_some _ _).symm.trans H; with_reducible exact H2_) | with_reducible exact H | (rw [hy410]; exact H) | exact H
 have Ny410 := Aside0.mk hy410
 clear hy410
 replace H := Option.bind_eq_some_iff.mp H
 obtain ⟨⟨t413, t414⟩, A20, H⟩ := H
 replace H : ((spec_l5Pages.f k s0_0 t414).bind fun bt416 => ((spec_l5All.f k t413 ([] : List (S25)) bt416.1).bind fun bt420 => ((spec_l9Rd_pick.f k s0_0 bt416.2 40).bind fun bt425 => (if bt425.1 = 0 then ((spec_l9Rd_num.f k s0_0 bt425.2 (([(-1), 13, wrap64 (bt420.1 - 1)] : List Int))).bind fun bt430 => (some (bt430.1, bt420.2.1, bt430.2))) else (if bt425.1 = 1 then (if bt420.2.1.length + bt420.2.1.length < 8796093022208 then (some (bt420.1, (bt420.2.1 ++ bt420.2.1), bt425.2)) else (none)) else (if bt425.1 = 2 then (if bt420.2.1.length < 8796093022208 then (some (bt420.1, (bt420.2.1 ++ [(⟨9, 0⟩ : S25)]), bt425.2)) else (none)) else (some (bt420.1, bt420.2.1, bt425.2)))))))) = some (r1, r2, r3) := H
 have A2 := Aside0.mk A20
 clear A20
 replace H := Option.bind_eq_some_iff.mp H
 obtain ⟨⟨t416, t419⟩, A30, H⟩ := H
 replace H : ((spec_l5All.f k t413 ([] : List (S25)) t416).bind fun bt420 => ((spec_l9Rd_pick.f k s0_0 t419 40).bind fun bt425 => (if bt425.1 = 0 then ((spec_l9Rd_num.f k s0_0 bt425.2 (([(-1), 13, wrap64 (bt420.1 - 1)] : List Int))).bind fun bt430 => (some (bt430.1, bt420.2.1, bt430.2))) else (if bt425.1 = 1 then (if bt420.2.1.length + bt420.2.1.length < 8796093022208 then (some (bt420.1, (bt420.2.1 ++ bt420.2.1), bt425.2)) else (none)) else (if bt425.1 = 2 then (if bt420.2.1.length < 8796093022208 then (some (bt420.1, (bt420.2.1 ++ [(⟨9, 0⟩ : S25)]), bt425.2)) else (none)) else (some (bt420.1, bt420.2.1, bt425.2))))))) = some (r1, r2, r3) := H
 have A3 := Aside0.mk A30
 clear A30
 replace H := Option.bind_eq_some_iff.mp H
 obtain ⟨⟨t420, t421, t424⟩, A40, H⟩ := H
 replace H : ((spec_l9Rd_pick.f k s0_0 t419 40).bind fun bt425 => (if bt425.1 = 0 then ((spec_l9Rd_num.f k s0_0 bt425.2 (([(-1), 13, wrap64 (t420 - 1)] : List Int))).bind fun bt430 => (some (bt430.1, t421, bt430.2))) else (if bt425.1 = 1 then (if t421.length + t421.length < 8796093022208 then (some (t420, (t421 ++ t421), bt425.2)) else (none)) else (if bt425.1 = 2 then (if t421.length < 8796093022208 then (some (t420, (t421 ++ [(⟨9, 0⟩ : S25)]), bt425.2)) else (none)) else (some (t420, t421, bt425.2)))))) = some (r1, r2, r3) := H
 have A4 := Aside0.mk A40
 clear A40
 replace H := Option.bind_eq_some_iff.mp H
 obtain ⟨⟨t425, t426⟩, A50, H⟩ := H
 replace H : (if t425 = 0 then ((spec_l9Rd_num.f k s0_0 t426 (([(-1), 13, wrap64 (t420 - 1)] : List Int))).bind fun bt430 => (some (bt430.1, t421, bt430.2))) else (if t425 = 1 then (if t421.length + t421.length < 8796093022208 then (some (t420, (t421 ++ t421), t426)) else (none)) else (if t425 = 2 then (if t421.length < 8796093022208 then (some (t420, (t421 ++ [(⟨9, 0⟩ : S25)]), t426)) else (none)) else (some (t420, t421, t426))))) = some (r1, r2, r3) := H
 have A5 := Aside0.mk A50
 clear A50
 by_cases c6 : t425 = 0
 ·rw [if_pos c6] at H
  have c6b0 : (t425 == 0) = true := beq_iff_eq.mpr c6
  have c6b1 : (t425 != 0) = false := bne_eq_false_iff_eq.mpr c6
  clear c6
  obtain ⟨y427, hy427⟩ : ∃ y_ : List Int, y_ = (([(-1), 13, wrap64 (t420 - 1)] : List Int)) := ⟨_, rfl⟩
  replace H : ((spec_l9Rd_num.f k s0_0 t426 y427).bind fun bt430 => (some (bt430.1, t421, bt430.2))) = some (r1, r2, r3) := by first | (rw [hy427]; with_reducible exact H) | (have H2_ := (Option.bind_some _ _).symm.trans H; rw [hy427]; with_reducible exact H2_) | (have H2_ := (Option.bind_some _ _).symm.trans H; with_reducible exact H2_) | with_reducible exact H | (rw [hy427]; exact H) | exact H
  have Ny427 := Aside0.mk hy427
  clear hy427
  replace H := Option.bind_eq_some_iff.mp H
  obtain ⟨⟨t430, t431⟩, A70, H⟩ := H
  replace H : (some (t430, t421, t431)) = some (r1, r2, r3) := H
  have A7 := Aside0.mk A70
  clear A70
  simp only [Option.some.injEq, Prod.mk.injEq] at H
  obtain ⟨rfl, rfl, rfl⟩ := H
  go_enter Try.func63, Try.ntmps63
  try go_wp2_with (first | ((with_reducible refine gate_dst (N := 2) rfl ?_); refine box_event ?hg (N := 2) ?hd (cs := #[.int .i64 0, .slice none 0 0]) (t := 46) ?hr ?_; (case hd => rfl); (case hg => rfl); (case hr => first | (go_simp; done) | (go_simp; rfl)); intro gb409 hg w8 hbox hb; have n0_ := Aside0.mk (IsS81.below (by repeat (first | (with_reducible first | exact HI0.out | apply IsS81.alloc | apply IsS81.drewN | apply IsS81.drew | apply IsS81.set_1) | exact HI0.out)) hb); have n1_ := Aside0.mk (KeepBut.trans (by repeat (first | (with_reducible first | exact HK.out | apply KeepBut.set_ | apply keep_drewN | apply keep_drew | apply keep_alloc) | exact HK.out)) (KeepBut.of_below hb g none) (.inl rfl)); have n2_ := Aside0.mk (below_step (by repeat (first | (with_reducible first | exact HB.out | apply below_alloc | apply pw_below_drewN | apply below_drew1 | refine below_set ?_ (IsS81.ge HI0.out)) | exact HB.out)) hb); have n3_ := Aside0.mk (hbox); have n4_ := Aside0.mk ((by rw [hg]; exact (keep_size (w := w) (g := g) (row := none) (by repeat (first | (with_reducible first | exact HK.out | apply KeepBut.set_ | apply keep_drewN | apply keep_drew | apply keep_alloc) | exact HK.out))) : w.heap.size ≤ gb409)); have n5_ := Aside0.mk ((Nat.le_trans HW0.out (by rw [hg]; exact (keep_size (w := w) (g := g) (row := none) (by repeat (first | (with_reducible first | exact HK.out | apply KeepBut.set_ | apply keep_drewN | apply keep_drew | apply keep_alloc) | exact HK.out))) : w.heap.size ≤ gb409) : w0.heap.size ≤ gb409)); have n6_ := Aside0.mk ((by rw [hg]; exact Nat.ne_of_lt (IsS81.lt (show IsS81 w0 _ g s0_0 s0_1 from by repeat (first | (with_reducible first | exact HI0.out | apply IsS81.alloc | apply IsS81.drewN | apply IsS81.drew | apply IsS81.set_1) | exact HI0.out))) : g ≠ gb409)); have n7_ := Aside0.mk ((by rw [hg]; exact Nat.ne_of_gt (IsS81.lt (show IsS81 w0 _ g s0_0 s0_1 from by repeat (first | (with_reducible first | exact HI0.out | apply IsS81.alloc | apply IsS81.drewN | apply IsS81.drew | apply IsS81.set_1) | exact HI0.out))) : gb409 ≠ g)); clear HI0; clear HK; clear HB; have HI0 := n0_; have HK := n1_; have HB := n2_; have BK409 := n3_; have GW409 := n4_; have GE409 := n5_; have NB0_409 := n6_; have NB409_0 := n7_; clear n0_ n1_ n2_ n3_ n4_ n5_ n6_ n7_; clear hb hbox hg) | ((with_reducible refine gate_dst (N := 5) rfl ?_); refine Kd.R_lit (Kd.int .i64) _ 3 ?hg (N := 5) ?hd (xs := ([2, 3, 4, 1, 0, 6, 12] : List Int)) (inner := [.int .i64 2, .int .i64 3, .int .i64 4, .int .i64 1, .int .i64 0, .int .i64 6, .int .i64 12]) (ok := fun _ => True) (okp := fun _ => True) ?hr ?hp (fun _ hk => hk) trivial (Below.refl _ _) (Nat.le_refl _) (by simp) ?_; (case hd => rfl); (case hg => rfl); (case hr => first | (go_simp; done) | (go_simp; rfl)); (case hp => exact (Reps.one (show Kd.M (Kd.int .i64) _ _ _ 2 [.int .i64 2] from rfl) (Reps.one (show Kd.M (Kd.int .i64) _ _ _ 3 [.int .i64 3] from rfl) (Reps.one (show Kd.M (Kd.int .i64) _ _ _ 4 [.int .i64 4] from rfl) (Reps.one (show Kd.M (Kd.int .i64) _ _ _ 1 [.int .i64 1] from rfl) (Reps.one (show Kd.M (Kd.int .i64) _ _ _ 0 [.int .i64 0] from rfl) (Reps.one (show Kd.M (Kd.int .i64) _ _ _ 6 [.int .i64 6] from rfl) (Reps.one (show Kd.M (Kd.int .i64) _ _ _ 12 [.int .i64 12] from rfl) (Reps.none _ _))))))))); intro v411 w9 ho10 hb hg_ hnew_; clear hg_ hnew_; (first | rw [← Ny410.out] at ho10 | (simp only [Int.reduceToNat] at ho10; rw [← Ny410.out] at ho10)); have n0_ := Aside0.mk (Kd.R_lower ho10 (keep_size (w := w) (g := g) (row := none) (by repeat (first | (with_reducible first | exact HK.out | apply KeepBut.set_ | apply keep_drewN | apply keep_drew | apply keep_alloc | refine keep_far ?_ GW409.out _) | exact HK.out)))); have n1_ := Aside0.mk (IsS81.below (by repeat (first | (with_reducible first | exact HI0.out | apply IsS81.alloc | apply IsS81.drewN | apply IsS81.drew | apply IsS81.set_1 | refine IsS81.far ?_ NB0_409.out _) | exact HI0.out)) hb); have n2_ := Aside0.mk (blk_below (g := gb409) (o := .cells #[.int .i64 0, .slice none 0 0] 46 (0, 0)) (by (with_reducible repeat (first | refine ba ?_ _ | refine bb ?_ | refine bc ?_ _)); exact BK409.out) hb); have n3_ := Aside0.mk (KeepBut.trans (by repeat (first | (with_reducible first | exact HK.out | apply KeepBut.set_ | apply keep_drewN | apply keep_drew | apply keep_alloc | refine keep_far ?_ GW409.out _) | exact HK.out)) (KeepBut.of_below hb g none) (.inl rfl)); have n4_ := Aside0.mk (below_step (by repeat (first | (with_reducible first | exact HB.out | apply below_alloc | apply pw_below_drewN | apply below_drew1 | refine below_set ?_ (IsS81.ge HI0.out) | refine below_set ?_ GE409.out) | exact HB.out)) hb); clear HI0; clear BK409; clear HK; clear HB; have HO412 := n0_; have HI0 := n1_; have BK409 := n2_; have HK := n3_; have HB := n4_; clear n0_ n1_ n2_ n3_ n4_; clear hb ho10; obtain ⟨Ao11, co11, eo11⟩ := Kd.R_slice HO412.out; subst eo11) | ((with_reducible refine gate_callee (f := 55) rfl ?_); refine goesL_ (some 6) rfl rfl Try.func55 (by kernel_rfl) rfl #[.pointer (some ⟨g, 0, none⟩), .slice Ao11 y410.length co11] rfl (by (try simp only [List.map_toArray, List.map_cons, List.map_nil]); first | done | rfl | (simp only [List.length_drop, List.length_take]; rfl)) ?_; (with_reducible refine (spec_l9Rd_num.calls k g s0_0 s0_1 _ _ y410 t413 t414 w0 _ ?side1 ?side2 ?side3 ?side4 ?side5 A2.out).mono ?_); (case side1 => repeat (first | (with_reducible first | exact HI0.out | apply IsS81.alloc | apply IsS81.drewN | apply IsS81.drew | apply IsS81.set_1 | refine IsS81.far ?_ NB0_409.out _) | exact HI0.out)); (case side2 => repeat (first | (with_reducible first | exact HB.out | apply below_alloc | apply pw_below_drewN | apply below_drew1 | refine below_set ?_ (IsS81.ge HI0.out) | refine below_set ?_ GE409.out) | exact HB.out)); (case side3 => repeat (first | exact (Kd.R_reads' HO412.out).2.2 | (with_reducible refine Kd.C_alloc ?_ _) | (with_reducible refine Kd.C_drewN ?_ _) | (with_reducible refine Kd.C_drew ?_))); (case side4 => exact (Kd.R_reads' HO412.out).2.1); (case side5 => exact far_slice (IsS81.own_ne HI0.out HO412.out (by decide))); rintro e w12 ⟨rfl, hi, hb, hk⟩; refine ⟨_, rfl, ?_⟩; have n0_ := Aside0.mk (KeepBut.blk hk (g' := gb409) (o := .cells #[.int .i64 0, .slice none 0 0] 46 (0, 0)) (by (with_reducible repeat (first | refine ba ?_ _ | refine bb ?_ | refine bc ?_ _)); exact BK409.out) NB409_0.out (by simp)); have n1_ := Aside0.mk (Kd.R_mono (Kd.R_keep (IsS81.apart (show IsS81 w0 _ g s0_0 s0_1 from by repeat (first | (with_reducible first | exact HI0.out | apply IsS81.alloc | apply IsS81.drewN | apply IsS81.drew | apply IsS81.set_1 | refine IsS81.far ?_ NB0_409.out _) | exact HI0.out)) (by (with_reducible repeat (first | apply ra | apply rb | apply rc)); exact HO412.out) (by decide)) hk (fun _ h => h.2)) (fun _ h => h.1)); have n2_ := Aside0.mk (KeepBut.trans (by repeat (first | (with_reducible first | exact HK.out | apply KeepBut.set_ | apply keep_drewN | apply keep_drew | apply keep_alloc | refine keep_far ?_ GW409.out _) | exact HK.out)) hk (.inl rfl)); have n3_ := Aside0.mk (hb); have n4_ := Aside0.mk (hi); clear BK409; clear HO412; clear HK; clear HB; clear HI0; have BK409 := n0_; have HO412 := n1_; have HK := n2_; have HB := n3_; have HI0 := n4_; clear n0_ n1_ n2_ n3_ n4_; (try clear hb); (try clear hb2); (try clear hk); (try clear hi)) | ((with_reducible refine gate_dst (N := 3) rfl ?_); refine box_event ?hg (N := 3) ?hd (cs := #[.int .i64 0, .slice none 0 0]) (t := 46) ?hr ?_; (case hd => rfl); (case hg => rfl); (case hr => first | (go_simp; done) | (go_simp; rfl)); intro gb415 hg w13 hbox hb; have n0_ := Aside0.mk (Kd.R_below (by (with_reducible repeat (first | apply ra | apply rb | apply rc)); exact HO412.out) hb); have n1_ := Aside0.mk (IsS81.below (by repeat (first | (with_reducible first | exact HI0.out | apply IsS81.alloc | apply IsS81.drewN | apply IsS81.drew | apply IsS81.set_1 | refine IsS81.far ?_ NB0_409.out _) | exact HI0.out)) hb); have n2_ := Aside0.mk (blk_below (g := gb409) (o := .cells #[.int .i64 0, .slice none 0 0] 46 (0, 0)) (by (with_reducible repeat (first | refine ba ?_ _ | refine bb ?_ | refine bc ?_ _)); exact BK409.out) hb); have n3_ := Aside0.mk (KeepBut.trans (by repeat (first | (with_reducible first | exact HK.out | apply KeepBut.set_ | apply keep_drewN | apply keep_drew | apply keep_alloc | refine keep_far ?_ GW409.out _) | exact HK.out)) (KeepBut.of_below hb g none) (.inl rfl)); have n4_ := Aside0.mk (below_step (by repeat (first | (with_reducible first | exact HB.out | apply below_alloc | apply pw_below_drewN | apply below_drew1 | refine below_set ?_ (IsS81.ge HI0.out) | refine below_set ?_ GE409.out) | exact HB.out)) hb); have n5_ := Aside0.mk (hbox); have n6_ := Aside0.mk ((by rw [hg]; exact (keep_size (w := w) (g := g) (row := none) (by repeat (first | (with_reducible first | exact HK.out | apply KeepBut.set_ | apply keep_drewN | apply keep_drew | apply keep_alloc | refine keep_far ?_ GW409.out _) | exact HK.out))) : w.heap.size ≤ gb415)); have n7_ := Aside0.mk ((Nat.le_trans HW0.out (by rw [hg]; exact (keep_size (w := w) (g := g) (row := none) (by repeat (first | (with_reducible first | exact HK.out | apply KeepBut.set_ | apply keep_drewN | apply keep_drew | apply keep_alloc | refine keep_far ?_ GW409.out _) | exact HK.out))) : w.heap.size ≤ gb415) : w0.heap.size ≤ gb415)); have n8_ := Aside0.mk ((by rw [hg]; exact Nat.ne_of_lt (blk_lt (g := gb409) (o := .cells #[.int .i64 0, .slice none 0 0] 46 (0, 0)) (by (with_reducible repeat (first | refine ba ?_ _ | refine bb ?_ | refine bc ?_ _)); exact BK409.out)) : gb409 ≠ gb415)); have n9_ := Aside0.mk ((by rw [hg]; exact Nat.ne_of_gt (blk_lt (g := gb409) (o := .cells #[.int .i64 0, .slice none 0 0] 46 (0, 0)) (by (with_reducible repeat (first | refine ba ?_ _ | refine bb ?_ | refine bc ?_ _)); exact BK409.out)) : gb415 ≠ gb409)); have n10_ := Aside0.mk ((by rw [hg]; exact Nat.ne_of_lt (IsS81.lt (show IsS81 w0 _ g s0_0 t414 from by repeat (first | (with_reducible first | exact HI0.out | apply IsS81.alloc | apply IsS81.drewN | apply IsS81.drew | apply IsS81.set_1 | refine IsS81.far ?_ NB0_409.out _) | exact HI0.out))) : g ≠ gb415)); have n11_ := Aside0.mk ((by rw [hg]; exact Nat.ne_of_gt (IsS81.lt (show IsS81 w0 _ g s0_0 t414 from by repeat (first | (with_reducible first | exact HI0.out | apply IsS81.alloc | apply IsS81.drewN | apply IsS81.drew | apply IsS81.set_1 | refine IsS81.far ?_ NB0_409.out _) | exact HI0.out))) : gb415 ≠ g)); clear HO412; clear HI0; clear BK409; clear HK; clear HB; have HO412 := n0_; have HI0 := n1_; have BK409 := n2_; have HK := n3_; have HB := n4_; have BK415 := n5_; have GW415 := n6_; have GE415 := n7_; have NB409_415 := n8_; have NB415_409 := n9_; have NB0_415 := n10_; have NB415_0 := n11_; clear n0_ n1_ n2_ n3_ n4_ n5_ n6_ n7_ n8_ n9_ n10_ n11_; clear hb hbox hg; have hnb14 := NB415_409.out; have hnc14 := NB409_415.out; have hnb15 := NB415_0.out; have hnc15 := NB0_415.out; have hcz16_0 : w13.cell? ⟨gb415, 0, none⟩ = some (.int .i64 0) := (blk_cell BK415.out 0).trans rfl; have hcz16_1 : w13.cell? ⟨gb415, 1, none⟩ = some (.slice none 0 0) := (blk_cell BK415.out 1).trans rfl; have hfz16_0 := blk_frozen BK415.out 0; have hfz16_1 := blk_frozen BK415.out 1))
  have n0_ : Aside0 (Kd.R (Kd.int .i64) 3 ((w13.setCell ⟨gb415, 0, none⟩ (.int .i64 t413)).setCell ⟨gb415, 1, none⟩ (.slice none 0 0)) w.heap.size (fun _ => True) (.slice Ao11 y410.length co11) y410) := ⟨by (with_reducible repeat (first | apply ra | apply rb | apply rc)); exact Kd.R_mono (Kd.R_far (p := ⟨gb415, 1, none⟩) (Kd.R_far (p := ⟨gb415, 0, none⟩) (Kd.R_types HO412.out BK415.out (by decide)) (fun _ hk => hk.2) (.int .i64 t413)) (fun _ hk => hk.2) (.slice none 0 0)) (fun _ hk => trivial)⟩
  have n1_ : Aside0 (((w13.setCell ⟨gb415, 0, none⟩ (.int .i64 t413)).setCell ⟨gb415, 1, none⟩ (.slice none 0 0)).heap[gb409]? = some (.cells #[.int .i64 0, .slice none 0 0] 46 (0, 0))) := ⟨by (with_reducible repeat (first | refine ba ?_ _ | refine bb ?_ | refine bc ?_ _)); refine blk_far ?_ NB409_415.out _; (with_reducible repeat (first | refine ba ?_ _ | refine bb ?_ | refine bc ?_ _)); refine blk_far ?_ NB409_415.out _; (with_reducible repeat (first | refine ba ?_ _ | refine bb ?_ | refine bc ?_ _)); exact BK409.out⟩
  have n2_ : Aside0 (((w13.setCell ⟨gb415, 0, none⟩ (.int .i64 t413)).setCell ⟨gb415, 1, none⟩ (.slice none 0 0)).heap[gb415]? = some (.cells #[.int .i64 t413, .slice none 0 0] 46 (0, 0))) := ⟨by (with_reducible repeat (first | refine ba ?_ _ | refine bb ?_ | refine bc ?_ _)); refine blk_put (cs := #[.int .i64 t413, .slice none 0 0]) ?_ 1 _ rfl; (with_reducible repeat (first | refine ba ?_ _ | refine bb ?_ | refine bc ?_ _)); refine blk_put (cs := #[.int .i64 0, .slice none 0 0]) ?_ 0 _ rfl; (with_reducible repeat (first | refine ba ?_ _ | refine bb ?_ | refine bc ?_ _)); exact BK415.out⟩
  have n3_ : Aside0 (IsS81 w0 ((w13.setCell ⟨gb415, 0, none⟩ (.int .i64 t413)).setCell ⟨gb415, 1, none⟩ (.slice none 0 0)) g s0_0 t414) := ⟨by repeat (first | (with_reducible first | exact HI0.out | apply IsS81.alloc | apply IsS81.drewN | apply IsS81.drew | apply IsS81.set_1 | refine IsS81.far ?_ NB0_409.out _ | refine IsS81.far ?_ NB0_415.out _) | exact HI0.out)⟩
  have n4_ : Aside0 (KeepBut w ((w13.setCell ⟨gb415, 0, none⟩ (.int .i64 t413)).setCell ⟨gb415, 1, none⟩ (.slice none 0 0)) g none) := ⟨by repeat (first | (with_reducible first | exact HK.out | apply KeepBut.set_ | apply keep_drewN | apply keep_drew | apply keep_alloc | refine keep_far ?_ GW409.out _ | refine keep_far ?_ GW415.out _) | exact HK.out)⟩
  have n5_ : Aside0 (Below w0.heap.size w0 ((w13.setCell ⟨gb415, 0, none⟩ (.int .i64 t413)).setCell ⟨gb415, 1, none⟩ (.slice none 0 0))) := ⟨by repeat (first | (with_reducible first | exact HB.out | apply below_alloc | apply pw_below_drewN | apply below_drew1 | refine below_set ?_ (IsS81.ge HI0.out) | refine below_set ?_ GE409.out | refine below_set ?_ GE415.out) | exact HB.out)⟩
  (try clear HO412)
  (try clear BK409)
  (try clear BK415)
  (try clear HI0)
  (try clear HK)
  (try clear HB)
  generalize ((w13.setCell ⟨gb415, 0, none⟩ (.int .i64 t413)).setCell ⟨gb415, 1, none⟩ (.slice none 0 0)) = w17 at n0_ n1_ n2_ n3_ n4_ n5_ ⊢
  have HO412 := n0_
  have BK409 := n1_
  have BK415 := n2_
  have HI0 := n3_
  have HK := n4_
  have HB := n5_
  clear n0_ n1_ n2_ n3_ n4_ n5_
  have n0_ := Aside0.mk (Kd.R_drew HO412.out)
  have n1_ := Aside0.mk (blk_drew BK409.out)
  have n2_ := Aside0.mk (blk_drew BK415.out)
  have n3_ := Aside0.mk (IsS81.drew HI0.out)
  have n4_ := Aside0.mk (keep_drew HK.out)
  have n5_ := Aside0.mk (below_drew1 HB.out)
  clear HO412
  clear BK409
  clear BK415
  clear HI0
  clear HK
  clear HB
  have HO412 := n0_
  have BK409 := n1_
  have BK415 := n2_
  have HI0 := n3_
  have HK := n4_
  have HB := n5_
  clear n0_ n1_ n2_ n3_ n4_ n5_
  refine start_ (n := 8) (S := fun w' => w'.cell? ⟨gb415, 0, none⟩ = some (.int .i64 t413) ∧ w'.cell? ⟨gb415, 1, none⟩ = some (.slice none 0 0)) (ds := [7]) #[false, false, false, false, false, false, false, false] (by kernel_rfl) rfl rfl ⟨(blk_cell BK415.out 0).trans rfl, (blk_cell BK415.out 1).trans rfl⟩ (fun hHeld => ?_); refine with_tabW spec_l5Pool.tab2 spec_l5Pool.bits2 (fun HT_ HW_ => ?_)
  generalize w17.drew = w18 at HO412 BK409 BK415 HI0 HK HB hHeld ⊢
  refine pure_ (i := 1) (N := some 10) (v := ?_) (a' := ?_) #[false, true, false, false, false, false, false, false] rfl rfl (any_of HT_.out (by kernel_rfl)) (fun _ _ _ h => h) (Or.inl ⟨by rfl, ?_⟩) ?_ ?_
  rotate_left
  ·intro w'
   go_simp
   with_reducible rfl
  rotate_left
  ·simp only [Act.put, List.setIfInBounds_toArray, List.set_cons_zero, List.set_cons_succ, i64_w, i32_w]
   rfl
  refine take_ (i := 0) (N := some 9) (v := ?_) (a' := ?_) #[true, true, false, false, false, false, false, false] rfl rfl (take_ofW HT_.out HW_.out (by kernel_rfl)) (fun _ _ _ h => h) (Or.inl ⟨by rfl, ?_⟩) hHeld ?_ ?_
  rotate_left
  ·rintro w' ⟨s0, s1⟩
   go_simp
   with_reducible rfl
  rotate_left
  ·simp only [Act.put, List.setIfInBounds_toArray, List.set_cons_zero, List.set_cons_succ, i64_w, i32_w]
   rfl
  refine one_ (i := 2) (N := some 11) #[true, true, true, false, false, false, false, false] rfl rfl (one_of HT_.out (by kernel_rfl)) (by decide) (fun K hK => ?_)
  refine goes_ Try.func60 (by kernel_rfl) rfl #[.pointer (some ⟨g, 0, none⟩)] (by rfl) rfl rfl (by (try simp only [List.map_toArray, List.map_cons, List.map_nil]); first | done | rfl | (simp only [List.length_drop, List.length_take]; rfl)) ?_
  with_reducible refine (spec_l5Pages.calls k g s0_0 t414 t416 t419 w0 _ ?side1 ?side2 A3.out).mono ?_
  (case side1 => repeat (first | (with_reducible first | exact HI0.out | apply IsS81.alloc | apply IsS81.drewN | apply IsS81.drew | apply IsS81.set_1 | refine IsS81.far ?_ NB0_409.out _ | refine IsS81.far ?_ NB0_415.out _) | exact HI0.out))
  (case side2 => repeat (first | (with_reducible first | exact HB.out | apply below_alloc | apply pw_below_drewN | apply below_drew1 | refine below_set ?_ (IsS81.ge HI0.out) | refine below_set ?_ GE409.out | refine below_set ?_ GE415.out) | exact HB.out))
  rintro e w19 ⟨v417, rfl, ho0, hi, hb, hk⟩
  refine ⟨_, rfl, ?_⟩
  have n0_ := Aside0.mk (KeepBut.blk hk (g' := gb409) (o := .cells #[.int .i64 0, .slice none 0 0] 46 (0, 0)) (by (with_reducible repeat (first | refine ba ?_ _ | refine bb ?_ | refine bc ?_ _)); exact BK409.out) NB409_0.out (by simp))
  have n1_ := Aside0.mk (Kd.R_mono (Kd.R_keep (IsS81.apart (show IsS81 w0 _ g s0_0 t414 from by repeat (first | (with_reducible first | exact HI0.out | apply IsS81.alloc | apply IsS81.drewN | apply IsS81.drew | apply IsS81.set_1 | refine IsS81.far ?_ NB0_409.out _ | refine IsS81.far ?_ NB0_415.out _) | exact HI0.out)) (by (with_reducible repeat (first | apply ra | apply rb | apply rc)); exact HO412.out) (by decide)) hk (fun _ h => h.2)) (fun _ h => h.1))
  have n2_ := Aside0.mk (KeepBut.blk hk (g' := gb415) (o := .cells #[.int .i64 t413, .slice none 0 0] 46 (0, 0)) (by (with_reducible repeat (first | refine ba ?_ _ | refine bb ?_ | refine bc ?_ _)); exact BK415.out) NB415_0.out (by simp))
  have n3_ := Aside0.mk (Kd.R_lower ho0 (keep_size (w := w) (g := g) (row := none) (by repeat (first | (with_reducible first | exact HK.out | apply KeepBut.set_ | apply keep_drewN | apply keep_drew | apply keep_alloc | refine keep_far ?_ GW409.out _ | refine keep_far ?_ GW415.out _) | exact HK.out))))
  have n4_ := Aside0.mk (KeepBut.trans (by repeat (first | (with_reducible first | exact HK.out | apply KeepBut.set_ | apply keep_drewN | apply keep_drew | apply keep_alloc | refine keep_far ?_ GW409.out _ | refine keep_far ?_ GW415.out _) | exact HK.out)) hk (.inl rfl))
  have n5_ := Aside0.mk (hb)
  have n6_ := Aside0.mk (hi)
  clear BK409
  clear HO412
  clear BK415
  clear HK
  clear HB
  clear HI0
  have BK409 := n0_
  have HO412 := n1_
  have BK415 := n2_
  have HO418 := n3_
  have HK := n4_
  have HB := n5_
  have HI0 := n6_
  clear n0_ n1_ n2_ n3_ n4_ n5_ n6_
  (try clear hb)
  (try clear hb2)
  (try clear hk)
  (try clear hi)
  (try clear ho0)
  obtain ⟨Ao20, co20, eo20⟩ := Kd.R_slice HO418.out
  (first | subst eo20 | (injection eo20 with f1_ f2_ f3_; have f4_ := f1_.symm; have f5_ := f3_.symm; clear f1_ f2_ f3_; subst f4_; subst f5_))
  refine hK.out _ _ ⟨(blk_cell BK415.out 0).trans rfl, (blk_cell BK415.out 1).trans rfl⟩ (fun hHeld => ?_)
  clear hK K
  refine norm_ (a' := ?_) ?_ ?_
  rotate_left
  ·show Act.put _ (some 11) _ = _
   simp only [Act.put, List.setIfInBounds_toArray, List.set_cons_zero, List.set_cons_succ, i64_w, i32_w]
   rfl
  refine one_ (i := 3) (N := some 12) #[true, true, true, true, false, false, false, false] rfl rfl (one_of HT_.out (by kernel_rfl)) (by decide) (fun K hK => ?_)
  refine goes_ Try.func59 (by kernel_rfl) rfl #[.agg #[.int .i64 t413, .slice none 0 0], .slice Ao20 t416.length co20] (by rfl) rfl rfl (by (try simp only [List.map_toArray, List.map_cons, List.map_nil]); first | done | rfl | (simp only [List.length_drop, List.length_take]; rfl)) ?_
  refine (spec_l5All.calls k t413 (fun k_ => False) _ _ ([] : List (S25)) _ _ t416 t420 t421 t424 _ ?side1 ?side2 ?side3 A4.out).mono ?_
  (case side1 => exact Kd.V_nil _ _ _ _ _)
  (case side2 => repeat (first | exact (Kd.R_reads' HO418.out).2.2 | (with_reducible refine Kd.C_alloc ?_ _) | (with_reducible refine Kd.C_drewN ?_ _) | (with_reducible refine Kd.C_drew ?_)))
  (case side3 => exact (Kd.R_reads' HO418.out).2.1)
  rintro e w21 ⟨v422, rfl, ho0, hb⟩
  refine ⟨_, rfl, ?_⟩
  have n0_ := Aside0.mk (Kd.R_below (by (with_reducible repeat (first | apply ra | apply rb | apply rc)); exact HO412.out) hb)
  have n1_ := Aside0.mk (Kd.R_elder' (by (with_reducible repeat (first | apply ra | apply rb | apply rc)); exact HO418.out) (Kd.R_base ho0) hb)
  have n2_ := Aside0.mk (Kd.R_lower (Kd.R_new' (Kd.R_mono (ok' := fun k_ => True) ho0 (fun _ hk_ => trivial)) (Kd.R_lt (by (with_reducible repeat (first | apply ra | apply rb | apply rc)); exact HO418.out))) (keep_size (w := w) (g := g) (row := none) (by repeat (first | (with_reducible first | exact HK.out | apply KeepBut.set_ | apply keep_drewN | apply keep_drew | apply keep_alloc | refine keep_far ?_ GW409.out _ | refine keep_far ?_ GW415.out _) | exact HK.out))))
  have n3_ := Aside0.mk (IsS81.below (by repeat (first | (with_reducible first | exact HI0.out | apply IsS81.alloc | apply IsS81.drewN | apply IsS81.drew | apply IsS81.set_1 | refine IsS81.far ?_ NB0_409.out _ | refine IsS81.far ?_ NB0_415.out _) | exact HI0.out)) hb)
  have n4_ := Aside0.mk (blk_below (g := gb409) (o := .cells #[.int .i64 0, .slice none 0 0] 46 (0, 0)) (by (with_reducible repeat (first | refine ba ?_ _ | refine bb ?_ | refine bc ?_ _)); exact BK409.out) hb)
  have n5_ := Aside0.mk (blk_below (g := gb415) (o := .cells #[.int .i64 t413, .slice none 0 0] 46 (0, 0)) (by (with_reducible repeat (first | refine ba ?_ _ | refine bb ?_ | refine bc ?_ _)); exact BK415.out) hb)
  have n6_ := Aside0.mk (KeepBut.trans (by repeat (first | (with_reducible first | exact HK.out | apply KeepBut.set_ | apply keep_drewN | apply keep_drew | apply keep_alloc | refine keep_far ?_ GW409.out _ | refine keep_far ?_ GW415.out _) | exact HK.out)) (KeepBut.of_below hb g none) (.inl rfl))
  have n7_ := Aside0.mk (below_step (by repeat (first | (with_reducible first | exact HB.out | apply below_alloc | apply pw_below_drewN | apply below_drew1 | refine below_set ?_ (IsS81.ge HI0.out) | refine below_set ?_ GE409.out | refine below_set ?_ GE415.out) | exact HB.out)) hb)
  clear HO412
  clear HO418
  clear HI0
  clear BK409
  clear BK415
  clear HK
  clear HB
  have HO412 := n0_
  have HO418 := n1_
  have HO423 := n2_
  have HI0 := n3_
  have BK409 := n4_
  have BK415 := n5_
  have HK := n6_
  have HB := n7_
  clear n0_ n1_ n2_ n3_ n4_ n5_ n6_ n7_
  (try clear hb)
  (try clear hb2)
  (try clear hk)
  (try clear hi)
  (try clear ho0)
  obtain ⟨Ao23, co23, eo23⟩ := Kd.R_slice HO423.out
  (first | subst eo23 | (injection eo23 with f1_ f2_ f3_; have f4_ := f1_.symm; have f5_ := f3_.symm; clear f1_ f2_ f3_; subst f4_; subst f5_))
  refine hK.out _ _ ⟨(blk_cell BK415.out 0).trans rfl, (blk_cell BK415.out 1).trans rfl⟩ (fun hHeld => ?_)
  clear hK K
  refine norm_ (a' := ?_) ?_ ?_
  rotate_left
  ·show Act.put _ (some 12) _ = _
   simp only [Act.put, List.setIfInBounds_toArray, List.set_cons_zero, List.set_cons_succ, i64_w, i32_w]
   rfl
  refine pure_ (i := 4) (N := some 8) (v := ?_) (a' := ?_) #[true, true, true, true, true, false, false, false] rfl rfl (any_of HT_.out (by kernel_rfl)) (fun _ _ _ h => h) (Or.inl ⟨by rfl, ?_⟩) ?_ ?_
  rotate_left
  ·intro w'
   go_simp
   with_reducible rfl
  rotate_left
  ·simp only [Act.put, List.setIfInBounds_toArray, List.set_cons_zero, List.set_cons_succ, i64_w, i32_w]
   rfl
  refine pure_ (i := 5) (N := some 13) (v := ?_) (a' := ?_) #[true, true, true, true, true, true, false, false] rfl rfl (any_of HT_.out (by kernel_rfl)) (fun _ _ _ h => h) (Or.inl ⟨by rfl, ?_⟩) ?_ ?_
  rotate_left
  ·intro w'
   go_simp
   with_reducible rfl
  rotate_left
  ·simp only [Act.put, List.setIfInBounds_toArray, List.set_cons_zero, List.set_cons_succ, i64_w, i32_w]
   rfl
  refine pure_ (i := 6) (N := some 14) (v := ?_) (a' := ?_) #[true, true, true, true, true, true, true, false] rfl rfl (any_of HT_.out (by kernel_rfl)) (fun _ _ _ h => h) (Or.inl ⟨by rfl, ?_⟩) ?_ ?_
  rotate_left
  ·intro w'
   go_simp
   with_reducible rfl
  rotate_left
  ·simp only [Act.put, List.setIfInBounds_toArray, List.set_cons_zero, List.set_cons_succ, i64_w, i32_w]
   rfl
  refine last_ (i := 7) (N := none) #[true, true, true, true, true, true, true, true] rfl rfl (one_of HT_.out (by kernel_rfl)) (by decide) (fun K hK => ?_)
  have hs22 : w21.cell? ⟨gb415, 0, none⟩ = some (.int .i64 t413) := (blk_cell BK415.out 0).trans rfl
  have hfs22 := blk_frozen BK415.out 0
  have hns22_0 := NB409_415.out
  have hms22_0 := NB415_409.out
  have hs24 : w21.cell? ⟨gb415, 1, none⟩ = some (.slice none 0 0) := (blk_cell BK415.out 1).trans rfl
  have hfs24 := blk_frozen BK415.out 1
  have hns24_0 := NB409_415.out
  have hms24_0 := NB415_409.out
  refine skip_ (w1 := ?_) (by rfl) rfl ?_ ?_
  rotate_left
  ·go_simp
   rfl
  refine hK.out _ _ ?_
  clear hK K
  refine done_ (done_of HT_.out (by kernel_rfl)) ?_
  try go_wp2_with (first | ((with_reducible refine gate_callee (f := 61) rfl ?_); refine goesL_ (some 16) rfl rfl Try.func61 (by kernel_rfl) rfl #[.pointer (some ⟨g, 0, none⟩), .int .i64 40] rfl (by (try simp only [List.map_toArray, List.map_cons, List.map_nil]); first | done | rfl | (simp only [List.length_drop, List.length_take]; rfl)) ?_; (with_reducible refine (spec_l9Rd_pick.calls k g s0_0 t419 40 t425 t426 w0 _ ?side1 ?side2 A5.out).mono ?_); (case side1 => repeat (first | (with_reducible first | exact HI0.out | apply IsS81.alloc | apply IsS81.drewN | apply IsS81.drew | apply IsS81.set_1 | refine IsS81.far ?_ NB0_409.out _ | refine IsS81.far ?_ NB0_415.out _) | exact HI0.out)); (case side2 => repeat (first | (with_reducible first | exact HB.out | apply below_alloc | apply pw_below_drewN | apply below_drew1 | refine below_set ?_ (IsS81.ge HI0.out) | refine below_set ?_ GE409.out | refine below_set ?_ GE415.out) | exact HB.out)); rintro e w25 ⟨rfl, hi, hb, hk⟩; refine ⟨_, rfl, ?_⟩; have n0_ := Aside0.mk (KeepBut.blk hk (g' := gb409) (o := .cells #[.int .i64 0, .slice none 0 0] 46 (0, 0)) (by (with_reducible repeat (first | refine ba ?_ _ | refine bb ?_ | refine bc ?_ _)); refine blk_far ?_ NB409_415.out _; (with_reducible repeat (first | refine ba ?_ _ | refine bb ?_ | refine bc ?_ _)); refine blk_far ?_ NB409_415.out _; (with_reducible repeat (first | refine ba ?_ _ | refine bb ?_ | refine bc ?_ _)); exact BK409.out) NB409_0.out (by simp)); have n1_ := Aside0.mk (Kd.R_mono (Kd.R_keep (IsS81.apart (show IsS81 w0 _ g s0_0 t419 from by repeat (first | (with_reducible first | exact HI0.out | apply IsS81.alloc | apply IsS81.drewN | apply IsS81.drew | apply IsS81.set_1 | refine IsS81.far ?_ NB0_409.out _ | refine IsS81.far ?_ NB0_415.out _) | exact HI0.out)) (by (with_reducible repeat (first | apply ra | apply rb | apply rc)); exact (Kd.R_mono (Kd.R_far (p := ⟨gb415, 1, none⟩) (Kd.R_far (p := ⟨gb415, 0, none⟩) (Kd.R_types HO412.out BK415.out (by decide)) (fun _ hk => hk.2) (.int .i64 t420)) (fun _ hk => hk.2) (.slice Ao23 t421.length co23)) (fun _ h_ => h_.1))) (by decide)) hk (fun _ h => h.2)) (fun _ h => h.1)); have n2_ := Aside0.mk (KeepBut.blk hk (g' := gb415) (o := .cells #[.int .i64 t420, .slice Ao23 t421.length co23] 46 (0, 0)) (by (with_reducible repeat (first | refine ba ?_ _ | refine bb ?_ | refine bc ?_ _)); refine blk_put (cs := #[.int .i64 t420, .slice none 0 0]) ?_ 1 _ rfl; (with_reducible repeat (first | refine ba ?_ _ | refine bb ?_ | refine bc ?_ _)); refine blk_put (cs := #[.int .i64 t413, .slice none 0 0]) ?_ 0 _ rfl; (with_reducible repeat (first | refine ba ?_ _ | refine bb ?_ | refine bc ?_ _)); exact BK415.out) NB415_0.out (by simp)); have n3_ := Aside0.mk (Kd.R_mono (Kd.R_keep (IsS81.apart (show IsS81 w0 _ g s0_0 t419 from by repeat (first | (with_reducible first | exact HI0.out | apply IsS81.alloc | apply IsS81.drewN | apply IsS81.drew | apply IsS81.set_1 | refine IsS81.far ?_ NB0_409.out _ | refine IsS81.far ?_ NB0_415.out _) | exact HI0.out)) (by (with_reducible repeat (first | apply ra | apply rb | apply rc)); exact (Kd.R_mono (Kd.R_far (p := ⟨gb415, 1, none⟩) (Kd.R_far (p := ⟨gb415, 0, none⟩) (Kd.R_types HO418.out BK415.out (by decide)) (fun _ hk => hk.2) (.int .i64 t420)) (fun _ hk => hk.2) (.slice Ao23 t421.length co23)) (fun _ h_ => h_.1))) (by decide)) hk (fun _ h => h.2)) (fun _ h => h.1)); have n4_ := Aside0.mk (Kd.R_mono (Kd.R_keep (IsS81.apart (show IsS81 w0 _ g s0_0 t419 from by repeat (first | (with_reducible first | exact HI0.out | apply IsS81.alloc | apply IsS81.drewN | apply IsS81.drew | apply IsS81.set_1 | refine IsS81.far ?_ NB0_409.out _ | refine IsS81.far ?_ NB0_415.out _) | exact HI0.out)) (by (with_reducible repeat (first | apply ra | apply rb | apply rc)); exact (Kd.R_mono (Kd.R_far (p := ⟨gb415, 1, none⟩) (Kd.R_far (p := ⟨gb415, 0, none⟩) (Kd.R_types HO423.out BK415.out (by decide)) (fun _ hk => hk.2) (.int .i64 t420)) (fun _ hk => hk.2) (.slice Ao23 t421.length co23)) (fun _ h_ => h_.1))) (by decide)) hk (fun _ h => h.2)) (fun _ h => h.1)); have n5_ := Aside0.mk (KeepBut.trans (by repeat (first | (with_reducible first | exact HK.out | apply KeepBut.set_ | apply keep_drewN | apply keep_drew | apply keep_alloc | refine keep_far ?_ GW409.out _ | refine keep_far ?_ GW415.out _) | exact HK.out)) hk (.inl rfl)); have n6_ := Aside0.mk (hb); have n7_ := Aside0.mk (hi); clear BK409; clear HO412; clear BK415; clear HO418; clear HO423; clear HK; clear HB; clear HI0; have BK409 := n0_; have HO412 := n1_; have BK415 := n2_; have HO418 := n3_; have HO423 := n4_; have HK := n5_; have HB := n6_; have HI0 := n7_; clear n0_ n1_ n2_ n3_ n4_ n5_ n6_ n7_; (try clear hb); (try clear hb2); (try clear hk); (try clear hi); have hcz26_0 : w25.cell? ⟨gb415, 0, none⟩ = some (.int .i64 t420) := (blk_cell BK415.out 0).trans rfl; have hcz26_1 : w25.cell? ⟨gb415, 1, none⟩ = some (.slice Ao23 t421.length co23) := (blk_cell BK415.out 1).trans rfl; have hfz26_0 := blk_frozen BK415.out 0; have hfz26_1 := blk_frozen BK415.out 1) | ((with_reducible refine gate_dst (N := 23) rfl ?_); refine Kd.R_lit (Kd.int .i64) _ 3 ?hg (N := 23) ?hd (xs := ([(-1), 13, wrap64 (t420 - 1)] : List Int)) (inner := [.int .i64 (-1), .int .i64 13, .int .i64 (wrap64 (t420 - 1))]) (ok := fun _ => True) (okp := fun _ => True) ?hr ?hp (fun _ hk => hk) trivial (Below.refl _ _) (Nat.le_refl _) (by simp) ?_; (case hd => rfl); (case hg => rfl); (case hr => first | (go_simp; done) | (go_simp; rfl)); (case hp => exact (Reps.one (show Kd.M (Kd.int .i64) _ _ _ (-1) [.int .i64 (-1)] from rfl) (Reps.one (show Kd.M (Kd.int .i64) _ _ _ 13 [.int .i64 13] from rfl) (Reps.one (show Kd.M (Kd.int .i64) _ _ _ (wrap64 (t420 - 1)) [.int .i64 (wrap64 (t420 - 1))] from rfl) (Reps.none _ _))))); intro v428 w27 ho28 hb hg_ hnew_; clear hg_ hnew_; (first | rw [← Ny427.out] at ho28 | (simp only [Int.reduceToNat] at ho28; rw [← Ny427.out] at ho28)); have n0_ := Aside0.mk (Kd.R_elder' (by (with_reducible repeat (first | apply ra | apply rb | apply rc)); exact HO412.out) (Kd.R_base ho28) hb); have n1_ := Aside0.mk (Kd.R_below (by (with_reducible repeat (first | apply ra | apply rb | apply rc)); exact HO418.out) hb); have n2_ := Aside0.mk (Kd.R_below (by (with_reducible repeat (first | apply ra | apply rb | apply rc)); exact HO423.out) hb); have n3_ := Aside0.mk (Kd.R_lower (Kd.R_new' ho28 (Kd.R_lt (by (with_reducible repeat (first | apply ra | apply rb | apply rc)); exact HO412.out))) (keep_size (w := w) (g := g) (row := none) (by repeat (first | (with_reducible first | exact HK.out | apply KeepBut.set_ | apply keep_drewN | apply keep_drew | apply keep_alloc | refine keep_far ?_ GW409.out _ | refine keep_far ?_ GW415.out _) | exact HK.out)))); have n4_ := Aside0.mk (IsS81.below (by repeat (first | (with_reducible first | exact HI0.out | apply IsS81.alloc | apply IsS81.drewN | apply IsS81.drew | apply IsS81.set_1 | refine IsS81.far ?_ NB0_409.out _ | refine IsS81.far ?_ NB0_415.out _) | exact HI0.out)) hb); have n5_ := Aside0.mk (blk_below (g := gb409) (o := .cells #[.int .i64 0, .slice none 0 0] 46 (0, 0)) (by (with_reducible repeat (first | refine ba ?_ _ | refine bb ?_ | refine bc ?_ _)); exact BK409.out) hb); have n6_ := Aside0.mk (blk_below (g := gb415) (o := .cells #[.int .i64 t420, .slice Ao23 t421.length co23] 46 (0, 0)) (by (with_reducible repeat (first | refine ba ?_ _ | refine bb ?_ | refine bc ?_ _)); exact BK415.out) hb); have n7_ := Aside0.mk (KeepBut.trans (by repeat (first | (with_reducible first | exact HK.out | apply KeepBut.set_ | apply keep_drewN | apply keep_drew | apply keep_alloc | refine keep_far ?_ GW409.out _ | refine keep_far ?_ GW415.out _) | exact HK.out)) (KeepBut.of_below hb g none) (.inl rfl)); have n8_ := Aside0.mk (below_step (by repeat (first | (with_reducible first | exact HB.out | apply below_alloc | apply pw_below_drewN | apply below_drew1 | refine below_set ?_ (IsS81.ge HI0.out) | refine below_set ?_ GE409.out | refine below_set ?_ GE415.out) | exact HB.out)) hb); clear HO412; clear HO418; clear HO423; clear HI0; clear BK409; clear BK415; clear HK; clear HB; have HO412 := n0_; have HO418 := n1_; have HO423 := n2_; have HO429 := n3_; have HI0 := n4_; have BK409 := n5_; have BK415 := n6_; have HK := n7_; have HB := n8_; clear n0_ n1_ n2_ n3_ n4_ n5_ n6_ n7_ n8_; clear hb ho28; obtain ⟨Ao29, co29, eo29⟩ := Kd.R_slice HO429.out; subst eo29) | ((with_reducible refine gate_callee (f := 55) rfl ?_); refine goesL_ (some 24) rfl rfl Try.func55 (by kernel_rfl) rfl #[.pointer (some ⟨g, 0, none⟩), .slice Ao29 y427.length co29] rfl (by (try simp only [List.map_toArray, List.map_cons, List.map_nil]); first | done | rfl | (simp only [List.length_drop, List.length_take]; rfl)) ?_; (with_reducible refine (spec_l9Rd_num.calls k g s0_0 t426 _ _ y427 t430 t431 w0 _ ?side1 ?side2 ?side3 ?side4 ?side5 A7.out).mono ?_); (case side1 => repeat (first | (with_reducible first | exact HI0.out | apply IsS81.alloc | apply IsS81.drewN | apply IsS81.drew | apply IsS81.set_1 | refine IsS81.far ?_ NB0_409.out _ | refine IsS81.far ?_ NB0_415.out _) | exact HI0.out)); (case side2 => repeat (first | (with_reducible first | exact HB.out | apply below_alloc | apply pw_below_drewN | apply below_drew1 | refine below_set ?_ (IsS81.ge HI0.out) | refine below_set ?_ GE409.out | refine below_set ?_ GE415.out) | exact HB.out)); (case side3 => repeat (first | exact (Kd.R_reads' HO429.out).2.2 | (with_reducible refine Kd.C_alloc ?_ _) | (with_reducible refine Kd.C_drewN ?_ _) | (with_reducible refine Kd.C_drew ?_))); (case side4 => exact (Kd.R_reads' HO429.out).2.1); (case side5 => exact far_slice (IsS81.own_ne HI0.out HO429.out (by decide))); rintro e w30 ⟨rfl, hi, hb, hk⟩; refine ⟨_, rfl, ?_⟩; have n0_ := Aside0.mk (KeepBut.blk hk (g' := gb409) (o := .cells #[.int .i64 0, .slice none 0 0] 46 (0, 0)) (by (with_reducible repeat (first | refine ba ?_ _ | refine bb ?_ | refine bc ?_ _)); exact BK409.out) NB409_0.out (by simp)); have n1_ := Aside0.mk (Kd.R_mono (Kd.R_keep (IsS81.apart (show IsS81 w0 _ g s0_0 t426 from by repeat (first | (with_reducible first | exact HI0.out | apply IsS81.alloc | apply IsS81.drewN | apply IsS81.drew | apply IsS81.set_1 | refine IsS81.far ?_ NB0_409.out _ | refine IsS81.far ?_ NB0_415.out _) | exact HI0.out)) (by (with_reducible repeat (first | apply ra | apply rb | apply rc)); exact HO412.out) (by decide)) hk (fun _ h => h.2)) (fun _ h => h.1)); have n2_ := Aside0.mk (KeepBut.blk hk (g' := gb415) (o := .cells #[.int .i64 t420, .slice Ao23 t421.length co23] 46 (0, 0)) (by (with_reducible repeat (first | refine ba ?_ _ | refine bb ?_ | refine bc ?_ _)); exact BK415.out) NB415_0.out (by simp)); have n3_ := Aside0.mk (Kd.R_mono (Kd.R_keep (IsS81.apart (show IsS81 w0 _ g s0_0 t426 from by repeat (first | (with_reducible first | exact HI0.out | apply IsS81.alloc | apply IsS81.drewN | apply IsS81.drew | apply IsS81.set_1 | refine IsS81.far ?_ NB0_409.out _ | refine IsS81.far ?_ NB0_415.out _) | exact HI0.out)) (by (with_reducible repeat (first | apply ra | apply rb | apply rc)); exact HO418.out) (by decide)) hk (fun _ h => h.2)) (fun _ h => h.1)); have n4_ := Aside0.mk (Kd.R_mono (Kd.R_keep (IsS81.apart (show IsS81 w0 _ g s0_0 t426 from by repeat (first | (with_reducible first | exact HI0.out | apply IsS81.alloc | apply IsS81.drewN | apply IsS81.drew | apply IsS81.set_1 | refine IsS81.far ?_ NB0_409.out _ | refine IsS81.far ?_ NB0_415.out _) | exact HI0.out)) (by (with_reducible repeat (first | apply ra | apply rb | apply rc)); exact HO423.out) (by decide)) hk (fun _ h => h.2)) (fun _ h => h.1)); have n5_ := Aside0.mk (Kd.R_mono (Kd.R_keep (IsS81.apart (show IsS81 w0 _ g s0_0 t426 from by repeat (first | (with_reducible first | exact HI0.out | apply IsS81.alloc | apply IsS81.drewN | apply IsS81.drew | apply IsS81.set_1 | refine IsS81.far ?_ NB0_409.out _ | refine IsS81.far ?_ NB0_415.out _) | exact HI0.out)) (by (with_reducible repeat (first | apply ra | apply rb | apply rc)); exact HO429.out) (by decide)) hk (fun _ h => h.2)) (fun _ h => h.1)); have n6_ := Aside0.mk (KeepBut.trans (by repeat (first | (with_reducible first | exact HK.out | apply KeepBut.set_ | apply keep_drewN | apply keep_drew | apply keep_alloc | refine keep_far ?_ GW409.out _ | refine keep_far ?_ GW415.out _) | exact HK.out)) hk (.inl rfl)); have n7_ := Aside0.mk (hb); have n8_ := Aside0.mk (hi); clear BK409; clear HO412; clear BK415; clear HO418; clear HO423; clear HO429; clear HK; clear HB; clear HI0; have BK409 := n0_; have HO412 := n1_; have BK415 := n2_; have HO418 := n3_; have HO423 := n4_; have HO429 := n5_; have HK := n6_; have HB := n7_; have HI0 := n8_; clear n0_ n1_ n2_ n3_ n4_ n5_ n6_ n7_ n8_; (try clear hb); (try clear hb2); (try clear hk); (try clear hi); have hcz31_0 : w30.cell? ⟨gb415, 0, none⟩ = some (.int .i64 t420) := (blk_cell BK415.out 0).trans rfl; have hcz31_1 : w30.cell? ⟨gb415, 1, none⟩ = some (.slice Ao23 t421.length co23) := (blk_cell BK415.out 1).trans rfl; have hfz31_0 := blk_frozen BK415.out 0; have hfz31_1 := blk_frozen BK415.out 1; have hnb32 := NB409_0.out; have hnc32 := NB0_409.out; have hcz33_0 : w30.cell? ⟨gb409, 0, none⟩ = some (.int .i64 0) := (blk_cell BK409.out 0).trans rfl; have hcz33_1 : w30.cell? ⟨gb409, 1, none⟩ = some (.slice none 0 0) := (blk_cell BK409.out 1).trans rfl; have hfz33_0 := blk_frozen BK409.out 0; have hfz33_1 := blk_frozen BK409.out 1))
  refine bodyPost_ret (results_cell_row rfl _ _ gb409 46 #[.int .i64 t430, .slice Ao23 t421.length co23] (0, 0) _ rfl (by (with_reducible repeat (first | refine ba ?_ _ | refine bb ?_ | refine bc ?_ _)); refine blk_put (cs := #[.int .i64 t430, .slice none 0 0]) ?_ 1 _ rfl; (with_reducible repeat (first | refine ba ?_ _ | refine bb ?_ | refine bc ?_ _)); refine blk_put (cs := #[.int .i64 0, .slice none 0 0]) ?_ 0 _ rfl; (with_reducible repeat (first | refine ba ?_ _ | refine bb ?_ | refine bc ?_ _)); refine blk_far ?_ NB409_415.out _; (with_reducible repeat (first | refine ba ?_ _ | refine bb ?_ | refine bc ?_ _)); exact BK409.out) Try.underlying46 rfl (by kernel_rfl)) rfl ?_
  exact ⟨_, by first | rfl | (simp [errW_none, errW_some] <;> rfl) | (simp [*, errW_none, errW_some] <;> rfl), by (with_reducible repeat (first | apply ra | apply rb | apply rc)); exact Kd.R_mono (Kd.R_far (p := ⟨gb409, 1, none⟩) (Kd.R_far (p := ⟨gb409, 0, none⟩) (Kd.R_far (p := ⟨gb415, 0, none⟩) (Kd.R_types (Kd.R_types HO423.out BK415.out (by decide)) BK409.out (by decide)) (fun _ hk => hk.1.2) (.int .i64 t430)) (fun _ hk => hk.2) (.int .i64 t430)) (fun _ hk => hk.2) (.slice Ao23 t421.length co23)) (fun _ hk => trivial), by repeat (first | (with_reducible first | exact HI0.out | apply IsS81.alloc | apply IsS81.drewN | apply IsS81.drew | apply IsS81.set_1 | refine IsS81.far ?_ NB0_409.out _ | refine IsS81.far ?_ NB0_415.out _) | exact HI0.out), by repeat (first | (with_reducible first | exact HB.out | apply below_alloc | apply pw_below_drewN | apply below_drew1 | refine below_set ?_ (IsS81.ge HI0.out) | refine below_set ?_ GE409.out | refine below_set ?_ GE415.out) | exact HB.out), by repeat (first | (with_reducible first | exact HK.out | apply KeepBut.set_ | apply keep_drewN | apply keep_drew | apply keep_alloc | refine keep_far ?_ GW409.out _ | refine keep_far ?_ GW415.out _) | exact HK.out)⟩
 ·rw [if_neg c6] at H
  have c6b0 : (t425 == 0) = false := beq_eq_false_iff_ne.mpr c6
  have c6b1 : (t425 != 0) = true := bne_iff_ne.mpr c6
  by_cases c34 : t425 = 1
  ·rw [if_pos c34] at H
   have c34b0 : (t425 == 1) = true := beq_iff_eq.mpr c34
   have c34b1 : (t425 != 1) = false := bne_eq_false_iff_eq.mpr c34
   clear c34
   by_cases c35 : t421.length + t421.length < 8796093022208
   ·rw [if_pos c35] at H
    have LMc35 := Aside0.mk c35
    clear c35
    obtain ⟨y432, hy432⟩ : ∃ y_ : List (S25), y_ = (t421 ++ t421) := ⟨_, rfl⟩
    replace H : (some (t420, y432, t426)) = some (r1, r2, r3) := by first | (rw [hy432]; with_reducible exact H) | (have H2_ := (Option.bind_some _ _).symm.trans H; rw [hy432]; with_reducible exact H2_) | (have H2_ := (Option.bind_some _ _).symm.trans H; with_reducible exact H2_) | with_reducible exact H | (rw [hy432]; exact H) | exact H
    have Ny432 := Aside0.mk hy432
    clear hy432
    simp only [Option.some.injEq, Prod.mk.injEq] at H
    obtain ⟨rfl, rfl, rfl⟩ := H
    go_enter Try.func63, Try.ntmps63
    try go_wp2_with (first | ((with_reducible refine gate_dst (N := 2) rfl ?_); refine box_event ?hg (N := 2) ?hd (cs := #[.int .i64 0, .slice none 0 0]) (t := 46) ?hr ?_; (case hd => rfl); (case hg => rfl); (case hr => first | (go_simp; done) | (go_simp; rfl)); intro gb409 hg w36 hbox hb; have n0_ := Aside0.mk (IsS81.below (by repeat (first | (with_reducible first | exact HI0.out | apply IsS81.alloc | apply IsS81.drewN | apply IsS81.drew | apply IsS81.set_1) | exact HI0.out)) hb); have n1_ := Aside0.mk (KeepBut.trans (by repeat (first | (with_reducible first | exact HK.out | apply KeepBut.set_ | apply keep_drewN | apply keep_drew | apply keep_alloc) | exact HK.out)) (KeepBut.of_below hb g none) (.inl rfl)); have n2_ := Aside0.mk (below_step (by repeat (first | (with_reducible first | exact HB.out | apply below_alloc | apply pw_below_drewN | apply below_drew1 | refine below_set ?_ (IsS81.ge HI0.out)) | exact HB.out)) hb); have n3_ := Aside0.mk (hbox); have n4_ := Aside0.mk ((by rw [hg]; exact (keep_size (w := w) (g := g) (row := none) (by repeat (first | (with_reducible first | exact HK.out | apply KeepBut.set_ | apply keep_drewN | apply keep_drew | apply keep_alloc) | exact HK.out))) : w.heap.size ≤ gb409)); have n5_ := Aside0.mk ((Nat.le_trans HW0.out (by rw [hg]; exact (keep_size (w := w) (g := g) (row := none) (by repeat (first | (with_reducible first | exact HK.out | apply KeepBut.set_ | apply keep_drewN | apply keep_drew | apply keep_alloc) | exact HK.out))) : w.heap.size ≤ gb409) : w0.heap.size ≤ gb409)); have n6_ := Aside0.mk ((by rw [hg]; exact Nat.ne_of_lt (IsS81.lt (show IsS81 w0 _ g s0_0 s0_1 from by repeat (first | (with_reducible first | exact HI0.out | apply IsS81.alloc | apply IsS81.drewN | apply IsS81.drew | apply IsS81.set_1) | exact HI0.out))) : g ≠ gb409)); have n7_ := Aside0.mk ((by rw [hg]; exact Nat.ne_of_gt (IsS81.lt (show IsS81 w0 _ g s0_0 s0_1 from by repeat (first | (with_reducible first | exact HI0.out | apply IsS81.alloc | apply IsS81.drewN | apply IsS81.drew | apply IsS81.set_1) | exact HI0.out))) : gb409 ≠ g)); clear HI0; clear HK; clear HB; have HI0 := n0_; have HK := n1_; have HB := n2_; have BK409 := n3_; have GW409 := n4_; have GE409 := n5_; have NB0_409 := n6_; have NB409_0 := n7_; clear n0_ n1_ n2_ n3_ n4_ n5_ n6_ n7_; clear hb hbox hg) | ((with_reducible refine gate_dst (N := 5) rfl ?_); refine Kd.R_lit (Kd.int .i64) _ 3 ?hg (N := 5) ?hd (xs := ([2, 3, 4, 1, 0, 6, 12] : List Int)) (inner := [.int .i64 2, .int .i64 3, .int .i64 4, .int .i64 1, .int .i64 0, .int .i64 6, .int .i64 12]) (ok := fun _ => True) (okp := fun _ => True) ?hr ?hp (fun _ hk => hk) trivial (Below.refl _ _) (Nat.le_refl _) (by simp) ?_; (case hd => rfl); (case hg => rfl); (case hr => first | (go_simp; done) | (go_simp; rfl)); (case hp => exact (Reps.one (show Kd.M (Kd.int .i64) _ _ _ 2 [.int .i64 2] from rfl) (Reps.one (show Kd.M (Kd.int .i64) _ _ _ 3 [.int .i64 3] from rfl) (Reps.one (show Kd.M (Kd.int .i64) _ _ _ 4 [.int .i64 4] from rfl) (Reps.one (show Kd.M (Kd.int .i64) _ _ _ 1 [.int .i64 1] from rfl) (Reps.one (show Kd.M (Kd.int .i64) _ _ _ 0 [.int .i64 0] from rfl) (Reps.one (show Kd.M (Kd.int .i64) _ _ _ 6 [.int .i64 6] from rfl) (Reps.one (show Kd.M (Kd.int .i64) _ _ _ 12 [.int .i64 12] from rfl) (Reps.none _ _))))))))); intro v411 w37 ho38 hb hg_ hnew_; clear hg_ hnew_; (first | rw [← Ny410.out] at ho38 | (simp only [Int.reduceToNat] at ho38; rw [← Ny410.out] at ho38)); have n0_ := Aside0.mk (Kd.R_lower ho38 (keep_size (w := w) (g := g) (row := none) (by repeat (first | (with_reducible first | exact HK.out | apply KeepBut.set_ | apply keep_drewN | apply keep_drew | apply keep_alloc | refine keep_far ?_ GW409.out _) | exact HK.out)))); have n1_ := Aside0.mk (IsS81.below (by repeat (first | (with_reducible first | exact HI0.out | apply IsS81.alloc | apply IsS81.drewN | apply IsS81.drew | apply IsS81.set_1 | refine IsS81.far ?_ NB0_409.out _) | exact HI0.out)) hb); have n2_ := Aside0.mk (blk_below (g := gb409) (o := .cells #[.int .i64 0, .slice none 0 0] 46 (0, 0)) (by (with_reducible repeat (first | refine ba ?_ _ | refine bb ?_ | refine bc ?_ _)); exact BK409.out) hb); have n3_ := Aside0.mk (KeepBut.trans (by repeat (first | (with_reducible first | exact HK.out | apply KeepBut.set_ | apply keep_drewN | apply keep_drew | apply keep_alloc | refine keep_far ?_ GW409.out _) | exact HK.out)) (KeepBut.of_below hb g none) (.inl rfl)); have n4_ := Aside0.mk (below_step (by repeat (first | (with_reducible first | exact HB.out | apply below_alloc | apply pw_below_drewN | apply below_drew1 | refine below_set ?_ (IsS81.ge HI0.out) | refine below_set ?_ GE409.out) | exact HB.out)) hb); clear HI0; clear BK409; clear HK; clear HB; have HO412 := n0_; have HI0 := n1_; have BK409 := n2_; have HK := n3_; have HB := n4_; clear n0_ n1_ n2_ n3_ n4_; clear hb ho38; obtain ⟨Ao39, co39, eo39⟩ := Kd.R_slice HO412.out; subst eo39) | ((with_reducible refine gate_callee (f := 55) rfl ?_); refine goesL_ (some 6) rfl rfl Try.func55 (by kernel_rfl) rfl #[.pointer (some ⟨g, 0, none⟩), .slice Ao39 y410.length co39] rfl (by (try simp only [List.map_toArray, List.map_cons, List.map_nil]); first | done | rfl | (simp only [List.length_drop, List.length_take]; rfl)) ?_; (with_reducible refine (spec_l9Rd_num.calls k g s0_0 s0_1 _ _ y410 t413 t414 w0 _ ?side1 ?side2 ?side3 ?side4 ?side5 A2.out).mono ?_); (case side1 => repeat (first | (with_reducible first | exact HI0.out | apply IsS81.alloc | apply IsS81.drewN | apply IsS81.drew | apply IsS81.set_1 | refine IsS81.far ?_ NB0_409.out _) | exact HI0.out)); (case side2 => repeat (first | (with_reducible first | exact HB.out | apply below_alloc | apply pw_below_drewN | apply below_drew1 | refine below_set ?_ (IsS81.ge HI0.out) | refine below_set ?_ GE409.out) | exact HB.out)); (case side3 => repeat (first | exact (Kd.R_reads' HO412.out).2.2 | (with_reducible refine Kd.C_alloc ?_ _) | (with_reducible refine Kd.C_drewN ?_ _) | (with_reducible refine Kd.C_drew ?_))); (case side4 => exact (Kd.R_reads' HO412.out).2.1); (case side5 => exact far_slice (IsS81.own_ne HI0.out HO412.out (by decide))); rintro e w40 ⟨rfl, hi, hb, hk⟩; refine ⟨_, rfl, ?_⟩; have n0_ := Aside0.mk (KeepBut.blk hk (g' := gb409) (o := .cells #[.int .i64 0, .slice none 0 0] 46 (0, 0)) (by (with_reducible repeat (first | refine ba ?_ _ | refine bb ?_ | refine bc ?_ _)); exact BK409.out) NB409_0.out (by simp)); have n1_ := Aside0.mk (Kd.R_mono (Kd.R_keep (IsS81.apart (show IsS81 w0 _ g s0_0 s0_1 from by repeat (first | (with_reducible first | exact HI0.out | apply IsS81.alloc | apply IsS81.drewN | apply IsS81.drew | apply IsS81.set_1 | refine IsS81.far ?_ NB0_409.out _) | exact HI0.out)) (by (with_reducible repeat (first | apply ra | apply rb | apply rc)); exact HO412.out) (by decide)) hk (fun _ h => h.2)) (fun _ h => h.1)); have n2_ := Aside0.mk (KeepBut.trans (by repeat (first | (with_reducible first | exact HK.out | apply KeepBut.set_ | apply keep_drewN | apply keep_drew | apply keep_alloc | refine keep_far ?_ GW409.out _) | exact HK.out)) hk (.inl rfl)); have n3_ := Aside0.mk (hb); have n4_ := Aside0.mk (hi); clear BK409; clear HO412; clear HK; clear HB; clear HI0; have BK409 := n0_; have HO412 := n1_; have HK := n2_; have HB := n3_; have HI0 := n4_; clear n0_ n1_ n2_ n3_ n4_; (try clear hb); (try clear hb2); (try clear hk); (try clear hi)) | ((with_reducible refine gate_dst (N := 3) rfl ?_); refine box_event ?hg (N := 3) ?hd (cs := #[.int .i64 0, .slice none 0 0]) (t := 46) ?hr ?_; (case hd => rfl); (case hg => rfl); (case hr => first | (go_simp; done) | (go_simp; rfl)); intro gb415 hg w41 hbox hb; have n0_ := Aside0.mk (Kd.R_below (by (with_reducible repeat (first | apply ra | apply rb | apply rc)); exact HO412.out) hb); have n1_ := Aside0.mk (IsS81.below (by repeat (first | (with_reducible first | exact HI0.out | apply IsS81.alloc | apply IsS81.drewN | apply IsS81.drew | apply IsS81.set_1 | refine IsS81.far ?_ NB0_409.out _) | exact HI0.out)) hb); have n2_ := Aside0.mk (blk_below (g := gb409) (o := .cells #[.int .i64 0, .slice none 0 0] 46 (0, 0)) (by (with_reducible repeat (first | refine ba ?_ _ | refine bb ?_ | refine bc ?_ _)); exact BK409.out) hb); have n3_ := Aside0.mk (KeepBut.trans (by repeat (first | (with_reducible first | exact HK.out | apply KeepBut.set_ | apply keep_drewN | apply keep_drew | apply keep_alloc | refine keep_far ?_ GW409.out _) | exact HK.out)) (KeepBut.of_below hb g none) (.inl rfl)); have n4_ := Aside0.mk (below_step (by repeat (first | (with_reducible first | exact HB.out | apply below_alloc | apply pw_below_drewN | apply below_drew1 | refine below_set ?_ (IsS81.ge HI0.out) | refine below_set ?_ GE409.out) | exact HB.out)) hb); have n5_ := Aside0.mk (hbox); have n6_ := Aside0.mk ((by rw [hg]; exact (keep_size (w := w) (g := g) (row := none) (by repeat (first | (with_reducible first | exact HK.out | apply KeepBut.set_ | apply keep_drewN | apply keep_drew | apply keep_alloc | refine keep_far ?_ GW409.out _) | exact HK.out))) : w.heap.size ≤ gb415)); have n7_ := Aside0.mk ((Nat.le_trans HW0.out (by rw [hg]; exact (keep_size (w := w) (g := g) (row := none) (by repeat (first | (with_reducible first | exact HK.out | apply KeepBut.set_ | apply keep_drewN | apply keep_drew | apply keep_alloc | refine keep_far ?_ GW409.out _) | exact HK.out))) : w.heap.size ≤ gb415) : w0.heap.size ≤ gb415)); have n8_ := Aside0.mk ((by rw [hg]; exact Nat.ne_of_lt (blk_lt (g := gb409) (o := .cells #[.int .i64 0, .slice none 0 0] 46 (0, 0)) (by (with_reducible repeat (first | refine ba ?_ _ | refine bb ?_ | refine bc ?_ _)); exact BK409.out)) : gb409 ≠ gb415)); have n9_ := Aside0.mk ((by rw [hg]; exact Nat.ne_of_gt (blk_lt (g := gb409) (o := .cells #[.int .i64 0, .slice none 0 0] 46 (0, 0)) (by (with_reducible repeat (first | refine ba ?_ _ | refine bb ?_ | refine bc ?_ _)); exact BK409.out)) : gb415 ≠ gb409)); have n10_ := Aside0.mk ((by rw [hg]; exact Nat.ne_of_lt (IsS81.lt (show IsS81 w0 _ g s0_0 t414 from by repeat (first | (with_reducible first | exact HI0.out | apply IsS81.alloc | apply IsS81.drewN | apply IsS81.drew | apply IsS81.set_1 | refine IsS81.far ?_ NB0_409.out _) | exact HI0.out))) : g ≠ gb415)); have n11_ := Aside0.mk ((by rw [hg]; exact Nat.ne_of_gt (IsS81.lt (show IsS81 w0 _ g s0_0 t414 from by repeat (first | (with_reducible first | exact HI0.out | apply IsS81.alloc | apply IsS81.drewN | apply IsS81.drew | apply IsS81.set_1 | refine IsS81.far ?_ NB0_409.out _) | exact HI0.out))) : gb415 ≠ g)); clear HO412; clear HI0; clear BK409; clear HK; clear HB; have HO412 := n0_; have HI0 := n1_; have BK409 := n2_; have HK := n3_; have HB := n4_; have BK415 := n5_; have GW415 := n6_; have GE415 := n7_; have NB409_415 := n8_; have NB415_409 := n9_; have NB0_415 := n10_; have NB415_0 := n11_; clear n0_ n1_ n2_ n3_ n4_ n5_ n6_ n7_ n8_ n9_ n10_ n11_; clear hb hbox hg; have hnb42 := NB415_409.out; have hnc42 := NB409_415.out; have hnb43 := NB415_0.out; have hnc43 := NB0_415.out; have hcz44_0 : w41.cell? ⟨gb415, 0, none⟩ = some (.int .i64 0) := (blk_cell BK415.out 0).trans rfl; have hcz44_1 : w41.cell? ⟨gb415, 1, none⟩ = some (.slice none 0 0) := (blk_cell BK415.out 1).trans rfl; have hfz44_0 := blk_frozen BK415.out 0; have hfz44_1 := blk_frozen BK415.out 1))
    have n0_ : Aside0 (Kd.R (Kd.int .i64) 3 ((w41.setCell ⟨gb415, 0, none⟩ (.int .i64 t413)).setCell ⟨gb415, 1, none⟩ (.slice none 0 0)) w.heap.size (fun _ => True) (.slice Ao39 y410.length co39) y410) := ⟨by (with_reducible repeat (first | apply ra | apply rb | apply rc)); exact Kd.R_mono (Kd.R_far (p := ⟨gb415, 1, none⟩) (Kd.R_far (p := ⟨gb415, 0, none⟩) (Kd.R_types HO412.out BK415.out (by decide)) (fun _ hk => hk.2) (.int .i64 t413)) (fun _ hk => hk.2) (.slice none 0 0)) (fun _ hk => trivial)⟩
    have n1_ : Aside0 (((w41.setCell ⟨gb415, 0, none⟩ (.int .i64 t413)).setCell ⟨gb415, 1, none⟩ (.slice none 0 0)).heap[gb409]? = some (.cells #[.int .i64 0, .slice none 0 0] 46 (0, 0))) := ⟨by (with_reducible repeat (first | refine ba ?_ _ | refine bb ?_ | refine bc ?_ _)); refine blk_far ?_ NB409_415.out _; (with_reducible repeat (first | refine ba ?_ _ | refine bb ?_ | refine bc ?_ _)); refine blk_far ?_ NB409_415.out _; (with_reducible repeat (first | refine ba ?_ _ | refine bb ?_ | refine bc ?_ _)); exact BK409.out⟩
    have n2_ : Aside0 (((w41.setCell ⟨gb415, 0, none⟩ (.int .i64 t413)).setCell ⟨gb415, 1, none⟩ (.slice none 0 0)).heap[gb415]? = some (.cells #[.int .i64 t413, .slice none 0 0] 46 (0, 0))) := ⟨by (with_reducible repeat (first | refine ba ?_ _ | refine bb ?_ | refine bc ?_ _)); refine blk_put (cs := #[.int .i64 t413, .slice none 0 0]) ?_ 1 _ rfl; (with_reducible repeat (first | refine ba ?_ _ | refine bb ?_ | refine bc ?_ _)); refine blk_put (cs := #[.int .i64 0, .slice none 0 0]) ?_ 0 _ rfl; (with_reducible repeat (first | refine ba ?_ _ | refine bb ?_ | refine bc ?_ _)); exact BK415.out⟩
    have n3_ : Aside0 (IsS81 w0 ((w41.setCell ⟨gb415, 0, none⟩ (.int .i64 t413)).setCell ⟨gb415, 1, none⟩ (.slice none 0 0)) g s0_0 t414) := ⟨by repeat (first | (with_reducible first | exact HI0.out | apply IsS81.alloc | apply IsS81.drewN | apply IsS81.drew | apply IsS81.set_1 | refine IsS81.far ?_ NB0_409.out _ | refine IsS81.far ?_ NB0_415.out _) | exact HI0.out)⟩
    have n4_ : Aside0 (KeepBut w ((w41.setCell ⟨gb415, 0, none⟩ (.int .i64 t413)).setCell ⟨gb415, 1, none⟩ (.slice none 0 0)) g none) := ⟨by repeat (first | (with_reducible first | exact HK.out | apply KeepBut.set_ | apply keep_drewN | apply keep_drew | apply keep_alloc | refine keep_far ?_ GW409.out _ | refine keep_far ?_ GW415.out _) | exact HK.out)⟩
    have n5_ : Aside0 (Below w0.heap.size w0 ((w41.setCell ⟨gb415, 0, none⟩ (.int .i64 t413)).setCell ⟨gb415, 1, none⟩ (.slice none 0 0))) := ⟨by repeat (first | (with_reducible first | exact HB.out | apply below_alloc | apply pw_below_drewN | apply below_drew1 | refine below_set ?_ (IsS81.ge HI0.out) | refine below_set ?_ GE409.out | refine below_set ?_ GE415.out) | exact HB.out)⟩
    (try clear HO412)
    (try clear BK409)
    (try clear BK415)
    (try clear HI0)
    (try clear HK)
    (try clear HB)
    generalize ((w41.setCell ⟨gb415, 0, none⟩ (.int .i64 t413)).setCell ⟨gb415, 1, none⟩ (.slice none 0 0)) = w45 at n0_ n1_ n2_ n3_ n4_ n5_ ⊢
    have HO412 := n0_
    have BK409 := n1_
    have BK415 := n2_
    have HI0 := n3_
    have HK := n4_
    have HB := n5_
    clear n0_ n1_ n2_ n3_ n4_ n5_
    have n0_ := Aside0.mk (Kd.R_drew HO412.out)
    have n1_ := Aside0.mk (blk_drew BK409.out)
    have n2_ := Aside0.mk (blk_drew BK415.out)
    have n3_ := Aside0.mk (IsS81.drew HI0.out)
    have n4_ := Aside0.mk (keep_drew HK.out)
    have n5_ := Aside0.mk (below_drew1 HB.out)
    clear HO412
    clear BK409
    clear BK415
    clear HI0
    clear HK
    clear HB
    have HO412 := n0_
    have BK409 := n1_
    have BK415 := n2_
    have HI0 := n3_
    have HK := n4_
    have HB := n5_
    clear n0_ n1_ n2_ n3_ n4_ n5_
    refine start_ (n := 8) (S := fun w' => w'.cell? ⟨gb415, 0, none⟩ = some (.int .i64 t413) ∧ w'.cell? ⟨gb415, 1, none⟩ = some (.slice none 0 0)) (ds := [7]) #[false, false, false, false, false, false, false, false] (by kernel_rfl) rfl rfl ⟨(blk_cell BK415.out 0).trans rfl, (blk_cell BK415.out 1).trans rfl⟩ (fun hHeld => ?_); refine with_tabW spec_l5Pool.tab2 spec_l5Pool.bits2 (fun HT_ HW_ => ?_)
    generalize w45.drew = w46 at HO412 BK409 BK415 HI0 HK HB hHeld ⊢
    refine pure_ (i := 1) (N := some 10) (v := ?_) (a' := ?_) #[false, true, false, false, false, false, false, false] rfl rfl (any_of HT_.out (by kernel_rfl)) (fun _ _ _ h => h) (Or.inl ⟨by rfl, ?_⟩) ?_ ?_
    rotate_left
    ·intro w'
     go_simp
     with_reducible rfl
    rotate_left
    ·simp only [Act.put, List.setIfInBounds_toArray, List.set_cons_zero, List.set_cons_succ, i64_w, i32_w]
     rfl
    refine take_ (i := 0) (N := some 9) (v := ?_) (a' := ?_) #[true, true, false, false, false, false, false, false] rfl rfl (take_ofW HT_.out HW_.out (by kernel_rfl)) (fun _ _ _ h => h) (Or.inl ⟨by rfl, ?_⟩) hHeld ?_ ?_
    rotate_left
    ·rintro w' ⟨s0, s1⟩
     go_simp
     with_reducible rfl
    rotate_left
    ·simp only [Act.put, List.setIfInBounds_toArray, List.set_cons_zero, List.set_cons_succ, i64_w, i32_w]
     rfl
    refine one_ (i := 2) (N := some 11) #[true, true, true, false, false, false, false, false] rfl rfl (one_of HT_.out (by kernel_rfl)) (by decide) (fun K hK => ?_)
    refine goes_ Try.func60 (by kernel_rfl) rfl #[.pointer (some ⟨g, 0, none⟩)] (by rfl) rfl rfl (by (try simp only [List.map_toArray, List.map_cons, List.map_nil]); first | done | rfl | (simp only [List.length_drop, List.length_take]; rfl)) ?_
    with_reducible refine (spec_l5Pages.calls k g s0_0 t414 t416 t419 w0 _ ?side1 ?side2 A3.out).mono ?_
    (case side1 => repeat (first | (with_reducible first | exact HI0.out | apply IsS81.alloc | apply IsS81.drewN | apply IsS81.drew | apply IsS81.set_1 | refine IsS81.far ?_ NB0_409.out _ | refine IsS81.far ?_ NB0_415.out _) | exact HI0.out))
    (case side2 => repeat (first | (with_reducible first | exact HB.out | apply below_alloc | apply pw_below_drewN | apply below_drew1 | refine below_set ?_ (IsS81.ge HI0.out) | refine below_set ?_ GE409.out | refine below_set ?_ GE415.out) | exact HB.out))
    rintro e w47 ⟨v417, rfl, ho0, hi, hb, hk⟩
    refine ⟨_, rfl, ?_⟩
    have n0_ := Aside0.mk (KeepBut.blk hk (g' := gb409) (o := .cells #[.int .i64 0, .slice none 0 0] 46 (0, 0)) (by (with_reducible repeat (first | refine ba ?_ _ | refine bb ?_ | refine bc ?_ _)); exact BK409.out) NB409_0.out (by simp))
    have n1_ := Aside0.mk (Kd.R_mono (Kd.R_keep (IsS81.apart (show IsS81 w0 _ g s0_0 t414 from by repeat (first | (with_reducible first | exact HI0.out | apply IsS81.alloc | apply IsS81.drewN | apply IsS81.drew | apply IsS81.set_1 | refine IsS81.far ?_ NB0_409.out _ | refine IsS81.far ?_ NB0_415.out _) | exact HI0.out)) (by (with_reducible repeat (first | apply ra | apply rb | apply rc)); exact HO412.out) (by decide)) hk (fun _ h => h.2)) (fun _ h => h.1))
    have n2_ := Aside0.mk (KeepBut.blk hk (g' := gb415) (o := .cells #[.int .i64 t413, .slice none 0 0] 46 (0, 0)) (by (with_reducible repeat (first | refine ba ?_ _ | refine bb ?_ | refine bc ?_ _)); exact BK415.out) NB415_0.out (by simp))
    have n3_ := Aside0.mk (Kd.R_lower ho0 (keep_size (w := w) (g := g) (row := none) (by repeat (first | (with_reducible first | exact HK.out | apply KeepBut.set_ | apply keep_drewN | apply keep_drew | apply keep_alloc | refine keep_far ?_ GW409.out _ | refine keep_far ?_ GW415.out _) | exact HK.out))))
    have n4_ := Aside0.mk (KeepBut.trans (by repeat (first | (with_reducible first | exact HK.out | apply KeepBut.set_ | apply keep_drewN | apply keep_drew | apply keep_alloc | refine keep_far ?_ GW409.out _ | refine keep_far ?_ GW415.out _) | exact HK.out)) hk (.inl rfl))
    have n5_ := Aside0.mk (hb)
    have n6_ := Aside0.mk (hi)
    clear BK409
    clear HO412
    clear BK415
    clear HK
    clear HB
    clear HI0
    have BK409 := n0_
    have HO412 := n1_
    have BK415 := n2_
    have HO418 := n3_
    have HK := n4_
    have HB := n5_
    have HI0 := n6_
    clear n0_ n1_ n2_ n3_ n4_ n5_ n6_
    (try clear hb)
    (try clear hb2)
    (try clear hk)
    (try clear hi)
    (try clear ho0)
    obtain ⟨Ao48, co48, eo48⟩ := Kd.R_slice HO418.out
    (first | subst eo48 | (injection eo48 with f1_ f2_ f3_; have f4_ := f1_.symm; have f5_ := f3_.symm; clear f1_ f2_ f3_; subst f4_; subst f5_))
    refine hK.out _ _ ⟨(blk_cell BK415.out 0).trans rfl, (blk_cell BK415.out 1).trans rfl⟩ (fun hHeld => ?_)
    clear hK K
    refine norm_ (a' := ?_) ?_ ?_
    rotate_left
    ·show Act.put _ (some 11) _ = _
     simp only [Act.put, List.setIfInBounds_toArray, List.set_cons_zero, List.set_cons_succ, i64_w, i32_w]
     rfl
    refine one_ (i := 3) (N := some 12) #[true, true, true, true, false, false, false, false] rfl rfl (one_of HT_.out (by kernel_rfl)) (by decide) (fun K hK => ?_)
    refine goes_ Try.func59 (by kernel_rfl) rfl #[.agg #[.int .i64 t413, .slice none 0 0], .slice Ao48 t416.length co48] (by rfl) rfl rfl (by (try simp only [List.map_toArray, List.map_cons, List.map_nil]); first | done | rfl | (simp only [List.length_drop, List.length_take]; rfl)) ?_
    refine (spec_l5All.calls k t413 (fun k_ => False) _ _ ([] : List (S25)) _ _ t416 t420 t421 t424 _ ?side1 ?side2 ?side3 A4.out).mono ?_
    (case side1 => exact Kd.V_nil _ _ _ _ _)
    (case side2 => repeat (first | exact (Kd.R_reads' HO418.out).2.2 | (with_reducible refine Kd.C_alloc ?_ _) | (with_reducible refine Kd.C_drewN ?_ _) | (with_reducible refine Kd.C_drew ?_)))
    (case side3 => exact (Kd.R_reads' HO418.out).2.1)
    rintro e w49 ⟨v422, rfl, ho0, hb⟩
    refine ⟨_, rfl, ?_⟩
    have n0_ := Aside0.mk (Kd.R_below (by (with_reducible repeat (first | apply ra | apply rb | apply rc)); exact HO412.out) hb)
    have n1_ := Aside0.mk (Kd.R_elder' (by (with_reducible repeat (first | apply ra | apply rb | apply rc)); exact HO418.out) (Kd.R_base ho0) hb)
    have n2_ := Aside0.mk (Kd.R_lower (Kd.R_new' (Kd.R_mono (ok' := fun k_ => True) ho0 (fun _ hk_ => trivial)) (Kd.R_lt (by (with_reducible repeat (first | apply ra | apply rb | apply rc)); exact HO418.out))) (keep_size (w := w) (g := g) (row := none) (by repeat (first | (with_reducible first | exact HK.out | apply KeepBut.set_ | apply keep_drewN | apply keep_drew | apply keep_alloc | refine keep_far ?_ GW409.out _ | refine keep_far ?_ GW415.out _) | exact HK.out))))
    have n3_ := Aside0.mk (IsS81.below (by repeat (first | (with_reducible first | exact HI0.out | apply IsS81.alloc | apply IsS81.drewN | apply IsS81.drew | apply IsS81.set_1 | refine IsS81.far ?_ NB0_409.out _ | refine IsS81.far ?_ NB0_415.out _) | exact HI0.out)) hb)
    have n4_ := Aside0.mk (blk_below (g := gb409) (o := .cells #[.int .i64 0, .slice none 0 0] 46 (0, 0)) (by (with_reducible repeat (first | refine ba ?_ _ | refine bb ?_ | refine bc ?_ _)); exact BK409.out) hb)
    have n5_ := Aside0.mk (blk_below (g := gb415) (o := .cells #[.int .i64 t413, .slice none 0 0] 46 (0, 0)) (by (with_reducible repeat (first | refine ba ?_ _ | refine bb ?_ | refine bc ?_ _)); exact BK415.out) hb)
    have n6_ := Aside0.mk (KeepBut.trans (by repeat (first | (with_reducible first | exact HK.out | apply KeepBut.set_ | apply keep_drewN | apply keep_drew | apply keep_alloc | refine keep_far ?_ GW409.out _ | refine keep_far ?_ GW415.out _) | exact HK.out)) (KeepBut.of_below hb g none) (.inl rfl))
    have n7_ := Aside0.mk (below_step (by repeat (first | (with_reducible first | exact HB.out | apply below_alloc | apply pw_below_drewN | apply below_drew1 | refine below_set ?_ (IsS81.ge HI0.out) | refine below_set ?_ GE409.out | refine below_set ?_ GE415.out) | exact HB.out)) hb)
    clear HO412
    clear HO418
    clear HI0
    clear BK409
    clear BK415
    clear HK
    clear HB
    have HO412 := n0_
    have HO418 := n1_
    have HO423 := n2_
    have HI0 := n3_
    have BK409 := n4_
    have BK415 := n5_
    have HK := n6_
    have HB := n7_
    clear n0_ n1_ n2_ n3_ n4_ n5_ n6_ n7_
    (try clear hb)
    (try clear hb2)
    (try clear hk)
    (try clear hi)
    (try clear ho0)
    obtain ⟨Ao51, co51, eo51⟩ := Kd.R_slice HO423.out
    (first | subst eo51 | (injection eo51 with f1_ f2_ f3_; have f4_ := f1_.symm; have f5_ := f3_.symm; clear f1_ f2_ f3_; subst f4_; subst f5_))
    refine hK.out _ _ ⟨(blk_cell BK415.out 0).trans rfl, (blk_cell BK415.out 1).trans rfl⟩ (fun hHeld => ?_)
    clear hK K
    refine norm_ (a' := ?_) ?_ ?_
    rotate_left
    ·show Act.put _ (some 12) _ = _
     simp only [Act.put, List.setIfInBounds_toArray, List.set_cons_zero, List.set_cons_succ, i64_w, i32_w]
     rfl
    refine pure_ (i := 4) (N := some 8) (v := ?_) (a' := ?_) #[true, true, true, true, true, false, false, false] rfl rfl (any_of HT_.out (by kernel_rfl)) (fun _ _ _ h => h) (Or.inl ⟨by rfl, ?_⟩) ?_ ?_
    rotate_left
    ·intro w'
     go_simp
     with_reducible rfl
    rotate_left
    ·simp only [Act.put, List.setIfInBounds_toArray, List.set_cons_zero, List.set_cons_succ, i64_w, i32_w]
     rfl
    refine pure_ (i := 5) (N := some 13) (v := ?_) (a' := ?_) #[true, true, true, true, true, true, false, false] rfl rfl (any_of HT_.out (by kernel_rfl)) (fun _ _ _ h => h) (Or.inl ⟨by rfl, ?_⟩) ?_ ?_
    rotate_left
    ·intro w'
     go_simp
     with_reducible rfl
    rotate_left
    ·simp only [Act.put, List.setIfInBounds_toArray, List.set_cons_zero, List.set_cons_succ, i64_w, i32_w]
     rfl
    refine pure_ (i := 6) (N := some 14) (v := ?_) (a' := ?_) #[true, true, true, true, true, true, true, false] rfl rfl (any_of HT_.out (by kernel_rfl)) (fun _ _ _ h => h) (Or.inl ⟨by rfl, ?_⟩) ?_ ?_
    rotate_left
    ·intro w'
     go_simp
     with_reducible rfl
    rotate_left
    ·simp only [Act.put, List.setIfInBounds_toArray, List.set_cons_zero, List.set_cons_succ, i64_w, i32_w]
     rfl
    refine last_ (i := 7) (N := none) #[true, true, true, true, true, true, true, true] rfl rfl (one_of HT_.out (by kernel_rfl)) (by decide) (fun K hK => ?_)
    have hs50 : w49.cell? ⟨gb415, 0, none⟩ = some (.int .i64 t413) := (blk_cell BK415.out 0).trans rfl
    have hfs50 := blk_frozen BK415.out 0
    have hns50_0 := NB409_415.out
    have hms50_0 := NB415_409.out
    have hs52 : w49.cell? ⟨gb415, 1, none⟩ = some (.slice none 0 0) := (blk_cell BK415.out 1).trans rfl
    have hfs52 := blk_frozen BK415.out 1
    have hns52_0 := NB409_415.out
    have hms52_0 := NB415_409.out
    refine skip_ (w1 := ?_) (by rfl) rfl ?_ ?_
    rotate_left
    ·go_simp
     rfl
    refine hK.out _ _ ?_
    clear hK K
    refine done_ (done_of HT_.out (by kernel_rfl)) ?_
    try go_wp2_with (first | ((with_reducible refine gate_callee (f := 61) rfl ?_); refine goesL_ (some 16) rfl rfl Try.func61 (by kernel_rfl) rfl #[.pointer (some ⟨g, 0, none⟩), .int .i64 40] rfl (by (try simp only [List.map_toArray, List.map_cons, List.map_nil]); first | done | rfl | (simp only [List.length_drop, List.length_take]; rfl)) ?_; (with_reducible refine (spec_l9Rd_pick.calls k g s0_0 t419 40 t425 t426 w0 _ ?side1 ?side2 A5.out).mono ?_); (case side1 => repeat (first | (with_reducible first | exact HI0.out | apply IsS81.alloc | apply IsS81.drewN | apply IsS81.drew | apply IsS81.set_1 | refine IsS81.far ?_ NB0_409.out _ | refine IsS81.far ?_ NB0_415.out _) | exact HI0.out)); (case side2 => repeat (first | (with_reducible first | exact HB.out | apply below_alloc | apply pw_below_drewN | apply below_drew1 | refine below_set ?_ (IsS81.ge HI0.out) | refine below_set ?_ GE409.out | refine below_set ?_ GE415.out) | exact HB.out)); rintro e w53 ⟨rfl, hi, hb, hk⟩; refine ⟨_, rfl, ?_⟩; have n0_ := Aside0.mk (KeepBut.blk hk (g' := gb409) (o := .cells #[.int .i64 0, .slice none 0 0] 46 (0, 0)) (by (with_reducible repeat (first | refine ba ?_ _ | refine bb ?_ | refine bc ?_ _)); refine blk_far ?_ NB409_415.out _; (with_reducible repeat (first | refine ba ?_ _ | refine bb ?_ | refine bc ?_ _)); refine blk_far ?_ NB409_415.out _; (with_reducible repeat (first | refine ba ?_ _ | refine bb ?_ | refine bc ?_ _)); exact BK409.out) NB409_0.out (by simp)); have n1_ := Aside0.mk (Kd.R_mono (Kd.R_keep (IsS81.apart (show IsS81 w0 _ g s0_0 t419 from by repeat (first | (with_reducible first | exact HI0.out | apply IsS81.alloc | apply IsS81.drewN | apply IsS81.drew | apply IsS81.set_1 | refine IsS81.far ?_ NB0_409.out _ | refine IsS81.far ?_ NB0_415.out _) | exact HI0.out)) (by (with_reducible repeat (first | apply ra | apply rb | apply rc)); exact (Kd.R_mono (Kd.R_far (p := ⟨gb415, 1, none⟩) (Kd.R_far (p := ⟨gb415, 0, none⟩) (Kd.R_types HO412.out BK415.out (by decide)) (fun _ hk => hk.2) (.int .i64 t420)) (fun _ hk => hk.2) (.slice Ao51 t421.length co51)) (fun _ h_ => h_.1))) (by decide)) hk (fun _ h => h.2)) (fun _ h => h.1)); have n2_ := Aside0.mk (KeepBut.blk hk (g' := gb415) (o := .cells #[.int .i64 t420, .slice Ao51 t421.length co51] 46 (0, 0)) (by (with_reducible repeat (first | refine ba ?_ _ | refine bb ?_ | refine bc ?_ _)); refine blk_put (cs := #[.int .i64 t420, .slice none 0 0]) ?_ 1 _ rfl; (with_reducible repeat (first | refine ba ?_ _ | refine bb ?_ | refine bc ?_ _)); refine blk_put (cs := #[.int .i64 t413, .slice none 0 0]) ?_ 0 _ rfl; (with_reducible repeat (first | refine ba ?_ _ | refine bb ?_ | refine bc ?_ _)); exact BK415.out) NB415_0.out (by simp)); have n3_ := Aside0.mk (Kd.R_mono (Kd.R_keep (IsS81.apart (show IsS81 w0 _ g s0_0 t419 from by repeat (first | (with_reducible first | exact HI0.out | apply IsS81.alloc | apply IsS81.drewN | apply IsS81.drew | apply IsS81.set_1 | refine IsS81.far ?_ NB0_409.out _ | refine IsS81.far ?_ NB0_415.out _) | exact HI0.out)) (by (with_reducible repeat (first | apply ra | apply rb | apply rc)); exact (Kd.R_mono (Kd.R_far (p := ⟨gb415, 1, none⟩) (Kd.R_far (p := ⟨gb415, 0, none⟩) (Kd.R_types HO418.out BK415.out (by decide)) (fun _ hk => hk.2) (.int .i64 t420)) (fun _ hk => hk.2) (.slice Ao51 t421.length co51)) (fun _ h_ => h_.1))) (by decide)) hk (fun _ h => h.2)) (fun _ h => h.1)); have n4_ := Aside0.mk (Kd.R_mono (Kd.R_keep (IsS81.apart (show IsS81 w0 _ g s0_0 t419 from by repeat (first | (with_reducible first | exact HI0.out | apply IsS81.alloc | apply IsS81.drewN | apply IsS81.drew | apply IsS81.set_1 | refine IsS81.far ?_ NB0_409.out _ | refine IsS81.far ?_ NB0_415.out _) | exact HI0.out)) (by (with_reducible repeat (first | apply ra | apply rb | apply rc)); exact (Kd.R_mono (Kd.R_far (p := ⟨gb415, 1, none⟩) (Kd.R_far (p := ⟨gb415, 0, none⟩) (Kd.R_types HO423.out BK415.out (by decide)) (fun _ hk => hk.2) (.int .i64 t420)) (fun _ hk => hk.2) (.slice Ao51 t421.length co51)) (fun _ h_ => h_.1))) (by decide)) hk (fun _ h => h.2)) (fun _ h => h.1)); have n5_ := Aside0.mk (KeepBut.trans (by repeat (first | (with_reducible first | exact HK.out | apply KeepBut.set_ | apply keep_drewN | apply keep_drew | apply keep_alloc | refine keep_far ?_ GW409.out _ | refine keep_far ?_ GW415.out _) | exact HK.out)) hk (.inl rfl)); have n6_ := Aside0.mk (hb); have n7_ := Aside0.mk (hi); clear BK409; clear HO412; clear BK415; clear HO418; clear HO423; clear HK; clear HB; clear HI0; have BK409 := n0_; have HO412 := n1_; have BK415 := n2_; have HO418 := n3_; have HO423 := n4_; have HK := n5_; have HB := n6_; have HI0 := n7_; clear n0_ n1_ n2_ n3_ n4_ n5_ n6_ n7_; (try clear hb); (try clear hb2); (try clear hk); (try clear hi); have hcz54_0 : w53.cell? ⟨gb415, 0, none⟩ = some (.int .i64 t420) := (blk_cell BK415.out 0).trans rfl; have hcz54_1 : w53.cell? ⟨gb415, 1, none⟩ = some (.slice Ao51 t421.length co51) := (blk_cell BK415.out 1).trans rfl; have hfz54_0 := blk_frozen BK415.out 0; have hfz54_1 := blk_frozen BK415.out 1) | ((with_reducible refine gate_builtin (b := .append) (xs := #[.tmp 29, .tmp 31]) rfl ?_); at_builtin; refine Kd.R_append_rows k25 w.heap.size rfl (.tmp 29) (.tmp 31) 28 25 (.agg #[(.int .i64 0), (.int .i64 0)]) 16 rfl Try.underlying28 info25 rfl (by decide) (by omega) (.slice Ao51 t421.length co51) t421 t421 _ _ _ (fun k_ => some k_ ≠ (.slice Ao48 t416.length co48 : Value).ownBlock) (fun _ => False) rfl rfl ?aO ?aR (fun _ _ h => h) (fun _ h => h.elim) ?aF (Below.refl _ _) ?aS ?aL ?_; (case aR => repeat (first | exact (Kd.R_reads' HO423.out).2.2 | (with_reducible refine Kd.C_alloc ?_ _) | (with_reducible refine Kd.C_drewN ?_ _) | (with_reducible refine Kd.C_drew ?_))); (case aF => exact (fun k_ hk => Kd.fresh' (Kd.R_lt (by (with_reducible repeat (first | apply ra | apply rb | apply rc)); exact HO418.out)) k_ hk)); (case aO => exact (by (with_reducible repeat (first | apply ra | apply rb | apply rc)); exact Kd.R_mono HO423.out (fun _ hk => hk.2))); (case aS => exact (keep_size (w := w) (g := g) (row := none) (by repeat (first | (with_reducible first | exact HK.out | apply KeepBut.set_ | apply keep_drewN | apply keep_drew | apply keep_alloc | refine keep_far ?_ GW409.out _ | refine keep_far ?_ GW415.out _) | exact HK.out)))); (case aL => have := LMc35.out; omega); intro v433 w55 ho hb hg hat; rw [← Ny432.out] at ho; have n0_ := Aside0.mk (IsS81.grown (by repeat (first | (with_reducible first | exact HI0.out | apply IsS81.alloc | apply IsS81.drewN | apply IsS81.drew | apply IsS81.set_1 | refine IsS81.far ?_ NB0_409.out _ | refine IsS81.far ?_ NB0_415.out _) | exact HI0.out)) hg (IsS81.own_ne HI0.out HO423.out (by decide))); have n1_ := Aside0.mk (blk_grown (g := gb409) (o := .cells #[.int .i64 0, .slice none 0 0] 46 (0, 0)) (by (with_reducible repeat (first | refine ba ?_ _ | refine bb ?_ | refine bc ?_ _)); exact BK409.out) hg (Kd.R_ne HO423.out BK409.out (by decide))); have n2_ := Aside0.mk (Kd.R_over' (by (with_reducible repeat (first | apply ra | apply rb | apply rc)); exact HO412.out) (Kd.R_typed (by (with_reducible repeat (first | apply ra | apply rb | apply rc)); exact HO423.out)) (by decide) hg); have n3_ := Aside0.mk (blk_grown (g := gb415) (o := .cells #[.int .i64 t420, .slice Ao51 t421.length co51] 46 (0, 0)) (by (with_reducible repeat (first | refine ba ?_ _ | refine bb ?_ | refine bc ?_ _)); exact BK415.out) hg (Kd.R_ne HO423.out BK415.out (by decide))); have n4_ := Aside0.mk (Kd.R_after (ok := (fun _ => True)) (by (with_reducible repeat (first | apply ra | apply rb | apply rc)); exact HO418.out) hg hat); have n5_ := Aside0.mk (below_weaken (by repeat (first | (with_reducible first | exact HB.out | apply below_alloc | apply pw_below_drewN | apply below_drew1 | refine below_set ?_ (IsS81.ge HI0.out) | refine below_set ?_ GE409.out | refine below_set ?_ GE415.out) | exact HB.out)) HL.out hb); have n6_ := Aside0.mk (KeepBut.trans (by repeat (first | (with_reducible first | exact HK.out | apply KeepBut.set_ | apply keep_drewN | apply keep_drew | apply keep_alloc | refine keep_far ?_ GW409.out _ | refine keep_far ?_ GW415.out _) | exact HK.out)) (KeepBut.of_grown hg g) (Kd.R_base2 HO423.out)); have n7_ := Aside0.mk (ho); clear HI0; clear BK409; clear HO412; clear BK415; clear HO418; clear HB; clear HK; clear HO423; have HI0 := n0_; have BK409 := n1_; have HO412 := n2_; have BK415 := n3_; have HO418 := n4_; have HB := n5_; have HK := n6_; have HO434 := n7_; clear n0_ n1_ n2_ n3_ n4_ n5_ n6_ n7_; clear ho hb hg hat; obtain ⟨Ao56, co56, eo56⟩ := Kd.R_slice HO434.out; subst eo56; have hcz57_0 : w55.cell? ⟨gb415, 0, none⟩ = some (.int .i64 t420) := (blk_cell BK415.out 0).trans rfl; have hcz57_1 : w55.cell? ⟨gb415, 1, none⟩ = some (.slice Ao51 t421.length co51) := (blk_cell BK415.out 1).trans rfl; have hfz57_0 := blk_frozen BK415.out 0; have hfz57_1 := blk_frozen BK415.out 1; have hnb58 := NB409_0.out; have hnc58 := NB0_409.out; have hcz59_0 : w55.cell? ⟨gb409, 0, none⟩ = some (.int .i64 0) := (blk_cell BK409.out 0).trans rfl; have hcz59_1 : w55.cell? ⟨gb409, 1, none⟩ = some (.slice none 0 0) := (blk_cell BK409.out 1).trans rfl; have hfz59_0 := blk_frozen BK409.out 0; have hfz59_1 := blk_frozen BK409.out 1))
    refine bodyPost_ret (results_cell_row rfl _ _ gb409 46 #[.int .i64 t420, .slice Ao56 y432.length co56] (0, 0) _ rfl (by (with_reducible repeat (first | refine ba ?_ _ | refine bb ?_ | refine bc ?_ _)); refine blk_put (cs := #[.int .i64 t420, .slice none 0 0]) ?_ 1 _ rfl; (with_reducible repeat (first | refine ba ?_ _ | refine bb ?_ | refine bc ?_ _)); refine blk_put (cs := #[.int .i64 0, .slice none 0 0]) ?_ 0 _ rfl; (with_reducible repeat (first | refine ba ?_ _ | refine bb ?_ | refine bc ?_ _)); refine blk_far ?_ NB409_415.out _; (with_reducible repeat (first | refine ba ?_ _ | refine bb ?_ | refine bc ?_ _)); exact BK409.out) Try.underlying46 rfl (by kernel_rfl)) rfl ?_
    exact ⟨_, by first | rfl | (simp [errW_none, errW_some] <;> rfl) | (simp [*, errW_none, errW_some] <;> rfl), by (with_reducible repeat (first | apply ra | apply rb | apply rc)); exact Kd.R_mono (Kd.R_far (p := ⟨gb409, 1, none⟩) (Kd.R_far (p := ⟨gb409, 0, none⟩) (Kd.R_far (p := ⟨gb415, 1, none⟩) (Kd.R_types (Kd.R_types HO434.out BK415.out (by decide)) BK409.out (by decide)) (fun _ hk => hk.1.2) (.slice Ao56 y432.length co56)) (fun _ hk => hk.2) (.int .i64 t420)) (fun _ hk => hk.2) (.slice Ao56 y432.length co56)) (fun _ hk => trivial), by repeat (first | (with_reducible first | exact HI0.out | apply IsS81.alloc | apply IsS81.drewN | apply IsS81.drew | apply IsS81.set_1 | refine IsS81.far ?_ NB0_409.out _ | refine IsS81.far ?_ NB0_415.out _) | exact HI0.out), by repeat (first | (with_reducible first | exact HB.out | apply below_alloc | apply pw_below_drewN | apply below_drew1 | refine below_set ?_ (IsS81.ge HI0.out) | refine below_set ?_ GE409.out | refine below_set ?_ GE415.out) | exact HB.out), by repeat (first | (with_reducible first | exact HK.out | apply KeepBut.set_ | apply keep_drewN | apply keep_drew | apply keep_alloc | refine keep_far ?_ GW409.out _ | refine keep_far ?_ GW415.out _) | exact HK.out)⟩
   ·rw [if_neg c35] at H
    exact absurd H (by simp)
  ·rw [if_neg c34] at H
   have c34b0 : (t425 == 1) = false := beq_eq_false_iff_ne.mpr c34
   have c34b1 : (t425 != 1) = true := bne_iff_ne.mpr c34
   by_cases c60 : t425 = 2
   ·rw [if_pos c60] at H
    have c60b0 : (t425 == 2) = true := beq_iff_eq.mpr c60
    have c60b1 : (t425 != 2) = false := bne_eq_false_iff_eq.mpr c60
    clear c60
    by_cases c61 : t421.length < 8796093022208
    ·rw [if_pos c61] at H
     have LMc61 := Aside0.mk c61
     clear c61
     obtain ⟨y435, hy435⟩ : ∃ y_ : List (S25), y_ = (t421 ++ [(⟨9, 0⟩ : S25)]) := ⟨_, rfl⟩
     replace H : (some (t420, y435, t426)) = some (r1, r2, r3) := by first | (rw [hy435]; with_reducible exact H) | (have H2_ := (Option.bind_some _ _).symm.trans H; rw [hy435]; with_reducible exact H2_) | (have H2_ := (Option.bind_some _ _).symm.trans H; with_reducible exact H2_) | with_reducible exact H | (rw [hy435]; exact H) | exact H
     have Ny435 := Aside0.mk hy435
     clear hy435
     simp only [Option.some.injEq, Prod.mk.injEq] at H
     obtain ⟨rfl, rfl, rfl⟩ := H
     go_enter Try.func63, Try.ntmps63
     try go_wp2_with (first | ((with_reducible refine gate_dst (N := 2) rfl ?_); refine box_event ?hg (N := 2) ?hd (cs := #[.int .i64 0, .slice none 0 0]) (t := 46) ?hr ?_; (case hd => rfl); (case hg => rfl); (case hr => first | (go_simp; done) | (go_simp; rfl)); intro gb409 hg w62 hbox hb; have n0_ := Aside0.mk (IsS81.below (by repeat (first | (with_reducible first | exact HI0.out | apply IsS81.alloc | apply IsS81.drewN | apply IsS81.drew | apply IsS81.set_1) | exact HI0.out)) hb); have n1_ := Aside0.mk (KeepBut.trans (by repeat (first | (with_reducible first | exact HK.out | apply KeepBut.set_ | apply keep_drewN | apply keep_drew | apply keep_alloc) | exact HK.out)) (KeepBut.of_below hb g none) (.inl rfl)); have n2_ := Aside0.mk (below_step (by repeat (first | (with_reducible first | exact HB.out | apply below_alloc | apply pw_below_drewN | apply below_drew1 | refine below_set ?_ (IsS81.ge HI0.out)) | exact HB.out)) hb); have n3_ := Aside0.mk (hbox); have n4_ := Aside0.mk ((by rw [hg]; exact (keep_size (w := w) (g := g) (row := none) (by repeat (first | (with_reducible first | exact HK.out | apply KeepBut.set_ | apply keep_drewN | apply keep_drew | apply keep_alloc) | exact HK.out))) : w.heap.size ≤ gb409)); have n5_ := Aside0.mk ((Nat.le_trans HW0.out (by rw [hg]; exact (keep_size (w := w) (g := g) (row := none) (by repeat (first | (with_reducible first | exact HK.out | apply KeepBut.set_ | apply keep_drewN | apply keep_drew | apply keep_alloc) | exact HK.out))) : w.heap.size ≤ gb409) : w0.heap.size ≤ gb409)); have n6_ := Aside0.mk ((by rw [hg]; exact Nat.ne_of_lt (IsS81.lt (show IsS81 w0 _ g s0_0 s0_1 from by repeat (first | (with_reducible first | exact HI0.out | apply IsS81.alloc | apply IsS81.drewN | apply IsS81.drew | apply IsS81.set_1) | exact HI0.out))) : g ≠ gb409)); have n7_ := Aside0.mk ((by rw [hg]; exact Nat.ne_of_gt (IsS81.lt (show IsS81 w0 _ g s0_0 s0_1 from by repeat (first | (with_reducible first | exact HI0.out | apply IsS81.alloc | apply IsS81.drewN | apply IsS81.drew | apply IsS81.set_1) | exact HI0.out))) : gb409 ≠ g)); clear HI0; clear HK; clear HB; have HI0 := n0_; have HK := n1_; have HB := n2_; have BK409 := n3_; have GW409 := n4_; have GE409 := n5_; have NB0_409 := n6_; have NB409_0 := n7_; clear n0_ n1_ n2_ n3_ n4_ n5_ n6_ n7_; clear hb hbox hg) | ((with_reducible refine gate_dst (N := 5) rfl ?_); refine Kd.R_lit (Kd.int .i64) _ 3 ?hg (N := 5) ?hd (xs := ([2, 3, 4, 1, 0, 6, 12] : List Int)) (inner := [.int .i64 2, .int .i64 3, .int .i64 4, .int .i64 1, .int .i64 0, .int .i64 6, .int .i64 12]) (ok := fun _ => True) (okp := fun _ => True) ?hr ?hp (fun _ hk => hk) trivial (Below.refl _ _) (Nat.le_refl _) (by simp) ?_; (case hd => rfl); (case hg => rfl); (case hr => first | (go_simp; done) | (go_simp; rfl)); (case hp => exact (Reps.one (show Kd.M (Kd.int .i64) _ _ _ 2 [.int .i64 2] from rfl) (Reps.one (show Kd.M (Kd.int .i64) _ _ _ 3 [.int .i64 3] from rfl) (Reps.one (show Kd.M (Kd.int .i64) _ _ _ 4 [.int .i64 4] from rfl) (Reps.one (show Kd.M (Kd.int .i64) _ _ _ 1 [.int .i64 1] from rfl) (Reps.one (show Kd.M (Kd.int .i64) _ _ _ 0 [.int .i64 0] from rfl) (Reps.one (show Kd.M (Kd.int .i64) _ _ _ 6 [.int .i64 6] from rfl) (Reps.one (show Kd.M (Kd.int .i64) _ _ _ 12 [.int .i64 12] from rfl) (Reps.none _ _))))))))); intro v411 w63 ho64 hb hg_ hnew_; clear hg_ hnew_; (first | rw [← Ny410.out] at ho64 | (simp only [Int.reduceToNat] at ho64; rw [← Ny410.out] at ho64)); have n0_ := Aside0.mk (Kd.R_lower ho64 (keep_size (w := w) (g := g) (row := none) (by repeat (first | (with_reducible first | exact HK.out | apply KeepBut.set_ | apply keep_drewN | apply keep_drew | apply keep_alloc | refine keep_far ?_ GW409.out _) | exact HK.out)))); have n1_ := Aside0.mk (IsS81.below (by repeat (first | (with_reducible first | exact HI0.out | apply IsS81.alloc | apply IsS81.drewN | apply IsS81.drew | apply IsS81.set_1 | refine IsS81.far ?_ NB0_409.out _) | exact HI0.out)) hb); have n2_ := Aside0.mk (blk_below (g := gb409) (o := .cells #[.int .i64 0, .slice none 0 0] 46 (0, 0)) (by (with_reducible repeat (first | refine ba ?_ _ | refine bb ?_ | refine bc ?_ _)); exact BK409.out) hb); have n3_ := Aside0.mk (KeepBut.trans (by repeat (first | (with_reducible first | exact HK.out | apply KeepBut.set_ | apply keep_drewN | apply keep_drew | apply keep_alloc | refine keep_far ?_ GW409.out _) | exact HK.out)) (KeepBut.of_below hb g none) (.inl rfl)); have n4_ := Aside0.mk (below_step (by repeat (first | (with_reducible first | exact HB.out | apply below_alloc | apply pw_below_drewN | apply below_drew1 | refine below_set ?_ (IsS81.ge HI0.out) | refine below_set ?_ GE409.out) | exact HB.out)) hb); clear HI0; clear BK409; clear HK; clear HB; have HO412 := n0_; have HI0 := n1_; have BK409 := n2_; have HK := n3_; have HB := n4_; clear n0_ n1_ n2_ n3_ n4_; clear hb ho64; obtain ⟨Ao65, co65, eo65⟩ := Kd.R_slice HO412.out; subst eo65) | ((with_reducible refine gate_callee (f := 55) rfl ?_); refine goesL_ (some 6) rfl rfl Try.func55 (by kernel_rfl) rfl #[.pointer (some ⟨g, 0, none⟩), .slice Ao65 y410.length co65] rfl (by (try simp only [List.map_toArray, List.map_cons, List.map_nil]); first | done | rfl | (simp only [List.length_drop, List.length_take]; rfl)) ?_; (with_reducible refine (spec_l9Rd_num.calls k g s0_0 s0_1 _ _ y410 t413 t414 w0 _ ?side1 ?side2 ?side3 ?side4 ?side5 A2.out).mono ?_); (case side1 => repeat (first | (with_reducible first | exact HI0.out | apply IsS81.alloc | apply IsS81.drewN | apply IsS81.drew | apply IsS81.set_1 | refine IsS81.far ?_ NB0_409.out _) | exact HI0.out)); (case side2 => repeat (first | (with_reducible first | exact HB.out | apply below_alloc | apply pw_below_drewN | apply below_drew1 | refine below_set ?_ (IsS81.ge HI0.out) | refine below_set ?_ GE409.out) | exact HB.out)); (case side3 => repeat (first | exact (Kd.R_reads' HO412.out).2.2 | (with_reducible refine Kd.C_alloc ?_ _) | (with_reducible refine Kd.C_drewN ?_ _) | (with_reducible refine Kd.C_drew ?_))); (case side4 => exact (Kd.R_reads' HO412.out).2.1); (case side5 => exact far_slice (IsS81.own_ne HI0.out HO412.out (by decide))); rintro e w66 ⟨rfl, hi, hb, hk⟩; refine ⟨_, rfl, ?_⟩; have n0_ := Aside0.mk (KeepBut.blk hk (g' := gb409) (o := .cells #[.int .i64 0, .slice none 0 0] 46 (0, 0)) (by (with_reducible repeat (first | refine ba ?_ _ | refine bb ?_ | refine bc ?_ _)); exact BK409.out) NB409_0.out (by simp)); have n1_ := Aside0.mk (Kd.R_mono (Kd.R_keep (IsS81.apart (show IsS81 w0 _ g s0_0 s0_1 from by repeat (first | (with_reducible first | exact HI0.out | apply IsS81.alloc | apply IsS81.drewN | apply IsS81.drew | apply IsS81.set_1 | refine IsS81.far ?_ NB0_409.out _) | exact HI0.out)) (by (with_reducible repeat (first | apply ra | apply rb | apply rc)); exact HO412.out) (by decide)) hk (fun _ h => h.2)) (fun _ h => h.1)); have n2_ := Aside0.mk (KeepBut.trans (by repeat (first | (with_reducible first | exact HK.out | apply KeepBut.set_ | apply keep_drewN | apply keep_drew | apply keep_alloc | refine keep_far ?_ GW409.out _) | exact HK.out)) hk (.inl rfl)); have n3_ := Aside0.mk (hb); have n4_ := Aside0.mk (hi); clear BK409; clear HO412; clear HK; clear HB; clear HI0; have BK409 := n0_; have HO412 := n1_; have HK := n2_; have HB := n3_; have HI0 := n4_; clear n0_ n1_ n2_ n3_ n4_; (try clear hb); (try clear hb2); (try clear hk); (try clear hi)) | ((with_reducible refine gate_dst (N := 3) rfl ?_); refine box_event ?hg (N := 3) ?hd (cs := #[.int .i64 0, .slice none 0 0]) (t := 46) ?hr ?_; (case hd => rfl); (case hg => rfl); (case hr => first | (go_simp; done) | (go_simp; rfl)); intro gb415 hg w67 hbox hb; have n0_ := Aside0.mk (Kd.R_below (by (with_reducible repeat (first | apply ra | apply rb | apply rc)); exact HO412.out) hb); have n1_ := Aside0.mk (IsS81.below (by repeat (first | (with_reducible first | exact HI0.out | apply IsS81.alloc | apply IsS81.drewN | apply IsS81.drew | apply IsS81.set_1 | refine IsS81.far ?_ NB0_409.out _) | exact HI0.out)) hb); have n2_ := Aside0.mk (blk_below (g := gb409) (o := .cells #[.int .i64 0, .slice none 0 0] 46 (0, 0)) (by (with_reducible repeat (first | refine ba ?_ _ | refine bb ?_ | refine bc ?_ _)); exact BK409.out) hb); have n3_ := Aside0.mk (KeepBut.trans (by repeat (first | (with_reducible first | exact HK.out | apply KeepBut.set_ | apply keep_drewN | apply keep_drew | apply keep_alloc | refine keep_far ?_ GW409.out _) | exact HK.out)) (KeepBut.of_below hb g none) (.inl rfl)); have n4_ := Aside0.mk (below_step (by repeat (first | (with_reducible first | exact HB.out | apply below_alloc | apply pw_below_drewN | apply below_drew1 | refine below_set ?_ (IsS81.ge HI0.out) | refine below_set ?_ GE409.out) | exact HB.out)) hb); have n5_ := Aside0.mk (hbox); have n6_ := Aside0.mk ((by rw [hg]; exact (keep_size (w := w) (g := g) (row := none) (by repeat (first | (with_reducible first | exact HK.out | apply KeepBut.set_ | apply keep_drewN | apply keep_drew | apply keep_alloc | refine keep_far ?_ GW409.out _) | exact HK.out))) : w.heap.size ≤ gb415)); have n7_ := Aside0.mk ((Nat.le_trans HW0.out (by rw [hg]; exact (keep_size (w := w) (g := g) (row := none) (by repeat (first | (with_reducible first | exact HK.out | apply KeepBut.set_ | apply keep_drewN | apply keep_drew | apply keep_alloc | refine keep_far ?_ GW409.out _) | exact HK.out))) : w.heap.size ≤ gb415) : w0.heap.size ≤ gb415)); have n8_ := Aside0.mk ((by rw [hg]; exact Nat.ne_of_lt (blk_lt (g := gb409) (o := .cells #[.int .i64 0, .slice none 0 0] 46 (0, 0)) (by (with_reducible repeat (first | refine ba ?_ _ | refine bb ?_ | refine bc ?_ _)); exact BK409.out)) : gb409 ≠ gb415)); have n9_ := Aside0.mk ((by rw [hg]; exact Nat.ne_of_gt (blk_lt (g := gb409) (o := .cells #[.int .i64 0, .slice none 0 0] 46 (0, 0)) (by (with_reducible repeat (first | refine ba ?_ _ | refine bb ?_ | refine bc ?_ _)); exact BK409.out)) : gb415 ≠ gb409)); have n10_ := Aside0.mk ((by rw [hg]; exact Nat.ne_of_lt (IsS81.lt (show IsS81 w0 _ g s0_0 t414 from by repeat (first | (with_reducible first | exact HI0.out | apply IsS81.alloc | apply IsS81.drewN | apply IsS81.drew | apply IsS81.set_1 | refine IsS81.far ?_ NB0_409.out _) | exact HI0.out))) : g ≠ gb415)); have n11_ := Aside0.mk ((by rw [hg]; exact Nat.ne_of_gt (IsS81.lt (show IsS81 w0 _ g s0_0 t414 from by repeat (first | (with_reducible first | exact HI0.out | apply IsS81.alloc | apply IsS81.drewN | apply IsS81.drew | apply IsS81.set_1 | refine IsS81.far ?_ NB0_409.out _) | exact HI0.out))) : gb415 ≠ g)); clear HO412; clear HI0; clear BK409; clear HK; clear HB; have HO412 := n0_; have HI0 := n1_; have BK409 := n2_; have HK := n3_; have HB := n4_; have BK415 := n5_; have GW415 := n6_; have GE415 := n7_; have NB409_415 := n8_; have NB415_409 := n9_; have NB0_415 := n10_; have NB415_0 := n11_; clear n0_ n1_ n2_ n3_ n4_ n5_ n6_ n7_ n8_ n9_ n10_ n11_; clear hb hbox hg; have hnb68 := NB415_409.out; have hnc68 := NB409_415.out; have hnb69 := NB415_0.out; have hnc69 := NB0_415.out; have hcz70_0 : w67.cell? ⟨gb415, 0, none⟩ = some (.int .i64 0) := (blk_cell BK415.out 0).trans rfl; have hcz70_1 : w67.cell? ⟨gb415, 1, none⟩ = some (.slice none 0 0) := (blk_cell BK415.out 1).trans rfl; have hfz70_0 := blk_frozen BK415.out 0; have hfz70_1 := blk_frozen BK415.out 1))
     have n0_ : Aside0 (Kd.R (Kd.int .i64) 3 ((w67.setCell ⟨gb415, 0, none⟩ (.int .i64 t413)).setCell ⟨gb415, 1, none⟩ (.slice none 0 0)) w.heap.size (fun _ => True) (.slice Ao65 y410.length co65) y410) := ⟨by (with_reducible repeat (first | apply ra | apply rb | apply rc)); exact Kd.R_mono (Kd.R_far (p := ⟨gb415, 1, none⟩) (Kd.R_far (p := ⟨gb415, 0, none⟩) (Kd.R_types HO412.out BK415.out (by decide)) (fun _ hk => hk.2) (.int .i64 t413)) (fun _ hk => hk.2) (.slice none 0 0)) (fun _ hk => trivial)⟩
     have n1_ : Aside0 (((w67.setCell ⟨gb415, 0, none⟩ (.int .i64 t413)).setCell ⟨gb415, 1, none⟩ (.slice none 0 0)).heap[gb409]? = some (.cells #[.int .i64 0, .slice none 0 0] 46 (0, 0))) := ⟨by (with_reducible repeat (first | refine ba ?_ _ | refine bb ?_ | refine bc ?_ _)); refine blk_far ?_ NB409_415.out _; (with_reducible repeat (first | refine ba ?_ _ | refine bb ?_ | refine bc ?_ _)); refine blk_far ?_ NB409_415.out _; (with_reducible repeat (first | refine ba ?_ _ | refine bb ?_ | refine bc ?_ _)); exact BK409.out⟩
     have n2_ : Aside0 (((w67.setCell ⟨gb415, 0, none⟩ (.int .i64 t413)).setCell ⟨gb415, 1, none⟩ (.slice none 0 0)).heap[gb415]? = some (.cells #[.int .i64 t413, .slice none 0 0] 46 (0, 0))) := ⟨by (with_reducible repeat (first | refine ba ?_ _ | refine bb ?_ | refine bc ?_ _)); refine blk_put (cs := #[.int .i64 t413, .slice none 0 0]) ?_ 1 _ rfl; (with_reducible repeat (first | refine ba ?_ _ | refine bb ?_ | refine bc ?_ _)); refine blk_put (cs := #[.int .i64 0, .slice none 0 0]) ?_ 0 _ rfl; (with_reducible repeat (first | refine ba ?_ _ | refine bb ?_ | refine bc ?_ _)); exact BK415.out⟩
     have n3_ : Aside0 (IsS81 w0 ((w67.setCell ⟨gb415, 0, none⟩ (.int .i64 t413)).setCell ⟨gb415, 1, none⟩ (.slice none 0 0)) g s0_0 t414) := ⟨by repeat (first | (with_reducible first | exact HI0.out | apply IsS81.alloc | apply IsS81.drewN | apply IsS81.drew | apply IsS81.set_1 | refine IsS81.far ?_ NB0_409.out _ | refine IsS81.far ?_ NB0_415.out _) | exact HI0.out)⟩
     have n4_ : Aside0 (KeepBut w ((w67.setCell ⟨gb415, 0, none⟩ (.int .i64 t413)).setCell ⟨gb415, 1, none⟩ (.slice none 0 0)) g none) := ⟨by repeat (first | (with_reducible first | exact HK.out | apply KeepBut.set_ | apply keep_drewN | apply keep_drew | apply keep_alloc | refine keep_far ?_ GW409.out _ | refine keep_far ?_ GW415.out _) | exact HK.out)⟩
     have n5_ : Aside0 (Below w0.heap.size w0 ((w67.setCell ⟨gb415, 0, none⟩ (.int .i64 t413)).setCell ⟨gb415, 1, none⟩ (.slice none 0 0))) := ⟨by repeat (first | (with_reducible first | exact HB.out | apply below_alloc | apply pw_below_drewN | apply below_drew1 | refine below_set ?_ (IsS81.ge HI0.out) | refine below_set ?_ GE409.out | refine below_set ?_ GE415.out) | exact HB.out)⟩
     (try clear HO412)
     (try clear BK409)
     (try clear BK415)
     (try clear HI0)
     (try clear HK)
     (try clear HB)
     generalize ((w67.setCell ⟨gb415, 0, none⟩ (.int .i64 t413)).setCell ⟨gb415, 1, none⟩ (.slice none 0 0)) = w71 at n0_ n1_ n2_ n3_ n4_ n5_ ⊢
     have HO412 := n0_
     have BK409 := n1_
     have BK415 := n2_
     have HI0 := n3_
     have HK := n4_
     have HB := n5_
     clear n0_ n1_ n2_ n3_ n4_ n5_
     have n0_ := Aside0.mk (Kd.R_drew HO412.out)
     have n1_ := Aside0.mk (blk_drew BK409.out)
     have n2_ := Aside0.mk (blk_drew BK415.out)
     have n3_ := Aside0.mk (IsS81.drew HI0.out)
     have n4_ := Aside0.mk (keep_drew HK.out)
     have n5_ := Aside0.mk (below_drew1 HB.out)
     clear HO412
     clear BK409
     clear BK415
     clear HI0
     clear HK
     clear HB
     have HO412 := n0_
     have BK409 := n1_
     have BK415 := n2_
     have HI0 := n3_
     have HK := n4_
     have HB := n5_
     clear n0_ n1_ n2_ n3_ n4_ n5_
     refine start_ (n := 8) (S := fun w' => w'.cell? ⟨gb415, 0, none⟩ = some (.int .i64 t413) ∧ w'.cell? ⟨gb415, 1, none⟩ = some (.slice none 0 0)) (ds := [7]) #[false, false, false, false, false, false, false, false] (by kernel_rfl) rfl rfl ⟨(blk_cell BK415.out 0).trans rfl, (blk_cell BK415.out 1).trans rfl⟩ (fun hHeld => ?_); refine with_tabW spec_l5Pool.tab2 spec_l5Pool.bits2 (fun HT_ HW_ => ?_)
     generalize w71.drew = w72 at HO412 BK409 BK415 HI0 HK HB hHeld ⊢
     refine pure_ (i := 1) (N := some 10) (v := ?_) (a' := ?_) #[false, true, false, false, false, false, false, false] rfl rfl (any_of HT_.out (by kernel_rfl)) (fun _ _ _ h => h) (Or.inl ⟨by rfl, ?_⟩) ?_ ?_
     rotate_left
     ·intro w'
      go_simp
      with_reducible rfl
     rotate_left
     ·simp only [Act.put, List.setIfInBounds_toArray, List.set_cons_zero, List.set_cons_succ, i64_w, i32_w]
      rfl
     refine take_ (i := 0) (N := some 9) (v := ?_) (a' := ?_) #[true, true, false, false, false, false, false, false] rfl rfl (take_ofW HT_.out HW_.out (by kernel_rfl)) (fun _ _ _ h => h) (Or.inl ⟨by rfl, ?_⟩) hHeld ?_ ?_
     rotate_left
     ·rintro w' ⟨s0, s1⟩
      go_simp
      with_reducible rfl
     rotate_left
     ·simp only [Act.put, List.setIfInBounds_toArray, List.set_cons_zero, List.set_cons_succ, i64_w, i32_w]
      rfl
     refine one_ (i := 2) (N := some 11) #[true, true, true, false, false, false, false, false] rfl rfl (one_of HT_.out (by kernel_rfl)) (by decide) (fun K hK => ?_)
     refine goes_ Try.func60 (by kernel_rfl) rfl #[.pointer (some ⟨g, 0, none⟩)] (by rfl) rfl rfl (by (try simp only [List.map_toArray, List.map_cons, List.map_nil]); first | done | rfl | (simp only [List.length_drop, List.length_take]; rfl)) ?_
     with_reducible refine (spec_l5Pages.calls k g s0_0 t414 t416 t419 w0 _ ?side1 ?side2 A3.out).mono ?_
     (case side1 => repeat (first | (with_reducible first | exact HI0.out | apply IsS81.alloc | apply IsS81.drewN | apply IsS81.drew | apply IsS81.set_1 | refine IsS81.far ?_ NB0_409.out _ | refine IsS81.far ?_ NB0_415.out _) | exact HI0.out))
     (case side2 => repeat (first | (with_reducible first | exact HB.out | apply below_alloc | apply pw_below_drewN | apply below_drew1 | refine below_set ?_ (IsS81.ge HI0.out) | refine below_set ?_ GE409.out | refine below_set ?_ GE415.out) | exact HB.out))
     rintro e w73 ⟨v417, rfl, ho0, hi, hb, hk⟩
     refine ⟨_, rfl, ?_⟩
     have n0_ := Aside0.mk (KeepBut.blk hk (g' := gb409) (o := .cells #[.int .i64 0, .slice none 0 0] 46 (0, 0)) (by (with_reducible repeat (first | refine ba ?_ _ | refine bb ?_ | refine bc ?_ _)); exact BK409.out) NB409_0.out (by simp))
     have n1_ := Aside0.mk (Kd.R_mono (Kd.R_keep (IsS81.apart (show IsS81 w0 _ g s0_0 t414 from by repeat (first | (with_reducible first | exact HI0.out | apply IsS81.alloc | apply IsS81.drewN | apply IsS81.drew | apply IsS81.set_1 | refine IsS81.far ?_ NB0_409.out _ | refine IsS81.far ?_ NB0_415.out _) | exact HI0.out)) (by (with_reducible repeat (first | apply ra | apply rb | apply rc)); exact HO412.out) (by decide)) hk (fun _ h => h.2)) (fun _ h => h.1))
     have n2_ := Aside0.mk (KeepBut.blk hk (g' := gb415) (o := .cells #[.int .i64 t413, .slice none 0 0] 46 (0, 0)) (by (with_reducible repeat (first | refine ba ?_ _ | refine bb ?_ | refine bc ?_ _)); exact BK415.out) NB415_0.out (by simp))
     have n3_ := Aside0.mk (Kd.R_lower ho0 (keep_size (w := w) (g := g) (row := none) (by repeat (first | (with_reducible first | exact HK.out | apply KeepBut.set_ | apply keep_drewN | apply keep_drew | apply keep_alloc | refine keep_far ?_ GW409.out _ | refine keep_far ?_ GW415.out _) | exact HK.out))))
     have n4_ := Aside0.mk (KeepBut.trans (by repeat (first | (with_reducible first | exact HK.out | apply KeepBut.set_ | apply keep_drewN | apply keep_drew | apply keep_alloc | refine keep_far ?_ GW409.out _ | refine keep_far ?_ GW415.out _) | exact HK.out)) hk (.inl rfl))
     have n5_ := Aside0.mk (hb)
     have n6_ := Aside0.mk (hi)
     clear BK409
     clear HO412
     clear BK415
     clear HK
     clear HB
     clear HI0
     have BK409 := n0_
     have HO412 := n1_
     have BK415 := n2_
     have HO418 := n3_
     have HK := n4_
     have HB := n5_
     have HI0 := n6_
     clear n0_ n1_ n2_ n3_ n4_ n5_ n6_
     (try clear hb)
     (try clear hb2)
     (try clear hk)
     (try clear hi)
     (try clear ho0)
     obtain ⟨Ao74, co74, eo74⟩ := Kd.R_slice HO418.out
     (first | subst eo74 | (injection eo74 with f1_ f2_ f3_; have f4_ := f1_.symm; have f5_ := f3_.symm; clear f1_ f2_ f3_; subst f4_; subst f5_))
     refine hK.out _ _ ⟨(blk_cell BK415.out 0).trans rfl, (blk_cell BK415.out 1).trans rfl⟩ (fun hHeld => ?_)
     clear hK K
     refine norm_ (a' := ?_) ?_ ?_
     rotate_left
     ·show Act.put _ (some 11) _ = _
      simp only [Act.put, List.setIfInBounds_toArray, List.set_cons_zero, List.set_cons_succ, i64_w, i32_w]
      rfl
     refine one_ (i := 3) (N := some 12) #[true, true, true, true, false, false, false, false] rfl rfl (one_of HT_.out (by kernel_rfl)) (by decide) (fun K hK => ?_)
     refine goes_ Try.func59 (by kernel_rfl) rfl #[.agg #[.int .i64 t413, .slice none 0 0], .slice Ao74 t416.length co74] (by rfl) rfl rfl (by (try simp only [List.map_toArray, List.map_cons, List.map_nil]); first | done | rfl | (simp only [List.length_drop, List.length_take]; rfl)) ?_
     refine (spec_l5All.calls k t413 (fun k_ => False) _ _ ([] : List (S25)) _ _ t416 t420 t421 t424 _ ?side1 ?side2 ?side3 A4.out).mono ?_
     (case side1 => exact Kd.V_nil _ _ _ _ _)
     (case side2 => repeat (first | exact (Kd.R_reads' HO418.out).2.2 | (with_reducible refine Kd.C_alloc ?_ _) | (with_reducible refine Kd.C_drewN ?_ _) | (with_reducible refine Kd.C_drew ?_)))
     (case side3 => exact (Kd.R_reads' HO418.out).2.1)
     rintro e w75 ⟨v422, rfl, ho0, hb⟩
     refine ⟨_, rfl, ?_⟩
     have n0_ := Aside0.mk (Kd.R_below (by (with_reducible repeat (first | apply ra | apply rb | apply rc)); exact HO412.out) hb)
     have n1_ := Aside0.mk (Kd.R_elder' (by (with_reducible repeat (first | apply ra | apply rb | apply rc)); exact HO418.out) (Kd.R_base ho0) hb)
     have n2_ := Aside0.mk (Kd.R_lower (Kd.R_new' (Kd.R_mono (ok' := fun k_ => True) ho0 (fun _ hk_ => trivial)) (Kd.R_lt (by (with_reducible repeat (first | apply ra | apply rb | apply rc)); exact HO418.out))) (keep_size (w := w) (g := g) (row := none) (by repeat (first | (with_reducible first | exact HK.out | apply KeepBut.set_ | apply keep_drewN | apply keep_drew | apply keep_alloc | refine keep_far ?_ GW409.out _ | refine keep_far ?_ GW415.out _) | exact HK.out))))
     have n3_ := Aside0.mk (IsS81.below (by repeat (first | (with_reducible first | exact HI0.out | apply IsS81.alloc | apply IsS81.drewN | apply IsS81.drew | apply IsS81.set_1 | refine IsS81.far ?_ NB0_409.out _ | refine IsS81.far ?_ NB0_415.out _) | exact HI0.out)) hb)
     have n4_ := Aside0.mk (blk_below (g := gb409) (o := .cells #[.int .i64 0, .slice none 0 0] 46 (0, 0)) (by (with_reducible repeat (first | refine ba ?_ _ | refine bb ?_ | refine bc ?_ _)); exact BK409.out) hb)
     have n5_ := Aside0.mk (blk_below (g := gb415) (o := .cells #[.int .i64 t413, .slice none 0 0] 46 (0, 0)) (by (with_reducible repeat (first | refine ba ?_ _ | refine bb ?_ | refine bc ?_ _)); exact BK415.out) hb)
     have n6_ := Aside0.mk (KeepBut.trans (by repeat (first | (with_reducible first | exact HK.out | apply KeepBut.set_ | apply keep_drewN | apply keep_drew | apply keep_alloc | refine keep_far ?_ GW409.out _ | refine keep_far ?_ GW415.out _) | exact HK.out)) (KeepBut.of_below hb g none) (.inl rfl))
     have n7_ := Aside0.mk (below_step (by repeat (first | (with_reducible first | exact HB.out | apply below_alloc | apply pw_below_drewN | apply below_drew1 | refine below_set ?_ (IsS81.ge HI0.out) | refine below_set ?_ GE409.out | refine below_set ?_ GE415.out) | exact HB.out)) hb)
     clear HO412
     clear HO418
     clear HI0
     clear BK409
     clear BK415
     clear HK
     clear HB
     have HO412 := n0_
     have HO418 := n1_
     have HO423 := n2_
     have HI0 := n3_
     have BK409 := n4_
     have BK415 := n5_
     have HK := n6_
     have HB := n7_
     clear n0_ n1_ n2_ n3_ n4_ n5_ n6_ n7_
     (try clear hb)
     (try clear hb2)
     (try clear hk)
     (try clear hi)
     (try clear ho0)
     obtain ⟨Ao77, co77, eo77⟩ := Kd.R_slice HO423.out
     (first | subst eo77 | (injection eo77 with f1_ f2_ f3_; have f4_ := f1_.symm; have f5_ := f3_.symm; clear f1_ f2_ f3_; subst f4_; subst f5_))
     refine hK.out _ _ ⟨(blk_cell BK415.out 0).trans rfl, (blk_cell BK415.out 1).trans rfl⟩ (fun hHeld => ?_)
     clear hK K
     refine norm_ (a' := ?_) ?_ ?_
     rotate_left
     ·show Act.put _ (some 12) _ = _
      simp only [Act.put, List.setIfInBounds_toArray, List.set_cons_zero, List.set_cons_succ, i64_w, i32_w]
      rfl
     refine pure_ (i := 4) (N := some 8) (v := ?_) (a' := ?_) #[true, true, true, true, true, false, false, false] rfl rfl (any_of HT_.out (by kernel_rfl)) (fun _ _ _ h => h) (Or.inl ⟨by rfl, ?_⟩) ?_ ?_
     rotate_left
     ·intro w'
      go_simp
      with_reducible rfl
     rotate_left
     ·simp only [Act.put, List.setIfInBounds_toArray, List.set_cons_zero, List.set_cons_succ, i64_w, i32_w]
      rfl
     refine pure_ (i := 5) (N := some 13) (v := ?_) (a' := ?_) #[true, true, true, true, true, true, false, false] rfl rfl (any_of HT_.out (by kernel_rfl)) (fun _ _ _ h => h) (Or.inl ⟨by rfl, ?_⟩) ?_ ?_
     rotate_left
     ·intro w'
      go_simp
      with_reducible rfl
     rotate_left
     ·simp only [Act.put, List.setIfInBounds_toArray, List.set_cons_zero, List.set_cons_succ, i64_w, i32_w]
      rfl
     refine pure_ (i := 6) (N := some 14) (v := ?_) (a' := ?_) #[true, true, true, true, true, true, true, false] rfl rfl (any_of HT_.out (by kernel_rfl)) (fun _ _ _ h => h) (Or.inl ⟨by rfl, ?_⟩) ?_ ?_
     rotate_left
     ·intro w'
      go_simp
      with_reducible rfl
     rotate_left
     ·simp only [Act.put, List.setIfInBounds_toArray, List.set_cons_zero, List.set_cons_succ, i64_w, i32_w]
      rfl
     refine last_ (i := 7) (N := none) #[true, true, true, true, true, true, true, true] rfl rfl (one_of HT_.out (by kernel_rfl)) (by decide) (fun K hK => ?_)
     have hs76 : w75.cell? ⟨gb415, 0, none⟩ = some (.int .i64 t413) := (blk_cell BK415.out 0).trans rfl
     have hfs76 := blk_frozen BK415.out 0
     have hns76_0 := NB409_415.out
     have hms76_0 := NB415_409.out
     have hs78 : w75.cell? ⟨gb415, 1, none⟩ = some (.slice none 0 0) := (blk_cell BK415.out 1).trans rfl
     have hfs78 := blk_frozen BK415.out 1
     have hns78_0 := NB409_415.out
     have hms78_0 := NB415_409.out
     refine skip_ (w1 := ?_) (by rfl) rfl ?_ ?_
     rotate_left
     ·go_simp
      rfl
     refine hK.out _ _ ?_
     clear hK K
     refine done_ (done_of HT_.out (by kernel_rfl)) ?_
     try go_wp2_with (first | ((with_reducible refine gate_callee (f := 61) rfl ?_); refine goesL_ (some 16) rfl rfl Try.func61 (by kernel_rfl) rfl #[.pointer (some ⟨g, 0, none⟩), .int .i64 40] rfl (by (try simp only [List.map_toArray, List.map_cons, List.map_nil]); first | done | rfl | (simp only [List.length_drop, List.length_take]; rfl)) ?_; (with_reducible refine (spec_l9Rd_pick.calls k g s0_0 t419 40 t425 t426 w0 _ ?side1 ?side2 A5.out).mono ?_); (case side1 => repeat (first | (with_reducible first | exact HI0.out | apply IsS81.alloc | apply IsS81.drewN | apply IsS81.drew | apply IsS81.set_1 | refine IsS81.far ?_ NB0_409.out _ | refine IsS81.far ?_ NB0_415.out _) | exact HI0.out)); (case side2 => repeat (first | (with_reducible first | exact HB.out | apply below_alloc | apply pw_below_drewN | apply below_drew1 | refine below_set ?_ (IsS81.ge HI0.out) | refine below_set ?_ GE409.out | refine below_set ?_ GE415.out) | exact HB.out)); rintro e w79 ⟨rfl, hi, hb, hk⟩; refine ⟨_, rfl, ?_⟩; have n0_ := Aside0.mk (KeepBut.blk hk (g' := gb409) (o := .cells #[.int .i64 0, .slice none 0 0] 46 (0, 0)) (by (with_reducible repeat (first | refine ba ?_ _ | refine bb ?_ | refine bc ?_ _)); refine blk_far ?_ NB409_415.out _; (with_reducible repeat (first | refine ba ?_ _ | refine bb ?_ | refine bc ?_ _)); refine blk_far ?_ NB409_415.out _; (with_reducible repeat (first | refine ba ?_ _ | refine bb ?_ | refine bc ?_ _)); exact BK409.out) NB409_0.out (by simp)); have n1_ := Aside0.mk (Kd.R_mono (Kd.R_keep (IsS81.apart (show IsS81 w0 _ g s0_0 t419 from by repeat (first | (with_reducible first | exact HI0.out | apply IsS81.alloc | apply IsS81.drewN | apply IsS81.drew | apply IsS81.set_1 | refine IsS81.far ?_ NB0_409.out _ | refine IsS81.far ?_ NB0_415.out _) | exact HI0.out)) (by (with_reducible repeat (first | apply ra | apply rb | apply rc)); exact (Kd.R_mono (Kd.R_far (p := ⟨gb415, 1, none⟩) (Kd.R_far (p := ⟨gb415, 0, none⟩) (Kd.R_types HO412.out BK415.out (by decide)) (fun _ hk => hk.2) (.int .i64 t420)) (fun _ hk => hk.2) (.slice Ao77 t421.length co77)) (fun _ h_ => h_.1))) (by decide)) hk (fun _ h => h.2)) (fun _ h => h.1)); have n2_ := Aside0.mk (KeepBut.blk hk (g' := gb415) (o := .cells #[.int .i64 t420, .slice Ao77 t421.length co77] 46 (0, 0)) (by (with_reducible repeat (first | refine ba ?_ _ | refine bb ?_ | refine bc ?_ _)); refine blk_put (cs := #[.int .i64 t420, .slice none 0 0]) ?_ 1 _ rfl; (with_reducible repeat (first | refine ba ?_ _ | refine bb ?_ | refine bc ?_ _)); refine blk_put (cs := #[.int .i64 t413, .slice none 0 0]) ?_ 0 _ rfl; (with_reducible repeat (first | refine ba ?_ _ | refine bb ?_ | refine bc ?_ _)); exact BK415.out) NB415_0.out (by simp)); have n3_ := Aside0.mk (Kd.R_mono (Kd.R_keep (IsS81.apart (show IsS81 w0 _ g s0_0 t419 from by repeat (first | (with_reducible first | exact HI0.out | apply IsS81.alloc | apply IsS81.drewN | apply IsS81.drew | apply IsS81.set_1 | refine IsS81.far ?_ NB0_409.out _ | refine IsS81.far ?_ NB0_415.out _) | exact HI0.out)) (by (with_reducible repeat (first | apply ra | apply rb | apply rc)); exact (Kd.R_mono (Kd.R_far (p := ⟨gb415, 1, none⟩) (Kd.R_far (p := ⟨gb415, 0, none⟩) (Kd.R_types HO418.out BK415.out (by decide)) (fun _ hk => hk.2) (.int .i64 t420)) (fun _ hk => hk.2) (.slice Ao77 t421.length co77)) (fun _ h_ => h_.1))) (by decide)) hk (fun _ h => h.2)) (fun _ h => h.1)); have n4_ := Aside0.mk (Kd.R_mono (Kd.R_keep (IsS81.apart (show IsS81 w0 _ g s0_0 t419 from by repeat (first | (with_reducible first | exact HI0.out | apply IsS81.alloc | apply IsS81.drewN | apply IsS81.drew | apply IsS81.set_1 | refine IsS81.far ?_ NB0_409.out _ | refine IsS81.far ?_ NB0_415.out _) | exact HI0.out)) (by (with_reducible repeat (first | apply ra | apply rb | apply rc)); exact (Kd.R_mono (Kd.R_far (p := ⟨gb415, 1, none⟩) (Kd.R_far (p := ⟨gb415, 0, none⟩) (Kd.R_types HO423.out BK415.out (by decide)) (fun _ hk => hk.2) (.int .i64 t420)) (fun _ hk => hk.2) (.slice Ao77 t421.length co77)) (fun _ h_ => h_.1))) (by decide)) hk (fun _ h => h.2)) (fun _ h => h.1)); have n5_ := Aside0.mk (KeepBut.trans (by repeat (first | (with_reducible first | exact HK.out | apply KeepBut.set_ | apply keep_drewN | apply keep_drew | apply keep_alloc | refine keep_far ?_ GW409.out _ | refine keep_far ?_ GW415.out _) | exact HK.out)) hk (.inl rfl)); have n6_ := Aside0.mk (hb); have n7_ := Aside0.mk (hi); clear BK409; clear HO412; clear BK415; clear HO418; clear HO423; clear HK; clear HB; clear HI0; have BK409 := n0_; have HO412 := n1_; have BK415 := n2_; have HO418 := n3_; have HO423 := n4_; have HK := n5_; have HB := n6_; have HI0 := n7_; clear n0_ n1_ n2_ n3_ n4_ n5_ n6_ n7_; (try clear hb); (try clear hb2); (try clear hk); (try clear hi); have hcz80_0 : w79.cell? ⟨gb415, 0, none⟩ = some (.int .i64 t420) := (blk_cell BK415.out 0).trans rfl; have hcz80_1 : w79.cell? ⟨gb415, 1, none⟩ = some (.slice Ao77 t421.length co77) := (blk_cell BK415.out 1).trans rfl; have hfz80_0 := blk_frozen BK415.out 0; have hfz80_1 := blk_frozen BK415.out 1) | ((with_reducible refine gate_builtin (b := .append) (xs := #[.tmp 37, .tmp 39]) rfl ?_); at_builtin; refine Kd.R_append k25 w.heap.size rfl (.tmp 37) (.tmp 39) 28 25 (.agg #[(.int .i64 0), (.int .i64 0)]) 16 rfl Try.underlying28 info25 rfl (by decide) (by omega) (.slice Ao77 t421.length co77) t421 (⟨9, 0⟩ : S25) [.int .i64 9, .int .i64 0] (fun k_ => some k_ ≠ (.slice Ao74 t416.length co74 : Value).ownBlock) (fun _ => False) rfl rfl ?aP (fun _ hk => hk.elim) ?aF ?aO (Below.refl _ _) ?aS ?aL ?_; (case aP => exact k25_mkM _ _ _ (⟨9, 0⟩ : S25)); (case aF => exact (fun k_ hk => Kd.fresh' (Kd.R_lt (by (with_reducible repeat (first | apply ra | apply rb | apply rc)); exact HO418.out)) k_ hk)); (case aO => exact (by (with_reducible repeat (first | apply ra | apply rb | apply rc)); exact Kd.R_mono HO423.out (fun _ hk => hk.2))); (case aS => exact (keep_size (w := w) (g := g) (row := none) (by repeat (first | (with_reducible first | exact HK.out | apply KeepBut.set_ | apply keep_drewN | apply keep_drew | apply keep_alloc | refine keep_far ?_ GW409.out _ | refine keep_far ?_ GW415.out _) | exact HK.out)))); (case aL => have := LMc61.out; omega); intro v436 w81 ho hb hg hat; rw [← Ny435.out] at ho; have n0_ := Aside0.mk (IsS81.grown (by repeat (first | (with_reducible first | exact HI0.out | apply IsS81.alloc | apply IsS81.drewN | apply IsS81.drew | apply IsS81.set_1 | refine IsS81.far ?_ NB0_409.out _ | refine IsS81.far ?_ NB0_415.out _) | exact HI0.out)) hg (IsS81.own_ne HI0.out HO423.out (by decide))); have n1_ := Aside0.mk (blk_grown (g := gb409) (o := .cells #[.int .i64 0, .slice none 0 0] 46 (0, 0)) (by (with_reducible repeat (first | refine ba ?_ _ | refine bb ?_ | refine bc ?_ _)); exact BK409.out) hg (Kd.R_ne HO423.out BK409.out (by decide))); have n2_ := Aside0.mk (Kd.R_over' (by (with_reducible repeat (first | apply ra | apply rb | apply rc)); exact HO412.out) (Kd.R_typed (by (with_reducible repeat (first | apply ra | apply rb | apply rc)); exact HO423.out)) (by decide) hg); have n3_ := Aside0.mk (blk_grown (g := gb415) (o := .cells #[.int .i64 t420, .slice Ao77 t421.length co77] 46 (0, 0)) (by (with_reducible repeat (first | refine ba ?_ _ | refine bb ?_ | refine bc ?_ _)); exact BK415.out) hg (Kd.R_ne HO423.out BK415.out (by decide))); have n4_ := Aside0.mk (Kd.R_after (ok := (fun _ => True)) (by (with_reducible repeat (first | apply ra | apply rb | apply rc)); exact HO418.out) hg hat); have n5_ := Aside0.mk (below_weaken (by repeat (first | (with_reducible first | exact HB.out | apply below_alloc | apply pw_below_drewN | apply below_drew1 | refine below_set ?_ (IsS81.ge HI0.out) | refine below_set ?_ GE409.out | refine below_set ?_ GE415.out) | exact HB.out)) HL.out hb); have n6_ := Aside0.mk (KeepBut.trans (by repeat (first | (with_reducible first | exact HK.out | apply KeepBut.set_ | apply keep_drewN | apply keep_drew | apply keep_alloc | refine keep_far ?_ GW409.out _ | refine keep_far ?_ GW415.out _) | exact HK.out)) (KeepBut.of_grown hg g) (Kd.R_base2 HO423.out)); have n7_ := Aside0.mk (ho); clear HI0; clear BK409; clear HO412; clear BK415; clear HO418; clear HB; clear HK; clear HO423; have HI0 := n0_; have BK409 := n1_; have HO412 := n2_; have BK415 := n3_; have HO418 := n4_; have HB := n5_; have HK := n6_; have HO437 := n7_; clear n0_ n1_ n2_ n3_ n4_ n5_ n6_ n7_; clear ho hb hg hat; obtain ⟨Ao82, co82, eo82⟩ := Kd.R_slice HO437.out; subst eo82; have hcz83_0 : w81.cell? ⟨gb415, 0, none⟩ = some (.int .i64 t420) := (blk_cell BK415.out 0).trans rfl; have hcz83_1 : w81.cell? ⟨gb415, 1, none⟩ = some (.slice Ao77 t421.length co77) := (blk_cell BK415.out 1).trans rfl; have hfz83_0 := blk_frozen BK415.out 0; have hfz83_1 := blk_frozen BK415.out 1; have hnb84 := NB409_0.out; have hnc84 := NB0_409.out; have hcz85_0 : w81.cell? ⟨gb409, 0, none⟩ = some (.int .i64 0) := (blk_cell BK409.out 0).trans rfl; have hcz85_1 : w81.cell? ⟨gb409, 1, none⟩ = some (.slice none 0 0) := (blk_cell BK409.out 1).trans rfl; have hfz85_0 := blk_frozen BK409.out 0; have hfz85_1 := blk_frozen BK409.out 1))
     refine bodyPost_ret (results_cell_row rfl _ _ gb409 46 #[.int .i64 t420, .slice Ao82 y435.length co82] (0, 0) _ rfl (by (with_reducible repeat (first | refine ba ?_ _ | refine bb ?_ | refine bc ?_ _)); refine blk_put (cs := #[.int .i64 t420, .slice none 0 0]) ?_ 1 _ rfl; (with_reducible repeat (first | refine ba ?_ _ | refine bb ?_ | refine bc ?_ _)); refine blk_put (cs := #[.int .i64 0, .slice none 0 0]) ?_ 0 _ rfl; (with_reducible repeat (first | refine ba ?_ _ | refine bb ?_ | refine bc ?_ _)); refine blk_far ?_ NB409_415.out _; (with_reducible repeat (first | refine ba ?_ _ | refine bb ?_ | refine bc ?_ _)); exact BK409.out) Try.underlying46 rfl (by kernel_rfl)) rfl ?_
     exact ⟨_, by first | rfl | (simp [errW_none, errW_some] <;> rfl) | (simp [*, errW_none, errW_some] <;> rfl), by (with_reducible repeat (first | apply ra | apply rb | apply rc)); exact Kd.R_mono (Kd.R_far (p := ⟨gb409, 1, none⟩) (Kd.R_far (p := ⟨gb409, 0, none⟩) (Kd.R_far (p := ⟨gb415, 1, none⟩) (Kd.R_types (Kd.R_types HO437.out BK415.out (by decide)) BK409.out (by decide)) (fun _ hk => hk.1.2) (.slice Ao82 y435.length co82)) (fun _ hk => hk.2) (.int .i64 t420)) (fun _ hk => hk.2) (.slice Ao82 y435.length co82)) (fun _ hk => trivial), by repeat (first | (with_reducible first | exact HI0.out | apply IsS81.alloc | apply IsS81.drewN | apply IsS81.drew | apply IsS81.set_1 | refine IsS81.far ?_ NB0_409.out _ | refine IsS81.far ?_ NB0_415.out _) | exact HI0.out), by repeat (first | (with_reducible first | exact HB.out | apply below_alloc | apply pw_below_drewN | apply below_drew1 | refine below_set ?_ (IsS81.ge HI0.out) | refine below_set ?_ GE409.out | refine below_set ?_ GE415.out) | exact HB.out), by repeat (first | (with_reducible first | exact HK.out | apply KeepBut.set_ | apply keep_drewN | apply keep_drew | apply keep_alloc | refine keep_far ?_ GW409.out _ | refine keep_far ?_ GW415.out _) | exact HK.out)⟩
    ·rw [if_neg c61] at H
     exact absurd H (by simp)
   ·rw [if_neg c60] at H
    have c60b0 : (t425 == 2) = false := beq_eq_false_iff_ne.mpr c60
    have c60b1 : (t425 != 2) = true := bne_iff_ne.mpr c60
    simp only [Option.some.injEq, Prod.mk.injEq] at H
    obtain ⟨rfl, rfl, rfl⟩ := H
    go_enter Try.func63, Try.ntmps63
    try go_wp2_with (first | ((with_reducible refine gate_dst (N := 2) rfl ?_); refine box_event ?hg (N := 2) ?hd (cs := #[.int .i64 0, .slice none 0 0]) (t := 46) ?hr ?_; (case hd => rfl); (case hg => rfl); (case hr => first | (go_simp; done) | (go_simp; rfl)); intro gb409 hg w86 hbox hb; have n0_ := Aside0.mk (IsS81.below (by repeat (first | (with_reducible first | exact HI0.out | apply IsS81.alloc | apply IsS81.drewN | apply IsS81.drew | apply IsS81.set_1) | exact HI0.out)) hb); have n1_ := Aside0.mk (KeepBut.trans (by repeat (first | (with_reducible first | exact HK.out | apply KeepBut.set_ | apply keep_drewN | apply keep_drew | apply keep_alloc) | exact HK.out)) (KeepBut.of_below hb g none) (.inl rfl)); have n2_ := Aside0.mk (below_step (by repeat (first | (with_reducible first | exact HB.out | apply below_alloc | apply pw_below_drewN | apply below_drew1 | refine below_set ?_ (IsS81.ge HI0.out)) | exact HB.out)) hb); have n3_ := Aside0.mk (hbox); have n4_ := Aside0.mk ((by rw [hg]; exact (keep_size (w := w) (g := g) (row := none) (by repeat (first | (with_reducible first | exact HK.out | apply KeepBut.set_ | apply keep_drewN | apply keep_drew | apply keep_alloc) | exact HK.out))) : w.heap.size ≤ gb409)); have n5_ := Aside0.mk ((Nat.le_trans HW0.out (by rw [hg]; exact (keep_size (w := w) (g := g) (row := none) (by repeat (first | (with_reducible first | exact HK.out | apply KeepBut.set_ | apply keep_drewN | apply keep_drew | apply keep_alloc) | exact HK.out))) : w.heap.size ≤ gb409) : w0.heap.size ≤ gb409)); have n6_ := Aside0.mk ((by rw [hg]; exact Nat.ne_of_lt (IsS81.lt (show IsS81 w0 _ g s0_0 s0_1 from by repeat (first | (with_reducible first | exact HI0.out | apply IsS81.alloc | apply IsS81.drewN | apply IsS81.drew | apply IsS81.set_1) | exact HI0.out))) : g ≠ gb409)); have n7_ := Aside0.mk ((by rw [hg]; exact Nat.ne_of_gt (IsS81.lt (show IsS81 w0 _ g s0_0 s0_1 from by repeat (first | (with_reducible first | exact HI0.out | apply IsS81.alloc | apply IsS81.drewN | apply IsS81.drew | apply IsS81.set_1) | exact HI0.out))) : gb409 ≠ g)); clear HI0; clear HK; clear HB; have HI0 := n0_; have HK := n1_; have HB := n2_; have BK409 := n3_; have GW409 := n4_; have GE409 := n5_; have NB0_409 := n6_; have NB409_0 := n7_; clear n0_ n1_ n2_ n3_ n4_ n5_ n6_ n7_; clear hb hbox hg) | ((with_reducible refine gate_dst (N := 5) rfl ?_); refine Kd.R_lit (Kd.int .i64) _ 3 ?hg (N := 5) ?hd (xs := ([2, 3, 4, 1, 0, 6, 12] : List Int)) (inner := [.int .i64 2, .int .i64 3, .int .i64 4, .int .i64 1, .int .i64 0, .int .i64 6, .int .i64 12]) (ok := fun _ => True) (okp := fun _ => True) ?hr ?hp (fun _ hk => hk) trivial (Below.refl _ _) (Nat.le_refl _) (by simp) ?_; (case hd => rfl); (case hg => rfl); (case hr => first | (go_simp; done) | (go_simp; rfl)); (case hp => exact (Reps.one (show Kd.M (Kd.int .i64) _ _ _ 2 [.int .i64 2] from rfl) (Reps.one (show Kd.M (Kd.int .i64) _ _ _ 3 [.int .i64 3] from rfl) (Reps.one (show Kd.M (Kd.int .i64) _ _ _ 4 [.int .i64 4] from rfl) (Reps.one (show Kd.M (Kd.int .i64) _ _ _ 1 [.int .i64 1] from rfl) (Reps.one (show Kd.M (Kd.int .i64) _ _ _ 0 [.int .i64 0] from rfl) (Reps.one (show Kd.M (Kd.int .i64) _ _ _ 6 [.int .i64 6] from rfl) (Reps.one (show Kd.M (Kd.int .i64) _ _ _ 12 [.int .i64 12] from rfl) (Reps.none _ _))))))))); intro v411 w87 ho88 hb hg_ hnew_; clear hg_ hnew_; (first | rw [← Ny410.out] at ho88 | (simp only [Int.reduceToNat] at ho88; rw [← Ny410.out] at ho88)); have n0_ := Aside0.mk (Kd.R_lower ho88 (keep_size (w := w) (g := g) (row := none) (by repeat (first | (with_reducible first | exact HK.out | apply KeepBut.set_ | apply keep_drewN | apply keep_drew | apply keep_alloc | refine keep_far ?_ GW409.out _) | exact HK.out)))); have n1_ := Aside0.mk (IsS81.below (by repeat (first | (with_reducible first | exact HI0.out | apply IsS81.alloc | apply IsS81.drewN | apply IsS81.drew | apply IsS81.set_1 | refine IsS81.far ?_ NB0_409.out _) | exact HI0.out)) hb); have n2_ := Aside0.mk (blk_below (g := gb409) (o := .cells #[.int .i64 0, .slice none 0 0] 46 (0, 0)) (by (with_reducible repeat (first | refine ba ?_ _ | refine bb ?_ | refine bc ?_ _)); exact BK409.out) hb); have n3_ := Aside0.mk (KeepBut.trans (by repeat (first | (with_reducible first | exact HK.out | apply KeepBut.set_ | apply keep_drewN | apply keep_drew | apply keep_alloc | refine keep_far ?_ GW409.out _) | exact HK.out)) (KeepBut.of_below hb g none) (.inl rfl)); have n4_ := Aside0.mk (below_step (by repeat (first | (with_reducible first | exact HB.out | apply below_alloc | apply pw_below_drewN | apply below_drew1 | refine below_set ?_ (IsS81.ge HI0.out) | refine below_set ?_ GE409.out) | exact HB.out)) hb); clear HI0; clear BK409; clear HK; clear HB; have HO412 := n0_; have HI0 := n1_; have BK409 := n2_; have HK := n3_; have HB := n4_; clear n0_ n1_ n2_ n3_ n4_; clear hb ho88; obtain ⟨Ao89, co89, eo89⟩ := Kd.R_slice HO412.out; subst eo89) | ((with_reducible refine gate_callee (f := 55) rfl ?_); refine goesL_ (some 6) rfl rfl Try.func55 (by kernel_rfl) rfl #[.pointer (some ⟨g, 0, none⟩), .slice Ao89 y410.length co89] rfl (by (try simp only [List.map_toArray, List.map_cons, List.map_nil]); first | done | rfl | (simp only [List.length_drop, List.length_take]; rfl)) ?_; (with_reducible refine (spec_l9Rd_num.calls k g s0_0 s0_1 _ _ y410 t413 t414 w0 _ ?side1 ?side2 ?side3 ?side4 ?side5 A2.out).mono ?_); (case side1 => repeat (first | (with_reducible first | exact HI0.out | apply IsS81.alloc | apply IsS81.drewN | apply IsS81.drew | apply IsS81.set_1 | refine IsS81.far ?_ NB0_409.out _) | exact HI0.out)); (case side2 => repeat (first | (with_reducible first | exact HB.out | apply below_alloc | apply pw_below_drewN | apply below_drew1 | refine below_set ?_ (IsS81.ge HI0.out) | refine below_set ?_ GE409.out) | exact HB.out)); (case side3 => repeat (first | exact (Kd.R_reads' HO412.out).2.2 | (with_reducible refine Kd.C_alloc ?_ _) | (with_reducible refine Kd.C_drewN ?_ _) | (with_reducible refine Kd.C_drew ?_))); (case side4 => exact (Kd.R_reads' HO412.out).2.1); (case side5 => exact far_slice (IsS81.own_ne HI0.out HO412.out (by decide))); rintro e w90 ⟨rfl, hi, hb, hk⟩; refine ⟨_, rfl, ?_⟩; have n0_ := Aside0.mk (KeepBut.blk hk (g' := gb409) (o := .cells #[.int .i64 0, .slice none 0 0] 46 (0, 0)) (by (with_reducible repeat (first | refine ba ?_ _ | refine bb ?_ | refine bc ?_ _)); exact BK409.out) NB409_0.out (by simp)); have n1_ := Aside0.mk (Kd.R_mono (Kd.R_keep (IsS81.apart (show IsS81 w0 _ g s0_0 s0_1 from by repeat (first | (with_reducible first | exact HI0.out | apply IsS81.alloc | apply IsS81.drewN | apply IsS81.drew | apply IsS81.set_1 | refine IsS81.far ?_ NB0_409.out _) | exact HI0.out)) (by (with_reducible repeat (first | apply ra | apply rb | apply rc)); exact HO412.out) (by decide)) hk (fun _ h => h.2)) (fun _ h => h.1)); have n2_ := Aside0.mk (KeepBut.trans (by repeat (first | (with_reducible first | exact HK.out | apply KeepBut.set_ | apply keep_drewN | apply keep_drew | apply keep_alloc | refine keep_far ?_ GW409.out _) | exact HK.out)) hk (.inl rfl)); have n3_ := Aside0.mk (hb); have n4_ := Aside0.mk (hi); clear BK409; clear HO412; clear HK; clear HB; clear HI0; have BK409 := n0_; have HO412 := n1_; have HK := n2_; have HB := n3_; have HI0 := n4_; clear n0_ n1_ n2_ n3_ n4_; (try clear hb); (try clear hb2); (try clear hk); (try clear hi)) | ((with_reducible refine gate_dst (N := 3) rfl ?_); refine box_event ?hg (N := 3) ?hd (cs := #[.int .i64 0, .slice none 0 0]) (t := 46) ?hr ?_; (case hd => rfl); (case hg => rfl); (case hr => first | (go_simp; done) | (go_simp; rfl)); intro gb415 hg w91 hbox hb; have n0_ := Aside0.mk (Kd.R_below (by (with_reducible repeat (first | apply ra | apply rb | apply rc)); exact HO412.out) hb); have n1_ := Aside0.mk (IsS81.below (by repeat (first | (with_reducible first | exact HI0.out | apply IsS81.alloc | apply IsS81.drewN | apply IsS81.drew | apply IsS81.set_1 | refine IsS81.far ?_ NB0_409.out _) | exact HI0.out)) hb); have n2_ := Aside0.mk (blk_below (g := gb409) (o := .cells #[.int .i64 0, .slice none 0 0] 46 (0, 0)) (by (with_reducible repeat (first | refine ba ?_ _ | refine bb ?_ | refine bc ?_ _)); exact BK409.out) hb); have n3_ := Aside0.mk (KeepBut.trans (by repeat (first | (with_reducible first | exact HK.out | apply KeepBut.set_ | apply keep_drewN | apply keep_drew | apply keep_alloc | refine keep_far ?_ GW409.out _) | exact HK.out)) (KeepBut.of_below hb g none) (.inl rfl)); have n4_ := Aside0.mk (below_step (by repeat (first | (with_reducible first | exact HB.out | apply below_alloc | apply pw_below_drewN | apply below_drew1 | refine below_set ?_ (IsS81.ge HI0.out) | refine below_set ?_ GE409.out) | exact HB.out)) hb); have n5_ := Aside0.mk (hbox); have n6_ := Aside0.mk ((by rw [hg]; exact (keep_size (w := w) (g := g) (row := none) (by repeat (first | (with_reducible first | exact HK.out | apply KeepBut.set_ | apply keep_drewN | apply keep_drew | apply keep_alloc | refine keep_far ?_ GW409.out _) | exact HK.out))) : w.heap.size ≤ gb415)); have n7_ := Aside0.mk ((Nat.le_trans HW0.out (by rw [hg]; exact (keep_size (w := w) (g := g) (row := none) (by repeat (first | (with_reducible first | exact HK.out | apply KeepBut.set_ | apply keep_drewN | apply keep_drew | apply keep_alloc | refine keep_far ?_ GW409.out _) | exact HK.out))) : w.heap.size ≤ gb415) : w0.heap.size ≤ gb415)); have n8_ := Aside0.mk ((by rw [hg]; exact Nat.ne_of_lt (blk_lt (g := gb409) (o := .cells #[.int .i64 0, .slice none 0 0] 46 (0, 0)) (by (with_reducible repeat (first | refine ba ?_ _ | refine bb ?_ | refine bc ?_ _)); exact BK409.out)) : gb409 ≠ gb415)); have n9_ := Aside0.mk ((by rw [hg]; exact Nat.ne_of_gt (blk_lt (g := gb409) (o := .cells #[.int .i64 0, .slice none 0 0] 46 (0, 0)) (by (with_reducible repeat (first | refine ba ?_ _ | refine bb ?_ | refine bc ?_ _)); exact BK409.out)) : gb415 ≠ gb409)); have n10_ := Aside0.mk ((by rw [hg]; exact Nat.ne_of_lt (IsS81.lt (show IsS81 w0 _ g s0_0 t414 from by repeat (first | (with_reducible first | exact HI0.out | apply IsS81.alloc | apply IsS81.drewN | apply IsS81.drew | apply IsS81.set_1 | refine IsS81.far ?_ NB0_409.out _) | exact HI0.out))) : g ≠ gb415)); have n11_ := Aside0.mk ((by rw [hg]; exact Nat.ne_of_gt (IsS81.lt (show IsS81 w0 _ g s0_0 t414 from by repeat (first | (with_reducible first | exact HI0.out | apply IsS81.alloc | apply IsS81.drewN | apply IsS81.drew | apply IsS81.set_1 | refine IsS81.far ?_ NB0_409.out _) | exact HI0.out))) : gb415 ≠ g)); clear HO412; clear HI0; clear BK409; clear HK; clear HB; have HO412 := n0_; have HI0 := n1_; have BK409 := n2_; have HK := n3_; have HB := n4_; have BK415 := n5_; have GW415 := n6_; have GE415 := n7_; have NB409_415 := n8_; have NB415_409 := n9_; have NB0_415 := n10_; have NB415_0 := n11_; clear n0_ n1_ n2_ n3_ n4_ n5_ n6_ n7_ n8_ n9_ n10_ n11_; clear hb hbox hg; have hnb92 := NB415_409.out; have hnc92 := NB409_415.out; have hnb93 := NB415_0.out; have hnc93 := NB0_415.out; have hcz94_0 : w91.cell? ⟨gb415, 0, none⟩ = some (.int .i64 0) := (blk_cell BK415.out 0).trans rfl; have hcz94_1 : w91.cell? ⟨gb415, 1, none⟩ = some (.slice none 0 0) := (blk_cell BK415.out 1).trans rfl; have hfz94_0 := blk_frozen BK415.out 0; have hfz94_1 := blk_frozen BK415.out 1))
    have n0_ : Aside0 (Kd.R (Kd.int .i64) 3 ((w91.setCell ⟨gb415, 0, none⟩ (.int .i64 t413)).setCell ⟨gb415, 1, none⟩ (.slice none 0 0)) w.heap.size (fun _ => True) (.slice Ao89 y410.length co89) y410) := ⟨by (with_reducible repeat (first | apply ra | apply rb | apply rc)); exact Kd.R_mono (Kd.R_far (p := ⟨gb415, 1, none⟩) (Kd.R_far (p := ⟨gb415, 0, none⟩) (Kd.R_types HO412.out BK415.out (by decide)) (fun _ hk => hk.2) (.int .i64 t413)) (fun _ hk => hk.2) (.slice none 0 0)) (fun _ hk => trivial)⟩
    have n1_ : Aside0 (((w91.setCell ⟨gb415, 0, none⟩ (.int .i64 t413)).setCell ⟨gb415, 1, none⟩ (.slice none 0 0)).heap[gb409]? = some (.cells #[.int .i64 0, .slice none 0 0] 46 (0, 0))) := ⟨by (with_reducible repeat (first | refine ba ?_ _ | refine bb ?_ | refine bc ?_ _)); refine blk_far ?_ NB409_415.out _; (with_reducible repeat (first | refine ba ?_ _ | refine bb ?_ | refine bc ?_ _)); refine blk_far ?_ NB409_415.out _; (with_reducible repeat (first | refine ba ?_ _ | refine bb ?_ | refine bc ?_ _)); exact BK409.out⟩
    have n2_ : Aside0 (((w91.setCell ⟨gb415, 0, none⟩ (.int .i64 t413)).setCell ⟨gb415, 1, none⟩ (.slice none 0 0)).heap[gb415]? = some (.cells #[.int .i64 t413, .slice none 0 0] 46 (0, 0))) := ⟨by (with_reducible repeat (first | refine ba ?_ _ | refine bb ?_ | refine bc ?_ _)); refine blk_put (cs := #[.int .i64 t413, .slice none 0 0]) ?_ 1 _ rfl; (with_reducible repeat (first | refine ba ?_ _ | refine bb ?_ | refine bc ?_ _)); refine blk_put (cs := #[.int .i64 0, .slice none 0 0]) ?_ 0 _ rfl; (with_reducible repeat (first | refine ba ?_ _ | refine bb ?_ | refine bc ?_ _)); exact BK415.out⟩
    have n3_ : Aside0 (IsS81 w0 ((w91.setCell ⟨gb415, 0, none⟩ (.int .i64 t413)).setCell ⟨gb415, 1, none⟩ (.slice none 0 0)) g s0_0 t414) := ⟨by repeat (first | (with_reducible first | exact HI0.out | apply IsS81.alloc | apply IsS81.drewN | apply IsS81.drew | apply IsS81.set_1 | refine IsS81.far ?_ NB0_409.out _ | refine IsS81.far ?_ NB0_415.out _) | exact HI0.out)⟩
    have n4_ : Aside0 (KeepBut w ((w91.setCell ⟨gb415, 0, none⟩ (.int .i64 t413)).setCell ⟨gb415, 1, none⟩ (.slice none 0 0)) g none) := ⟨by repeat (first | (with_reducible first | exact HK.out | apply KeepBut.set_ | apply keep_drewN | apply keep_drew | apply keep_alloc | refine keep_far ?_ GW409.out _ | refine keep_far ?_ GW415.out _) | exact HK.out)⟩
    have n5_ : Aside0 (Below w0.heap.size w0 ((w91.setCell ⟨gb415, 0, none⟩ (.int .i64 t413)).setCell ⟨gb415, 1, none⟩ (.slice none 0 0))) := ⟨by repeat (first | (with_reducible first | exact HB.out | apply below_alloc | apply pw_below_drewN | apply below_drew1 | refine below_set ?_ (IsS81.ge HI0.out) | refine below_set ?_ GE409.out | refine below_set ?_ GE415.out) | exact HB.out)⟩
    (try clear HO412)
    (try clear BK409)
    (try clear BK415)
    (try clear HI0)
    (try clear HK)
    (try clear HB)
    generalize ((w91.setCell ⟨gb415, 0, none⟩ (.int .i64 t413)).setCell ⟨gb415, 1, none⟩ (.slice none 0 0)) = w95 at n0_ n1_ n2_ n3_ n4_ n5_ ⊢
    have HO412 := n0_
    have BK409 := n1_
    have BK415 := n2_
    have HI0 := n3_
    have HK := n4_
    have HB := n5_
    clear n0_ n1_ n2_ n3_ n4_ n5_
    have n0_ := Aside0.mk (Kd.R_drew HO412.out)
    have n1_ := Aside0.mk (blk_drew BK409.out)
    have n2_ := Aside0.mk (blk_drew BK415.out)
    have n3_ := Aside0.mk (IsS81.drew HI0.out)
    have n4_ := Aside0.mk (keep_drew HK.out)
    have n5_ := Aside0.mk (below_drew1 HB.out)
    clear HO412
    clear BK409
    clear BK415
    clear HI0
    clear HK
    clear HB
    have HO412 := n0_
    have BK409 := n1_
    have BK415 := n2_
    have HI0 := n3_
    have HK := n4_
    have HB := n5_
    clear n0_ n1_ n2_ n3_ n4_ n5_
    refine start_ (n := 8) (S := fun w' => w'.cell? ⟨gb415, 0, none⟩ = some (.int .i64 t413) ∧ w'.cell? ⟨gb415, 1, none⟩ = some (.slice none 0 0)) (ds := [7]) #[false, false, false, false, false, false, false, false] (by kernel_rfl) rfl rfl ⟨(blk_cell BK415.out 0).trans rfl, (blk_cell BK415.out 1).trans rfl⟩ (fun hHeld => ?_); refine with_tabW spec_l5Pool.tab2 spec_l5Pool.bits2 (fun HT_ HW_ => ?_)
    generalize w95.drew = w96 at HO412 BK409 BK415 HI0 HK HB hHeld ⊢
    refine pure_ (i := 1) (N := some 10) (v := ?_) (a' := ?_) #[false, true, false, false, false, false, false, false] rfl rfl (any_of HT_.out (by kernel_rfl)) (fun _ _ _ h => h) (Or.inl ⟨by rfl, ?_⟩) ?_ ?_
    rotate_left
    ·intro w'
     go_simp
     with_reducible rfl
    rotate_left
    ·simp only [Act.put, List.setIfInBounds_toArray, List.set_cons_zero, List.set_cons_succ, i64_w, i32_w]
     rfl
    refine take_ (i := 0) (N := some 9) (v := ?_) (a' := ?_) #[true, true, false, false, false, false, false, false] rfl rfl (take_ofW HT_.out HW_.out (by kernel_rfl)) (fun _ _ _ h => h) (Or.inl ⟨by rfl, ?_⟩) hHeld ?_ ?_
    rotate_left
    ·rintro w' ⟨s0, s1⟩
     go_simp
     with_reducible rfl
    rotate_left
    ·simp only [Act.put, List.setIfInBounds_toArray, List.set_cons_zero, List.set_cons_succ, i64_w, i32_w]
     rfl
    refine one_ (i := 2) (N := some 11) #[true, true, true, false, false, false, false, false] rfl rfl (one_of HT_.out (by kernel_rfl)) (by decide) (fun K hK => ?_)
    refine goes_ Try.func60 (by kernel_rfl) rfl #[.pointer (some ⟨g, 0, none⟩)] (by rfl) rfl rfl (by (try simp only [List.map_toArray, List.map_cons, List.map_nil]); first | done | rfl | (simp only [List.length_drop, List.length_take]; rfl)) ?_
    with_reducible refine (spec_l5Pages.calls k g s0_0 t414 t416 t419 w0 _ ?side1 ?side2 A3.out).mono ?_
    (case side1 => repeat (first | (with_reducible first | exact HI0.out | apply IsS81.alloc | apply IsS81.drewN | apply IsS81.drew | apply IsS81.set_1 | refine IsS81.far ?_ NB0_409.out _ | refine IsS81.far ?_ NB0_415.out _) | exact HI0.out))
    (case side2 => repeat (first | (with_reducible first | exact HB.out | apply below_alloc | apply pw_below_drewN | apply below_drew1 | refine below_set ?_ (IsS81.ge HI0.out) | refine below_set ?_ GE409.out | refine below_set ?_ GE415.out) | exact HB.out))
    rintro e w97 ⟨v417, rfl, ho0, hi, hb, hk⟩
    refine ⟨_, rfl, ?_⟩
    have n0_ := Aside0.mk (KeepBut.blk hk (g' := gb409) (o := .cells #[.int .i64 0, .slice none 0 0] 46 (0, 0)) (by (with_reducible repeat (first | refine ba ?_ _ | refine bb ?_ | refine bc ?_ _)); exact BK409.out) NB409_0.out (by simp))
    have n1_ := Aside0.mk (Kd.R_mono (Kd.R_keep (IsS81.apart (show IsS81 w0 _ g s0_0 t414 from by repeat (first | (with_reducible first | exact HI0.out | apply IsS81.alloc | apply IsS81.drewN | apply IsS81.drew | apply IsS81.set_1 | refine IsS81.far ?_ NB0_409.out _ | refine IsS81.far ?_ NB0_415.out _) | exact HI0.out)) (by (with_reducible repeat (first | apply ra | apply rb | apply rc)); exact HO412.out) (by decide)) hk (fun _ h => h.2)) (fun _ h => h.1))
    have n2_ := Aside0.mk (KeepBut.blk hk (g' := gb415) (o := .cells #[.int .i64 t413, .slice none 0 0] 46 (0, 0)) (by (with_reducible repeat (first | refine ba ?_ _ | refine bb ?_ | refine bc ?_ _)); exact BK415.out) NB415_0.out (by simp))
    have n3_ := Aside0.mk (Kd.R_lower ho0 (keep_size (w := w) (g := g) (row := none) (by repeat (first | (with_reducible first | exact HK.out | apply KeepBut.set_ | apply keep_drewN | apply keep_drew | apply keep_alloc | refine keep_far ?_ GW409.out _ | refine keep_far ?_ GW415.out _) | exact HK.out))))
    have n4_ := Aside0.mk (KeepBut.trans (by repeat (first | (with_reducible first | exact HK.out | apply KeepBut.set_ | apply keep_drewN | apply keep_drew | apply keep_alloc | refine keep_far ?_ GW409.out _ | refine keep_far ?_ GW415.out _) | exact HK.out)) hk (.inl rfl))
    have n5_ := Aside0.mk (hb)
    have n6_ := Aside0.mk (hi)
    clear BK409
    clear HO412
    clear BK415
    clear HK
    clear HB
    clear HI0
    have BK409 := n0_
    have HO412 := n1_
    have BK415 := n2_
    have HO418 := n3_
    have HK := n4_
    have HB := n5_
    have HI0 := n6_
    clear n0_ n1_ n2_ n3_ n4_ n5_ n6_
    (try clear hb)
    (try clear hb2)
    (try clear hk)
    (try clear hi)
    (try clear ho0)
    obtain ⟨Ao98, co98, eo98⟩ := Kd.R_slice HO418.out
    (first | subst eo98 | (injection eo98 with f1_ f2_ f3_; have f4_ := f1_.symm; have f5_ := f3_.symm; clear f1_ f2_ f3_; subst f4_; subst f5_))
    refine hK.out _ _ ⟨(blk_cell BK415.out 0).trans rfl, (blk_cell BK415.out 1).trans rfl⟩ (fun hHeld => ?_)
    clear hK K
    refine norm_ (a' := ?_) ?_ ?_
    rotate_left
    ·show Act.put _ (some 11) _ = _
     simp only [Act.put, List.setIfInBounds_toArray, List.set_cons_zero, List.set_cons_succ, i64_w, i32_w]
     rfl
    refine one_ (i := 3) (N := some 12) #[true, true, true, true, false, false, false, false] rfl rfl (one_of HT_.out (by kernel_rfl)) (by decide) (fun K hK => ?_)
    refine goes_ Try.func59 (by kernel_rfl) rfl #[.agg #[.int .i64 t413, .slice none 0 0], .slice Ao98 t416.length co98] (by rfl) rfl rfl (by (try simp only [List.map_toArray, List.map_cons, List.map_nil]); first | done | rfl | (simp only [List.length_drop, List.length_take]; rfl)) ?_
    refine (spec_l5All.calls k t413 (fun k_ => False) _ _ ([] : List (S25)) _ _ t416 t420 t421 t424 _ ?side1 ?side2 ?side3 A4.out).mono ?_
    (case side1 => exact Kd.V_nil _ _ _ _ _)
    (case side2 => repeat (first | exact (Kd.R_reads' HO418.out).2.2 | (with_reducible refine Kd.C_alloc ?_ _) | (with_reducible refine Kd.C_drewN ?_ _) | (with_reducible refine Kd.C_drew ?_)))
    (case side3 => exact (Kd.R_reads' HO418.out).2.1)
    rintro e w99 ⟨v422, rfl, ho0, hb⟩
    refine ⟨_, rfl, ?_⟩
    have n0_ := Aside0.mk (Kd.R_below (by (with_reducible repeat (first | apply ra | apply rb | apply rc)); exact HO412.out) hb)
    have n1_ := Aside0.mk (Kd.R_elder' (by (with_reducible repeat (first | apply ra | apply rb | apply rc)); exact HO418.out) (Kd.R_base ho0) hb)
    have n2_ := Aside0.mk (Kd.R_lower (Kd.R_new' (Kd.R_mono (ok' := fun k_ => True) ho0 (fun _ hk_ => trivial)) (Kd.R_lt (by (with_reducible repeat (first | apply ra | apply rb | apply rc)); exact HO418.out))) (keep_size (w := w) (g := g) (row := none) (by repeat (first | (with_reducible first | exact HK.out | apply KeepBut.set_ | apply keep_drewN | apply keep_drew | apply keep_alloc | refine keep_far ?_ GW409.out _ | refine keep_far ?_ GW415.out _) | exact HK.out))))
    have n3_ := Aside0.mk (IsS81.below (by repeat (first | (with_reducible first | exact HI0.out | apply IsS81.alloc | apply IsS81.drewN | apply IsS81.drew | apply IsS81.set_1 | refine IsS81.far ?_ NB0_409.out _ | refine IsS81.far ?_ NB0_415.out _) | exact HI0.out)) hb)
    have n4_ := Aside0.mk (blk_below (g := gb409) (o := .cells #[.int .i64 0, .slice none 0 0] 46 (0, 0)) (by (with_reducible repeat (first | refine ba ?_ _ | refine bb ?_ | refine bc ?_ _)); exact BK409.out) hb)
    have n5_ := Aside0.mk (blk_below (g := gb415) (o := .cells #[.int .i64 t413, .slice none 0 0] 46 (0, 0)) (by (with_reducible repeat (first | refine ba ?_ _ | refine bb ?_ | refine bc ?_ _)); exact BK415.out) hb)
    have n6_ := Aside0.mk (KeepBut.trans (by repeat (first | (with_reducible first | exact HK.out | apply KeepBut.set_ | apply keep_drewN | apply keep_drew | apply keep_alloc | refine keep_far ?_ GW409.out _ | refine keep_far ?_ GW415.out _) | exact HK.out)) (KeepBut.of_below hb g none) (.inl rfl))
    have n7_ := Aside0.mk (below_step (by repeat (first | (with_reducible first | exact HB.out | apply below_alloc | apply pw_below_drewN | apply below_drew1 | refine below_set ?_ (IsS81.ge HI0.out) | refine below_set ?_ GE409.out | refine below_set ?_ GE415.out) | exact HB.out)) hb)
    clear HO412
    clear HO418
    clear HI0
    clear BK409
    clear BK415
    clear HK
    clear HB
    have HO412 := n0_
    have HO418 := n1_
    have HO423 := n2_
    have HI0 := n3_
    have BK409 := n4_
    have BK415 := n5_
    have HK := n6_
    have HB := n7_
    clear n0_ n1_ n2_ n3_ n4_ n5_ n6_ n7_
    (try clear hb)
    (try clear hb2)
    (try clear hk)
    (try clear hi)
    (try clear ho0)
    obtain ⟨Ao101, co101, eo101⟩ := Kd.R_slice HO423.out
    (first | subst eo101 | (injection eo101 with f1_ f2_ f3_; have f4_ := f1_.symm; have f5_ := f3_.symm; clear f1_ f2_ f3_; subst f4_; subst f5_))
    refine hK.out _ _ ⟨(blk_cell BK415.out 0).trans rfl, (blk_cell BK415.out 1).trans rfl⟩ (fun hHeld => ?_)
    clear hK K
    refine norm_ (a' := ?_) ?_ ?_
    rotate_left
    ·show Act.put _ (some 12) _ = _
     simp only [Act.put, List.setIfInBounds_toArray, List.set_cons_zero, List.set_cons_succ, i64_w, i32_w]
     rfl
    refine pure_ (i := 4) (N := some 8) (v := ?_) (a' := ?_) #[true, true, true, true, true, false, false, false] rfl rfl (any_of HT_.out (by kernel_rfl)) (fun _ _ _ h => h) (Or.inl ⟨by rfl, ?_⟩) ?_ ?_
    rotate_left
    ·intro w'
     go_simp
     with_reducible rfl
    rotate_left
    ·simp only [Act.put, List.setIfInBounds_toArray, List.set_cons_zero, List.set_cons_succ, i64_w, i32_w]
     rfl
    refine pure_ (i := 5) (N := some 13) (v := ?_) (a' := ?_) #[true, true, true, true, true, true, false, false] rfl rfl (any_of HT_.out (by kernel_rfl)) (fun _ _ _ h => h) (Or.inl ⟨by rfl, ?_⟩) ?_ ?_
    rotate_left
    ·intro w'
     go_simp
     with_reducible rfl
    rotate_left
    ·simp only [Act.put, List.setIfInBounds_toArray, List.set_cons_zero, List.set_cons_succ, i64_w, i32_w]
     rfl
    refine pure_ (i := 6) (N := some 14) (v := ?_) (a' := ?_) #[true, true, true, true, true, true, true, false] rfl rfl (any_of HT_.out (by kernel_rfl)) (fun _ _ _ h => h) (Or.inl ⟨by rfl, ?_⟩) ?_ ?_
    rotate_left
    ·intro w'
     go_simp
     with_reducible rfl
    rotate_left
    ·simp only [Act.put, List.setIfInBounds_toArray, List.set_cons_zero, List.set_cons_succ, i64_w, i32_w]
     rfl
    refine last_ (i := 7) (N := none) #[true, true, true, true, true, true, true, true] rfl rfl (one_of HT_.out (by kernel_rfl)) (by decide) (fun K hK => ?_)
    have hs100 : w99.cell? ⟨gb415, 0, none⟩ = some (.int .i64 t413) := (blk_cell BK415.out 0).trans rfl
    have hfs100 := blk_frozen BK415.out 0
    have hns100_0 := NB409_415.out
    have hms100_0 := NB415_409.out
    have hs102 : w99.cell? ⟨gb415, 1, none⟩ = some (.slice none 0 0) := (blk_cell BK415.out 1).trans rfl
    have hfs102 := blk_frozen BK415.out 1
    have hns102_0 := NB409_415.out
    have hms102_0 := NB415_409.out
    refine skip_ (w1 := ?_) (by rfl) rfl ?_ ?_
    rotate_left
    ·go_simp
     rfl
    refine hK.out _ _ ?_
    clear hK K
    refine done_ (done_of HT_.out (by kernel_rfl)) ?_
    try go_wp2_with (first | ((with_reducible refine gate_callee (f := 61) rfl ?_); refine goesL_ (some 16) rfl rfl Try.func61 (by kernel_rfl) rfl #[.pointer (some ⟨g, 0, none⟩), .int .i64 40] rfl (by (try simp only [List.map_toArray, List.map_cons, List.map_nil]); first | done | rfl | (simp only [List.length_drop, List.length_take]; rfl)) ?_; (with_reducible refine (spec_l9Rd_pick.calls k g s0_0 t419 40 t425 t426 w0 _ ?side1 ?side2 A5.out).mono ?_); (case side1 => repeat (first | (with_reducible first | exact HI0.out | apply IsS81.alloc | apply IsS81.drewN | apply IsS81.drew | apply IsS81.set_1 | refine IsS81.far ?_ NB0_409.out _ | refine IsS81.far ?_ NB0_415.out _) | exact HI0.out)); (case side2 => repeat (first | (with_reducible first | exact HB.out | apply below_alloc | apply pw_below_drewN | apply below_drew1 | refine below_set ?_ (IsS81.ge HI0.out) | refine below_set ?_ GE409.out | refine below_set ?_ GE415.out) | exact HB.out)); rintro e w103 ⟨rfl, hi, hb, hk⟩; refine ⟨_, rfl, ?_⟩; have n0_ := Aside0.mk (KeepBut.blk hk (g' := gb409) (o := .cells #[.int .i64 0, .slice none 0 0] 46 (0, 0)) (by (with_reducible repeat (first | refine ba ?_ _ | refine bb ?_ | refine bc ?_ _)); refine blk_far ?_ NB409_415.out _; (with_reducible repeat (first | refine ba ?_ _ | refine bb ?_ | refine bc ?_ _)); refine blk_far ?_ NB409_415.out _; (with_reducible repeat (first | refine ba ?_ _ | refine bb ?_ | refine bc ?_ _)); exact BK409.out) NB409_0.out (by simp)); have n1_ := Aside0.mk (Kd.R_mono (Kd.R_keep (IsS81.apart (show IsS81 w0 _ g s0_0 t419 from by repeat (first | (with_reducible first | exact HI0.out | apply IsS81.alloc | apply IsS81.drewN | apply IsS81.drew | apply IsS81.set_1 | refine IsS81.far ?_ NB0_409.out _ | refine IsS81.far ?_ NB0_415.out _) | exact HI0.out)) (by (with_reducible repeat (first | apply ra | apply rb | apply rc)); exact (Kd.R_mono (Kd.R_far (p := ⟨gb415, 1, none⟩) (Kd.R_far (p := ⟨gb415, 0, none⟩) (Kd.R_types HO412.out BK415.out (by decide)) (fun _ hk => hk.2) (.int .i64 t420)) (fun _ hk => hk.2) (.slice Ao101 t421.length co101)) (fun _ h_ => h_.1))) (by decide)) hk (fun _ h => h.2)) (fun _ h => h.1)); have n2_ := Aside0.mk (KeepBut.blk hk (g' := gb415) (o := .cells #[.int .i64 t420, .slice Ao101 t421.length co101] 46 (0, 0)) (by (with_reducible repeat (first | refine ba ?_ _ | refine bb ?_ | refine bc ?_ _)); refine blk_put (cs := #[.int .i64 t420, .slice none 0 0]) ?_ 1 _ rfl; (with_reducible repeat (first | refine ba ?_ _ | refine bb ?_ | refine bc ?_ _)); refine blk_put (cs := #[.int .i64 t413, .slice none 0 0]) ?_ 0 _ rfl; (with_reducible repeat (first | refine ba ?_ _ | refine bb ?_ | refine bc ?_ _)); exact BK415.out) NB415_0.out (by simp)); have n3_ := Aside0.mk (Kd.R_mono (Kd.R_keep (IsS81.apart (show IsS81 w0 _ g s0_0 t419 from by repeat (first | (with_reducible first | exact HI0.out | apply IsS81.alloc | apply IsS81.drewN | apply IsS81.drew | apply IsS81.set_1 | refine IsS81.far ?_ NB0_409.out _ | refine IsS81.far ?_ NB0_415.out _) | exact HI0.out)) (by (with_reducible repeat (first | apply ra | apply rb | apply rc)); exact (Kd.R_mono (Kd.R_far (p := ⟨gb415, 1, none⟩) (Kd.R_far (p := ⟨gb415, 0, none⟩) (Kd.R_types HO418.out BK415.out (by decide)) (fun _ hk => hk.2) (.int .i64 t420)) (fun _ hk => hk.2) (.slice Ao101 t421.length co101)) (fun _ h_ => h_.1))) (by decide)) hk (fun _ h => h.2)) (fun _ h => h.1)); have n4_ := Aside0.mk (Kd.R_mono (Kd.R_keep (IsS81.apart (show IsS81 w0 _ g s0_0 t419 from by repeat (first | (with_reducible first | exact HI0.out | apply IsS81.alloc | apply IsS81.drewN | apply IsS81.drew | apply IsS81.set_1 | refine IsS81.far ?_ NB0_409.out _ | refine IsS81.far ?_ NB0_415.out _) | exact HI0.out)) (by (with_reducible repeat (first | apply ra | apply rb | apply rc)); exact (Kd.R_mono (Kd.R_far (p := ⟨gb415, 1, none⟩) (Kd.R_far (p := ⟨gb415, 0, none⟩) (Kd.R_types HO423.out BK415.out (by decide)) (fun _ hk => hk.2) (.int .i64 t420)) (fun _ hk => hk.2) (.slice Ao101 t421.length co101)) (fun _ h_ => h_.1))) (by decide)) hk (fun _ h => h.2)) (fun _ h => h.1)); have n5_ := Aside0.mk (KeepBut.trans (by repeat (first | (with_reducible first | exact HK.out | apply KeepBut.set_ | apply keep_drewN | apply keep_drew | apply keep_alloc | refine keep_far ?_ GW409.out _ | refine keep_far ?_ GW415.out _) | exact HK.out)) hk (.inl rfl)); have n6_ := Aside0.mk (hb); have n7_ := Aside0.mk (hi); clear BK409; clear HO412; clear BK415; clear HO418; clear HO423; clear HK; clear HB; clear HI0; have BK409 := n0_; have HO412 := n1_; have BK415 := n2_; have HO418 := n3_; have HO423 := n4_; have HK := n5_; have HB := n6_; have HI0 := n7_; clear n0_ n1_ n2_ n3_ n4_ n5_ n6_ n7_; (try clear hb); (try clear hb2); (try clear hk); (try clear hi); have hcz104_0 : w103.cell? ⟨gb415, 0, none⟩ = some (.int .i64 t420) := (blk_cell BK415.out 0).trans rfl; have hcz104_1 : w103.cell? ⟨gb415, 1, none⟩ = some (.slice Ao101 t421.length co101) := (blk_cell BK415.out 1).trans rfl; have hfz104_0 := blk_frozen BK415.out 0; have hfz104_1 := blk_frozen BK415.out 1; have hnb105 := NB409_0.out; have hnc105 := NB0_409.out; have hcz106_0 : w103.cell? ⟨gb409, 0, none⟩ = some (.int .i64 0) := (blk_cell BK409.out 0).trans rfl; have hcz106_1 : w103.cell? ⟨gb409, 1, none⟩ = some (.slice none 0 0) := (blk_cell BK409.out 1).trans rfl; have hfz106_0 := blk_frozen BK409.out 0; have hfz106_1 := blk_frozen BK409.out 1))
    refine bodyPost_ret (results_cell_row rfl _ _ gb409 46 #[.int .i64 t420, .slice Ao101 t421.length co101] (0, 0) _ rfl (by (with_reducible repeat (first | refine ba ?_ _ | refine bb ?_ | refine bc ?_ _)); refine blk_put (cs := #[.int .i64 t420, .slice none 0 0]) ?_ 1 _ rfl; (with_reducible repeat (first | refine ba ?_ _ | refine bb ?_ | refine bc ?_ _)); refine blk_put (cs := #[.int .i64 0, .slice none 0 0]) ?_ 0 _ rfl; (with_reducible repeat (first | refine ba ?_ _ | refine bb ?_ | refine bc ?_ _)); exact BK409.out) Try.underlying46 rfl (by kernel_rfl)) rfl ?_
    exact ⟨_, by first | rfl | (simp [errW_none, errW_some] <;> rfl) | (simp [*, errW_none, errW_some] <;> rfl), by (with_reducible repeat (first | apply ra | apply rb | apply rc)); exact Kd.R_mono (Kd.R_far (p := ⟨gb409, 1, none⟩) (Kd.R_far (p := ⟨gb409, 0, none⟩) (Kd.R_types HO423.out BK409.out (by decide)) (fun _ hk => hk.2) (.int .i64 t420)) (fun _ hk => hk.2) (.slice Ao101 t421.length co101)) (fun _ hk => trivial), by repeat (first | (with_reducible first | exact HI0.out | apply IsS81.alloc | apply IsS81.drewN | apply IsS81.drew | apply IsS81.set_1 | refine IsS81.far ?_ NB0_409.out _ | refine IsS81.far ?_ NB0_415.out _) | exact HI0.out), by repeat (first | (with_reducible first | exact HB.out | apply below_alloc | apply pw_below_drewN | apply below_drew1 | refine below_set ?_ (IsS81.ge HI0.out) | refine below_set ?_ GE409.out | refine below_set ?_ GE415.out) | exact HB.out), by repeat (first | (with_reducible first | exact HK.out | apply KeepBut.set_ | apply keep_drewN | apply keep_drew | apply keep_alloc | refine keep_far ?_ GW409.out _ | refine keep_far ?_ GW415.out _) | exact HK.out)⟩

end Go.Proofs.Ytcobbpghipeoeaa.R
