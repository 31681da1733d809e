/- Contracts of Go functions, printed by a program (the kit's print.py under reprint.py) and shortened (post.py): each call comes to what the plain function of its name tells. Where that tells nothing, nothing is said. -/
import Derived.Test.YtcobbpghipeoeaaR0
import Derived.Test.YtcobbpghipeoeaaR1
import Derived.Test.YtcobbpghipeoeaaF
import Derived.Test.YtcobbpghipeoeaaC53
import Derived.Test.YtcobbpghipeoeaaC63
import Derived.Test.YtcobbpghipeoeaaC60
namespace Go.Proofs.Ytcobbpghipeoeaa.R
open Go.RowKit Go.Proofs.YtcobbpghipeoeaaV.PrintWords Go.Proofs.YtcobbpghipeoeaaV.PrintLast Go.Proofs.YtcobbpghipeoeaaV.PrintMore
attribute [local go_sem] max2_int min2_int max_two min_two max_three min_three max_four min_four   -- for this text's walks alone
set_option linter.unusedVariables false
set_option linter.unusedSimpArgs false


set_option maxHeartbeats 8000000 in
set_option maxRecDepth 100000 in
theorem spec_DrawPoolAll.calls (k : Nat) (A0 : Option Addr) (c0 : Nat) (l0 : List Int) (r1 : Int) (r2 : List (S25)) (r3 : List (S25)) (w : World) (hr0 : Kd.C (Kd.int .u8) w A0 l0.length l0) (hc0 : l0.length ≤ c0) (h : spec_DrawPoolAll.f k l0 = some (r1, r2, r3)) :
  Calls Try.prog 44 #[.slice A0 l0.length c0] w fun e w' => ∃ v1_ v2_ : Value, e = .returned (.tuple #[.agg #[.int .i64 r1, v1_], v2_]) ∧ Kd.R k25 25 w' w.heap.size (fun k_ => some k_ ≠ (v2_ : Value).ownBlock) v1_ r2 ∧ Kd.R k25 25 w' w.heap.size (fun k_ => some k_ ≠ (v1_ : Value).ownBlock) v2_ r3 ∧ Below w.heap.size w w' := by
 have hu46 := Try.underlying46
 have HR0 := Aside0.mk hr0
 have HC0 := Aside0.mk hc0
 clear hr0 hc0
 have HB := Aside0.mk (Below.refl w.heap.size w)
 have H : ((spec_l9Open.f l0).bind fun bt594 => ((spec_l5Pool.f k bt594.1 bt594.2).bind fun bt597 => ((spec_l5Pages.f k bt594.1 bt597.2.2).bind fun bt603 => (some (bt597.1, bt597.2.1, bt603.1))))) = some (r1, r2, r3) := h
 clear h
 replace H := Option.bind_eq_some_iff.mp H
 obtain ⟨⟨t594, t595⟩, A20, H⟩ := H
 replace H : ((spec_l5Pool.f k t594 t595).bind fun bt597 => ((spec_l5Pages.f k t594 bt597.2.2).bind fun bt603 => (some (bt597.1, bt597.2.1, bt603.1)))) = some (r1, r2, r3) := H
 have A2 := Aside0.mk A20
 clear A20
 replace H := Option.bind_eq_some_iff.mp H
 obtain ⟨⟨t597, t598, t601⟩, A30, H⟩ := H
 replace H : ((spec_l5Pages.f k t594 t601).bind fun bt603 => (some (t597, t598, bt603.1))) = some (r1, r2, r3) := H
 have A3 := Aside0.mk A30
 clear A30
 replace H := Option.bind_eq_some_iff.mp H
 obtain ⟨⟨t603, t606⟩, A40, H⟩ := H
 replace H : (some (t597, t598, t603)) = some (r1, r2, r3) := H
 have A4 := Aside0.mk A40
 clear A40
 simp only [Option.some.injEq, Prod.mk.injEq] at H
 obtain ⟨rfl, rfl, rfl⟩ := H
 go_enter Try.func44, Try.ntmps44
 try go_wp2_with (first | ((with_reducible refine gate_dst (N := 2) rfl ?_); refine box_event ?hg (N := 2) ?hd (cs := #[.int .i64 0, .slice none 0 0]) (t := 46) ?hr ?_; (case hd => rfl); (case hg => rfl); (case hr => first | (go_simp; done) | (go_simp; rfl)); intro gb593 hg w5 hbox hb; have n0_ := Aside0.mk (below_step (by repeat (first | (with_reducible first | exact HB.out | apply below_alloc | apply pw_below_drewN | apply below_drew1) | exact HB.out)) hb); have n1_ := Aside0.mk (hbox); have n2_ := Aside0.mk ((by rw [hg]; exact (below_size (by repeat (first | (with_reducible first | exact HB.out | apply below_alloc | apply pw_below_drewN | apply below_drew1) | exact HB.out))) : w.heap.size ≤ gb593)); have n3_ := Aside0.mk ((by rw [hg]; exact (below_size (by repeat (first | (with_reducible first | exact HB.out | apply below_alloc | apply pw_below_drewN | apply below_drew1) | exact HB.out))) : w.heap.size ≤ gb593)); clear HB; have HB := n0_; have BK593 := n1_; have GW593 := n2_; have GE593 := n3_; clear n0_ n1_ n2_ n3_; clear hb hbox hg) | ((with_reducible refine gate_callee (f := 53) rfl ?_); refine goesL_ (some 7) rfl rfl Try.func53 (by kernel_rfl) rfl #[.slice A0 l0.length c0] rfl (by (try simp only [List.map_toArray, List.map_cons, List.map_nil]); first | done | rfl | (simp only [List.length_drop, List.length_take]; rfl)) ?_; (with_reducible refine (spec_l9Open.calls _ _ l0 t594 t595 w _ ?side1 ?side2 ?side3 A2.out).mono ?_); (case side1 => repeat (first | (with_reducible first | exact HB.out | apply below_alloc | apply pw_below_drewN | apply below_drew1 | refine below_set ?_ GE593.out) | exact HB.out)); (case side2 => exact HR0.out); (case side3 => exact HC0.out); rintro e w6 ⟨g596, rfl, hi, hb, hb2⟩; refine ⟨_, rfl, ?_⟩; have n0_ := Aside0.mk (blk_below (g := gb593) (o := .cells #[.int .i64 0, .slice none 0 0] 46 (0, 0)) (by (with_reducible repeat (first | refine ba ?_ _ | refine bb ?_ | refine bc ?_ _)); exact BK593.out) hb2); have n1_ := Aside0.mk (hb); have n2_ := Aside0.mk (hi); have n3_ := Aside0.mk (IsS81.ne_blk hi (blk_below (g := gb593) (o := .cells #[.int .i64 0, .slice none 0 0] 46 (0, 0)) (by (with_reducible repeat (first | refine ba ?_ _ | refine bb ?_ | refine bc ?_ _)); exact BK593.out) hb2) (by decide)); have n4_ := Aside0.mk (Ne.symm (IsS81.ne_blk hi (blk_below (g := gb593) (o := .cells #[.int .i64 0, .slice none 0 0] 46 (0, 0)) (by (with_reducible repeat (first | refine ba ?_ _ | refine bb ?_ | refine bc ?_ _)); exact BK593.out) hb2) (by decide))); clear BK593; clear HB; have BK593 := n0_; have HB := n1_; have HI596 := n2_; have NB596_593 := n3_; have NB593_596 := n4_; clear n0_ n1_ n2_ n3_ n4_; (try clear hb); (try clear hb2); (try clear hk); (try clear hi)) | ((with_reducible refine gate_callee (f := 63) rfl ?_); refine goesL_ (some 9) rfl rfl Try.func63 (by kernel_rfl) rfl #[.pointer (some ⟨g596, 0, none⟩)] rfl (by (try simp only [List.map_toArray, List.map_cons, List.map_nil]); first | done | rfl | (simp only [List.length_drop, List.length_take]; rfl)) ?_; (with_reducible refine (spec_l5Pool.calls k g596 t594 t595 t597 t598 t601 w _ ?side1 ?side2 A3.out).mono ?_); (case side1 => repeat (first | (with_reducible first | exact HI596.out | apply IsS81.alloc | apply IsS81.drewN | apply IsS81.drew | apply IsS81.set_1 | refine IsS81.far ?_ NB596_593.out _) | exact HI596.out)); (case side2 => repeat (first | (with_reducible first | exact HB.out | apply below_alloc | apply pw_below_drewN | apply below_drew1 | refine below_set ?_ (IsS81.ge HI596.out) | refine below_set ?_ GE593.out) | exact HB.out)); rintro e w7 ⟨v599, rfl, ho0, hi, hb, hk⟩; refine ⟨_, rfl, ?_⟩; have n0_ := Aside0.mk (KeepBut.blk hk (g' := gb593) (o := .cells #[.int .i64 0, .slice none 0 0] 46 (0, 0)) (by (with_reducible repeat (first | refine ba ?_ _ | refine bb ?_ | refine bc ?_ _)); exact BK593.out) NB593_596.out (by simp)); have n1_ := Aside0.mk (Kd.R_lower ho0 (below_size (by repeat (first | (with_reducible first | exact HB.out | apply below_alloc | apply pw_below_drewN | apply below_drew1 | refine below_set ?_ (IsS81.ge HI596.out) | refine below_set ?_ GE593.out) | exact HB.out)))); have n2_ := Aside0.mk (hb); have n3_ := Aside0.mk (hi); clear BK593; clear HB; clear HI596; have BK593 := n0_; have HO600 := n1_; have HB := n2_; have HI596 := n3_; clear n0_ n1_ n2_ n3_; (try clear hb); (try clear hb2); (try clear hk); (try clear hi); (try clear ho0)) | ((with_reducible refine gate_dst (N := 5) rfl ?_); refine box_event ?hg (N := 5) ?hd (cs := #[.int .i64 0, .slice none 0 0]) (t := 46) ?hr ?_; (case hd => rfl); (case hg => rfl); (case hr => first | (go_simp; done) | (go_simp; rfl)); intro gb602 hg w8 hbox hb; have n0_ := Aside0.mk (Kd.R_below (by (with_reducible repeat (first | apply ra | apply rb | apply rc)); exact HO600.out) hb); have n1_ := Aside0.mk (blk_below (g := gb593) (o := .cells #[.int .i64 0, .slice none 0 0] 46 (0, 0)) (by (with_reducible repeat (first | refine ba ?_ _ | refine bb ?_ | refine bc ?_ _)); exact BK593.out) hb); have n2_ := Aside0.mk (IsS81.below (by repeat (first | (with_reducible first | exact HI596.out | apply IsS81.alloc | apply IsS81.drewN | apply IsS81.drew | apply IsS81.set_1 | refine IsS81.far ?_ NB596_593.out _) | exact HI596.out)) hb); have n3_ := Aside0.mk (below_step (by repeat (first | (with_reducible first | exact HB.out | apply below_alloc | apply pw_below_drewN | apply below_drew1 | refine below_set ?_ (IsS81.ge HI596.out) | refine below_set ?_ GE593.out) | exact HB.out)) hb); have n4_ := Aside0.mk (hbox); have n5_ := Aside0.mk ((by rw [hg]; exact (below_size (by repeat (first | (with_reducible first | exact HB.out | apply below_alloc | apply pw_below_drewN | apply below_drew1 | refine below_set ?_ (IsS81.ge HI596.out) | refine below_set ?_ GE593.out) | exact HB.out))) : w.heap.size ≤ gb602)); have n6_ := Aside0.mk ((by rw [hg]; exact (below_size (by repeat (first | (with_reducible first | exact HB.out | apply below_alloc | apply pw_below_drewN | apply below_drew1 | refine below_set ?_ (IsS81.ge HI596.out) | refine below_set ?_ GE593.out) | exact HB.out))) : w.heap.size ≤ gb602)); have n7_ := Aside0.mk ((by rw [hg]; exact Nat.ne_of_lt (blk_lt (g := gb593) (o := .cells #[.int .i64 0, .slice none 0 0] 46 (0, 0)) (by (with_reducible repeat (first | refine ba ?_ _ | refine bb ?_ | refine bc ?_ _)); exact BK593.out)) : gb593 ≠ gb602)); have n8_ := Aside0.mk ((by rw [hg]; exact Nat.ne_of_gt (blk_lt (g := gb593) (o := .cells #[.int .i64 0, .slice none 0 0] 46 (0, 0)) (by (with_reducible repeat (first | refine ba ?_ _ | refine bb ?_ | refine bc ?_ _)); exact BK593.out)) : gb602 ≠ gb593)); have n9_ := Aside0.mk ((by rw [hg]; exact Nat.ne_of_lt (IsS81.lt (show IsS81 w _ g596 t594 t601 from by repeat (first | (with_reducible first | exact HI596.out | apply IsS81.alloc | apply IsS81.drewN | apply IsS81.drew | apply IsS81.set_1 | refine IsS81.far ?_ NB596_593.out _) | exact HI596.out))) : g596 ≠ gb602)); have n10_ := Aside0.mk ((by rw [hg]; exact Nat.ne_of_gt (IsS81.lt (show IsS81 w _ g596 t594 t601 from by repeat (first | (with_reducible first | exact HI596.out | apply IsS81.alloc | apply IsS81.drewN | apply IsS81.drew | apply IsS81.set_1 | refine IsS81.far ?_ NB596_593.out _) | exact HI596.out))) : gb602 ≠ g596)); clear HO600; clear BK593; clear HI596; clear HB; have HO600 := n0_; have BK593 := n1_; have HI596 := n2_; have HB := n3_; have BK602 := n4_; have GW602 := n5_; have GE602 := n6_; have NB593_602 := n7_; have NB602_593 := n8_; have NB596_602 := n9_; have NB602_596 := n10_; clear n0_ n1_ n2_ n3_ n4_ n5_ n6_ n7_ n8_ n9_ n10_; clear hb hbox hg; have hnb9 := NB602_593.out; have hnc9 := NB593_602.out; have hnb10 := NB602_596.out; have hnc10 := NB596_602.out; have hcz11_0 : w8.cell? ⟨gb602, 0, none⟩ = some (.int .i64 0) := (blk_cell BK602.out 0).trans rfl; have hcz11_1 : w8.cell? ⟨gb602, 1, none⟩ = some (.slice none 0 0) := (blk_cell BK602.out 1).trans rfl; have hfz11_0 := blk_frozen BK602.out 0; have hfz11_1 := blk_frozen BK602.out 1; obtain ⟨Ao12, co12, eo12⟩ := Kd.R_slice HO600.out; subst eo12))
 have n0_ : Aside0 (Kd.R k25 25 ((w8.setCell ⟨gb602, 0, none⟩ (.int .i64 t597)).setCell ⟨gb602, 1, none⟩ (.slice Ao12 t598.length co12)) w.heap.size (fun _ => True) (.slice Ao12 t598.length co12) t598) := ⟨by (with_reducible repeat (first | apply ra | apply rb | apply rc)); exact Kd.R_mono (Kd.R_far (p := ⟨gb602, 1, none⟩) (Kd.R_far (p := ⟨gb602, 0, none⟩) (Kd.R_types HO600.out BK602.out (by decide)) (fun _ hk => hk.2) (.int .i64 t597)) (fun _ hk => hk.2) (.slice Ao12 t598.length co12)) (fun _ hk => trivial)⟩
 have n1_ : Aside0 (((w8.setCell ⟨gb602, 0, none⟩ (.int .i64 t597)).setCell ⟨gb602, 1, none⟩ (.slice Ao12 t598.length co12)).heap[gb593]? = some (.cells #[.int .i64 0, .slice none 0 0] 46 (0, 0))) := ⟨by (with_reducible repeat (first | refine ba ?_ _ | refine bb ?_ | refine bc ?_ _)); refine blk_far ?_ NB593_602.out _; (with_reducible repeat (first | refine ba ?_ _ | refine bb ?_ | refine bc ?_ _)); refine blk_far ?_ NB593_602.out _; (with_reducible repeat (first | refine ba ?_ _ | refine bb ?_ | refine bc ?_ _)); exact BK593.out⟩
 have n2_ : Aside0 (((w8.setCell ⟨gb602, 0, none⟩ (.int .i64 t597)).setCell ⟨gb602, 1, none⟩ (.slice Ao12 t598.length co12)).heap[gb602]? = some (.cells #[.int .i64 t597, .slice Ao12 t598.length co12] 46 (0, 0))) := ⟨by (with_reducible repeat (first | refine ba ?_ _ | refine bb ?_ | refine bc ?_ _)); refine blk_put (cs := #[.int .i64 t597, .slice none 0 0]) ?_ 1 _ rfl; (with_reducible repeat (first | refine ba ?_ _ | refine bb ?_ | refine bc ?_ _)); refine blk_put (cs := #[.int .i64 0, .slice none 0 0]) ?_ 0 _ rfl; (with_reducible repeat (first | refine ba ?_ _ | refine bb ?_ | refine bc ?_ _)); exact BK602.out⟩
 have n3_ : Aside0 (IsS81 w ((w8.setCell ⟨gb602, 0, none⟩ (.int .i64 t597)).setCell ⟨gb602, 1, none⟩ (.slice Ao12 t598.length co12)) g596 t594 t601) := ⟨by repeat (first | (with_reducible first | exact HI596.out | apply IsS81.alloc | apply IsS81.drewN | apply IsS81.drew | apply IsS81.set_1 | refine IsS81.far ?_ NB596_593.out _ | refine IsS81.far ?_ NB596_602.out _) | exact HI596.out)⟩
 have n4_ : Aside0 (Below w.heap.size w ((w8.setCell ⟨gb602, 0, none⟩ (.int .i64 t597)).setCell ⟨gb602, 1, none⟩ (.slice Ao12 t598.length co12))) := ⟨by repeat (first | (with_reducible first | exact HB.out | apply below_alloc | apply pw_below_drewN | apply below_drew1 | refine below_set ?_ (IsS81.ge HI596.out) | refine below_set ?_ GE593.out | refine below_set ?_ GE602.out) | exact HB.out)⟩
 (try clear HO600)
 (try clear BK593)
 (try clear BK602)
 (try clear HI596)
 (try clear HB)
 generalize ((w8.setCell ⟨gb602, 0, none⟩ (.int .i64 t597)).setCell ⟨gb602, 1, none⟩ (.slice Ao12 t598.length co12)) = w13 at n0_ n1_ n2_ n3_ n4_ ⊢
 have HO600 := n0_
 have BK593 := n1_
 have BK602 := n2_
 have HI596 := n3_
 have HB := n4_
 clear n0_ n1_ n2_ n3_ n4_
 have n0_ := Aside0.mk (Kd.R_drew HO600.out)
 have n1_ := Aside0.mk (blk_drew BK593.out)
 have n2_ := Aside0.mk (blk_drew BK602.out)
 have n3_ := Aside0.mk (IsS81.drew HI596.out)
 have n4_ := Aside0.mk (below_drew1 HB.out)
 clear HO600
 clear BK593
 clear BK602
 clear HI596
 clear HB
 have HO600 := n0_
 have BK593 := n1_
 have BK602 := n2_
 have HI596 := n3_
 have HB := n4_
 clear n0_ n1_ n2_ n3_ n4_
 refine start_ (n := 5) (S := fun w' => w'.cell? ⟨gb602, 0, none⟩ = some (.int .i64 t597) ∧ w'.cell? ⟨gb602, 1, none⟩ = some (.slice Ao12 t598.length co12)) (ds := []) #[false, false, false, false, false] (by kernel_rfl) rfl rfl ⟨(blk_cell BK602.out 0).trans rfl, (blk_cell BK602.out 1).trans rfl⟩ (fun hHeld => ?_)
 generalize w13.drew = w14 at HO600 BK593 BK602 HI596 HB hHeld ⊢
 refine pure_ (i := 1) (N := some 11) (v := ?_) (a' := ?_) #[false, true, false, false, false] rfl rfl (by kernel_rfl) (fun _ _ _ h => h) (Or.inl ⟨by rfl, ?_⟩) ?_ ?_
 rotate_left
 ·intro w'
  go_simp
  with_reducible rfl
 rotate_left
 ·simp only [Act.put, List.setIfInBounds_toArray, List.set_cons_zero, List.set_cons_succ, i64_w, i32_w]
  rfl
 refine take_ (i := 0) (N := some 10) (v := ?_) (a' := ?_) #[true, true, false, false, false] rfl rfl (by kernel_rfl) (fun _ _ _ h => h) (Or.inl ⟨by rfl, ?_⟩) hHeld ?_ ?_
 rotate_left
 ·rintro w' ⟨s0, s1⟩
  go_simp
  with_reducible rfl
 rotate_left
 ·simp only [Act.put, List.setIfInBounds_toArray, List.set_cons_zero, List.set_cons_succ, i64_w, i32_w]
  rfl
 refine one_ (i := 2) (N := some 12) #[true, true, true, false, false] rfl rfl (by kernel_rfl) (by decide) (fun K hK => ?_)
 refine goes_ Try.func60 (by kernel_rfl) rfl #[.pointer (some ⟨g596, 0, none⟩)] (by rfl) rfl rfl (by (try simp only [List.map_toArray, List.map_cons, List.map_nil]); first | done | rfl | (simp only [List.length_drop, List.length_take]; rfl)) ?_
 with_reducible refine (spec_l5Pages.calls k g596 t594 t601 t603 t606 w _ ?side1 ?side2 A4.out).mono ?_
 (case side1 => repeat (first | (with_reducible first | exact HI596.out | apply IsS81.alloc | apply IsS81.drewN | apply IsS81.drew | apply IsS81.set_1 | refine IsS81.far ?_ NB596_593.out _ | refine IsS81.far ?_ NB596_602.out _) | exact HI596.out))
 (case side2 => repeat (first | (with_reducible first | exact HB.out | apply below_alloc | apply pw_below_drewN | apply below_drew1 | refine below_set ?_ (IsS81.ge HI596.out) | refine below_set ?_ GE593.out | refine below_set ?_ GE602.out) | exact HB.out))
 rintro e w15 ⟨v604, rfl, ho0, hi, hb, hk⟩
 refine ⟨_, rfl, ?_⟩
 have n0_ := Aside0.mk (KeepBut.blk hk (g' := gb593) (o := .cells #[.int .i64 0, .slice none 0 0] 46 (0, 0)) (by (with_reducible repeat (first | refine ba ?_ _ | refine bb ?_ | refine bc ?_ _)); exact BK593.out) NB593_596.out (by simp))
 have n1_ := Aside0.mk (Kd.R_mono (Kd.R_told (Kd.R_oldK (IsS81.apart (show IsS81 w _ g596 t594 t601 from by repeat (first | (with_reducible first | exact HI596.out | apply IsS81.alloc | apply IsS81.drewN | apply IsS81.drew | apply IsS81.set_1 | refine IsS81.far ?_ NB596_593.out _ | refine IsS81.far ?_ NB596_602.out _) | exact HI596.out)) (by (with_reducible repeat (first | apply ra | apply rb | apply rc)); exact HO600.out) (by decide)) hk) (Kd.R_base ho0)) (fun _ h_ => h_.1))
 have n2_ := Aside0.mk (KeepBut.blk hk (g' := gb602) (o := .cells #[.int .i64 t597, .slice Ao12 t598.length co12] 46 (0, 0)) (by (with_reducible repeat (first | refine ba ?_ _ | refine bb ?_ | refine bc ?_ _)); exact BK602.out) NB602_596.out (by simp))
 have n3_ := Aside0.mk (Kd.R_lower (Kd.R_new' ho0 (Kd.R_lt (by (with_reducible repeat (first | apply ra | apply rb | apply rc)); exact HO600.out))) (below_size (by repeat (first | (with_reducible first | exact HB.out | apply below_alloc | apply pw_below_drewN | apply below_drew1 | refine below_set ?_ (IsS81.ge HI596.out) | refine below_set ?_ GE593.out | refine below_set ?_ GE602.out) | exact HB.out))))
 have n4_ := Aside0.mk (hb)
 have n5_ := Aside0.mk (hi)
 clear BK593
 clear HO600
 clear BK602
 clear HB
 clear HI596
 have BK593 := n0_
 have HO600 := n1_
 have BK602 := n2_
 have HO605 := n3_
 have HB := n4_
 have HI596 := n5_
 clear n0_ n1_ n2_ n3_ n4_ n5_
 (try clear hb)
 (try clear hb2)
 (try clear hk)
 (try clear hi)
 (try clear ho0)
 refine hK.out _ _ ⟨(blk_cell BK602.out 0).trans rfl, (blk_cell BK602.out 1).trans rfl⟩ (fun hHeld => ?_)
 clear hK K
 refine norm_ (a' := ?_) ?_ ?_
 rotate_left
 ·show Act.put _ (some 12) _ = _
  simp only [Act.put, List.setIfInBounds_toArray, List.set_cons_zero, List.set_cons_succ, i64_w, i32_w]
  rfl
 refine one_ (i := 3) (N := none) #[true, true, true, true, false] rfl rfl (by kernel_rfl) (by decide) (fun K hK => ?_)
 have hs16 : w15.cell? ⟨gb593, 0, none⟩ = some (.int .i64 0) := (blk_cell BK593.out 0).trans rfl
 have hfs16 := blk_frozen BK593.out 0
 have hns16_1 := NB602_593.out
 have hms16_1 := NB593_602.out
 have hs17 : w15.cell? ⟨gb593, 1, none⟩ = some (.slice none 0 0) := (blk_cell BK593.out 1).trans rfl
 have hfs17 := blk_frozen BK593.out 1
 have hns17_1 := NB602_593.out
 have hms17_1 := NB593_602.out
 refine skip_ (w1 := ?_) (by rfl) rfl ?_ ?_
 rotate_left
 ·go_simp
  rfl
 refine hK.out _ _ ⟨((cell_far (p := ⟨gb593, _, none⟩) NB602_593.out _).trans (((cell_far (p := ⟨gb593, _, none⟩) NB602_593.out _).trans (hHeld.1)))), ((cell_far (p := ⟨gb593, _, none⟩) NB602_593.out _).trans (((cell_far (p := ⟨gb593, _, none⟩) NB602_593.out _).trans (hHeld.2))))⟩ (fun hHeld => ?_)
 clear hK K
 refine pure_ (i := 4) (N := some 3) (v := ?_) (a' := ?_) #[true, true, true, true, true] rfl rfl (by kernel_rfl) (fun _ _ _ h => h) (Or.inl ⟨by rfl, ?_⟩) ?_ ?_
 rotate_left
 ·intro w'
  go_simp
  with_reducible rfl
 rotate_left
 ·simp only [Act.put, List.setIfInBounds_toArray, List.set_cons_zero, List.set_cons_succ, i64_w, i32_w]
  rfl
 refine done_ (by kernel_rfl) ?_
 try go_wp2
 refine bodyPost_ret (results_ct rfl _ _ gb593 46 #[.int .i64 t597, .slice Ao12 t598.length co12] (0, 0) _ rfl (by (with_reducible repeat (first | refine ba ?_ _ | refine bb ?_ | refine bc ?_ _)); refine blk_put (cs := #[.int .i64 t597, .slice none 0 0]) ?_ 1 _ rfl; (with_reducible repeat (first | refine ba ?_ _ | refine bb ?_ | refine bc ?_ _)); refine blk_put (cs := #[.int .i64 0, .slice none 0 0]) ?_ 0 _ rfl; (with_reducible repeat (first | refine ba ?_ _ | refine bb ?_ | refine bc ?_ _)); exact BK593.out) Try.underlying46 rfl (by kernel_rfl)) rfl ?_
 exact ⟨_, _, by first | rfl | (simp [errW_none, errW_some] <;> rfl) | (simp [*, errW_none, errW_some] <;> rfl), by (with_reducible repeat (first | apply ra | apply rb | apply rc)); exact Kd.R_mono (Kd.R_far (p := ⟨gb593, 1, none⟩) (Kd.R_far (p := ⟨gb593, 0, none⟩) (Kd.R_types HO600.out BK593.out (by decide)) (fun _ hk => hk.2) (.int .i64 t597)) (fun _ hk => hk.2) (.slice Ao12 t598.length co12)) (fun _ hk => hk.1.2), by (with_reducible repeat (first | apply ra | apply rb | apply rc)); exact Kd.R_mono (Kd.R_far (p := ⟨gb593, 1, none⟩) (Kd.R_far (p := ⟨gb593, 0, none⟩) (Kd.R_types HO605.out BK593.out (by decide)) (fun _ hk => hk.2) (.int .i64 t597)) (fun _ hk => hk.2) (.slice Ao12 t598.length co12)) (fun _ hk => hk.1.2), by repeat (first | (with_reducible first | exact HB.out | apply below_alloc | apply pw_below_drewN | apply below_drew1 | refine below_set ?_ (IsS81.ge HI596.out) | refine below_set ?_ GE593.out | refine below_set ?_ GE602.out) | exact HB.out)⟩

end Go.Proofs.Ytcobbpghipeoeaa.R
