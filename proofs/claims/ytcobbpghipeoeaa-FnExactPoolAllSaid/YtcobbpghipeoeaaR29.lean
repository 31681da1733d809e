/- Contracts of Go functions, printed by a program (the kit's print.py under reprint.py) and shortened (post.py): each call comes to what the plain function of its name tells. Where that tells nothing, nothing is said. -/
import Derived.Test.YtcobbpghipeoeaaR0
import Derived.Test.YtcobbpghipeoeaaR3
import Derived.Test.YtcobbpghipeoeaaR4
import Derived.Test.YtcobbpghipeoeaaR5
import Derived.Test.YtcobbpghipeoeaaR12
import Derived.Test.YtcobbpghipeoeaaGC
namespace Go.Proofs.Ytcobbpghipeoeaa.R
open Go.RowKit Go.Proofs.YtcobbpghipeoeaaV.PrintWords Go.Proofs.YtcobbpghipeoeaaV.PrintLast Go.Proofs.YtcobbpghipeoeaaV.PrintMore
attribute [local go_sem] max2_int min2_int max_two min_two max_three min_three max_four min_four   -- for this text's walks alone
set_option linter.unusedVariables false
set_option linter.unusedSimpArgs false
theorem z29_0 {P : Prop} (h : P := by repeat (first | (with_reducible first | exact HB.out | apply below_alloc | apply pw_below_drewN | apply below_drew1 | refine below_set ?_ GE890.out | refine below_set ?_ GE905.out | refine below_set ?_ GE910.out | refine below_set ?_ GE919.out | refine below_set ?_ GE950.out) | exact HB.out)) : P := h
theorem z29_1 {P : Prop} (h : P := by repeat (first | (with_reducible first | exact HB.out | apply below_alloc | apply pw_below_drewN | apply below_drew1 | refine below_set ?_ GE890.out | refine below_set ?_ GE905.out | refine below_set ?_ GE910.out | refine below_set ?_ GE919.out) | exact HB.out)) : P := h
theorem z29_2 {P : Prop} (h : P := by repeat (first | (with_reducible first | exact HB.out | apply below_alloc | apply pw_below_drewN | apply below_drew1 | refine below_set ?_ GE890.out | refine below_set ?_ GE905.out | refine below_set ?_ GE910.out) | exact HB.out)) : P := h
theorem z29_3 {P : Prop} (h : P := by repeat (first | (with_reducible first | exact HB.out | apply below_alloc | apply pw_below_drewN | apply below_drew1 | refine below_set ?_ GE890.out | refine below_set ?_ GE905.out) | exact HB.out)) : P := h
theorem z29_4 {P : Prop} (h : P := by repeat (first | (with_reducible first | exact HB.out | apply below_alloc | apply pw_below_drewN | apply below_drew1 | refine below_set ?_ GE890.out) | exact HB.out)) : P := h
theorem z29_5 {P : Prop} (h : P := by (try simp only [List.map_toArray, List.map_cons, List.map_nil]); first | done | rfl | (simp only [List.length_drop, List.length_take]; rfl)) : P := h
theorem z29_6 {P : Prop} (h : P := by repeat (first | (with_reducible first | exact HB.out | apply below_alloc | apply pw_below_drewN | apply below_drew1) | exact HB.out)) : P := h
theorem z29_7 {P : Prop} (h : P := by (with_reducible repeat (first | refine blk_drewN ?_ _ | refine blk_drew ?_ | refine blk_alloc ?_ _)); exact BK890.out) : P := h
theorem z29_8 {P : Prop} (h : P := by (with_reducible repeat (first | refine blk_drewN ?_ _ | refine blk_drew ?_ | refine blk_alloc ?_ _)); exact BK905.out) : P := h
theorem z29_9 {P : Prop} (h : P := by (with_reducible repeat (first | refine blk_drewN ?_ _ | refine blk_drew ?_ | refine blk_alloc ?_ _)); exact BK910.out) : P := h
theorem z29_10 {P : Prop} (h : P := by (with_reducible repeat (first | refine blk_drewN ?_ _ | refine blk_drew ?_ | refine blk_alloc ?_ _)); exact BK919.out) : P := h
theorem z29_11 {P : Prop} (h : P := by first | rfl | (simp; done) | (simp [*]; done)) : P := h

/-! ### laws_FnExactPoolAll: function 19 -/
mutual
def laws_FnExactPoolAll.j0 : Nat → List (S23) → Int → List (S25) → Int → Bool → Int → List (S23) → Int → List (S25) → Int → List (S25) → Int → List (S25) → Option (Bool)
 | 0, _, _, _, _, _, _, _, _, _, _, _, _, _ => none
 | k + 1, x1, x7, x9, x11, x53, x891000, x891001, x906000, x906001, x911000, x911001, x920000, x920001 => if x53 = true then (some false) else ((laws_toPool.f k x891000 x891001).bind fun bt921 => ((laws_eqPool.f k x911000 x911001 bt921.1 bt921.2).bind fun t925 => (if t925 = true then ((laws_toPageS.f k x1).bind fun t926 => ((laws_eqPageS.f k x9 t926).bind fun t929 => (if t929 = true then ((laws_markPool.f k x911000 x911001 1).bind fun bt930 => ((laws_markPageS.f k x9 bt930.1).bind fun bt932 => (if bt932.1 < 0 then (laws_FnExactPoolAll.j1 k x1 x7 true x891000 x891001 x906000 x906001 x920000 x920001) else ((laws_eqPool.f k x920000 x920001 x906000 x906001).bind fun t934 => (if t934 = true then (laws_FnExactPoolAll.j1 k x1 x7 (x11 != x7) x891000 x891001 x906000 x906001 x920000 x920001) else (laws_FnExactPoolAll.j1 k x1 x7 true x891000 x891001 x906000 x906001 x920000 x920001)))))) else (some false)))) else (some false))))
def laws_FnExactPoolAll.j1 : Nat → List (S23) → Int → Bool → Int → List (S23) → Int → List (S25) → Int → List (S25) → Option (Bool)
 | 0, _, _, _, _, _, _, _, _, _ => none
 | k + 1, x1, x7, x82, x891000, x891001, x906000, x906001, x920000, x920001 => if x82 = true then (some false) else ((laws_markPool.f k x920000 x920001 1).bind fun bt935 => ((laws_heldPool.f k x920000 bt935.2 1).bind fun t937 => (if t937 < 0 then (some false) else (if t937 = bt935.1 then ((laws_toPool.f k x891000 x891001).bind fun bt938 => ((laws_toPageS.f k x1).bind fun t942 => ((impl_PoolAll.f bt938.1 bt938.2 t942).bind fun bt945 => ((laws_eqPool.f k bt945.1 bt945.2.1 x906000 x906001).bind fun t951 => (if t951 = true then (laws_FnExactPoolAll.j2 k bt935.1 (bt945.2.2 != x7) x920000 bt935.2) else (laws_FnExactPoolAll.j2 k bt935.1 true x920000 bt935.2)))))) else (some false)))))
def laws_FnExactPoolAll.j2 : Nat → Int → Bool → Int → List (S25) → Option (Bool)
 | 0, _, _, _, _ => none
 | k + 1, x13, x110, x920000, x920001 => if x110 = true then (some false) else ((laws_heldPool.f k x920000 x920001 1).bind fun t952 => (if t952 < 0 then (some false) else (if t952 = x13 then (some true) else (some false))))
end
def laws_FnExactPoolAll.f (k : Nat) (a0_0 : Int) (l0_1 : List (S23)) (l1 : List (S23)) : Option (Bool) := (laws_szPool.f a0_0 l0_1 1048576).bind fun t891 => (if t891 < 0 then (some true) else ((laws_szPageS.f l1 t891).bind fun t892 => (if t892 < 0 then (some true) else ((laws_toPool.f k a0_0 l0_1).bind fun bt893 => ((laws_toPageS.f k l1).bind fun t897 => ((spec_PoolAll.f k bt893.1 bt893.2 t897).bind fun bt900 => ((laws_toPool.f k a0_0 l0_1).bind fun bt906 => ((laws_toPageS.f k l1).bind fun t911 => ((impl_PoolAll.f bt906.1 bt906.2 t911).bind fun bt914 => ((laws_eqPool.f k bt914.1 bt914.2.1 bt900.1 bt900.2.1).bind fun t920 => (if t920 = true then (laws_FnExactPoolAll.j0 k l1 bt900.2.2 t911 bt914.2.2 (bt914.2.2 != bt900.2.2) a0_0 l0_1 bt900.1 bt900.2.1 bt906.1 bt906.2 bt914.1 bt914.2.1) else (laws_FnExactPoolAll.j0 k l1 bt900.2.2 t911 bt914.2.2 true a0_0 l0_1 bt900.1 bt900.2.1 bt906.1 bt906.2 bt914.1 bt914.2.1))))))))))))
theorem laws_FnExactPoolAll.mono_l : ∀ k, (∀ y0 y1 y2 y3 y4 y5 y6 y7 y8 y9 y10 y11 y12, LeO (laws_FnExactPoolAll.j0 k y0 y1 y2 y3 y4 y5 y6 y7 y8 y9 y10 y11 y12) (laws_FnExactPoolAll.j0 (k + 1) y0 y1 y2 y3 y4 y5 y6 y7 y8 y9 y10 y11 y12)) ∧ (∀ y0 y1 y2 y3 y4 y5 y6 y7 y8, LeO (laws_FnExactPoolAll.j1 k y0 y1 y2 y3 y4 y5 y6 y7 y8) (laws_FnExactPoolAll.j1 (k + 1) y0 y1 y2 y3 y4 y5 y6 y7 y8)) ∧ (∀ y0 y1 y2 y3, LeO (laws_FnExactPoolAll.j2 k y0 y1 y2 y3) (laws_FnExactPoolAll.j2 (k + 1) y0 y1 y2 y3))
 | 0 => ⟨fun _ _ _ _ _ _ _ _ _ _ _ _ _ r h => by simp [laws_FnExactPoolAll.j0] at h, fun _ _ _ _ _ _ _ _ _ r h => by simp [laws_FnExactPoolAll.j1] at h, fun _ _ _ _ r h => by simp [laws_FnExactPoolAll.j2] at h⟩
 | k + 1 => by
  obtain ⟨ih0, ih1, ih2⟩ := laws_FnExactPoolAll.mono_l k
  refine ⟨?_, ?_, ?_⟩
  ·intro y0 y1 y2 y3 y4 y5 y6 y7 y8 y9 y10 y11 y12
   unfold laws_FnExactPoolAll.j0
   repeat' first
   | (with_reducible exact ih0 _ _ _ _ _ _ _ _ _ _ _ _ _)
   | (with_reducible exact ih1 _ _ _ _ _ _ _ _ _)
   | (with_reducible exact ih2 _ _ _ _)
   | (with_reducible exact laws_eqPageS.mono _ _ _)
   | (with_reducible exact laws_eqPool.mono _ _ _ _ _)
   | (with_reducible exact laws_heldPool.mono _ _ _ _)
   | (with_reducible exact laws_markPageS.mono _ _ _)
   | (with_reducible exact laws_markPool.mono _ _ _ _)
   | (with_reducible exact laws_toPageS.mono _ _)
   | (with_reducible exact laws_toPool.mono _ _ _)
   | (with_reducible exact spec_PoolAll.mono _ _ _ _)
   | (with_reducible exact LeO.refl _)
   | (with_reducible exact LeO.none _)
   | (with_reducible refine LeO.ite ?_ ?_)
   | (with_reducible refine LeO.bind ?_ (fun _ => ?_))
   | exact ih0 _ _ _ _ _ _ _ _ _ _ _ _ _
   | exact ih1 _ _ _ _ _ _ _ _ _
   | exact ih2 _ _ _ _
   | exact laws_eqPageS.mono _ _ _
   | exact laws_eqPool.mono _ _ _ _ _
   | exact laws_heldPool.mono _ _ _ _
   | exact laws_markPageS.mono _ _ _
   | exact laws_markPool.mono _ _ _ _
   | exact laws_toPageS.mono _ _
   | exact laws_toPool.mono _ _ _
   | exact spec_PoolAll.mono _ _ _ _
   | exact LeO.none _
   | refine LeO.ite ?_ ?_
   | refine LeO.bind ?_ (fun _ => ?_)
  ·intro y0 y1 y2 y3 y4 y5 y6 y7 y8
   unfold laws_FnExactPoolAll.j1
   repeat' first
   | (with_reducible exact ih0 _ _ _ _ _ _ _ _ _ _ _ _ _)
   | (with_reducible exact ih1 _ _ _ _ _ _ _ _ _)
   | (with_reducible exact ih2 _ _ _ _)
   | (with_reducible exact laws_eqPageS.mono _ _ _)
   | (with_reducible exact laws_eqPool.mono _ _ _ _ _)
   | (with_reducible exact laws_heldPool.mono _ _ _ _)
   | (with_reducible exact laws_markPageS.mono _ _ _)
   | (with_reducible exact laws_markPool.mono _ _ _ _)
   | (with_reducible exact laws_toPageS.mono _ _)
   | (with_reducible exact laws_toPool.mono _ _ _)
   | (with_reducible exact spec_PoolAll.mono _ _ _ _)
   | (with_reducible exact LeO.refl _)
   | (with_reducible exact LeO.none _)
   | (with_reducible refine LeO.ite ?_ ?_)
   | (with_reducible refine LeO.bind ?_ (fun _ => ?_))
   | exact ih0 _ _ _ _ _ _ _ _ _ _ _ _ _
   | exact ih1 _ _ _ _ _ _ _ _ _
   | exact ih2 _ _ _ _
   | exact laws_eqPageS.mono _ _ _
   | exact laws_eqPool.mono _ _ _ _ _
   | exact laws_heldPool.mono _ _ _ _
   | exact laws_markPageS.mono _ _ _
   | exact laws_markPool.mono _ _ _ _
   | exact laws_toPageS.mono _ _
   | exact laws_toPool.mono _ _ _
   | exact spec_PoolAll.mono _ _ _ _
   | exact LeO.none _
   | refine LeO.ite ?_ ?_
   | refine LeO.bind ?_ (fun _ => ?_)
  ·intro y0 y1 y2 y3
   unfold laws_FnExactPoolAll.j2
   repeat' first
   | (with_reducible exact ih0 _ _ _ _ _ _ _ _ _ _ _ _ _)
   | (with_reducible exact ih1 _ _ _ _ _ _ _ _ _)
   | (with_reducible exact ih2 _ _ _ _)
   | (with_reducible exact laws_eqPageS.mono _ _ _)
   | (with_reducible exact laws_eqPool.mono _ _ _ _ _)
   | (with_reducible exact laws_heldPool.mono _ _ _ _)
   | (with_reducible exact laws_markPageS.mono _ _ _)
   | (with_reducible exact laws_markPool.mono _ _ _ _)
   | (with_reducible exact laws_toPageS.mono _ _)
   | (with_reducible exact laws_toPool.mono _ _ _)
   | (with_reducible exact spec_PoolAll.mono _ _ _ _)
   | (with_reducible exact LeO.refl _)
   | (with_reducible exact LeO.none _)
   | (with_reducible refine LeO.ite ?_ ?_)
   | (with_reducible refine LeO.bind ?_ (fun _ => ?_))
   | exact ih0 _ _ _ _ _ _ _ _ _ _ _ _ _
   | exact ih1 _ _ _ _ _ _ _ _ _
   | exact ih2 _ _ _ _
   | exact laws_eqPageS.mono _ _ _
   | exact laws_eqPool.mono _ _ _ _ _
   | exact laws_heldPool.mono _ _ _ _
   | exact laws_markPageS.mono _ _ _
   | exact laws_markPool.mono _ _ _ _
   | exact laws_toPageS.mono _ _
   | exact laws_toPool.mono _ _ _
   | exact spec_PoolAll.mono _ _ _ _
   | exact LeO.none _
   | refine LeO.ite ?_ ?_
   | refine LeO.bind ?_ (fun _ => ?_)
theorem laws_FnExactPoolAll.mono : ∀ a0 a1 a2 k, LeO (laws_FnExactPoolAll.f k a0 a1 a2) (laws_FnExactPoolAll.f (k + 1) a0 a1 a2) := by
 intro a0 a1 a2 k
 obtain ⟨ih0, ih1, ih2⟩ := laws_FnExactPoolAll.mono_l k
 unfold laws_FnExactPoolAll.f
 repeat' first
   | (with_reducible exact ih0 _ _ _ _ _ _ _ _ _ _ _ _ _)
   | (with_reducible exact ih1 _ _ _ _ _ _ _ _ _)
   | (with_reducible exact ih2 _ _ _ _)
   | (with_reducible exact laws_eqPageS.mono _ _ _)
   | (with_reducible exact laws_eqPool.mono _ _ _ _ _)
   | (with_reducible exact laws_heldPool.mono _ _ _ _)
   | (with_reducible exact laws_markPageS.mono _ _ _)
   | (with_reducible exact laws_markPool.mono _ _ _ _)
   | (with_reducible exact laws_toPageS.mono _ _)
   | (with_reducible exact laws_toPool.mono _ _ _)
   | (with_reducible exact spec_PoolAll.mono _ _ _ _)
   | (with_reducible exact LeO.refl _)
   | (with_reducible exact LeO.none _)
   | (with_reducible refine LeO.ite ?_ ?_)
   | (with_reducible refine LeO.bind ?_ (fun _ => ?_))
   | exact ih0 _ _ _ _ _ _ _ _ _ _ _ _ _
   | exact ih1 _ _ _ _ _ _ _ _ _
   | exact ih2 _ _ _ _
   | exact laws_eqPageS.mono _ _ _
   | exact laws_eqPool.mono _ _ _ _ _
   | exact laws_heldPool.mono _ _ _ _
   | exact laws_markPageS.mono _ _ _
   | exact laws_markPool.mono _ _ _ _
   | exact laws_toPageS.mono _ _
   | exact laws_toPool.mono _ _ _
   | exact spec_PoolAll.mono _ _ _ _
   | exact LeO.none _
   | refine LeO.ite ?_ ?_
   | refine LeO.bind ?_ (fun _ => ?_)
set_option maxHeartbeats 8000000 in
set_option maxRecDepth 100000 in
theorem laws_FnExactPoolAll.calls (k : Nat) (a0_0 : Int) (A0_1 : Option Addr) (c0_1 : Nat) (l0_1 : List (S23)) (A1 : Option Addr) (c1 : Nat) (l1 : List (S23)) (r : Bool) (w : World) (hr0_1 : Kd.C k23 w A0_1 l0_1.length l0_1) (hc0_1 : l0_1.length ≤ c0_1) (hr1 : Kd.C k23 w A1 l1.length l1) (hc1 : l1.length ≤ c1) (hT : r = true) (h : laws_FnExactPoolAll.f k a0_0 l0_1 l1 = some r) :
  Calls Try.prog 19 #[.agg #[.int .i64 a0_0, .slice A0_1 l0_1.length c0_1], .slice A1 l1.length c1] w fun e w' => e = .returned (.bool r) ∧ Below w.heap.size w w' := by
 have hu42 := Try.underlying42
 have hu46 := Try.underlying46
 have HR0_1 := Aside0.mk hr0_1
 have HC0_1 := Aside0.mk hc0_1
 clear hr0_1 hc0_1
 have HR1 := Aside0.mk hr1
 have HC1 := Aside0.mk hc1
 clear hr1 hc1
 have HB := Aside0.mk (Below.refl w.heap.size w)
 have H : ((laws_szPool.f a0_0 l0_1 1048576).bind fun t891 => (if t891 < 0 then (some true) else ((laws_szPageS.f l1 t891).bind fun t892 => (if t892 < 0 then (some true) else ((laws_toPool.f k a0_0 l0_1).bind fun bt893 => ((laws_toPageS.f k l1).bind fun t897 => ((spec_PoolAll.f k bt893.1 bt893.2 t897).bind fun bt900 => ((laws_toPool.f k a0_0 l0_1).bind fun bt906 => ((laws_toPageS.f k l1).bind fun t911 => ((impl_PoolAll.f bt906.1 bt906.2 t911).bind fun bt914 => ((laws_eqPool.f k bt914.1 bt914.2.1 bt900.1 bt900.2.1).bind fun t920 => (if t920 = true then (laws_FnExactPoolAll.j0 k l1 bt900.2.2 t911 bt914.2.2 (bt914.2.2 != bt900.2.2) a0_0 l0_1 bt900.1 bt900.2.1 bt906.1 bt906.2 bt914.1 bt914.2.1) else (laws_FnExactPoolAll.j0 k l1 bt900.2.2 t911 bt914.2.2 true a0_0 l0_1 bt900.1 bt900.2.1 bt906.1 bt906.2 bt914.1 bt914.2.1))))))))))))) = some r := h
 clear h
 replace H := Option.bind_eq_some_iff.mp H
 obtain ⟨t891, A30, H⟩ := H
 replace H : (if t891 < 0 then (some true) else ((laws_szPageS.f l1 t891).bind fun t892 => (if t892 < 0 then (some true) else ((laws_toPool.f k a0_0 l0_1).bind fun bt893 => ((laws_toPageS.f k l1).bind fun t897 => ((spec_PoolAll.f k bt893.1 bt893.2 t897).bind fun bt900 => ((laws_toPool.f k a0_0 l0_1).bind fun bt906 => ((laws_toPageS.f k l1).bind fun t911 => ((impl_PoolAll.f bt906.1 bt906.2 t911).bind fun bt914 => ((laws_eqPool.f k bt914.1 bt914.2.1 bt900.1 bt900.2.1).bind fun t920 => (if t920 = true then (laws_FnExactPoolAll.j0 k l1 bt900.2.2 t911 bt914.2.2 (bt914.2.2 != bt900.2.2) a0_0 l0_1 bt900.1 bt900.2.1 bt906.1 bt906.2 bt914.1 bt914.2.1) else (laws_FnExactPoolAll.j0 k l1 bt900.2.2 t911 bt914.2.2 true a0_0 l0_1 bt900.1 bt900.2.1 bt906.1 bt906.2 bt914.1 bt914.2.1)))))))))))) = some r := H
 have A3 := Aside0.mk A30
 clear A30
 by_cases c4 : t891 < 0
 ·rw [if_pos c4] at H
  have c4b0 : decide (t891 < 0) = true := decide_eq_true c4
  clear c4
  obtain rfl := Option.some.inj H
  go_enter Try.func19, Try.ntmps19
  go_wp2_with (first | ((with_reducible refine gate_dst (N := 2) rfl ?_); refine box_event ?hg (N := 2) ?hd (cs := #[.int .i64 a0_0, .slice A0_1 l0_1.length c0_1]) (t := 42) ?hr ?_; (case hd => rfl); (case hg => rfl); (case hr => first | (go_simp; done) | (go_simp; rfl)); intro gb890 hg w5 hbox hb; have n0_ := Aside0.mk (below_step (z29_6) hb); have n1_ := Aside0.mk (hbox); have n2_ := Aside0.mk ((by rw [hg]; exact (below_size (z29_6)) : w.heap.size ≤ gb890)); have n3_ := Aside0.mk ((by rw [hg]; exact (below_size (z29_6)) : w.heap.size ≤ gb890)); clear HB; have HB := n0_; have BK890 := n1_; have GW890 := n2_; have GE890 := n3_; clear n0_ n1_ n2_ n3_; clear hb hbox hg; have hcz6_0 : w5.cell? ⟨gb890, 0, none⟩ = some (.int .i64 a0_0) := (blk_cell BK890.out 0).trans rfl; have hcz6_1 : w5.cell? ⟨gb890, 1, none⟩ = some (.slice A0_1 l0_1.length c0_1) := (blk_cell BK890.out 1).trans rfl; have hfz6_0 := blk_frozen BK890.out 0; have hfz6_1 := blk_frozen BK890.out 1) | ((with_reducible refine gate_callee (f := 32) rfl ?_); refine goesL_ (some 19) rfl rfl Try.func32 (by kernel_rfl) rfl #[.agg #[.int .i64 a0_0, .slice A0_1 l0_1.length c0_1], .int .i64 1048576] rfl (z29_5) ?_; (with_reducible refine (laws_szPool.calls a0_0 _ _ l0_1 1048576 t891 _ ?side1 ?side2 A3.out).mono ?_); (case side1 => repeat (first | exact (Kd.C_below HR0_1.out HB.out) | (with_reducible refine Kd.C_alloc ?_ _) | (with_reducible refine Kd.C_drewN ?_ _) | (with_reducible refine Kd.C_drew ?_))); (case side2 => exact HC0_1.out); rintro e w7 ⟨rfl, hb⟩; refine ⟨_, rfl, ?_⟩; have n0_ := Aside0.mk (blk_below (g := gb890) (o := .cells #[.int .i64 a0_0, .slice A0_1 l0_1.length c0_1] 42 (0, 0)) (z29_7) hb); have n1_ := Aside0.mk (below_step (z29_4) hb); clear BK890; clear HB; have BK890 := n0_; have HB := n1_; clear n0_ n1_; (try clear hb); (try clear hb2); (try clear hk); (try clear hi)))
  go_ret
  exact ⟨by first | rfl | (simp [errW_none, errW_some] <;> rfl) | (simp [*, errW_none, errW_some] <;> rfl), by repeat (first | (with_reducible first | exact HB.out | apply below_alloc | apply pw_below_drewN | apply below_drew1 | refine below_set ?_ GE890.out) | exact HB.out)⟩
 ·rw [if_neg c4] at H
  have c4b0 : decide (t891 < 0) = false := decide_eq_false c4
  clear c4
  replace H := Option.bind_eq_some_iff.mp H
  obtain ⟨t892, A80, H⟩ := H
  replace H : (if t892 < 0 then (some true) else ((laws_toPool.f k a0_0 l0_1).bind fun bt893 => ((laws_toPageS.f k l1).bind fun t897 => ((spec_PoolAll.f k bt893.1 bt893.2 t897).bind fun bt900 => ((laws_toPool.f k a0_0 l0_1).bind fun bt906 => ((laws_toPageS.f k l1).bind fun t911 => ((impl_PoolAll.f bt906.1 bt906.2 t911).bind fun bt914 => ((laws_eqPool.f k bt914.1 bt914.2.1 bt900.1 bt900.2.1).bind fun t920 => (if t920 = true then (laws_FnExactPoolAll.j0 k l1 bt900.2.2 t911 bt914.2.2 (bt914.2.2 != bt900.2.2) a0_0 l0_1 bt900.1 bt900.2.1 bt906.1 bt906.2 bt914.1 bt914.2.1) else (laws_FnExactPoolAll.j0 k l1 bt900.2.2 t911 bt914.2.2 true a0_0 l0_1 bt900.1 bt900.2.1 bt906.1 bt906.2 bt914.1 bt914.2.1)))))))))) = some r := H
  have A8 := Aside0.mk A80
  clear A80
  by_cases c9 : t892 < 0
  ·rw [if_pos c9] at H
   have c9b0 : decide (t892 < 0) = true := decide_eq_true c9
   clear c9
   obtain rfl := Option.some.inj H
   go_enter Try.func19, Try.ntmps19
   go_wp2_with (first | ((with_reducible refine gate_dst (N := 2) rfl ?_); refine box_event ?hg (N := 2) ?hd (cs := #[.int .i64 a0_0, .slice A0_1 l0_1.length c0_1]) (t := 42) ?hr ?_; (case hd => rfl); (case hg => rfl); (case hr => first | (go_simp; done) | (go_simp; rfl)); intro gb890 hg w10 hbox hb; have n0_ := Aside0.mk (below_step (z29_6) hb); have n1_ := Aside0.mk (hbox); have n2_ := Aside0.mk ((by rw [hg]; exact (below_size (z29_6)) : w.heap.size ≤ gb890)); have n3_ := Aside0.mk ((by rw [hg]; exact (below_size (z29_6)) : w.heap.size ≤ gb890)); clear HB; have HB := n0_; have BK890 := n1_; have GW890 := n2_; have GE890 := n3_; clear n0_ n1_ n2_ n3_; clear hb hbox hg; have hcz11_0 : w10.cell? ⟨gb890, 0, none⟩ = some (.int .i64 a0_0) := (blk_cell BK890.out 0).trans rfl; have hcz11_1 : w10.cell? ⟨gb890, 1, none⟩ = some (.slice A0_1 l0_1.length c0_1) := (blk_cell BK890.out 1).trans rfl; have hfz11_0 := blk_frozen BK890.out 0; have hfz11_1 := blk_frozen BK890.out 1) | ((with_reducible refine gate_callee (f := 32) rfl ?_); refine goesL_ (some 19) rfl rfl Try.func32 (by kernel_rfl) rfl #[.agg #[.int .i64 a0_0, .slice A0_1 l0_1.length c0_1], .int .i64 1048576] rfl (z29_5) ?_; (with_reducible refine (laws_szPool.calls a0_0 _ _ l0_1 1048576 t891 _ ?side1 ?side2 A3.out).mono ?_); (case side1 => repeat (first | exact (Kd.C_below HR0_1.out HB.out) | (with_reducible refine Kd.C_alloc ?_ _) | (with_reducible refine Kd.C_drewN ?_ _) | (with_reducible refine Kd.C_drew ?_))); (case side2 => exact HC0_1.out); rintro e w12 ⟨rfl, hb⟩; refine ⟨_, rfl, ?_⟩; have n0_ := Aside0.mk (blk_below (g := gb890) (o := .cells #[.int .i64 a0_0, .slice A0_1 l0_1.length c0_1] 42 (0, 0)) (z29_7) hb); have n1_ := Aside0.mk (below_step (z29_4) hb); clear BK890; clear HB; have BK890 := n0_; have HB := n1_; clear n0_ n1_; (try clear hb); (try clear hb2); (try clear hk); (try clear hi)) | ((with_reducible refine gate_callee (f := 49) rfl ?_); refine goesL_ (some 24) rfl rfl Try.func49 (by kernel_rfl) rfl #[.slice A1 l1.length c1, .int .i64 t891] rfl (z29_5) ?_; (with_reducible refine (laws_szPageS.calls _ _ l1 t891 t892 _ ?side1 ?side2 A8.out).mono ?_); (case side1 => repeat (first | exact (Kd.C_below HR1.out HB.out) | (with_reducible refine Kd.C_alloc ?_ _) | (with_reducible refine Kd.C_drewN ?_ _) | (with_reducible refine Kd.C_drew ?_))); (case side2 => exact HC1.out); rintro e w' ⟨rfl, ⟨nd, rfl⟩⟩; refine ⟨_, rfl, ?_⟩))
   go_ret
   exact ⟨by first | rfl | (simp [errW_none, errW_some] <;> rfl) | (simp [*, errW_none, errW_some] <;> rfl), by repeat (first | (with_reducible first | exact HB.out | apply below_alloc | apply pw_below_drewN | apply below_drew1 | refine below_set ?_ GE890.out) | exact HB.out)⟩
  ·rw [if_neg c9] at H
   have c9b0 : decide (t892 < 0) = false := decide_eq_false c9
   clear c9
   replace H := Option.bind_eq_some_iff.mp H
   obtain ⟨⟨t893, t894⟩, A130, H⟩ := H
   replace H : ((laws_toPageS.f k l1).bind fun t897 => ((spec_PoolAll.f k t893 t894 t897).bind fun bt900 => ((laws_toPool.f k a0_0 l0_1).bind fun bt906 => ((laws_toPageS.f k l1).bind fun t911 => ((impl_PoolAll.f bt906.1 bt906.2 t911).bind fun bt914 => ((laws_eqPool.f k bt914.1 bt914.2.1 bt900.1 bt900.2.1).bind fun t920 => (if t920 = true then (laws_FnExactPoolAll.j0 k l1 bt900.2.2 t911 bt914.2.2 (bt914.2.2 != bt900.2.2) a0_0 l0_1 bt900.1 bt900.2.1 bt906.1 bt906.2 bt914.1 bt914.2.1) else (laws_FnExactPoolAll.j0 k l1 bt900.2.2 t911 bt914.2.2 true a0_0 l0_1 bt900.1 bt900.2.1 bt906.1 bt906.2 bt914.1 bt914.2.1)))))))) = some r := H
   have A13 := Aside0.mk A130
   clear A130
   replace H := Option.bind_eq_some_iff.mp H
   obtain ⟨t897, A140, H⟩ := H
   replace H : ((spec_PoolAll.f k t893 t894 t897).bind fun bt900 => ((laws_toPool.f k a0_0 l0_1).bind fun bt906 => ((laws_toPageS.f k l1).bind fun t911 => ((impl_PoolAll.f bt906.1 bt906.2 t911).bind fun bt914 => ((laws_eqPool.f k bt914.1 bt914.2.1 bt900.1 bt900.2.1).bind fun t920 => (if t920 = true then (laws_FnExactPoolAll.j0 k l1 bt900.2.2 t911 bt914.2.2 (bt914.2.2 != bt900.2.2) a0_0 l0_1 bt900.1 bt900.2.1 bt906.1 bt906.2 bt914.1 bt914.2.1) else (laws_FnExactPoolAll.j0 k l1 bt900.2.2 t911 bt914.2.2 true a0_0 l0_1 bt900.1 bt900.2.1 bt906.1 bt906.2 bt914.1 bt914.2.1))))))) = some r := H
   have A14 := Aside0.mk A140
   clear A140
   replace H := Option.bind_eq_some_iff.mp H
   obtain ⟨⟨t900, t901, t904⟩, A150, H⟩ := H
   replace H : ((laws_toPool.f k a0_0 l0_1).bind fun bt906 => ((laws_toPageS.f k l1).bind fun t911 => ((impl_PoolAll.f bt906.1 bt906.2 t911).bind fun bt914 => ((laws_eqPool.f k bt914.1 bt914.2.1 t900 t901).bind fun t920 => (if t920 = true then (laws_FnExactPoolAll.j0 k l1 t904 t911 bt914.2.2 (bt914.2.2 != t904) a0_0 l0_1 t900 t901 bt906.1 bt906.2 bt914.1 bt914.2.1) else (laws_FnExactPoolAll.j0 k l1 t904 t911 bt914.2.2 true a0_0 l0_1 t900 t901 bt906.1 bt906.2 bt914.1 bt914.2.1)))))) = some r := H
   have A15 := Aside0.mk A150
   clear A150
   replace H := Option.bind_eq_some_iff.mp H
   obtain ⟨⟨t906, t907⟩, A160, H⟩ := H
   replace H : ((laws_toPageS.f k l1).bind fun t911 => ((impl_PoolAll.f t906 t907 t911).bind fun bt914 => ((laws_eqPool.f k bt914.1 bt914.2.1 t900 t901).bind fun t920 => (if t920 = true then (laws_FnExactPoolAll.j0 k l1 t904 t911 bt914.2.2 (bt914.2.2 != t904) a0_0 l0_1 t900 t901 t906 t907 bt914.1 bt914.2.1) else (laws_FnExactPoolAll.j0 k l1 t904 t911 bt914.2.2 true a0_0 l0_1 t900 t901 t906 t907 bt914.1 bt914.2.1))))) = some r := H
   have A16 := Aside0.mk A160
   clear A160
   replace H := Option.bind_eq_some_iff.mp H
   obtain ⟨t911, A170, H⟩ := H
   replace H : ((impl_PoolAll.f t906 t907 t911).bind fun bt914 => ((laws_eqPool.f k bt914.1 bt914.2.1 t900 t901).bind fun t920 => (if t920 = true then (laws_FnExactPoolAll.j0 k l1 t904 t911 bt914.2.2 (bt914.2.2 != t904) a0_0 l0_1 t900 t901 t906 t907 bt914.1 bt914.2.1) else (laws_FnExactPoolAll.j0 k l1 t904 t911 bt914.2.2 true a0_0 l0_1 t900 t901 t906 t907 bt914.1 bt914.2.1)))) = some r := H
   have A17 := Aside0.mk A170
   clear A170
   replace H := Option.bind_eq_some_iff.mp H
   obtain ⟨⟨t914, t915, t918⟩, A180, H⟩ := H
   replace H : ((laws_eqPool.f k t914 t915 t900 t901).bind fun t920 => (if t920 = true then (laws_FnExactPoolAll.j0 k l1 t904 t911 t918 (t918 != t904) a0_0 l0_1 t900 t901 t906 t907 t914 t915) else (laws_FnExactPoolAll.j0 k l1 t904 t911 t918 true a0_0 l0_1 t900 t901 t906 t907 t914 t915))) = some r := H
   have A18 := Aside0.mk A180
   clear A180
   have HC19 := Aside0.mk H
   clear H
   go_enter Try.func19, Try.ntmps19
   go_upto_region 12 with (first | ((with_reducible refine gate_dst (N := 2) rfl ?_); refine box_event ?hg (N := 2) ?hd (cs := #[.int .i64 a0_0, .slice A0_1 l0_1.length c0_1]) (t := 42) ?hr ?_; (case hd => rfl); (case hg => rfl); (case hr => first | (go_simp; done) | (go_simp; rfl)); intro gb890 hg w20 hbox hb; have n0_ := Aside0.mk (below_step (z29_6) hb); have n1_ := Aside0.mk (hbox); have n2_ := Aside0.mk ((by rw [hg]; exact (below_size (z29_6)) : w.heap.size ≤ gb890)); have n3_ := Aside0.mk ((by rw [hg]; exact (below_size (z29_6)) : w.heap.size ≤ gb890)); clear HB; have HB := n0_; have BK890 := n1_; have GW890 := n2_; have GE890 := n3_; clear n0_ n1_ n2_ n3_; clear hb hbox hg; have hcz21_0 : w20.cell? ⟨gb890, 0, none⟩ = some (.int .i64 a0_0) := (blk_cell BK890.out 0).trans rfl; have hcz21_1 : w20.cell? ⟨gb890, 1, none⟩ = some (.slice A0_1 l0_1.length c0_1) := (blk_cell BK890.out 1).trans rfl; have hfz21_0 := blk_frozen BK890.out 0; have hfz21_1 := blk_frozen BK890.out 1) | ((with_reducible refine gate_callee (f := 32) rfl ?_); refine goesL_ (some 19) rfl rfl Try.func32 (by kernel_rfl) rfl #[.agg #[.int .i64 a0_0, .slice A0_1 l0_1.length c0_1], .int .i64 1048576] rfl (z29_5) ?_; (with_reducible refine (laws_szPool.calls a0_0 _ _ l0_1 1048576 t891 _ ?side1 ?side2 A3.out).mono ?_); (case side1 => repeat (first | exact (Kd.C_below HR0_1.out HB.out) | (with_reducible refine Kd.C_alloc ?_ _) | (with_reducible refine Kd.C_drewN ?_ _) | (with_reducible refine Kd.C_drew ?_))); (case side2 => exact HC0_1.out); rintro e w22 ⟨rfl, hb⟩; refine ⟨_, rfl, ?_⟩; have n0_ := Aside0.mk (blk_below (g := gb890) (o := .cells #[.int .i64 a0_0, .slice A0_1 l0_1.length c0_1] 42 (0, 0)) (z29_7) hb); have n1_ := Aside0.mk (below_step (z29_4) hb); clear BK890; clear HB; have BK890 := n0_; have HB := n1_; clear n0_ n1_; (try clear hb); (try clear hb2); (try clear hk); (try clear hi)) | ((with_reducible refine gate_callee (f := 49) rfl ?_); refine goesL_ (some 24) rfl rfl Try.func49 (by kernel_rfl) rfl #[.slice A1 l1.length c1, .int .i64 t891] rfl (z29_5) ?_; (with_reducible refine (laws_szPageS.calls _ _ l1 t891 t892 _ ?side1 ?side2 A8.out).mono ?_); (case side1 => repeat (first | exact (Kd.C_below HR1.out HB.out) | (with_reducible refine Kd.C_alloc ?_ _) | (with_reducible refine Kd.C_drewN ?_ _) | (with_reducible refine Kd.C_drew ?_))); (case side2 => exact HC1.out); rintro e w' ⟨rfl, ⟨nd, rfl⟩⟩; refine ⟨_, rfl, ?_⟩; (try (rw [drewN_self w22]; generalize hq_ : World.drewN w22 _ = w22; have n0_ : Aside0 (w22.heap[gb890]? = some (.cells #[.int .i64 a0_0, .slice A0_1 l0_1.length c0_1] 42 (0, 0))) := ⟨by rw [← hq_]; exact (z29_7)⟩; have n1_ : Aside0 (Below w.heap.size w w22) := ⟨by rw [← hq_]; exact (z29_4)⟩; clear BK890 HB hq_; have BK890 := n0_; have HB := n1_; clear n0_ n1_)); have hcz23_0 : w22.cell? ⟨gb890, 0, none⟩ = some (.int .i64 a0_0) := (blk_cell BK890.out 0).trans rfl; have hcz23_1 : w22.cell? ⟨gb890, 1, none⟩ = some (.slice A0_1 l0_1.length c0_1) := (blk_cell BK890.out 1).trans rfl; have hfz23_0 := blk_frozen BK890.out 0; have hfz23_1 := blk_frozen BK890.out 1) | ((with_reducible refine gate_callee (f := 34) rfl ?_); refine goesL_ (some 29) rfl rfl Try.func34 (by kernel_rfl) rfl #[.agg #[.int .i64 a0_0, .slice A0_1 l0_1.length c0_1]] rfl (z29_5) ?_; (with_reducible refine (laws_toPool.calls k a0_0 _ _ l0_1 t893 t894 _ ?side1 ?side2 A13.out).mono ?_); (case side1 => repeat (first | exact (Kd.C_below HR0_1.out HB.out) | (with_reducible refine Kd.C_alloc ?_ _) | (with_reducible refine Kd.C_drewN ?_ _) | (with_reducible refine Kd.C_drew ?_))); (case side2 => exact HC0_1.out); rintro e w24 ⟨v895, rfl, ho0, hb⟩; refine ⟨_, rfl, ?_⟩; have n0_ := Aside0.mk (Kd.R_lower ho0 (below_size (z29_4))); have n1_ := Aside0.mk (blk_below (g := gb890) (o := .cells #[.int .i64 a0_0, .slice A0_1 l0_1.length c0_1] 42 (0, 0)) (z29_7) hb); have n2_ := Aside0.mk (below_step (z29_4) hb); clear BK890; clear HB; have HO896 := n0_; have BK890 := n1_; have HB := n2_; clear n0_ n1_ n2_; (try clear hb); (try clear hb2); (try clear hk); (try clear hi); (try clear ho0)) | ((with_reducible refine gate_callee (f := 50) rfl ?_); refine goesL_ (some 31) rfl rfl Try.func50 (by kernel_rfl) rfl #[.slice A1 l1.length c1] rfl (z29_5) ?_; (with_reducible refine (laws_toPageS.calls k _ _ l1 t897 _ ?side1 ?side2 A14.out).mono ?_); (case side1 => repeat (first | exact (Kd.C_below HR1.out HB.out) | (with_reducible refine Kd.C_alloc ?_ _) | (with_reducible refine Kd.C_drewN ?_ _) | (with_reducible refine Kd.C_drew ?_))); (case side2 => exact HC1.out); rintro e w25 ⟨v898, rfl, ho0, hb⟩; refine ⟨_, rfl, ?_⟩; have n0_ := Aside0.mk (Kd.R_elder' (by (with_reducible repeat (first | apply Kd.R_alloc | apply Kd.R_drewN | apply Kd.R_drew)); exact HO896.out) (Kd.R_base ho0) hb); have n1_ := Aside0.mk (Kd.R_lower (Kd.R_new' ho0 (Kd.R_lt (by (with_reducible repeat (first | apply Kd.R_alloc | apply Kd.R_drewN | apply Kd.R_drew)); exact HO896.out))) (below_size (z29_4))); have n2_ := Aside0.mk (blk_below (g := gb890) (o := .cells #[.int .i64 a0_0, .slice A0_1 l0_1.length c0_1] 42 (0, 0)) (z29_7) hb); have n3_ := Aside0.mk (below_step (z29_4) hb); clear HO896; clear BK890; clear HB; have HO896 := n0_; have HO899 := n1_; have BK890 := n2_; have HB := n3_; clear n0_ n1_ n2_ n3_; (try clear hb); (try clear hb2); (try clear hk); (try clear hi); (try clear ho0); obtain ⟨Ao26, co26, eo26⟩ := Kd.R_slice HO896.out; subst eo26; obtain ⟨Ao27, co27, eo27⟩ := Kd.R_slice HO899.out; subst eo27) | ((with_reducible refine gate_callee (f := 46) rfl ?_); refine goesL_ (some 32) rfl rfl Try.func46 (by kernel_rfl) rfl #[.agg #[.int .i64 t893, .slice Ao26 t894.length co26], .slice Ao27 t897.length co27] rfl (z29_5) ?_; (with_reducible refine (spec_PoolAll.calls k t893 _ _ t894 _ _ t897 t900 t901 t904 _ ?side1 ?side2 ?side3 ?side4 A15.out).mono ?_); (case side1 => repeat (first | exact (Kd.R_reads' HO896.out).2.2 | (with_reducible refine Kd.C_alloc ?_ _) | (with_reducible refine Kd.C_drewN ?_ _) | (with_reducible refine Kd.C_drew ?_))); (case side2 => exact (Kd.R_reads' HO896.out).2.1); (case side3 => repeat (first | exact (Kd.R_reads' HO899.out).2.2 | (with_reducible refine Kd.C_alloc ?_ _) | (with_reducible refine Kd.C_drewN ?_ _) | (with_reducible refine Kd.C_drew ?_))); (case side4 => exact (Kd.R_reads' HO899.out).2.1); rintro e w28 ⟨v902, rfl, ho0, hb⟩; refine ⟨_, rfl, ?_⟩; have n0_ := Aside0.mk (Kd.R_elder' (by (with_reducible repeat (first | apply Kd.R_alloc | apply Kd.R_drewN | apply Kd.R_drew)); exact HO896.out) (Kd.R_base ho0) hb); have n1_ := Aside0.mk (Kd.R_elder' (by (with_reducible repeat (first | apply Kd.R_alloc | apply Kd.R_drewN | apply Kd.R_drew)); exact HO899.out) (Kd.R_base ho0) hb); have n2_ := Aside0.mk (Kd.R_lower (Kd.R_new' (Kd.R_new' ho0 (Kd.R_lt (by (with_reducible repeat (first | apply Kd.R_alloc | apply Kd.R_drewN | apply Kd.R_drew)); exact HO896.out))) (Kd.R_lt (by (with_reducible repeat (first | apply Kd.R_alloc | apply Kd.R_drewN | apply Kd.R_drew)); exact HO899.out))) (below_size (z29_4))); have n3_ := Aside0.mk (blk_below (g := gb890) (o := .cells #[.int .i64 a0_0, .slice A0_1 l0_1.length c0_1] 42 (0, 0)) (z29_7) hb); have n4_ := Aside0.mk (below_step (z29_4) hb); clear HO896; clear HO899; clear BK890; clear HB; have HO896 := n0_; have HO899 := n1_; have HO903 := n2_; have BK890 := n3_; have HB := n4_; clear n0_ n1_ n2_ n3_ n4_; (try clear hb); (try clear hb2); (try clear hk); (try clear hi); (try clear ho0)) | ((with_reducible refine gate_dst (N := 6) rfl ?_); refine box_event ?hg (N := 6) ?hd (cs := #[.int .i64 0, .slice none 0 0]) (t := 46) ?hr ?_; (case hd => rfl); (case hg => rfl); (case hr => first | (go_simp; done) | (go_simp; rfl)); intro gb905 hg w29 hbox hb; have n0_ := Aside0.mk (Kd.R_below (by (with_reducible repeat (first | apply Kd.R_alloc | apply Kd.R_drewN | apply Kd.R_drew)); exact HO896.out) hb); have n1_ := Aside0.mk (Kd.R_below (by (with_reducible repeat (first | apply Kd.R_alloc | apply Kd.R_drewN | apply Kd.R_drew)); exact HO899.out) hb); have n2_ := Aside0.mk (Kd.R_below (by (with_reducible repeat (first | apply Kd.R_alloc | apply Kd.R_drewN | apply Kd.R_drew)); exact HO903.out) hb); have n3_ := Aside0.mk (blk_below (g := gb890) (o := .cells #[.int .i64 a0_0, .slice A0_1 l0_1.length c0_1] 42 (0, 0)) (z29_7) hb); have n4_ := Aside0.mk (below_step (z29_4) hb); have n5_ := Aside0.mk (hbox); have n6_ := Aside0.mk ((by rw [hg]; exact (below_size (z29_4)) : w.heap.size ≤ gb905)); have n7_ := Aside0.mk ((by rw [hg]; exact (below_size (z29_4)) : w.heap.size ≤ gb905)); have n8_ := Aside0.mk ((by rw [hg]; exact Nat.ne_of_lt (blk_lt (g := gb890) (o := .cells #[.int .i64 a0_0, .slice A0_1 l0_1.length c0_1] 42 (0, 0)) (z29_7)) : gb890 ≠ gb905)); have n9_ := Aside0.mk ((by rw [hg]; exact Nat.ne_of_gt (blk_lt (g := gb890) (o := .cells #[.int .i64 a0_0, .slice A0_1 l0_1.length c0_1] 42 (0, 0)) (z29_7)) : gb905 ≠ gb890)); clear HO896; clear HO899; clear HO903; clear BK890; clear HB; have HO896 := n0_; have HO899 := n1_; have HO903 := n2_; have BK890 := n3_; have HB := n4_; have BK905 := n5_; have GW905 := n6_; have GE905 := n7_; have NB890_905 := n8_; have NB905_890 := n9_; clear n0_ n1_ n2_ n3_ n4_ n5_ n6_ n7_ n8_ n9_; clear hb hbox hg; have hnb30 := NB905_890.out; have hnc30 := NB890_905.out; have hcz31_0 : w29.cell? ⟨gb905, 0, none⟩ = some (.int .i64 0) := (blk_cell BK905.out 0).trans rfl; have hcz31_1 : w29.cell? ⟨gb905, 1, none⟩ = some (.slice none 0 0) := (blk_cell BK905.out 1).trans rfl; have hfz31_0 := blk_frozen BK905.out 0; have hfz31_1 := blk_frozen BK905.out 1; obtain ⟨Ao32, co32, eo32⟩ := Kd.R_slice HO903.out; subst eo32; have hcz33_0 : w29.cell? ⟨gb890, 0, none⟩ = some (.int .i64 a0_0) := (blk_cell BK890.out 0).trans rfl; have hcz33_1 : w29.cell? ⟨gb890, 1, none⟩ = some (.slice A0_1 l0_1.length c0_1) := (blk_cell BK890.out 1).trans rfl; have hfz33_0 := blk_frozen BK890.out 0; have hfz33_1 := blk_frozen BK890.out 1) | ((with_reducible refine gate_callee (f := 34) rfl ?_); refine goesL_ (some 36) rfl rfl Try.func34 (by kernel_rfl) rfl #[.agg #[.int .i64 a0_0, .slice A0_1 l0_1.length c0_1]] rfl (z29_5) ?_; (with_reducible refine (laws_toPool.calls k a0_0 _ _ l0_1 t906 t907 _ ?side1 ?side2 A16.out).mono ?_); (case side1 => exact Kd.C_below HR0_1.out (z29_3)); (case side2 => exact HC0_1.out); rintro e w34 ⟨v908, rfl, ho0, hb⟩; refine ⟨_, rfl, ?_⟩; have n0_ := Aside0.mk (Kd.R_elder' (by (with_reducible repeat (first | apply Kd.R_alloc | apply Kd.R_drewN | apply Kd.R_drew)); exact (Kd.R_mono (Kd.R_far (p := ⟨gb905, 1, none⟩) (Kd.R_far (p := ⟨gb905, 0, none⟩) (Kd.R_types HO896.out BK905.out (by decide)) (fun _ hk => hk.2) (.int .i64 t900)) (fun _ hk => hk.2) (.slice Ao32 t901.length co32)) (fun _ h_ => h_.1))) (Kd.R_base ho0) hb); have n1_ := Aside0.mk (Kd.R_elder' (by (with_reducible repeat (first | apply Kd.R_alloc | apply Kd.R_drewN | apply Kd.R_drew)); exact (Kd.R_mono (Kd.R_far (p := ⟨gb905, 1, none⟩) (Kd.R_far (p := ⟨gb905, 0, none⟩) (Kd.R_types HO899.out BK905.out (by decide)) (fun _ hk => hk.2) (.int .i64 t900)) (fun _ hk => hk.2) (.slice Ao32 t901.length co32)) (fun _ h_ => h_.1))) (Kd.R_base ho0) hb); have n2_ := Aside0.mk (Kd.R_elder' (by (with_reducible repeat (first | apply Kd.R_alloc | apply Kd.R_drewN | apply Kd.R_drew)); exact (Kd.R_mono (Kd.R_far (p := ⟨gb905, 1, none⟩) (Kd.R_far (p := ⟨gb905, 0, none⟩) (Kd.R_types HO903.out BK905.out (by decide)) (fun _ hk => hk.2) (.int .i64 t900)) (fun _ hk => hk.2) (.slice Ao32 t901.length co32)) (fun _ h_ => h_.1))) (Kd.R_base ho0) hb); have n3_ := Aside0.mk (Kd.R_lower (Kd.R_new' (Kd.R_new' (Kd.R_new' ho0 (Kd.R_lt (by (with_reducible repeat (first | apply Kd.R_alloc | apply Kd.R_drewN | apply Kd.R_drew)); exact (Kd.R_mono (Kd.R_far (p := ⟨gb905, 1, none⟩) (Kd.R_far (p := ⟨gb905, 0, none⟩) (Kd.R_types HO896.out BK905.out (by decide)) (fun _ hk => hk.2) (.int .i64 t900)) (fun _ hk => hk.2) (.slice Ao32 t901.length co32)) (fun _ h_ => h_.1))))) (Kd.R_lt (by (with_reducible repeat (first | apply Kd.R_alloc | apply Kd.R_drewN | apply Kd.R_drew)); exact (Kd.R_mono (Kd.R_far (p := ⟨gb905, 1, none⟩) (Kd.R_far (p := ⟨gb905, 0, none⟩) (Kd.R_types HO899.out BK905.out (by decide)) (fun _ hk => hk.2) (.int .i64 t900)) (fun _ hk => hk.2) (.slice Ao32 t901.length co32)) (fun _ h_ => h_.1))))) (Kd.R_lt (by (with_reducible repeat (first | apply Kd.R_alloc | apply Kd.R_drewN | apply Kd.R_drew)); exact (Kd.R_mono (Kd.R_far (p := ⟨gb905, 1, none⟩) (Kd.R_far (p := ⟨gb905, 0, none⟩) (Kd.R_types HO903.out BK905.out (by decide)) (fun _ hk => hk.2) (.int .i64 t900)) (fun _ hk => hk.2) (.slice Ao32 t901.length co32)) (fun _ h_ => h_.1))))) (below_size (z29_3))); have n4_ := Aside0.mk (blk_below (g := gb890) (o := .cells #[.int .i64 a0_0, .slice A0_1 l0_1.length c0_1] 42 (0, 0)) (by (with_reducible repeat (first | refine blk_drewN ?_ _ | refine blk_drew ?_ | refine blk_alloc ?_ _)); refine blk_far ?_ NB890_905.out _; (with_reducible repeat (first | refine blk_drewN ?_ _ | refine blk_drew ?_ | refine blk_alloc ?_ _)); refine blk_far ?_ NB890_905.out _; (with_reducible repeat (first | refine blk_drewN ?_ _ | refine blk_drew ?_ | refine blk_alloc ?_ _)); exact BK890.out) hb); have n5_ := Aside0.mk (blk_below (g := gb905) (o := .cells #[.int .i64 t900, .slice Ao32 t901.length co32] 46 (0, 0)) (by (with_reducible repeat (first | refine blk_drewN ?_ _ | refine blk_drew ?_ | refine blk_alloc ?_ _)); refine blk_put (cs := #[.int .i64 t900, .slice none 0 0]) ?_ 1 _ rfl; (with_reducible repeat (first | refine blk_drewN ?_ _ | refine blk_drew ?_ | refine blk_alloc ?_ _)); refine blk_put (cs := #[.int .i64 0, .slice none 0 0]) ?_ 0 _ rfl; (with_reducible repeat (first | refine blk_drewN ?_ _ | refine blk_drew ?_ | refine blk_alloc ?_ _)); exact BK905.out) hb); have n6_ := Aside0.mk (below_step (z29_3) hb); clear HO896; clear HO899; clear HO903; clear BK890; clear BK905; clear HB; have HO896 := n0_; have HO899 := n1_; have HO903 := n2_; have HO909 := n3_; have BK890 := n4_; have BK905 := n5_; have HB := n6_; clear n0_ n1_ n2_ n3_ n4_ n5_ n6_; (try clear hb); (try clear hb2); (try clear hk); (try clear hi); (try clear ho0)) | ((with_reducible refine gate_dst (N := 8) rfl ?_); refine box_event ?hg (N := 8) ?hd (cs := #[.int .i64 0, .slice none 0 0]) (t := 46) ?hr ?_; (case hd => rfl); (case hg => rfl); (case hr => first | (go_simp; done) | (go_simp; rfl)); intro gb910 hg w35 hbox hb; have n0_ := Aside0.mk (Kd.R_below (by (with_reducible repeat (first | apply Kd.R_alloc | apply Kd.R_drewN | apply Kd.R_drew)); exact HO896.out) hb); have n1_ := Aside0.mk (Kd.R_below (by (with_reducible repeat (first | apply Kd.R_alloc | apply Kd.R_drewN | apply Kd.R_drew)); exact HO899.out) hb); have n2_ := Aside0.mk (Kd.R_below (by (with_reducible repeat (first | apply Kd.R_alloc | apply Kd.R_drewN | apply Kd.R_drew)); exact HO903.out) hb); have n3_ := Aside0.mk (Kd.R_below (by (with_reducible repeat (first | apply Kd.R_alloc | apply Kd.R_drewN | apply Kd.R_drew)); exact HO909.out) hb); have n4_ := Aside0.mk (blk_below (g := gb890) (o := .cells #[.int .i64 a0_0, .slice A0_1 l0_1.length c0_1] 42 (0, 0)) (z29_7) hb); have n5_ := Aside0.mk (blk_below (g := gb905) (o := .cells #[.int .i64 t900, .slice Ao32 t901.length co32] 46 (0, 0)) (z29_8) hb); have n6_ := Aside0.mk (below_step (z29_3) hb); have n7_ := Aside0.mk (hbox); have n8_ := Aside0.mk ((by rw [hg]; exact (below_size (z29_3)) : w.heap.size ≤ gb910)); have n9_ := Aside0.mk ((by rw [hg]; exact (below_size (z29_3)) : w.heap.size ≤ gb910)); have n10_ := Aside0.mk ((by rw [hg]; exact Nat.ne_of_lt (blk_lt (g := gb890) (o := .cells #[.int .i64 a0_0, .slice A0_1 l0_1.length c0_1] 42 (0, 0)) (z29_7)) : gb890 ≠ gb910)); have n11_ := Aside0.mk ((by rw [hg]; exact Nat.ne_of_gt (blk_lt (g := gb890) (o := .cells #[.int .i64 a0_0, .slice A0_1 l0_1.length c0_1] 42 (0, 0)) (z29_7)) : gb910 ≠ gb890)); have n12_ := Aside0.mk ((by rw [hg]; exact Nat.ne_of_lt (blk_lt (g := gb905) (o := .cells #[.int .i64 t900, .slice Ao32 t901.length co32] 46 (0, 0)) (z29_8)) : gb905 ≠ gb910)); have n13_ := Aside0.mk ((by rw [hg]; exact Nat.ne_of_gt (blk_lt (g := gb905) (o := .cells #[.int .i64 t900, .slice Ao32 t901.length co32] 46 (0, 0)) (z29_8)) : gb910 ≠ gb905)); clear HO896; clear HO899; clear HO903; clear HO909; clear BK890; clear BK905; clear HB; have HO896 := n0_; have HO899 := n1_; have HO903 := n2_; have HO909 := n3_; have BK890 := n4_; have BK905 := n5_; have HB := n6_; have BK910 := n7_; have GW910 := n8_; have GE910 := n9_; have NB890_910 := n10_; have NB910_890 := n11_; have NB905_910 := n12_; have NB910_905 := n13_; clear n0_ n1_ n2_ n3_ n4_ n5_ n6_ n7_ n8_ n9_ n10_ n11_ n12_ n13_; clear hb hbox hg; have hnb36 := NB910_890.out; have hnc36 := NB890_910.out; have hnb37 := NB910_905.out; have hnc37 := NB905_910.out; have hcz38_0 : w35.cell? ⟨gb910, 0, none⟩ = some (.int .i64 0) := (blk_cell BK910.out 0).trans rfl; have hcz38_1 : w35.cell? ⟨gb910, 1, none⟩ = some (.slice none 0 0) := (blk_cell BK910.out 1).trans rfl; have hfz38_0 := blk_frozen BK910.out 0; have hfz38_1 := blk_frozen BK910.out 1; obtain ⟨Ao39, co39, eo39⟩ := Kd.R_slice HO909.out; subst eo39) | ((with_reducible refine gate_callee (f := 50) rfl ?_); refine goesL_ (some 38) rfl rfl Try.func50 (by kernel_rfl) rfl #[.slice A1 l1.length c1] rfl (z29_5) ?_; (with_reducible refine (laws_toPageS.calls k _ _ l1 t911 _ ?side1 ?side2 A17.out).mono ?_); (case side1 => exact Kd.C_below HR1.out (z29_2)); (case side2 => exact HC1.out); rintro e w40 ⟨v912, rfl, ho0, hb⟩; refine ⟨_, rfl, ?_⟩; have n0_ := Aside0.mk (Kd.R_elder' (by (with_reducible repeat (first | apply Kd.R_alloc | apply Kd.R_drewN | apply Kd.R_drew)); exact (Kd.R_mono (Kd.R_far (p := ⟨gb910, 1, none⟩) (Kd.R_far (p := ⟨gb910, 0, none⟩) (Kd.R_types HO896.out BK910.out (by decide)) (fun _ hk => hk.2) (.int .i64 t906)) (fun _ hk => hk.2) (.slice Ao39 t907.length co39)) (fun _ h_ => h_.1))) (Kd.R_base ho0) hb); have n1_ := Aside0.mk (Kd.R_elder' (by (with_reducible repeat (first | apply Kd.R_alloc | apply Kd.R_drewN | apply Kd.R_drew)); exact (Kd.R_mono (Kd.R_far (p := ⟨gb910, 1, none⟩) (Kd.R_far (p := ⟨gb910, 0, none⟩) (Kd.R_types HO899.out BK910.out (by decide)) (fun _ hk => hk.2) (.int .i64 t906)) (fun _ hk => hk.2) (.slice Ao39 t907.length co39)) (fun _ h_ => h_.1))) (Kd.R_base ho0) hb); have n2_ := Aside0.mk (Kd.R_elder' (by (with_reducible repeat (first | apply Kd.R_alloc | apply Kd.R_drewN | apply Kd.R_drew)); exact (Kd.R_mono (Kd.R_far (p := ⟨gb910, 1, none⟩) (Kd.R_far (p := ⟨gb910, 0, none⟩) (Kd.R_types HO903.out BK910.out (by decide)) (fun _ hk => hk.2) (.int .i64 t906)) (fun _ hk => hk.2) (.slice Ao39 t907.length co39)) (fun _ h_ => h_.1))) (Kd.R_base ho0) hb); have n3_ := Aside0.mk (Kd.R_elder' (by (with_reducible repeat (first | apply Kd.R_alloc | apply Kd.R_drewN | apply Kd.R_drew)); exact (Kd.R_mono (Kd.R_far (p := ⟨gb910, 1, none⟩) (Kd.R_far (p := ⟨gb910, 0, none⟩) (Kd.R_types HO909.out BK910.out (by decide)) (fun _ hk => hk.2) (.int .i64 t906)) (fun _ hk => hk.2) (.slice Ao39 t907.length co39)) (fun _ h_ => h_.1))) (Kd.R_base ho0) hb); have n4_ := Aside0.mk (Kd.R_lower (Kd.R_new' (Kd.R_new' (Kd.R_new' (Kd.R_new' ho0 (Kd.R_lt (by (with_reducible repeat (first | apply Kd.R_alloc | apply Kd.R_drewN | apply Kd.R_drew)); exact (Kd.R_mono (Kd.R_far (p := ⟨gb910, 1, none⟩) (Kd.R_far (p := ⟨gb910, 0, none⟩) (Kd.R_types HO896.out BK910.out (by decide)) (fun _ hk => hk.2) (.int .i64 t906)) (fun _ hk => hk.2) (.slice Ao39 t907.length co39)) (fun _ h_ => h_.1))))) (Kd.R_lt (by (with_reducible repeat (first | apply Kd.R_alloc | apply Kd.R_drewN | apply Kd.R_drew)); exact (Kd.R_mono (Kd.R_far (p := ⟨gb910, 1, none⟩) (Kd.R_far (p := ⟨gb910, 0, none⟩) (Kd.R_types HO899.out BK910.out (by decide)) (fun _ hk => hk.2) (.int .i64 t906)) (fun _ hk => hk.2) (.slice Ao39 t907.length co39)) (fun _ h_ => h_.1))))) (Kd.R_lt (by (with_reducible repeat (first | apply Kd.R_alloc | apply Kd.R_drewN | apply Kd.R_drew)); exact (Kd.R_mono (Kd.R_far (p := ⟨gb910, 1, none⟩) (Kd.R_far (p := ⟨gb910, 0, none⟩) (Kd.R_types HO903.out BK910.out (by decide)) (fun _ hk => hk.2) (.int .i64 t906)) (fun _ hk => hk.2) (.slice Ao39 t907.length co39)) (fun _ h_ => h_.1))))) (Kd.R_lt (by (with_reducible repeat (first | apply Kd.R_alloc | apply Kd.R_drewN | apply Kd.R_drew)); exact (Kd.R_mono (Kd.R_far (p := ⟨gb910, 1, none⟩) (Kd.R_far (p := ⟨gb910, 0, none⟩) (Kd.R_types HO909.out BK910.out (by decide)) (fun _ hk => hk.2) (.int .i64 t906)) (fun _ hk => hk.2) (.slice Ao39 t907.length co39)) (fun _ h_ => h_.1))))) (below_size (z29_2))); have n5_ := Aside0.mk (blk_below (g := gb890) (o := .cells #[.int .i64 a0_0, .slice A0_1 l0_1.length c0_1] 42 (0, 0)) (by (with_reducible repeat (first | refine blk_drewN ?_ _ | refine blk_drew ?_ | refine blk_alloc ?_ _)); refine blk_far ?_ NB890_910.out _; (with_reducible repeat (first | refine blk_drewN ?_ _ | refine blk_drew ?_ | refine blk_alloc ?_ _)); refine blk_far ?_ NB890_910.out _; (with_reducible repeat (first | refine blk_drewN ?_ _ | refine blk_drew ?_ | refine blk_alloc ?_ _)); exact BK890.out) hb); have n6_ := Aside0.mk (blk_below (g := gb905) (o := .cells #[.int .i64 t900, .slice Ao32 t901.length co32] 46 (0, 0)) (by (with_reducible repeat (first | refine blk_drewN ?_ _ | refine blk_drew ?_ | refine blk_alloc ?_ _)); refine blk_far ?_ NB905_910.out _; (with_reducible repeat (first | refine blk_drewN ?_ _ | refine blk_drew ?_ | refine blk_alloc ?_ _)); refine blk_far ?_ NB905_910.out _; (with_reducible repeat (first | refine blk_drewN ?_ _ | refine blk_drew ?_ | refine blk_alloc ?_ _)); exact BK905.out) hb); have n7_ := Aside0.mk (blk_below (g := gb910) (o := .cells #[.int .i64 t906, .slice Ao39 t907.length co39] 46 (0, 0)) (by (with_reducible repeat (first | refine blk_drewN ?_ _ | refine blk_drew ?_ | refine blk_alloc ?_ _)); refine blk_put (cs := #[.int .i64 t906, .slice none 0 0]) ?_ 1 _ rfl; (with_reducible repeat (first | refine blk_drewN ?_ _ | refine blk_drew ?_ | refine blk_alloc ?_ _)); refine blk_put (cs := #[.int .i64 0, .slice none 0 0]) ?_ 0 _ rfl; (with_reducible repeat (first | refine blk_drewN ?_ _ | refine blk_drew ?_ | refine blk_alloc ?_ _)); exact BK910.out) hb); have n8_ := Aside0.mk (below_step (z29_2) hb); clear HO896; clear HO899; clear HO903; clear HO909; clear BK890; clear BK905; clear BK910; clear HB; have HO896 := n0_; have HO899 := n1_; have HO903 := n2_; have HO909 := n3_; have HO913 := n4_; have BK890 := n5_; have BK905 := n6_; have BK910 := n7_; have HB := n8_; clear n0_ n1_ n2_ n3_ n4_ n5_ n6_ n7_ n8_; (try clear hb); (try clear hb2); (try clear hk); (try clear hi); (try clear ho0); have hcz41_0 : w40.cell? ⟨gb910, 0, none⟩ = some (.int .i64 t906) := (blk_cell BK910.out 0).trans rfl; have hcz41_1 : w40.cell? ⟨gb910, 1, none⟩ = some (.slice Ao39 t907.length co39) := (blk_cell BK910.out 1).trans rfl; have hfz41_0 := blk_frozen BK910.out 0; have hfz41_1 := blk_frozen BK910.out 1; obtain ⟨Ao42, co42, eo42⟩ := Kd.R_slice HO913.out; subst eo42) | ((with_reducible refine gate_callee (f := 45) rfl ?_); refine goesL_ (some 42) rfl rfl Try.func45 (by kernel_rfl) rfl #[.agg #[.int .i64 t906, .slice Ao39 t907.length co39], .slice Ao42 t911.length co42] rfl (z29_5) ?_; (with_reducible refine (impl_PoolAll.calls t906 _ _ t907 _ _ t911 t914 t915 t918 _ ?side1 ?side2 ?side3 ?side4 A18.out).mono ?_); (case side1 => repeat (first | exact (Kd.R_reads' HO909.out).2.2 | (with_reducible refine Kd.C_alloc ?_ _) | (with_reducible refine Kd.C_drewN ?_ _) | (with_reducible refine Kd.C_drew ?_))); (case side2 => exact (Kd.R_reads' HO909.out).2.1); (case side3 => repeat (first | exact (Kd.R_reads' HO913.out).2.2 | (with_reducible refine Kd.C_alloc ?_ _) | (with_reducible refine Kd.C_drewN ?_ _) | (with_reducible refine Kd.C_drew ?_))); (case side4 => exact (Kd.R_reads' HO913.out).2.1); rintro e w43 ⟨v916, rfl, ho0, hb⟩; refine ⟨_, rfl, ?_⟩; have n0_ := Aside0.mk (Kd.R_elder' (by (with_reducible repeat (first | apply Kd.R_alloc | apply Kd.R_drewN | apply Kd.R_drew)); exact HO896.out) (Kd.R_base ho0) hb); have n1_ := Aside0.mk (Kd.R_elder' (by (with_reducible repeat (first | apply Kd.R_alloc | apply Kd.R_drewN | apply Kd.R_drew)); exact HO899.out) (Kd.R_base ho0) hb); have n2_ := Aside0.mk (Kd.R_elder' (by (with_reducible repeat (first | apply Kd.R_alloc | apply Kd.R_drewN | apply Kd.R_drew)); exact HO903.out) (Kd.R_base ho0) hb); have n3_ := Aside0.mk (Kd.R_elder' (by (with_reducible repeat (first | apply Kd.R_alloc | apply Kd.R_drewN | apply Kd.R_drew)); exact HO909.out) (Kd.R_base ho0) hb); have n4_ := Aside0.mk (Kd.R_elder' (by (with_reducible repeat (first | apply Kd.R_alloc | apply Kd.R_drewN | apply Kd.R_drew)); exact HO913.out) (Kd.R_base ho0) hb); have n5_ := Aside0.mk (Kd.R_lower (Kd.R_new' (Kd.R_new' (Kd.R_new' (Kd.R_new' (Kd.R_new' ho0 (Kd.R_lt (by (with_reducible repeat (first | apply Kd.R_alloc | apply Kd.R_drewN | apply Kd.R_drew)); exact HO896.out))) (Kd.R_lt (by (with_reducible repeat (first | apply Kd.R_alloc | apply Kd.R_drewN | apply Kd.R_drew)); exact HO899.out))) (Kd.R_lt (by (with_reducible repeat (first | apply Kd.R_alloc | apply Kd.R_drewN | apply Kd.R_drew)); exact HO903.out))) (Kd.R_lt (by (with_reducible repeat (first | apply Kd.R_alloc | apply Kd.R_drewN | apply Kd.R_drew)); exact HO909.out))) (Kd.R_lt (by (with_reducible repeat (first | apply Kd.R_alloc | apply Kd.R_drewN | apply Kd.R_drew)); exact HO913.out))) (below_size (z29_2))); have n6_ := Aside0.mk (blk_below (g := gb890) (o := .cells #[.int .i64 a0_0, .slice A0_1 l0_1.length c0_1] 42 (0, 0)) (z29_7) hb); have n7_ := Aside0.mk (blk_below (g := gb905) (o := .cells #[.int .i64 t900, .slice Ao32 t901.length co32] 46 (0, 0)) (z29_8) hb); have n8_ := Aside0.mk (blk_below (g := gb910) (o := .cells #[.int .i64 t906, .slice Ao39 t907.length co39] 46 (0, 0)) (z29_9) hb); have n9_ := Aside0.mk (below_step (z29_2) hb); clear HO896; clear HO899; clear HO903; clear HO909; clear HO913; clear BK890; clear BK905; clear BK910; clear HB; have HO896 := n0_; have HO899 := n1_; have HO903 := n2_; have HO909 := n3_; have HO913 := n4_; have HO917 := n5_; have BK890 := n6_; have BK905 := n7_; have BK910 := n8_; have HB := n9_; clear n0_ n1_ n2_ n3_ n4_ n5_ n6_ n7_ n8_ n9_; (try clear hb); (try clear hb2); (try clear hk); (try clear hi); (try clear ho0)) | ((with_reducible refine gate_dst (N := 10) rfl ?_); refine box_event ?hg (N := 10) ?hd (cs := #[.int .i64 0, .slice none 0 0]) (t := 46) ?hr ?_; (case hd => rfl); (case hg => rfl); (case hr => first | (go_simp; done) | (go_simp; rfl)); intro gb919 hg w44 hbox hb; have n0_ := Aside0.mk (Kd.R_below (by (with_reducible repeat (first | apply Kd.R_alloc | apply Kd.R_drewN | apply Kd.R_drew)); exact HO896.out) hb); have n1_ := Aside0.mk (Kd.R_below (by (with_reducible repeat (first | apply Kd.R_alloc | apply Kd.R_drewN | apply Kd.R_drew)); exact HO899.out) hb); have n2_ := Aside0.mk (Kd.R_below (by (with_reducible repeat (first | apply Kd.R_alloc | apply Kd.R_drewN | apply Kd.R_drew)); exact HO903.out) hb); have n3_ := Aside0.mk (Kd.R_below (by (with_reducible repeat (first | apply Kd.R_alloc | apply Kd.R_drewN | apply Kd.R_drew)); exact HO909.out) hb); have n4_ := Aside0.mk (Kd.R_below (by (with_reducible repeat (first | apply Kd.R_alloc | apply Kd.R_drewN | apply Kd.R_drew)); exact HO913.out) hb); have n5_ := Aside0.mk (Kd.R_below (by (with_reducible repeat (first | apply Kd.R_alloc | apply Kd.R_drewN | apply Kd.R_drew)); exact HO917.out) hb); have n6_ := Aside0.mk (blk_below (g := gb890) (o := .cells #[.int .i64 a0_0, .slice A0_1 l0_1.length c0_1] 42 (0, 0)) (z29_7) hb); have n7_ := Aside0.mk (blk_below (g := gb905) (o := .cells #[.int .i64 t900, .slice Ao32 t901.length co32] 46 (0, 0)) (z29_8) hb); have n8_ := Aside0.mk (blk_below (g := gb910) (o := .cells #[.int .i64 t906, .slice Ao39 t907.length co39] 46 (0, 0)) (z29_9) hb); have n9_ := Aside0.mk (below_step (z29_2) hb); have n10_ := Aside0.mk (hbox); have n11_ := Aside0.mk ((by rw [hg]; exact (below_size (z29_2)) : w.heap.size ≤ gb919)); have n12_ := Aside0.mk ((by rw [hg]; exact (below_size (z29_2)) : w.heap.size ≤ gb919)); have n13_ := Aside0.mk ((by rw [hg]; exact Nat.ne_of_lt (blk_lt (g := gb890) (o := .cells #[.int .i64 a0_0, .slice A0_1 l0_1.length c0_1] 42 (0, 0)) (z29_7)) : gb890 ≠ gb919)); have n14_ := Aside0.mk ((by rw [hg]; exact Nat.ne_of_gt (blk_lt (g := gb890) (o := .cells #[.int .i64 a0_0, .slice A0_1 l0_1.length c0_1] 42 (0, 0)) (z29_7)) : gb919 ≠ gb890)); have n15_ := Aside0.mk ((by rw [hg]; exact Nat.ne_of_lt (blk_lt (g := gb905) (o := .cells #[.int .i64 t900, .slice Ao32 t901.length co32] 46 (0, 0)) (z29_8)) : gb905 ≠ gb919)); have n16_ := Aside0.mk ((by rw [hg]; exact Nat.ne_of_gt (blk_lt (g := gb905) (o := .cells #[.int .i64 t900, .slice Ao32 t901.length co32] 46 (0, 0)) (z29_8)) : gb919 ≠ gb905)); have n17_ := Aside0.mk ((by rw [hg]; exact Nat.ne_of_lt (blk_lt (g := gb910) (o := .cells #[.int .i64 t906, .slice Ao39 t907.length co39] 46 (0, 0)) (z29_9)) : gb910 ≠ gb919)); have n18_ := Aside0.mk ((by rw [hg]; exact Nat.ne_of_gt (blk_lt (g := gb910) (o := .cells #[.int .i64 t906, .slice Ao39 t907.length co39] 46 (0, 0)) (z29_9)) : gb919 ≠ gb910)); clear HO896; clear HO899; clear HO903; clear HO909; clear HO913; clear HO917; clear BK890; clear BK905; clear BK910; clear HB; have HO896 := n0_; have HO899 := n1_; have HO903 := n2_; have HO909 := n3_; have HO913 := n4_; have HO917 := n5_; have BK890 := n6_; have BK905 := n7_; have BK910 := n8_; have HB := n9_; have BK919 := n10_; have GW919 := n11_; have GE919 := n12_; have NB890_919 := n13_; have NB919_890 := n14_; have NB905_919 := n15_; have NB919_905 := n16_; have NB910_919 := n17_; have NB919_910 := n18_; clear n0_ n1_ n2_ n3_ n4_ n5_ n6_ n7_ n8_ n9_ n10_ n11_ n12_ n13_ n14_ n15_ n16_ n17_ n18_; clear hb hbox hg; have hnb45 := NB919_890.out; have hnc45 := NB890_919.out; have hnb46 := NB919_905.out; have hnc46 := NB905_919.out; have hnb47 := NB919_910.out; have hnc47 := NB910_919.out; have hcz48_0 : w44.cell? ⟨gb919, 0, none⟩ = some (.int .i64 0) := (blk_cell BK919.out 0).trans rfl; have hcz48_1 : w44.cell? ⟨gb919, 1, none⟩ = some (.slice none 0 0) := (blk_cell BK919.out 1).trans rfl; have hfz48_0 := blk_frozen BK919.out 0; have hfz48_1 := blk_frozen BK919.out 1; obtain ⟨Ao49, co49, eo49⟩ := Kd.R_slice HO917.out; subst eo49))
   (try simp only [Act.put, List.setIfInBounds_toArray, List.set_cons_zero, List.set_cons_succ])
   go_cut [53] (fun v53 wc => ∃ (kq : Nat) (x53_18 : Bool), v53 = .bool x53_18 ∧ Aside0 (laws_FnExactPoolAll.j0 kq l1 t904 t911 t918 x53_18 a0_0 l0_1 t900 t901 t906 t907 t914 t915 = some r) ∧ Aside0 (kq ≤ k) ∧ Aside0 (Kd.R k25 25 wc w.heap.size (fun k_ => some k_ ≠ ((.slice Ao32 t901.length co32) : Value).ownBlock ∧ some k_ ≠ ((.slice Ao39 t907.length co39) : Value).ownBlock ∧ some k_ ≠ ((.slice Ao49 t915.length co49) : Value).ownBlock) (.slice Ao42 t911.length co42) t911) ∧ Aside0 (Kd.R k25 25 wc w.heap.size (fun k_ => some k_ ≠ ((.slice Ao42 t911.length co42) : Value).ownBlock ∧ some k_ ≠ ((.slice Ao39 t907.length co39) : Value).ownBlock ∧ some k_ ≠ ((.slice Ao49 t915.length co49) : Value).ownBlock) (.slice Ao32 t901.length co32) t901) ∧ Aside0 (Kd.R k25 25 wc w.heap.size (fun k_ => some k_ ≠ ((.slice Ao42 t911.length co42) : Value).ownBlock ∧ some k_ ≠ ((.slice Ao32 t901.length co32) : Value).ownBlock ∧ some k_ ≠ ((.slice Ao49 t915.length co49) : Value).ownBlock) (.slice Ao39 t907.length co39) t907) ∧ Aside0 (Kd.R k25 25 wc w.heap.size (fun k_ => some k_ ≠ ((.slice Ao42 t911.length co42) : Value).ownBlock ∧ some k_ ≠ ((.slice Ao32 t901.length co32) : Value).ownBlock ∧ some k_ ≠ ((.slice Ao39 t907.length co39) : Value).ownBlock) (.slice Ao49 t915.length co49) t915) ∧ Aside0 (wc.heap[gb890]? = some (.cells #[.int .i64 a0_0, (.slice A0_1 l0_1.length c0_1)] 42 (0, 0))) ∧ Aside0 (wc.heap[gb905]? = some (.cells #[.int .i64 t900, (.slice Ao32 t901.length co32)] 46 (0, 0))) ∧ Aside0 (wc.heap[gb910]? = some (.cells #[.int .i64 t906, (.slice Ao39 t907.length co39)] 46 (0, 0))) ∧ Aside0 (wc.heap[gb919]? = some (.cells #[.int .i64 t914, (.slice Ao49 t915.length co49)] 46 (0, 0))) ∧ Aside0 (Below w.heap.size w wc))
   case first =>
    have H := HC19.out
    clear HC19
    replace H := Option.bind_eq_some_iff.mp H
    obtain ⟨t920, A500, H⟩ := H
    replace H : (if t920 = true then (laws_FnExactPoolAll.j0 k l1 t904 t911 t918 (t918 != t904) a0_0 l0_1 t900 t901 t906 t907 t914 t915) else (laws_FnExactPoolAll.j0 k l1 t904 t911 t918 true a0_0 l0_1 t900 t901 t906 t907 t914 t915)) = some r := H
    have A50 := Aside0.mk A500
    clear A500
    by_cases c51 : t920 = true
    ·subst c51
     have H1 : (laws_FnExactPoolAll.j0 k l1 t904 t911 t918 (t918 != t904) a0_0 l0_1 t900 t901 t906 t907 t914 t915) = some r := by rw [if_pos rfl] at H; exact H
     clear H
     have H := H1
     clear H1
     have H' := Aside0.mk H
     clear H
     have hnb52 := NB919_890.out
     have hnc52 := NB890_919.out
     have hnb53 := NB919_905.out
     have hnc53 := NB905_919.out
     have hnb54 := NB919_910.out
     have hnc54 := NB910_919.out
     have hcz55_0 : w44.cell? ⟨gb919, 0, none⟩ = some (.int .i64 0) := (blk_cell BK919.out 0).trans rfl
     have hcz55_1 : w44.cell? ⟨gb919, 1, none⟩ = some (.slice none 0 0) := (blk_cell BK919.out 1).trans rfl
     have hfz55_0 := blk_frozen BK919.out 0
     have hfz55_1 := blk_frozen BK919.out 1
     have hnb56 := NB905_890.out
     have hnc56 := NB890_905.out
     have hnb57 := NB905_910.out
     have hnc57 := NB910_905.out
     have hcz58_0 : w44.cell? ⟨gb905, 0, none⟩ = some (.int .i64 t900) := (blk_cell BK905.out 0).trans rfl
     have hcz58_1 : w44.cell? ⟨gb905, 1, none⟩ = some (.slice Ao32 t901.length co32) := (blk_cell BK905.out 1).trans rfl
     have hfz58_0 := blk_frozen BK905.out 0
     have hfz58_1 := blk_frozen BK905.out 1
     go_wp2_with (first | ((with_reducible refine gate_callee (f := 36) rfl ?_); refine goesL_ (some 47) rfl rfl Try.func36 (by kernel_rfl) rfl #[.agg #[.int .i64 t914, .slice Ao49 t915.length co49], .agg #[.int .i64 t900, .slice Ao32 t901.length co32]] rfl (z29_5) ?_; (with_reducible refine (laws_eqPool.calls k t914 _ _ t915 t900 _ _ t901 true _ ?side1 ?side2 ?side3 ?side4 A50.out).mono ?_); (case side1 => refine (Kd.R_reads' (e := 25) (base := w.heap.size) (ok := fun k_ => (((((True ∧ some k_ ≠ (.slice Ao26 t894.length co26 : Value).ownBlock) ∧ some k_ ≠ (.slice Ao27 t897.length co27 : Value).ownBlock) ∧ some k_ ≠ (.slice Ao32 t901.length co32 : Value).ownBlock) ∧ some k_ ≠ (.slice Ao39 t907.length co39 : Value).ownBlock) ∧ some k_ ≠ (.slice Ao42 t911.length co42 : Value).ownBlock)) (n := t915.length) (c := co49) ?_).2.2; exact (by (with_reducible repeat (first | apply Kd.R_alloc | apply Kd.R_drewN | apply Kd.R_drew)); exact (Kd.R_mono (Kd.R_far (p := ⟨gb919, 1, none⟩) (Kd.R_far (p := ⟨gb919, 0, none⟩) (Kd.R_types HO917.out BK919.out (by decide)) (fun _ hk => hk.2) (.int .i64 t914)) (fun _ hk => hk.2) (.slice Ao49 t915.length co49)) (fun _ h_ => h_.1)))); (case side2 => exact (Kd.R_reads' HO917.out).2.1); (case side3 => refine (Kd.R_reads' (e := 25) (base := w.heap.size) (ok := fun k_ => (((((True ∧ some k_ ≠ (.slice Ao26 t894.length co26 : Value).ownBlock) ∧ some k_ ≠ (.slice Ao27 t897.length co27 : Value).ownBlock) ∧ some k_ ≠ (.slice Ao39 t907.length co39 : Value).ownBlock) ∧ some k_ ≠ (.slice Ao42 t911.length co42 : Value).ownBlock) ∧ some k_ ≠ (.slice Ao49 t915.length co49 : Value).ownBlock)) (n := t901.length) (c := co32) ?_).2.2; exact (by (with_reducible repeat (first | apply Kd.R_alloc | apply Kd.R_drewN | apply Kd.R_drew)); exact (Kd.R_mono (Kd.R_far (p := ⟨gb919, 1, none⟩) (Kd.R_far (p := ⟨gb919, 0, none⟩) (Kd.R_types HO903.out BK919.out (by decide)) (fun _ hk => hk.2) (.int .i64 t914)) (fun _ hk => hk.2) (.slice Ao49 t915.length co49)) (fun _ h_ => h_.1)))); (case side4 => exact (Kd.R_reads' HO903.out).2.1); rintro e w59 ⟨rfl, hb⟩; refine ⟨_, rfl, ?_⟩; have n0_ := Aside0.mk (Kd.R_below (by (with_reducible repeat (first | apply Kd.R_alloc | apply Kd.R_drewN | apply Kd.R_drew)); exact (Kd.R_mono (Kd.R_far (p := ⟨gb919, 1, none⟩) (Kd.R_far (p := ⟨gb919, 0, none⟩) (Kd.R_types HO896.out BK919.out (by decide)) (fun _ hk => hk.2) (.int .i64 t914)) (fun _ hk => hk.2) (.slice Ao49 t915.length co49)) (fun _ h_ => h_.1))) hb); have n1_ := Aside0.mk (Kd.R_below (by (with_reducible repeat (first | apply Kd.R_alloc | apply Kd.R_drewN | apply Kd.R_drew)); exact (Kd.R_mono (Kd.R_far (p := ⟨gb919, 1, none⟩) (Kd.R_far (p := ⟨gb919, 0, none⟩) (Kd.R_types HO899.out BK919.out (by decide)) (fun _ hk => hk.2) (.int .i64 t914)) (fun _ hk => hk.2) (.slice Ao49 t915.length co49)) (fun _ h_ => h_.1))) hb); have n2_ := Aside0.mk (Kd.R_below (by (with_reducible repeat (first | apply Kd.R_alloc | apply Kd.R_drewN | apply Kd.R_drew)); exact (Kd.R_mono (Kd.R_far (p := ⟨gb919, 1, none⟩) (Kd.R_far (p := ⟨gb919, 0, none⟩) (Kd.R_types HO903.out BK919.out (by decide)) (fun _ hk => hk.2) (.int .i64 t914)) (fun _ hk => hk.2) (.slice Ao49 t915.length co49)) (fun _ h_ => h_.1))) hb); have n3_ := Aside0.mk (Kd.R_below (by (with_reducible repeat (first | apply Kd.R_alloc | apply Kd.R_drewN | apply Kd.R_drew)); exact (Kd.R_mono (Kd.R_far (p := ⟨gb919, 1, none⟩) (Kd.R_far (p := ⟨gb919, 0, none⟩) (Kd.R_types HO909.out BK919.out (by decide)) (fun _ hk => hk.2) (.int .i64 t914)) (fun _ hk => hk.2) (.slice Ao49 t915.length co49)) (fun _ h_ => h_.1))) hb); have n4_ := Aside0.mk (Kd.R_below (by (with_reducible repeat (first | apply Kd.R_alloc | apply Kd.R_drewN | apply Kd.R_drew)); exact (Kd.R_mono (Kd.R_far (p := ⟨gb919, 1, none⟩) (Kd.R_far (p := ⟨gb919, 0, none⟩) (Kd.R_types HO913.out BK919.out (by decide)) (fun _ hk => hk.2) (.int .i64 t914)) (fun _ hk => hk.2) (.slice Ao49 t915.length co49)) (fun _ h_ => h_.1))) hb); have n5_ := Aside0.mk (Kd.R_below (by (with_reducible repeat (first | apply Kd.R_alloc | apply Kd.R_drewN | apply Kd.R_drew)); exact (Kd.R_mono (Kd.R_far (p := ⟨gb919, 1, none⟩) (Kd.R_far (p := ⟨gb919, 0, none⟩) (Kd.R_types HO917.out BK919.out (by decide)) (fun _ hk => hk.2) (.int .i64 t914)) (fun _ hk => hk.2) (.slice Ao49 t915.length co49)) (fun _ h_ => h_.1))) hb); have n6_ := Aside0.mk (blk_below (g := gb890) (o := .cells #[.int .i64 a0_0, .slice A0_1 l0_1.length c0_1] 42 (0, 0)) (by (with_reducible repeat (first | refine blk_drewN ?_ _ | refine blk_drew ?_ | refine blk_alloc ?_ _)); refine blk_far ?_ NB890_919.out _; (with_reducible repeat (first | refine blk_drewN ?_ _ | refine blk_drew ?_ | refine blk_alloc ?_ _)); refine blk_far ?_ NB890_919.out _; (with_reducible repeat (first | refine blk_drewN ?_ _ | refine blk_drew ?_ | refine blk_alloc ?_ _)); exact BK890.out) hb); have n7_ := Aside0.mk (blk_below (g := gb905) (o := .cells #[.int .i64 t900, .slice Ao32 t901.length co32] 46 (0, 0)) (by (with_reducible repeat (first | refine blk_drewN ?_ _ | refine blk_drew ?_ | refine blk_alloc ?_ _)); refine blk_far ?_ NB905_919.out _; (with_reducible repeat (first | refine blk_drewN ?_ _ | refine blk_drew ?_ | refine blk_alloc ?_ _)); refine blk_far ?_ NB905_919.out _; (with_reducible repeat (first | refine blk_drewN ?_ _ | refine blk_drew ?_ | refine blk_alloc ?_ _)); exact BK905.out) hb); have n8_ := Aside0.mk (blk_below (g := gb910) (o := .cells #[.int .i64 t906, .slice Ao39 t907.length co39] 46 (0, 0)) (by (with_reducible repeat (first | refine blk_drewN ?_ _ | refine blk_drew ?_ | refine blk_alloc ?_ _)); refine blk_far ?_ NB910_919.out _; (with_reducible repeat (first | refine blk_drewN ?_ _ | refine blk_drew ?_ | refine blk_alloc ?_ _)); refine blk_far ?_ NB910_919.out _; (with_reducible repeat (first | refine blk_drewN ?_ _ | refine blk_drew ?_ | refine blk_alloc ?_ _)); exact BK910.out) hb); have n9_ := Aside0.mk (blk_below (g := gb919) (o := .cells #[.int .i64 t914, .slice Ao49 t915.length co49] 46 (0, 0)) (by (with_reducible repeat (first | refine blk_drewN ?_ _ | refine blk_drew ?_ | refine blk_alloc ?_ _)); refine blk_put (cs := #[.int .i64 t914, .slice none 0 0]) ?_ 1 _ rfl; (with_reducible repeat (first | refine blk_drewN ?_ _ | refine blk_drew ?_ | refine blk_alloc ?_ _)); refine blk_put (cs := #[.int .i64 0, .slice none 0 0]) ?_ 0 _ rfl; (with_reducible repeat (first | refine blk_drewN ?_ _ | refine blk_drew ?_ | refine blk_alloc ?_ _)); exact BK919.out) hb); have n10_ := Aside0.mk (below_step (z29_1) hb); clear HO896; clear HO899; clear HO903; clear HO909; clear HO913; clear HO917; clear BK890; clear BK905; clear BK910; clear BK919; clear HB; have HO896 := n0_; have HO899 := n1_; have HO903 := n2_; have HO909 := n3_; have HO913 := n4_; have HO917 := n5_; have BK890 := n6_; have BK905 := n7_; have BK910 := n8_; have BK919 := n9_; have HB := n10_; clear n0_ n1_ n2_ n3_ n4_ n5_ n6_ n7_ n8_ n9_ n10_; (try clear hb); (try clear hb2); (try clear hk); (try clear hi)))
     go_meet
     case rel => exact ⟨_, ((t918 != t904)), (z29_11), H', ⟨by first | omega | exact Nat.le_refl _⟩, ⟨by (with_reducible repeat (first | apply Kd.R_alloc | apply Kd.R_drewN | apply Kd.R_drew)); exact Kd.R_mono HO913.out (fun _ hk => ⟨hk.1.1.2, ⟨hk.1.2, hk.2⟩⟩)⟩, ⟨by (with_reducible repeat (first | apply Kd.R_alloc | apply Kd.R_drewN | apply Kd.R_drew)); exact Kd.R_mono HO903.out (fun _ hk => ⟨hk.1.2, ⟨hk.1.1.2, hk.2⟩⟩)⟩, ⟨by (with_reducible repeat (first | apply Kd.R_alloc | apply Kd.R_drewN | apply Kd.R_drew)); exact Kd.R_mono HO909.out (fun _ hk => ⟨hk.1.2, ⟨hk.1.1.2, hk.2⟩⟩)⟩, ⟨by (with_reducible repeat (first | apply Kd.R_alloc | apply Kd.R_drewN | apply Kd.R_drew)); exact Kd.R_mono HO917.out (fun _ hk => ⟨hk.2, ⟨hk.1.1.2, hk.1.2⟩⟩)⟩, ⟨by (with_reducible repeat (first | refine blk_drewN ?_ _ | refine blk_drew ?_ | refine blk_alloc ?_ _)); exact BK890.out⟩, ⟨by (with_reducible repeat (first | refine blk_drewN ?_ _ | refine blk_drew ?_ | refine blk_alloc ?_ _)); exact BK905.out⟩, ⟨by (with_reducible repeat (first | refine blk_drewN ?_ _ | refine blk_drew ?_ | refine blk_alloc ?_ _)); exact BK910.out⟩, ⟨by (with_reducible repeat (first | refine blk_drewN ?_ _ | refine blk_drew ?_ | refine blk_alloc ?_ _)); exact BK919.out⟩, ⟨by repeat (first | (with_reducible first | exact HB.out | apply below_alloc | apply pw_below_drewN | apply below_drew1 | refine below_set ?_ GE890.out | refine below_set ?_ GE905.out | refine below_set ?_ GE910.out | refine below_set ?_ GE919.out) | exact HB.out)⟩⟩
    ·replace c51 := Bool.eq_false_iff.mpr c51
     subst c51
     have H1 : (laws_FnExactPoolAll.j0 k l1 t904 t911 t918 true a0_0 l0_1 t900 t901 t906 t907 t914 t915) = some r := by rw [if_neg (show ¬ (false = true) by decide)] at H; exact H
     clear H
     have H := H1
     clear H1
     have H' := Aside0.mk H
     clear H
     have hnb60 := NB919_890.out
     have hnc60 := NB890_919.out
     have hnb61 := NB919_905.out
     have hnc61 := NB905_919.out
     have hnb62 := NB919_910.out
     have hnc62 := NB910_919.out
     have hcz63_0 : w44.cell? ⟨gb919, 0, none⟩ = some (.int .i64 0) := (blk_cell BK919.out 0).trans rfl
     have hcz63_1 : w44.cell? ⟨gb919, 1, none⟩ = some (.slice none 0 0) := (blk_cell BK919.out 1).trans rfl
     have hfz63_0 := blk_frozen BK919.out 0
     have hfz63_1 := blk_frozen BK919.out 1
     have hnb64 := NB905_890.out
     have hnc64 := NB890_905.out
     have hnb65 := NB905_910.out
     have hnc65 := NB910_905.out
     have hcz66_0 : w44.cell? ⟨gb905, 0, none⟩ = some (.int .i64 t900) := (blk_cell BK905.out 0).trans rfl
     have hcz66_1 : w44.cell? ⟨gb905, 1, none⟩ = some (.slice Ao32 t901.length co32) := (blk_cell BK905.out 1).trans rfl
     have hfz66_0 := blk_frozen BK905.out 0
     have hfz66_1 := blk_frozen BK905.out 1
     go_wp2_with (first | ((with_reducible refine gate_callee (f := 36) rfl ?_); refine goesL_ (some 47) rfl rfl Try.func36 (by kernel_rfl) rfl #[.agg #[.int .i64 t914, .slice Ao49 t915.length co49], .agg #[.int .i64 t900, .slice Ao32 t901.length co32]] rfl (z29_5) ?_; (with_reducible refine (laws_eqPool.calls k t914 _ _ t915 t900 _ _ t901 false _ ?side1 ?side2 ?side3 ?side4 A50.out).mono ?_); (case side1 => refine (Kd.R_reads' (e := 25) (base := w.heap.size) (ok := fun k_ => (((((True ∧ some k_ ≠ (.slice Ao26 t894.length co26 : Value).ownBlock) ∧ some k_ ≠ (.slice Ao27 t897.length co27 : Value).ownBlock) ∧ some k_ ≠ (.slice Ao32 t901.length co32 : Value).ownBlock) ∧ some k_ ≠ (.slice Ao39 t907.length co39 : Value).ownBlock) ∧ some k_ ≠ (.slice Ao42 t911.length co42 : Value).ownBlock)) (n := t915.length) (c := co49) ?_).2.2; exact (by (with_reducible repeat (first | apply Kd.R_alloc | apply Kd.R_drewN | apply Kd.R_drew)); exact (Kd.R_mono (Kd.R_far (p := ⟨gb919, 1, none⟩) (Kd.R_far (p := ⟨gb919, 0, none⟩) (Kd.R_types HO917.out BK919.out (by decide)) (fun _ hk => hk.2) (.int .i64 t914)) (fun _ hk => hk.2) (.slice Ao49 t915.length co49)) (fun _ h_ => h_.1)))); (case side2 => exact (Kd.R_reads' HO917.out).2.1); (case side3 => refine (Kd.R_reads' (e := 25) (base := w.heap.size) (ok := fun k_ => (((((True ∧ some k_ ≠ (.slice Ao26 t894.length co26 : Value).ownBlock) ∧ some k_ ≠ (.slice Ao27 t897.length co27 : Value).ownBlock) ∧ some k_ ≠ (.slice Ao39 t907.length co39 : Value).ownBlock) ∧ some k_ ≠ (.slice Ao42 t911.length co42 : Value).ownBlock) ∧ some k_ ≠ (.slice Ao49 t915.length co49 : Value).ownBlock)) (n := t901.length) (c := co32) ?_).2.2; exact (by (with_reducible repeat (first | apply Kd.R_alloc | apply Kd.R_drewN | apply Kd.R_drew)); exact (Kd.R_mono (Kd.R_far (p := ⟨gb919, 1, none⟩) (Kd.R_far (p := ⟨gb919, 0, none⟩) (Kd.R_types HO903.out BK919.out (by decide)) (fun _ hk => hk.2) (.int .i64 t914)) (fun _ hk => hk.2) (.slice Ao49 t915.length co49)) (fun _ h_ => h_.1)))); (case side4 => exact (Kd.R_reads' HO903.out).2.1); rintro e w67 ⟨rfl, hb⟩; refine ⟨_, rfl, ?_⟩; have n0_ := Aside0.mk (Kd.R_below (by (with_reducible repeat (first | apply Kd.R_alloc | apply Kd.R_drewN | apply Kd.R_drew)); exact (Kd.R_mono (Kd.R_far (p := ⟨gb919, 1, none⟩) (Kd.R_far (p := ⟨gb919, 0, none⟩) (Kd.R_types HO896.out BK919.out (by decide)) (fun _ hk => hk.2) (.int .i64 t914)) (fun _ hk => hk.2) (.slice Ao49 t915.length co49)) (fun _ h_ => h_.1))) hb); have n1_ := Aside0.mk (Kd.R_below (by (with_reducible repeat (first | apply Kd.R_alloc | apply Kd.R_drewN | apply Kd.R_drew)); exact (Kd.R_mono (Kd.R_far (p := ⟨gb919, 1, none⟩) (Kd.R_far (p := ⟨gb919, 0, none⟩) (Kd.R_types HO899.out BK919.out (by decide)) (fun _ hk => hk.2) (.int .i64 t914)) (fun _ hk => hk.2) (.slice Ao49 t915.length co49)) (fun _ h_ => h_.1))) hb); have n2_ := Aside0.mk (Kd.R_below (by (with_reducible repeat (first | apply Kd.R_alloc | apply Kd.R_drewN | apply Kd.R_drew)); exact (Kd.R_mono (Kd.R_far (p := ⟨gb919, 1, none⟩) (Kd.R_far (p := ⟨gb919, 0, none⟩) (Kd.R_types HO903.out BK919.out (by decide)) (fun _ hk => hk.2) (.int .i64 t914)) (fun _ hk => hk.2) (.slice Ao49 t915.length co49)) (fun _ h_ => h_.1))) hb); have n3_ := Aside0.mk (Kd.R_below (by (with_reducible repeat (first | apply Kd.R_alloc | apply Kd.R_drewN | apply Kd.R_drew)); exact (Kd.R_mono (Kd.R_far (p := ⟨gb919, 1, none⟩) (Kd.R_far (p := ⟨gb919, 0, none⟩) (Kd.R_types HO909.out BK919.out (by decide)) (fun _ hk => hk.2) (.int .i64 t914)) (fun _ hk => hk.2) (.slice Ao49 t915.length co49)) (fun _ h_ => h_.1))) hb); have n4_ := Aside0.mk (Kd.R_below (by (with_reducible repeat (first | apply Kd.R_alloc | apply Kd.R_drewN | apply Kd.R_drew)); exact (Kd.R_mono (Kd.R_far (p := ⟨gb919, 1, none⟩) (Kd.R_far (p := ⟨gb919, 0, none⟩) (Kd.R_types HO913.out BK919.out (by decide)) (fun _ hk => hk.2) (.int .i64 t914)) (fun _ hk => hk.2) (.slice Ao49 t915.length co49)) (fun _ h_ => h_.1))) hb); have n5_ := Aside0.mk (Kd.R_below (by (with_reducible repeat (first | apply Kd.R_alloc | apply Kd.R_drewN | apply Kd.R_drew)); exact (Kd.R_mono (Kd.R_far (p := ⟨gb919, 1, none⟩) (Kd.R_far (p := ⟨gb919, 0, none⟩) (Kd.R_types HO917.out BK919.out (by decide)) (fun _ hk => hk.2) (.int .i64 t914)) (fun _ hk => hk.2) (.slice Ao49 t915.length co49)) (fun _ h_ => h_.1))) hb); have n6_ := Aside0.mk (blk_below (g := gb890) (o := .cells #[.int .i64 a0_0, .slice A0_1 l0_1.length c0_1] 42 (0, 0)) (by (with_reducible repeat (first | refine blk_drewN ?_ _ | refine blk_drew ?_ | refine blk_alloc ?_ _)); refine blk_far ?_ NB890_919.out _; (with_reducible repeat (first | refine blk_drewN ?_ _ | refine blk_drew ?_ | refine blk_alloc ?_ _)); refine blk_far ?_ NB890_919.out _; (with_reducible repeat (first | refine blk_drewN ?_ _ | refine blk_drew ?_ | refine blk_alloc ?_ _)); exact BK890.out) hb); have n7_ := Aside0.mk (blk_below (g := gb905) (o := .cells #[.int .i64 t900, .slice Ao32 t901.length co32] 46 (0, 0)) (by (with_reducible repeat (first | refine blk_drewN ?_ _ | refine blk_drew ?_ | refine blk_alloc ?_ _)); refine blk_far ?_ NB905_919.out _; (with_reducible repeat (first | refine blk_drewN ?_ _ | refine blk_drew ?_ | refine blk_alloc ?_ _)); refine blk_far ?_ NB905_919.out _; (with_reducible repeat (first | refine blk_drewN ?_ _ | refine blk_drew ?_ | refine blk_alloc ?_ _)); exact BK905.out) hb); have n8_ := Aside0.mk (blk_below (g := gb910) (o := .cells #[.int .i64 t906, .slice Ao39 t907.length co39] 46 (0, 0)) (by (with_reducible repeat (first | refine blk_drewN ?_ _ | refine blk_drew ?_ | refine blk_alloc ?_ _)); refine blk_far ?_ NB910_919.out _; (with_reducible repeat (first | refine blk_drewN ?_ _ | refine blk_drew ?_ | refine blk_alloc ?_ _)); refine blk_far ?_ NB910_919.out _; (with_reducible repeat (first | refine blk_drewN ?_ _ | refine blk_drew ?_ | refine blk_alloc ?_ _)); exact BK910.out) hb); have n9_ := Aside0.mk (blk_below (g := gb919) (o := .cells #[.int .i64 t914, .slice Ao49 t915.length co49] 46 (0, 0)) (by (with_reducible repeat (first | refine blk_drewN ?_ _ | refine blk_drew ?_ | refine blk_alloc ?_ _)); refine blk_put (cs := #[.int .i64 t914, .slice none 0 0]) ?_ 1 _ rfl; (with_reducible repeat (first | refine blk_drewN ?_ _ | refine blk_drew ?_ | refine blk_alloc ?_ _)); refine blk_put (cs := #[.int .i64 0, .slice none 0 0]) ?_ 0 _ rfl; (with_reducible repeat (first | refine blk_drewN ?_ _ | refine blk_drew ?_ | refine blk_alloc ?_ _)); exact BK919.out) hb); have n10_ := Aside0.mk (below_step (z29_1) hb); clear HO896; clear HO899; clear HO903; clear HO909; clear HO913; clear HO917; clear BK890; clear BK905; clear BK910; clear BK919; clear HB; have HO896 := n0_; have HO899 := n1_; have HO903 := n2_; have HO909 := n3_; have HO913 := n4_; have HO917 := n5_; have BK890 := n6_; have BK905 := n7_; have BK910 := n8_; have BK919 := n9_; have HB := n10_; clear n0_ n1_ n2_ n3_ n4_ n5_ n6_ n7_ n8_ n9_ n10_; (try clear hb); (try clear hb2); (try clear hk); (try clear hi)))
     go_meet
     case rel => exact ⟨_, (true), (z29_11), H', ⟨by first | omega | exact Nat.le_refl _⟩, ⟨by (with_reducible repeat (first | apply Kd.R_alloc | apply Kd.R_drewN | apply Kd.R_drew)); exact Kd.R_mono HO913.out (fun _ hk => ⟨hk.1.1.2, ⟨hk.1.2, hk.2⟩⟩)⟩, ⟨by (with_reducible repeat (first | apply Kd.R_alloc | apply Kd.R_drewN | apply Kd.R_drew)); exact Kd.R_mono HO903.out (fun _ hk => ⟨hk.1.2, ⟨hk.1.1.2, hk.2⟩⟩)⟩, ⟨by (with_reducible repeat (first | apply Kd.R_alloc | apply Kd.R_drewN | apply Kd.R_drew)); exact Kd.R_mono HO909.out (fun _ hk => ⟨hk.1.2, ⟨hk.1.1.2, hk.2⟩⟩)⟩, ⟨by (with_reducible repeat (first | apply Kd.R_alloc | apply Kd.R_drewN | apply Kd.R_drew)); exact Kd.R_mono HO917.out (fun _ hk => ⟨hk.2, ⟨hk.1.1.2, hk.1.2⟩⟩)⟩, ⟨by (with_reducible repeat (first | refine blk_drewN ?_ _ | refine blk_drew ?_ | refine blk_alloc ?_ _)); exact BK890.out⟩, ⟨by (with_reducible repeat (first | refine blk_drewN ?_ _ | refine blk_drew ?_ | refine blk_alloc ?_ _)); exact BK905.out⟩, ⟨by (with_reducible repeat (first | refine blk_drewN ?_ _ | refine blk_drew ?_ | refine blk_alloc ?_ _)); exact BK910.out⟩, ⟨by (with_reducible repeat (first | refine blk_drewN ?_ _ | refine blk_drew ?_ | refine blk_alloc ?_ _)); exact BK919.out⟩, ⟨by repeat (first | (with_reducible first | exact HB.out | apply below_alloc | apply pw_below_drewN | apply below_drew1 | refine below_set ?_ GE890.out | refine below_set ?_ GE905.out | refine below_set ?_ GE910.out | refine below_set ?_ GE919.out) | exact HB.out)⟩⟩
   case rest =>
    clear HC19
    try clear c1
    try clear p2
    try clear c3
    try clear c4
    try clear c4b0
    try clear c5
    try clear c6
    try clear c9
    try clear c9b0
    try clear c19
    try clear c30
    try clear c32
    try clear c34
    try clear c36
    try clear c37
    try clear c45
    try clear c46
    try clear c47
    try clear c49
    try clear c50
    try clear c51
    try clear c52
    try clear c53
    try clear c54
    try clear c56
    try clear c57
    try clear c60
    try clear c61
    try clear c62
    try clear c64
    try clear c65
    try clear hcz11_0
    try clear hcz11_1
    try clear hcz21_0
    try clear hcz21_1
    try clear hcz23_0
    try clear hcz23_1
    try clear hcz31_0
    try clear hcz31_1
    try clear hcz33_0
    try clear hcz33_1
    try clear hcz38_0
    try clear hcz38_1
    try clear hcz41_0
    try clear hcz41_1
    try clear hcz48_0
    try clear hcz48_1
    try clear hcz55_0
    try clear hcz55_1
    try clear hcz58_0
    try clear hcz58_1
    try clear hcz63_0
    try clear hcz63_1
    try clear hcz66_0
    try clear hcz66_1
    try clear hcz6_0
    try clear hcz6_1
    try clear hfz11_0
    try clear hfz11_1
    try clear hfz21_0
    try clear hfz21_1
    try clear hfz23_0
    try clear hfz23_1
    try clear hfz31_0
    try clear hfz31_1
    try clear hfz33_0
    try clear hfz33_1
    try clear hfz38_0
    try clear hfz38_1
    try clear hfz41_0
    try clear hfz41_1
    try clear hfz48_0
    try clear hfz48_1
    try clear hfz55_0
    try clear hfz55_1
    try clear hfz58_0
    try clear hfz58_1
    try clear hfz63_0
    try clear hfz63_1
    try clear hfz66_0
    try clear hfz66_1
    try clear hfz6_0
    try clear hfz6_1
    obtain ⟨kq, x53_18, rfl, HA, HJ18, HO_9, HO_906001, HO_911001, HO_920001, BK890, BK905, BK910, BK919, HB⟩ := hcut
    cases kq with
    | zero => exact absurd HA.out (by simp [laws_FnExactPoolAll.j0])
    | succ kj18 =>
     have H := HA.out
     clear HA
     simp only [laws_FnExactPoolAll.j0] at H
     by_cases c68 : x53_18 = true
     ·subst c68
      have H1 : (some false) = some r := by rw [if_pos rfl] at H; exact H
      clear H
      have H := H1
      clear H1
      exact absurd ((Option.some.inj H).trans hT) (by simp)
     ·replace c68 := Bool.eq_false_iff.mpr c68
      subst c68
      have H1 : ((laws_toPool.f kj18 a0_0 l0_1).bind fun bt921 => ((laws_eqPool.f kj18 t906 t907 bt921.1 bt921.2).bind fun t925 => (if t925 = true then ((laws_toPageS.f kj18 l1).bind fun t926 => ((laws_eqPageS.f kj18 t911 t926).bind fun t929 => (if t929 = true then ((laws_markPool.f kj18 t906 t907 1).bind fun bt930 => ((laws_markPageS.f kj18 t911 bt930.1).bind fun bt932 => (if bt932.1 < 0 then (laws_FnExactPoolAll.j1 kj18 l1 t904 true a0_0 l0_1 t900 t901 t914 t915) else ((laws_eqPool.f kj18 t914 t915 t900 t901).bind fun t934 => (if t934 = true then (laws_FnExactPoolAll.j1 kj18 l1 t904 (t918 != t904) a0_0 l0_1 t900 t901 t914 t915) else (laws_FnExactPoolAll.j1 kj18 l1 t904 true a0_0 l0_1 t900 t901 t914 t915)))))) else (some false)))) else (some false)))) = some r := by rw [if_neg (show ¬ (false = true) by decide)] at H; exact H
      clear H
      have H := H1
      clear H1
      replace H := Option.bind_eq_some_iff.mp H
      obtain ⟨⟨t921, t922⟩, A690, H⟩ := H
      replace H : ((laws_eqPool.f kj18 t906 t907 t921 t922).bind fun t925 => (if t925 = true then ((laws_toPageS.f kj18 l1).bind fun t926 => ((laws_eqPageS.f kj18 t911 t926).bind fun t929 => (if t929 = true then ((laws_markPool.f kj18 t906 t907 1).bind fun bt930 => ((laws_markPageS.f kj18 t911 bt930.1).bind fun bt932 => (if bt932.1 < 0 then (laws_FnExactPoolAll.j1 kj18 l1 t904 true a0_0 l0_1 t900 t901 t914 t915) else ((laws_eqPool.f kj18 t914 t915 t900 t901).bind fun t934 => (if t934 = true then (laws_FnExactPoolAll.j1 kj18 l1 t904 (t918 != t904) a0_0 l0_1 t900 t901 t914 t915) else (laws_FnExactPoolAll.j1 kj18 l1 t904 true a0_0 l0_1 t900 t901 t914 t915)))))) else (some false)))) else (some false))) = some r := H
      have A69 := Aside0.mk A690
      clear A690
      replace H := Option.bind_eq_some_iff.mp H
      obtain ⟨t925, A700, H⟩ := H
      replace H : (if t925 = true then ((laws_toPageS.f kj18 l1).bind fun t926 => ((laws_eqPageS.f kj18 t911 t926).bind fun t929 => (if t929 = true then ((laws_markPool.f kj18 t906 t907 1).bind fun bt930 => ((laws_markPageS.f kj18 t911 bt930.1).bind fun bt932 => (if bt932.1 < 0 then (laws_FnExactPoolAll.j1 kj18 l1 t904 true a0_0 l0_1 t900 t901 t914 t915) else ((laws_eqPool.f kj18 t914 t915 t900 t901).bind fun t934 => (if t934 = true then (laws_FnExactPoolAll.j1 kj18 l1 t904 (t918 != t904) a0_0 l0_1 t900 t901 t914 t915) else (laws_FnExactPoolAll.j1 kj18 l1 t904 true a0_0 l0_1 t900 t901 t914 t915)))))) else (some false)))) else (some false)) = some r := H
      have A70 := Aside0.mk A700
      clear A700
      by_cases c71 : t925 = true
      ·subst c71
       have H1 : ((laws_toPageS.f kj18 l1).bind fun t926 => ((laws_eqPageS.f kj18 t911 t926).bind fun t929 => (if t929 = true then ((laws_markPool.f kj18 t906 t907 1).bind fun bt930 => ((laws_markPageS.f kj18 t911 bt930.1).bind fun bt932 => (if bt932.1 < 0 then (laws_FnExactPoolAll.j1 kj18 l1 t904 true a0_0 l0_1 t900 t901 t914 t915) else ((laws_eqPool.f kj18 t914 t915 t900 t901).bind fun t934 => (if t934 = true then (laws_FnExactPoolAll.j1 kj18 l1 t904 (t918 != t904) a0_0 l0_1 t900 t901 t914 t915) else (laws_FnExactPoolAll.j1 kj18 l1 t904 true a0_0 l0_1 t900 t901 t914 t915)))))) else (some false)))) = some r := by rw [if_pos rfl] at H; exact H
       clear H
       have H := H1
       clear H1
       replace H := Option.bind_eq_some_iff.mp H
       obtain ⟨t926, A720, H⟩ := H
       replace H : ((laws_eqPageS.f kj18 t911 t926).bind fun t929 => (if t929 = true then ((laws_markPool.f kj18 t906 t907 1).bind fun bt930 => ((laws_markPageS.f kj18 t911 bt930.1).bind fun bt932 => (if bt932.1 < 0 then (laws_FnExactPoolAll.j1 kj18 l1 t904 true a0_0 l0_1 t900 t901 t914 t915) else ((laws_eqPool.f kj18 t914 t915 t900 t901).bind fun t934 => (if t934 = true then (laws_FnExactPoolAll.j1 kj18 l1 t904 (t918 != t904) a0_0 l0_1 t900 t901 t914 t915) else (laws_FnExactPoolAll.j1 kj18 l1 t904 true a0_0 l0_1 t900 t901 t914 t915)))))) else (some false))) = some r := H
       have A72 := Aside0.mk A720
       clear A720
       replace H := Option.bind_eq_some_iff.mp H
       obtain ⟨t929, A730, H⟩ := H
       replace H : (if t929 = true then ((laws_markPool.f kj18 t906 t907 1).bind fun bt930 => ((laws_markPageS.f kj18 t911 bt930.1).bind fun bt932 => (if bt932.1 < 0 then (laws_FnExactPoolAll.j1 kj18 l1 t904 true a0_0 l0_1 t900 t901 t914 t915) else ((laws_eqPool.f kj18 t914 t915 t900 t901).bind fun t934 => (if t934 = true then (laws_FnExactPoolAll.j1 kj18 l1 t904 (t918 != t904) a0_0 l0_1 t900 t901 t914 t915) else (laws_FnExactPoolAll.j1 kj18 l1 t904 true a0_0 l0_1 t900 t901 t914 t915)))))) else (some false)) = some r := H
       have A73 := Aside0.mk A730
       clear A730
       by_cases c74 : t929 = true
       ·subst c74
        have H1 : ((laws_markPool.f kj18 t906 t907 1).bind fun bt930 => ((laws_markPageS.f kj18 t911 bt930.1).bind fun bt932 => (if bt932.1 < 0 then (laws_FnExactPoolAll.j1 kj18 l1 t904 true a0_0 l0_1 t900 t901 t914 t915) else ((laws_eqPool.f kj18 t914 t915 t900 t901).bind fun t934 => (if t934 = true then (laws_FnExactPoolAll.j1 kj18 l1 t904 (t918 != t904) a0_0 l0_1 t900 t901 t914 t915) else (laws_FnExactPoolAll.j1 kj18 l1 t904 true a0_0 l0_1 t900 t901 t914 t915)))))) = some r := by rw [if_pos rfl] at H; exact H
        clear H
        have H := H1
        clear H1
        replace H := Option.bind_eq_some_iff.mp H
        obtain ⟨⟨t930, t931⟩, A750, H⟩ := H
        replace H : ((laws_markPageS.f kj18 t911 t930).bind fun bt932 => (if bt932.1 < 0 then (laws_FnExactPoolAll.j1 kj18 l1 t904 true a0_0 l0_1 t900 t901 t914 t915) else ((laws_eqPool.f kj18 t914 t915 t900 t901).bind fun t934 => (if t934 = true then (laws_FnExactPoolAll.j1 kj18 l1 t904 (t918 != t904) a0_0 l0_1 t900 t901 t914 t915) else (laws_FnExactPoolAll.j1 kj18 l1 t904 true a0_0 l0_1 t900 t901 t914 t915))))) = some r := H
        have A75 := Aside0.mk A750
        clear A750
        replace H := Option.bind_eq_some_iff.mp H
        obtain ⟨⟨t932, t933⟩, A760, H⟩ := H
        replace H : (if t932 < 0 then (laws_FnExactPoolAll.j1 kj18 l1 t904 true a0_0 l0_1 t900 t901 t914 t915) else ((laws_eqPool.f kj18 t914 t915 t900 t901).bind fun t934 => (if t934 = true then (laws_FnExactPoolAll.j1 kj18 l1 t904 (t918 != t904) a0_0 l0_1 t900 t901 t914 t915) else (laws_FnExactPoolAll.j1 kj18 l1 t904 true a0_0 l0_1 t900 t901 t914 t915)))) = some r := H
        have A76 := Aside0.mk A760
        clear A760
        have HC77 := Aside0.mk H
        clear H
        try go_wp2
        have n0_ := Aside0.mk (Kd.R_drew HO_9.out)
        have n1_ := Aside0.mk (Kd.R_drew HO_906001.out)
        have n2_ := Aside0.mk (Kd.R_drew HO_911001.out)
        have n3_ := Aside0.mk (Kd.R_drew HO_920001.out)
        have n4_ := Aside0.mk (blk_drew BK890.out)
        have n5_ := Aside0.mk (blk_drew BK905.out)
        have n6_ := Aside0.mk (blk_drew BK910.out)
        have n7_ := Aside0.mk (blk_drew BK919.out)
        have n8_ := Aside0.mk (below_drew1 HB.out)
        clear HO_9
        clear HO_906001
        clear HO_911001
        clear HO_920001
        clear BK890
        clear BK905
        clear BK910
        clear BK919
        clear HB
        have HO_9 := n0_
        have HO_906001 := n1_
        have HO_911001 := n2_
        have HO_920001 := n3_
        have BK890 := n4_
        have BK905 := n5_
        have BK910 := n6_
        have BK919 := n7_
        have HB := n8_
        clear n0_ n1_ n2_ n3_ n4_ n5_ n6_ n7_ n8_
        refine start_ (n := 5) (S := fun w' => w'.cell? ⟨gb910, 0, none⟩ = some (.int .i64 t906) ∧ w'.cell? ⟨gb910, 1, none⟩ = some (.slice Ao39 t907.length co39) ∧ w'.cell? ⟨gb890, 0, none⟩ = some (.int .i64 a0_0) ∧ w'.cell? ⟨gb890, 1, none⟩ = some (.slice A0_1 l0_1.length c0_1)) (ds := []) #[false, false, false, false, false] (by kernel_rfl) rfl rfl ⟨(blk_cell BK910.out 0).trans rfl, (blk_cell BK910.out 1).trans rfl, (blk_cell BK890.out 0).trans rfl, (blk_cell BK890.out 1).trans rfl⟩ (fun hHeld => ?_)
        generalize wc.drew = w78 at HO_9 HO_906001 HO_911001 HO_920001 BK890 BK905 BK910 BK919 HB hHeld ⊢
        refine take_ (i := 0) (N := some 54) (v := ?_) (a' := ?_) #[true, false, false, false, false] rfl rfl (by kernel_rfl) (fun _ _ _ h => h) (Or.inl ⟨by rfl, ?_⟩) hHeld ?_ ?_
        rotate_left
        ·rintro w' ⟨s0, s1, s2, s3⟩
         go_simp
         with_reducible rfl
        rotate_left
        ·simp only [Act.put, List.setIfInBounds_toArray, List.set_cons_zero, List.set_cons_succ, i64_w, i32_w]
         rfl
        refine take_ (i := 1) (N := some 55) (v := ?_) (a' := ?_) #[true, true, false, false, false] rfl rfl (by kernel_rfl) (fun _ _ _ h => h) (Or.inl ⟨by rfl, ?_⟩) hHeld ?_ ?_
        rotate_left
        ·rintro w' ⟨s0, s1, s2, s3⟩
         go_simp
         with_reducible rfl
        rotate_left
        ·simp only [Act.put, List.setIfInBounds_toArray, List.set_cons_zero, List.set_cons_succ, i64_w, i32_w]
         rfl
        refine one_ (i := 2) (N := some 56) #[true, true, true, false, false] rfl rfl (by kernel_rfl) (by decide) (fun K hK => ?_)
        refine goes_ Try.func34 (by kernel_rfl) rfl #[.agg #[.int .i64 a0_0, .slice A0_1 l0_1.length c0_1]] (by rfl) rfl rfl (z29_5) ?_
        with_reducible refine (laws_toPool.calls kj18 a0_0 _ _ l0_1 t921 t922 _ ?side1 ?side2 A69.out).mono ?_
        (case side1 => repeat (first | exact (Kd.C_below HR0_1.out HB.out) | (with_reducible refine Kd.C_alloc ?_ _) | (with_reducible refine Kd.C_drewN ?_ _) | (with_reducible refine Kd.C_drew ?_)))
        (case side2 => exact HC0_1.out)
        rintro e w79 ⟨v923, rfl, ho0, hb⟩
        refine ⟨_, rfl, ?_⟩
        have n0_ := Aside0.mk (Kd.R_elder' (by (with_reducible repeat (first | apply Kd.R_alloc | apply Kd.R_drewN | apply Kd.R_drew)); exact HO_9.out) (Kd.R_base ho0) hb)
        have n1_ := Aside0.mk (Kd.R_elder' (by (with_reducible repeat (first | apply Kd.R_alloc | apply Kd.R_drewN | apply Kd.R_drew)); exact HO_906001.out) (Kd.R_base ho0) hb)
        have n2_ := Aside0.mk (Kd.R_elder' (by (with_reducible repeat (first | apply Kd.R_alloc | apply Kd.R_drewN | apply Kd.R_drew)); exact HO_911001.out) (Kd.R_base ho0) hb)
        have n3_ := Aside0.mk (Kd.R_elder' (by (with_reducible repeat (first | apply Kd.R_alloc | apply Kd.R_drewN | apply Kd.R_drew)); exact HO_920001.out) (Kd.R_base ho0) hb)
        have n4_ := Aside0.mk (Kd.R_lower (Kd.R_new' (Kd.R_new' (Kd.R_new' (Kd.R_new' ho0 (Kd.R_lt (by (with_reducible repeat (first | apply Kd.R_alloc | apply Kd.R_drewN | apply Kd.R_drew)); exact HO_9.out))) (Kd.R_lt (by (with_reducible repeat (first | apply Kd.R_alloc | apply Kd.R_drewN | apply Kd.R_drew)); exact HO_906001.out))) (Kd.R_lt (by (with_reducible repeat (first | apply Kd.R_alloc | apply Kd.R_drewN | apply Kd.R_drew)); exact HO_911001.out))) (Kd.R_lt (by (with_reducible repeat (first | apply Kd.R_alloc | apply Kd.R_drewN | apply Kd.R_drew)); exact HO_920001.out))) (below_size (z29_1)))
        have n5_ := Aside0.mk (blk_below (g := gb890) (o := .cells #[.int .i64 a0_0, .slice A0_1 l0_1.length c0_1] 42 (0, 0)) (z29_7) hb)
        have n6_ := Aside0.mk (blk_below (g := gb905) (o := .cells #[.int .i64 t900, .slice Ao32 t901.length co32] 46 (0, 0)) (z29_8) hb)
        have n7_ := Aside0.mk (blk_below (g := gb910) (o := .cells #[.int .i64 t906, .slice Ao39 t907.length co39] 46 (0, 0)) (z29_9) hb)
        have n8_ := Aside0.mk (blk_below (g := gb919) (o := .cells #[.int .i64 t914, .slice Ao49 t915.length co49] 46 (0, 0)) (z29_10) hb)
        have n9_ := Aside0.mk (below_step (z29_1) hb)
        clear HO_9
        clear HO_906001
        clear HO_911001
        clear HO_920001
        clear BK890
        clear BK905
        clear BK910
        clear BK919
        clear HB
        have HO_9 := n0_
        have HO_906001 := n1_
        have HO_911001 := n2_
        have HO_920001 := n3_
        have HO924 := n4_
        have BK890 := n5_
        have BK905 := n6_
        have BK910 := n7_
        have BK919 := n8_
        have HB := n9_
        clear n0_ n1_ n2_ n3_ n4_ n5_ n6_ n7_ n8_ n9_
        (try clear hb)
        (try clear hb2)
        (try clear hk)
        (try clear hi)
        (try clear ho0)
        obtain ⟨Ao80, co80, eo80⟩ := Kd.R_slice HO924.out
        (first | subst eo80 | (injection eo80 with f1_ f2_ f3_; have f4_ := f1_.symm; have f5_ := f3_.symm; clear f1_ f2_ f3_; subst f4_; subst f5_))
        refine hK.out _ _ ⟨(blk_cell BK910.out 0).trans rfl, (blk_cell BK910.out 1).trans rfl, (blk_cell BK890.out 0).trans rfl, (blk_cell BK890.out 1).trans rfl⟩ (fun hHeld => ?_)
        clear hK K
        refine norm_ (a' := ?_) ?_ ?_
        rotate_left
        ·show Act.put _ (some 56) _ = _
         simp only [Act.put, List.setIfInBounds_toArray, List.set_cons_zero, List.set_cons_succ, i64_w, i32_w]
         rfl
        refine one_ (i := 3) (N := some 57) #[true, true, true, true, false] rfl rfl (by kernel_rfl) (by decide) (fun K hK => ?_)
        refine goes_ Try.func36 (by kernel_rfl) rfl #[.agg #[.int .i64 t906, .slice Ao39 t907.length co39], .agg #[.int .i64 t921, .slice Ao80 t922.length co80]] (by rfl) rfl rfl (z29_5) ?_
        with_reducible refine (laws_eqPool.calls kj18 t906 _ _ t907 t921 _ _ t922 true _ ?side1 ?side2 ?side3 ?side4 A70.out).mono ?_
        (case side1 => repeat (first | exact (Kd.R_reads' HO_911001.out).2.2 | (with_reducible refine Kd.C_alloc ?_ _) | (with_reducible refine Kd.C_drewN ?_ _) | (with_reducible refine Kd.C_drew ?_)))
        (case side2 => exact (Kd.R_reads' HO_911001.out).2.1)
        (case side3 => repeat (first | exact (Kd.R_reads' HO924.out).2.2 | (with_reducible refine Kd.C_alloc ?_ _) | (with_reducible refine Kd.C_drewN ?_ _) | (with_reducible refine Kd.C_drew ?_)))
        (case side4 => exact (Kd.R_reads' HO924.out).2.1)
        rintro e w81 ⟨rfl, hb⟩
        refine ⟨_, rfl, ?_⟩
        have n0_ := Aside0.mk (Kd.R_below (by (with_reducible repeat (first | apply Kd.R_alloc | apply Kd.R_drewN | apply Kd.R_drew)); exact HO_9.out) hb)
        have n1_ := Aside0.mk (Kd.R_below (by (with_reducible repeat (first | apply Kd.R_alloc | apply Kd.R_drewN | apply Kd.R_drew)); exact HO_906001.out) hb)
        have n2_ := Aside0.mk (Kd.R_below (by (with_reducible repeat (first | apply Kd.R_alloc | apply Kd.R_drewN | apply Kd.R_drew)); exact HO_911001.out) hb)
        have n3_ := Aside0.mk (Kd.R_below (by (with_reducible repeat (first | apply Kd.R_alloc | apply Kd.R_drewN | apply Kd.R_drew)); exact HO_920001.out) hb)
        have n4_ := Aside0.mk (Kd.R_below (by (with_reducible repeat (first | apply Kd.R_alloc | apply Kd.R_drewN | apply Kd.R_drew)); exact HO924.out) hb)
        have n5_ := Aside0.mk (blk_below (g := gb890) (o := .cells #[.int .i64 a0_0, .slice A0_1 l0_1.length c0_1] 42 (0, 0)) (z29_7) hb)
        have n6_ := Aside0.mk (blk_below (g := gb905) (o := .cells #[.int .i64 t900, .slice Ao32 t901.length co32] 46 (0, 0)) (z29_8) hb)
        have n7_ := Aside0.mk (blk_below (g := gb910) (o := .cells #[.int .i64 t906, .slice Ao39 t907.length co39] 46 (0, 0)) (z29_9) hb)
        have n8_ := Aside0.mk (blk_below (g := gb919) (o := .cells #[.int .i64 t914, .slice Ao49 t915.length co49] 46 (0, 0)) (z29_10) hb)
        have n9_ := Aside0.mk (below_step (z29_1) hb)
        clear HO_9
        clear HO_906001
        clear HO_911001
        clear HO_920001
        clear HO924
        clear BK890
        clear BK905
        clear BK910
        clear BK919
        clear HB
        have HO_9 := n0_
        have HO_906001 := n1_
        have HO_911001 := n2_
        have HO_920001 := n3_
        have HO924 := n4_
        have BK890 := n5_
        have BK905 := n6_
        have BK910 := n7_
        have BK919 := n8_
        have HB := n9_
        clear n0_ n1_ n2_ n3_ n4_ n5_ n6_ n7_ n8_ n9_
        (try clear hb)
        (try clear hb2)
        (try clear hk)
        (try clear hi)
        refine hK.out _ _ ⟨(blk_cell BK910.out 0).trans rfl, (blk_cell BK910.out 1).trans rfl, (blk_cell BK890.out 0).trans rfl, (blk_cell BK890.out 1).trans rfl⟩ (fun hHeld => ?_)
        clear hK K
        refine norm_ (a' := ?_) ?_ ?_
        rotate_left
        ·show Act.put _ (some 57) _ = _
         simp only [Act.put, List.setIfInBounds_toArray, List.set_cons_zero, List.set_cons_succ, i64_w, i32_w]
         rfl
        refine pure_ (i := 4) (N := some 58) (v := ?_) (a' := ?_) #[true, true, true, true, true] rfl rfl (by kernel_rfl) (fun _ _ _ h => h) (Or.inl ⟨by rfl, ?_⟩) ?_ ?_
        rotate_left
        ·intro w'
         go_simp
         with_reducible rfl
        rotate_left
        ·simp only [Act.put, List.setIfInBounds_toArray, List.set_cons_zero, List.set_cons_succ, i64_w, i32_w]
         rfl
        refine done_ (by kernel_rfl) ?_
        go_upto_region 21 with (first | ((with_reducible refine gate_callee (f := 50) rfl ?_); refine goesL_ (some 61) rfl rfl Try.func50 (by kernel_rfl) rfl #[.slice A1 l1.length c1] rfl (z29_5) ?_; (with_reducible refine (laws_toPageS.calls kj18 _ _ l1 t926 _ ?side1 ?side2 A72.out).mono ?_); (case side1 => repeat (first | exact (Kd.C_below HR1.out HB.out) | (with_reducible refine Kd.C_alloc ?_ _) | (with_reducible refine Kd.C_drewN ?_ _) | (with_reducible refine Kd.C_drew ?_))); (case side2 => exact HC1.out); rintro e w82 ⟨v927, rfl, ho0, hb⟩; refine ⟨_, rfl, ?_⟩; have n0_ := Aside0.mk (Kd.R_elder' (by (with_reducible repeat (first | apply Kd.R_alloc | apply Kd.R_drewN | apply Kd.R_drew)); exact HO_9.out) (Kd.R_base ho0) hb); have n1_ := Aside0.mk (Kd.R_elder' (by (with_reducible repeat (first | apply Kd.R_alloc | apply Kd.R_drewN | apply Kd.R_drew)); exact HO_906001.out) (Kd.R_base ho0) hb); have n2_ := Aside0.mk (Kd.R_elder' (by (with_reducible repeat (first | apply Kd.R_alloc | apply Kd.R_drewN | apply Kd.R_drew)); exact HO_911001.out) (Kd.R_base ho0) hb); have n3_ := Aside0.mk (Kd.R_elder' (by (with_reducible repeat (first | apply Kd.R_alloc | apply Kd.R_drewN | apply Kd.R_drew)); exact HO_920001.out) (Kd.R_base ho0) hb); have n4_ := Aside0.mk (Kd.R_elder' (by (with_reducible repeat (first | apply Kd.R_alloc | apply Kd.R_drewN | apply Kd.R_drew)); exact HO924.out) (Kd.R_base ho0) hb); have n5_ := Aside0.mk (Kd.R_lower (Kd.R_new' (Kd.R_new' (Kd.R_new' (Kd.R_new' (Kd.R_new' ho0 (Kd.R_lt (by (with_reducible repeat (first | apply Kd.R_alloc | apply Kd.R_drewN | apply Kd.R_drew)); exact HO_9.out))) (Kd.R_lt (by (with_reducible repeat (first | apply Kd.R_alloc | apply Kd.R_drewN | apply Kd.R_drew)); exact HO_906001.out))) (Kd.R_lt (by (with_reducible repeat (first | apply Kd.R_alloc | apply Kd.R_drewN | apply Kd.R_drew)); exact HO_911001.out))) (Kd.R_lt (by (with_reducible repeat (first | apply Kd.R_alloc | apply Kd.R_drewN | apply Kd.R_drew)); exact HO_920001.out))) (Kd.R_lt (by (with_reducible repeat (first | apply Kd.R_alloc | apply Kd.R_drewN | apply Kd.R_drew)); exact HO924.out))) (below_size (z29_1))); have n6_ := Aside0.mk (blk_below (g := gb890) (o := .cells #[.int .i64 a0_0, .slice A0_1 l0_1.length c0_1] 42 (0, 0)) (z29_7) hb); have n7_ := Aside0.mk (blk_below (g := gb905) (o := .cells #[.int .i64 t900, .slice Ao32 t901.length co32] 46 (0, 0)) (z29_8) hb); have n8_ := Aside0.mk (blk_below (g := gb910) (o := .cells #[.int .i64 t906, .slice Ao39 t907.length co39] 46 (0, 0)) (z29_9) hb); have n9_ := Aside0.mk (blk_below (g := gb919) (o := .cells #[.int .i64 t914, .slice Ao49 t915.length co49] 46 (0, 0)) (z29_10) hb); have n10_ := Aside0.mk (below_step (z29_1) hb); clear HO_9; clear HO_906001; clear HO_911001; clear HO_920001; clear HO924; clear BK890; clear BK905; clear BK910; clear BK919; clear HB; have HO_9 := n0_; have HO_906001 := n1_; have HO_911001 := n2_; have HO_920001 := n3_; have HO924 := n4_; have HO928 := n5_; have BK890 := n6_; have BK905 := n7_; have BK910 := n8_; have BK919 := n9_; have HB := n10_; clear n0_ n1_ n2_ n3_ n4_ n5_ n6_ n7_ n8_ n9_ n10_; (try clear hb); (try clear hb2); (try clear hk); (try clear hi); (try clear ho0); obtain ⟨Ao83, co83, eo83⟩ := Kd.R_slice HO928.out; subst eo83) | ((with_reducible refine gate_callee (f := 25) rfl ?_); refine goesL_ (some 62) rfl rfl Try.func25 (by kernel_rfl) rfl #[.slice Ao42 t911.length co42, .slice Ao83 t926.length co83] rfl (z29_5) ?_; (with_reducible refine (laws_eqPageS.calls kj18 _ _ t911 _ _ t926 true _ ?side1 ?side2 ?side3 ?side4 A73.out).mono ?_); (case side1 => repeat (first | exact (Kd.R_reads' HO_9.out).2.2 | (with_reducible refine Kd.C_alloc ?_ _) | (with_reducible refine Kd.C_drewN ?_ _) | (with_reducible refine Kd.C_drew ?_))); (case side2 => exact (Kd.R_reads' HO_9.out).2.1); (case side3 => repeat (first | exact (Kd.R_reads' HO928.out).2.2 | (with_reducible refine Kd.C_alloc ?_ _) | (with_reducible refine Kd.C_drewN ?_ _) | (with_reducible refine Kd.C_drew ?_))); (case side4 => exact (Kd.R_reads' HO928.out).2.1); rintro e w84 ⟨rfl, hb⟩; refine ⟨_, rfl, ?_⟩; have n0_ := Aside0.mk (Kd.R_below (by (with_reducible repeat (first | apply Kd.R_alloc | apply Kd.R_drewN | apply Kd.R_drew)); exact HO_9.out) hb); have n1_ := Aside0.mk (Kd.R_below (by (with_reducible repeat (first | apply Kd.R_alloc | apply Kd.R_drewN | apply Kd.R_drew)); exact HO_906001.out) hb); have n2_ := Aside0.mk (Kd.R_below (by (with_reducible repeat (first | apply Kd.R_alloc | apply Kd.R_drewN | apply Kd.R_drew)); exact HO_911001.out) hb); have n3_ := Aside0.mk (Kd.R_below (by (with_reducible repeat (first | apply Kd.R_alloc | apply Kd.R_drewN | apply Kd.R_drew)); exact HO_920001.out) hb); have n4_ := Aside0.mk (Kd.R_below (by (with_reducible repeat (first | apply Kd.R_alloc | apply Kd.R_drewN | apply Kd.R_drew)); exact HO924.out) hb); have n5_ := Aside0.mk (Kd.R_below (by (with_reducible repeat (first | apply Kd.R_alloc | apply Kd.R_drewN | apply Kd.R_drew)); exact HO928.out) hb); have n6_ := Aside0.mk (blk_below (g := gb890) (o := .cells #[.int .i64 a0_0, .slice A0_1 l0_1.length c0_1] 42 (0, 0)) (z29_7) hb); have n7_ := Aside0.mk (blk_below (g := gb905) (o := .cells #[.int .i64 t900, .slice Ao32 t901.length co32] 46 (0, 0)) (z29_8) hb); have n8_ := Aside0.mk (blk_below (g := gb910) (o := .cells #[.int .i64 t906, .slice Ao39 t907.length co39] 46 (0, 0)) (z29_9) hb); have n9_ := Aside0.mk (blk_below (g := gb919) (o := .cells #[.int .i64 t914, .slice Ao49 t915.length co49] 46 (0, 0)) (z29_10) hb); have n10_ := Aside0.mk (below_step (z29_1) hb); clear HO_9; clear HO_906001; clear HO_911001; clear HO_920001; clear HO924; clear HO928; clear BK890; clear BK905; clear BK910; clear BK919; clear HB; have HO_9 := n0_; have HO_906001 := n1_; have HO_911001 := n2_; have HO_920001 := n3_; have HO924 := n4_; have HO928 := n5_; have BK890 := n6_; have BK905 := n7_; have BK910 := n8_; have BK919 := n9_; have HB := n10_; clear n0_ n1_ n2_ n3_ n4_ n5_ n6_ n7_ n8_ n9_ n10_; (try clear hb); (try clear hb2); (try clear hk); (try clear hi); have hnb85 := NB910_890.out; have hnc85 := NB890_910.out; have hnb86 := NB910_905.out; have hnc86 := NB905_910.out; have hnb87 := NB910_919.out; have hnc87 := NB919_910.out; have hcz88_0 : w84.cell? ⟨gb910, 0, none⟩ = some (.int .i64 t906) := (blk_cell BK910.out 0).trans rfl; have hcz88_1 : w84.cell? ⟨gb910, 1, none⟩ = some (.slice Ao39 t907.length co39) := (blk_cell BK910.out 1).trans rfl; have hfz88_0 := blk_frozen BK910.out 0; have hfz88_1 := blk_frozen BK910.out 1) | ((with_reducible refine gate_callee (f := 47) rfl ?_); refine goesL_ (some 66) rfl rfl Try.func47 (by kernel_rfl) rfl #[.agg #[.int .i64 t906, .slice Ao39 t907.length co39], .int .i64 1] rfl (z29_5) ?_; (with_reducible refine (laws_markPool.calls kj18 t906 (fun k_ => some k_ = (.slice Ao39 t907.length co39 : Value).ownBlock) (.slice Ao39 t907.length co39) t907 1 t930 t931 w _ ?side1 ?side2 A75.out).mono ?_); (case side1 => repeat (first | (with_reducible first | exact HB.out | apply below_alloc | apply pw_below_drewN | apply below_drew1 | refine below_set ?_ GE890.out | refine below_set ?_ GE905.out | refine below_set ?_ GE910.out | refine below_set ?_ GE919.out) | exact HB.out)); (case side2 => exact Kd.R_tight rfl HO_911001.out); rintro e w89 ⟨rfl, hy0, hb, hkp⟩; refine ⟨_, rfl, ?_⟩; have n0_ := Aside0.mk (Kd.R_mono (ok' := fun k_ => some k_ ≠ (.slice Ao32 t901.length co32 : Value).ownBlock ∧ some k_ ≠ (.slice Ao39 t907.length co39 : Value).ownBlock ∧ some k_ ≠ (.slice Ao49 t915.length co49 : Value).ownBlock ∧ some k_ ≠ (.slice Ao80 t922.length co80 : Value).ownBlock ∧ some k_ ≠ (.slice Ao83 t926.length co83 : Value).ownBlock) (Kd.R_keptB (HO_9.out) hkp (fun k_ hk_ hs_ => (hk_.1.1.2.1) hs_)) (fun k_ hk_ => ⟨hk_.1.1.1.1, hk_.1.1.1.2.1, hk_.1.1.1.2.2, hk_.1.1.2, hk_.1.2⟩)); have n1_ := Aside0.mk (Kd.R_mono (ok' := fun k_ => some k_ ≠ (.slice Ao42 t911.length co42 : Value).ownBlock ∧ some k_ ≠ (.slice Ao39 t907.length co39 : Value).ownBlock ∧ some k_ ≠ (.slice Ao49 t915.length co49 : Value).ownBlock ∧ some k_ ≠ (.slice Ao80 t922.length co80 : Value).ownBlock ∧ some k_ ≠ (.slice Ao83 t926.length co83 : Value).ownBlock) (Kd.R_keptB (HO_906001.out) hkp (fun k_ hk_ hs_ => (hk_.1.1.2.1) hs_)) (fun k_ hk_ => ⟨hk_.1.1.1.1, hk_.1.1.1.2.1, hk_.1.1.1.2.2, hk_.1.1.2, hk_.1.2⟩)); have n2_ := Aside0.mk (Kd.R_reok rfl hy0 (fun k_ e_ => HO_911001.out.1 k_ e_)); have n3_ := Aside0.mk (Kd.R_mono (ok' := fun k_ => some k_ ≠ (.slice Ao42 t911.length co42 : Value).ownBlock ∧ some k_ ≠ (.slice Ao32 t901.length co32 : Value).ownBlock ∧ some k_ ≠ (.slice Ao39 t907.length co39 : Value).ownBlock ∧ some k_ ≠ (.slice Ao80 t922.length co80 : Value).ownBlock ∧ some k_ ≠ (.slice Ao83 t926.length co83 : Value).ownBlock) (Kd.R_keptB (HO_920001.out) hkp (fun k_ hk_ hs_ => (hk_.1.1.2.2) hs_)) (fun k_ hk_ => ⟨hk_.1.1.1.1, hk_.1.1.1.2.1, hk_.1.1.1.2.2, hk_.1.1.2, hk_.1.2⟩)); have n4_ := Aside0.mk (blk_kept (z29_7) hkp (fun hs_ => (fun e_ => (Kd.R_ne HO_911001.out BK890.out (by decide)) e_) hs_)); have n5_ := Aside0.mk (blk_kept (z29_8) hkp (fun hs_ => (fun e_ => (Kd.R_ne HO_911001.out BK905.out (by decide)) e_) hs_)); have n6_ := Aside0.mk (blk_kept (z29_9) hkp (fun hs_ => (fun e_ => (Kd.R_ne HO_911001.out BK910.out (by decide)) e_) hs_)); have n7_ := Aside0.mk (blk_kept (z29_10) hkp (fun hs_ => (fun e_ => (Kd.R_ne HO_911001.out BK919.out (by decide)) e_) hs_)); have n8_ := Aside0.mk (Kd.R_mono (ok' := fun k_ => some k_ ≠ (.slice Ao42 t911.length co42 : Value).ownBlock ∧ some k_ ≠ (.slice Ao32 t901.length co32 : Value).ownBlock ∧ some k_ ≠ (.slice Ao39 t907.length co39 : Value).ownBlock ∧ some k_ ≠ (.slice Ao49 t915.length co49 : Value).ownBlock ∧ some k_ ≠ (.slice Ao83 t926.length co83 : Value).ownBlock) (Kd.R_keptB (HO924.out) hkp (fun k_ hk_ hs_ => (hk_.1.1.2) hs_)) (fun k_ hk_ => ⟨hk_.1.1.1.1.1.2, hk_.1.1.1.1.2, hk_.1.1.1.2, hk_.1.1.2, hk_.1.2⟩)); have n9_ := Aside0.mk (Kd.R_mono (ok' := fun k_ => some k_ ≠ (.slice Ao42 t911.length co42 : Value).ownBlock ∧ some k_ ≠ (.slice Ao32 t901.length co32 : Value).ownBlock ∧ some k_ ≠ (.slice Ao39 t907.length co39 : Value).ownBlock ∧ some k_ ≠ (.slice Ao49 t915.length co49 : Value).ownBlock ∧ some k_ ≠ (.slice Ao80 t922.length co80 : Value).ownBlock) (Kd.R_keptB (HO928.out) hkp (fun k_ hk_ hs_ => (hk_.1.1.2) hs_)) (fun k_ hk_ => ⟨hk_.1.1.1.1.1.2, hk_.1.1.1.1.2, hk_.1.1.1.2, hk_.1.1.2, hk_.1.2⟩)); have n10_ := Aside0.mk (hb); clear HO_9; clear HO_906001; clear HO_911001; clear HO_920001; clear BK890; clear BK905; clear BK910; clear BK919; clear HO924; clear HO928; clear HB; have HO_9 := n0_; have HO_906001 := n1_; have HO_911001 := n2_; have HO_920001 := n3_; have BK890 := n4_; have BK905 := n5_; have BK910 := n6_; have BK919 := n7_; have HO924 := n8_; have HO928 := n9_; have HB := n10_; clear n0_ n1_ n2_ n3_ n4_ n5_ n6_ n7_ n8_ n9_ n10_; (try clear hb); (try clear hkp); (try clear hy0)) | ((with_reducible refine gate_callee (f := 26) rfl ?_); refine goesL_ (some 69) rfl rfl Try.func26 (by kernel_rfl) rfl #[.slice Ao42 t911.length co42, .int .i64 t930] rfl (z29_5) ?_; (with_reducible refine (laws_markPageS.calls kj18 (fun k_ => some k_ = (.slice Ao42 t911.length co42 : Value).ownBlock) (.slice Ao42 t911.length co42) t911 t930 t932 t933 w _ ?side1 ?side2 A76.out).mono ?_); (case side1 => repeat (first | (with_reducible first | exact HB.out | apply below_alloc | apply pw_below_drewN | apply below_drew1 | refine below_set ?_ GE890.out | refine below_set ?_ GE905.out | refine below_set ?_ GE910.out | refine below_set ?_ GE919.out) | exact HB.out)); (case side2 => exact Kd.R_tight rfl HO_9.out); rintro e w90 ⟨rfl, hy0, hb, hkp⟩; refine ⟨_, rfl, ?_⟩; have n0_ := Aside0.mk (Kd.R_reok rfl hy0 (fun k_ e_ => HO_9.out.1 k_ e_)); have n1_ := Aside0.mk (Kd.R_mono (ok' := fun k_ => some k_ ≠ (.slice Ao42 t911.length co42 : Value).ownBlock ∧ some k_ ≠ (.slice Ao39 t907.length co39 : Value).ownBlock ∧ some k_ ≠ (.slice Ao49 t915.length co49 : Value).ownBlock ∧ some k_ ≠ (.slice Ao80 t922.length co80 : Value).ownBlock ∧ some k_ ≠ (.slice Ao83 t926.length co83 : Value).ownBlock) (Kd.R_keptB (HO_906001.out) hkp (fun k_ hk_ hs_ => (hk_.1) hs_)) (fun k_ hk_ => ⟨hk_.1.1, hk_.1.2.1, hk_.1.2.2.1, hk_.1.2.2.2.1, hk_.1.2.2.2.2⟩)); have n2_ := Aside0.mk (Kd.R_mono (ok' := fun k_ => some k_ ≠ (.slice Ao42 t911.length co42 : Value).ownBlock ∧ some k_ ≠ (.slice Ao32 t901.length co32 : Value).ownBlock ∧ some k_ ≠ (.slice Ao49 t915.length co49 : Value).ownBlock ∧ some k_ ≠ (.slice Ao80 t922.length co80 : Value).ownBlock ∧ some k_ ≠ (.slice Ao83 t926.length co83 : Value).ownBlock) (Kd.R_keptB (HO_911001.out) hkp (fun k_ hk_ hs_ => (hk_.1.1.1) hs_)) (fun k_ hk_ => ⟨hk_.1.1.1.1, hk_.1.1.1.2.1, hk_.1.1.1.2.2, hk_.1.1.2, hk_.1.2⟩)); have n3_ := Aside0.mk (Kd.R_mono (ok' := fun k_ => some k_ ≠ (.slice Ao42 t911.length co42 : Value).ownBlock ∧ some k_ ≠ (.slice Ao32 t901.length co32 : Value).ownBlock ∧ some k_ ≠ (.slice Ao39 t907.length co39 : Value).ownBlock ∧ some k_ ≠ (.slice Ao80 t922.length co80 : Value).ownBlock ∧ some k_ ≠ (.slice Ao83 t926.length co83 : Value).ownBlock) (Kd.R_keptB (HO_920001.out) hkp (fun k_ hk_ hs_ => (hk_.1) hs_)) (fun k_ hk_ => ⟨hk_.1.1, hk_.1.2.1, hk_.1.2.2.1, hk_.1.2.2.2.1, hk_.1.2.2.2.2⟩)); have n4_ := Aside0.mk (blk_kept (z29_7) hkp (fun hs_ => (fun e_ => (Kd.R_ne HO_9.out BK890.out (by decide)) e_) hs_)); have n5_ := Aside0.mk (blk_kept (z29_8) hkp (fun hs_ => (fun e_ => (Kd.R_ne HO_9.out BK905.out (by decide)) e_) hs_)); have n6_ := Aside0.mk (blk_kept (z29_9) hkp (fun hs_ => (fun e_ => (Kd.R_ne HO_9.out BK910.out (by decide)) e_) hs_)); have n7_ := Aside0.mk (blk_kept (z29_10) hkp (fun hs_ => (fun e_ => (Kd.R_ne HO_9.out BK919.out (by decide)) e_) hs_)); have n8_ := Aside0.mk (Kd.R_mono (ok' := fun k_ => some k_ ≠ (.slice Ao42 t911.length co42 : Value).ownBlock ∧ some k_ ≠ (.slice Ao32 t901.length co32 : Value).ownBlock ∧ some k_ ≠ (.slice Ao39 t907.length co39 : Value).ownBlock ∧ some k_ ≠ (.slice Ao49 t915.length co49 : Value).ownBlock ∧ some k_ ≠ (.slice Ao83 t926.length co83 : Value).ownBlock) (Kd.R_keptB (HO924.out) hkp (fun k_ hk_ hs_ => (hk_.1) hs_)) (fun k_ hk_ => ⟨hk_.1.1, hk_.1.2.1, hk_.1.2.2.1, hk_.1.2.2.2.1, hk_.1.2.2.2.2⟩)); have n9_ := Aside0.mk (Kd.R_mono (ok' := fun k_ => some k_ ≠ (.slice Ao42 t911.length co42 : Value).ownBlock ∧ some k_ ≠ (.slice Ao32 t901.length co32 : Value).ownBlock ∧ some k_ ≠ (.slice Ao39 t907.length co39 : Value).ownBlock ∧ some k_ ≠ (.slice Ao49 t915.length co49 : Value).ownBlock ∧ some k_ ≠ (.slice Ao80 t922.length co80 : Value).ownBlock) (Kd.R_keptB (HO928.out) hkp (fun k_ hk_ hs_ => (hk_.1) hs_)) (fun k_ hk_ => ⟨hk_.1.1, hk_.1.2.1, hk_.1.2.2.1, hk_.1.2.2.2.1, hk_.1.2.2.2.2⟩)); have n10_ := Aside0.mk (hb); clear HO_9; clear HO_906001; clear HO_911001; clear HO_920001; clear BK890; clear BK905; clear BK910; clear BK919; clear HO924; clear HO928; clear HB; have HO_9 := n0_; have HO_906001 := n1_; have HO_911001 := n2_; have HO_920001 := n3_; have BK890 := n4_; have BK905 := n5_; have BK910 := n6_; have BK919 := n7_; have HO924 := n8_; have HO928 := n9_; have HB := n10_; clear n0_ n1_ n2_ n3_ n4_ n5_ n6_ n7_ n8_ n9_ n10_; (try clear hb); (try clear hkp); (try clear hy0)))
        (try simp only [Act.put, List.setIfInBounds_toArray, List.set_cons_zero, List.set_cons_succ])
        go_cut [82] (fun v82 wc => ∃ (kq : Nat) (x82_76 : Bool), v82 = .bool x82_76 ∧ Aside0 (laws_FnExactPoolAll.j1 kq l1 t904 x82_76 a0_0 l0_1 t900 t901 t914 t915 = some r) ∧ Aside0 (kq ≤ kj18) ∧ Aside0 (Kd.R k25 25 wc w.heap.size (fun k_ => some k_ ≠ ((.slice Ao39 t907.length co39) : Value).ownBlock ∧ some k_ ≠ ((.slice Ao49 t915.length co49) : Value).ownBlock) (.slice Ao32 t901.length co32) t901) ∧ Aside0 (Kd.R k25 25 wc w.heap.size (fun k_ => some k_ ≠ ((.slice Ao32 t901.length co32) : Value).ownBlock ∧ some k_ ≠ ((.slice Ao49 t915.length co49) : Value).ownBlock) (.slice Ao39 t907.length co39) t931) ∧ Aside0 (Kd.R k25 25 wc w.heap.size (fun k_ => some k_ ≠ ((.slice Ao32 t901.length co32) : Value).ownBlock ∧ some k_ ≠ ((.slice Ao39 t907.length co39) : Value).ownBlock) (.slice Ao49 t915.length co49) t915) ∧ Aside0 (wc.heap[gb890]? = some (.cells #[.int .i64 a0_0, (.slice A0_1 l0_1.length c0_1)] 42 (0, 0))) ∧ Aside0 (wc.heap[gb905]? = some (.cells #[.int .i64 t900, (.slice Ao32 t901.length co32)] 46 (0, 0))) ∧ Aside0 (wc.heap[gb910]? = some (.cells #[.int .i64 t906, (.slice Ao39 t907.length co39)] 46 (0, 0))) ∧ Aside0 (wc.heap[gb919]? = some (.cells #[.int .i64 t914, (.slice Ao49 t915.length co49)] 46 (0, 0))) ∧ Aside0 (Below w.heap.size w wc))
        case first =>
         have H := HC77.out
         clear HC77
         by_cases c91 : t932 < 0
         ·rw [if_pos c91] at H
          have c91b0 : decide (t932 < 0) = true := decide_eq_true c91
          clear c91
          (first | rw [c91b0] | (simp only [i64_w, i32_w]; rw [c91b0]) | skip)
          have H' := Aside0.mk H
          clear H
          go_wp2
          go_meet
          case rel => exact ⟨_, (true), (z29_11), H', ⟨by have := HJ18.out; first | omega | exact Nat.le_refl _⟩, ⟨by (with_reducible repeat (first | apply Kd.R_alloc | apply Kd.R_drewN | apply Kd.R_drew)); exact Kd.R_mono HO_906001.out (fun _ hk => ⟨hk.2.1, hk.2.2.1⟩)⟩, ⟨by (with_reducible repeat (first | apply Kd.R_alloc | apply Kd.R_drewN | apply Kd.R_drew)); exact Kd.R_mono HO_911001.out (fun _ hk => ⟨hk.2.1, hk.2.2.1⟩)⟩, ⟨by (with_reducible repeat (first | apply Kd.R_alloc | apply Kd.R_drewN | apply Kd.R_drew)); exact Kd.R_mono HO_920001.out (fun _ hk => ⟨hk.2.1, hk.2.2.1⟩)⟩, ⟨by (with_reducible repeat (first | refine blk_drewN ?_ _ | refine blk_drew ?_ | refine blk_alloc ?_ _)); exact BK890.out⟩, ⟨by (with_reducible repeat (first | refine blk_drewN ?_ _ | refine blk_drew ?_ | refine blk_alloc ?_ _)); exact BK905.out⟩, ⟨by (with_reducible repeat (first | refine blk_drewN ?_ _ | refine blk_drew ?_ | refine blk_alloc ?_ _)); exact BK910.out⟩, ⟨by (with_reducible repeat (first | refine blk_drewN ?_ _ | refine blk_drew ?_ | refine blk_alloc ?_ _)); exact BK919.out⟩, ⟨by repeat (first | (with_reducible first | exact HB.out | apply below_alloc | apply pw_below_drewN | apply below_drew1 | refine below_set ?_ GE890.out | refine below_set ?_ GE905.out | refine below_set ?_ GE910.out | refine below_set ?_ GE919.out) | exact HB.out)⟩⟩
         ·rw [if_neg c91] at H
          have c91b0 : decide (t932 < 0) = false := decide_eq_false c91
          clear c91
          (first | rw [c91b0] | (simp only [i64_w, i32_w]; rw [c91b0]) | skip)
          replace H := Option.bind_eq_some_iff.mp H
          obtain ⟨t934, A920, H⟩ := H
          replace H : (if t934 = true then (laws_FnExactPoolAll.j1 kj18 l1 t904 (t918 != t904) a0_0 l0_1 t900 t901 t914 t915) else (laws_FnExactPoolAll.j1 kj18 l1 t904 true a0_0 l0_1 t900 t901 t914 t915)) = some r := H
          have A92 := Aside0.mk A920
          clear A920
          by_cases c93 : t934 = true
          ·subst c93
           have H1 : (laws_FnExactPoolAll.j1 kj18 l1 t904 (t918 != t904) a0_0 l0_1 t900 t901 t914 t915) = some r := by rw [if_pos rfl] at H; exact H
           clear H
           have H := H1
           clear H1
           have H' := Aside0.mk H
           clear H
           have hnb94 := NB919_890.out
           have hnc94 := NB890_919.out
           have hnb95 := NB919_905.out
           have hnc95 := NB905_919.out
           have hnb96 := NB919_910.out
           have hnc96 := NB910_919.out
           have hcz97_0 : w90.cell? ⟨gb919, 0, none⟩ = some (.int .i64 t914) := (blk_cell BK919.out 0).trans rfl
           have hcz97_1 : w90.cell? ⟨gb919, 1, none⟩ = some (.slice Ao49 t915.length co49) := (blk_cell BK919.out 1).trans rfl
           have hfz97_0 := blk_frozen BK919.out 0
           have hfz97_1 := blk_frozen BK919.out 1
           have hnb98 := NB905_890.out
           have hnc98 := NB890_905.out
           have hnb99 := NB905_910.out
           have hnc99 := NB910_905.out
           have hcz100_0 : w90.cell? ⟨gb905, 0, none⟩ = some (.int .i64 t900) := (blk_cell BK905.out 0).trans rfl
           have hcz100_1 : w90.cell? ⟨gb905, 1, none⟩ = some (.slice Ao32 t901.length co32) := (blk_cell BK905.out 1).trans rfl
           have hfz100_0 := blk_frozen BK905.out 0
           have hfz100_1 := blk_frozen BK905.out 1
           go_wp2_with (first | (go_at_call 36; (with_reducible refine (laws_eqPool.calls kj18 t914 _ _ t915 t900 _ _ t901 true _ ?side1 ?side2 ?side3 ?side4 A92.out).mono ?_); (case side1 => repeat (first | exact (Kd.R_reads' HO_920001.out).2.2 | (with_reducible refine Kd.C_alloc ?_ _) | (with_reducible refine Kd.C_drewN ?_ _) | (with_reducible refine Kd.C_drew ?_))); (case side2 => exact (Kd.R_reads' HO_920001.out).2.1); (case side3 => repeat (first | exact (Kd.R_reads' HO_906001.out).2.2 | (with_reducible refine Kd.C_alloc ?_ _) | (with_reducible refine Kd.C_drewN ?_ _) | (with_reducible refine Kd.C_drew ?_))); (case side4 => exact (Kd.R_reads' HO_906001.out).2.1); rintro e w101 ⟨rfl, hb⟩; have n0_ := Aside0.mk (Kd.R_below (by (with_reducible repeat (first | apply Kd.R_alloc | apply Kd.R_drewN | apply Kd.R_drew)); exact HO_9.out) hb); have n1_ := Aside0.mk (Kd.R_below (by (with_reducible repeat (first | apply Kd.R_alloc | apply Kd.R_drewN | apply Kd.R_drew)); exact HO_906001.out) hb); have n2_ := Aside0.mk (Kd.R_below (by (with_reducible repeat (first | apply Kd.R_alloc | apply Kd.R_drewN | apply Kd.R_drew)); exact HO_911001.out) hb); have n3_ := Aside0.mk (Kd.R_below (by (with_reducible repeat (first | apply Kd.R_alloc | apply Kd.R_drewN | apply Kd.R_drew)); exact HO_920001.out) hb); have n4_ := Aside0.mk (Kd.R_below (by (with_reducible repeat (first | apply Kd.R_alloc | apply Kd.R_drewN | apply Kd.R_drew)); exact HO924.out) hb); have n5_ := Aside0.mk (Kd.R_below (by (with_reducible repeat (first | apply Kd.R_alloc | apply Kd.R_drewN | apply Kd.R_drew)); exact HO928.out) hb); have n6_ := Aside0.mk (blk_below (g := gb890) (o := .cells #[.int .i64 a0_0, .slice A0_1 l0_1.length c0_1] 42 (0, 0)) (z29_7) hb); have n7_ := Aside0.mk (blk_below (g := gb905) (o := .cells #[.int .i64 t900, .slice Ao32 t901.length co32] 46 (0, 0)) (z29_8) hb); have n8_ := Aside0.mk (blk_below (g := gb910) (o := .cells #[.int .i64 t906, .slice Ao39 t907.length co39] 46 (0, 0)) (z29_9) hb); have n9_ := Aside0.mk (blk_below (g := gb919) (o := .cells #[.int .i64 t914, .slice Ao49 t915.length co49] 46 (0, 0)) (z29_10) hb); have n10_ := Aside0.mk (below_step (z29_1) hb); clear HO_9; clear HO_906001; clear HO_911001; clear HO_920001; clear HO924; clear HO928; clear BK890; clear BK905; clear BK910; clear BK919; clear HB; have HO_9 := n0_; have HO_906001 := n1_; have HO_911001 := n2_; have HO_920001 := n3_; have HO924 := n4_; have HO928 := n5_; have BK890 := n6_; have BK905 := n7_; have BK910 := n8_; have BK919 := n9_; have HB := n10_; clear n0_ n1_ n2_ n3_ n4_ n5_ n6_ n7_ n8_ n9_ n10_; (try clear hb); (try clear hb2); (try clear hk); (try clear hi)))
           go_meet
           case rel => exact ⟨_, ((t918 != t904)), (z29_11), H', ⟨by have := HJ18.out; first | omega | exact Nat.le_refl _⟩, ⟨by (with_reducible repeat (first | apply Kd.R_alloc | apply Kd.R_drewN | apply Kd.R_drew)); exact Kd.R_mono HO_906001.out (fun _ hk => ⟨hk.2.1, hk.2.2.1⟩)⟩, ⟨by (with_reducible repeat (first | apply Kd.R_alloc | apply Kd.R_drewN | apply Kd.R_drew)); exact Kd.R_mono HO_911001.out (fun _ hk => ⟨hk.2.1, hk.2.2.1⟩)⟩, ⟨by (with_reducible repeat (first | apply Kd.R_alloc | apply Kd.R_drewN | apply Kd.R_drew)); exact Kd.R_mono HO_920001.out (fun _ hk => ⟨hk.2.1, hk.2.2.1⟩)⟩, ⟨by (with_reducible repeat (first | refine blk_drewN ?_ _ | refine blk_drew ?_ | refine blk_alloc ?_ _)); exact BK890.out⟩, ⟨by (with_reducible repeat (first | refine blk_drewN ?_ _ | refine blk_drew ?_ | refine blk_alloc ?_ _)); exact BK905.out⟩, ⟨by (with_reducible repeat (first | refine blk_drewN ?_ _ | refine blk_drew ?_ | refine blk_alloc ?_ _)); exact BK910.out⟩, ⟨by (with_reducible repeat (first | refine blk_drewN ?_ _ | refine blk_drew ?_ | refine blk_alloc ?_ _)); exact BK919.out⟩, ⟨by repeat (first | (with_reducible first | exact HB.out | apply below_alloc | apply pw_below_drewN | apply below_drew1 | refine below_set ?_ GE890.out | refine below_set ?_ GE905.out | refine below_set ?_ GE910.out | refine below_set ?_ GE919.out) | exact HB.out)⟩⟩
          ·replace c93 := Bool.eq_false_iff.mpr c93
           subst c93
           have H1 : (laws_FnExactPoolAll.j1 kj18 l1 t904 true a0_0 l0_1 t900 t901 t914 t915) = some r := by rw [if_neg (show ¬ (false = true) by decide)] at H; exact H
           clear H
           have H := H1
           clear H1
           have H' := Aside0.mk H
           clear H
           have hnb102 := NB919_890.out
           have hnc102 := NB890_919.out
           have hnb103 := NB919_905.out
           have hnc103 := NB905_919.out
           have hnb104 := NB919_910.out
           have hnc104 := NB910_919.out
           have hcz105_0 : w90.cell? ⟨gb919, 0, none⟩ = some (.int .i64 t914) := (blk_cell BK919.out 0).trans rfl
           have hcz105_1 : w90.cell? ⟨gb919, 1, none⟩ = some (.slice Ao49 t915.length co49) := (blk_cell BK919.out 1).trans rfl
           have hfz105_0 := blk_frozen BK919.out 0
           have hfz105_1 := blk_frozen BK919.out 1
           have hnb106 := NB905_890.out
           have hnc106 := NB890_905.out
           have hnb107 := NB905_910.out
           have hnc107 := NB910_905.out
           have hcz108_0 : w90.cell? ⟨gb905, 0, none⟩ = some (.int .i64 t900) := (blk_cell BK905.out 0).trans rfl
           have hcz108_1 : w90.cell? ⟨gb905, 1, none⟩ = some (.slice Ao32 t901.length co32) := (blk_cell BK905.out 1).trans rfl
           have hfz108_0 := blk_frozen BK905.out 0
           have hfz108_1 := blk_frozen BK905.out 1
           go_wp2_with (first | (go_at_call 36; (with_reducible refine (laws_eqPool.calls kj18 t914 _ _ t915 t900 _ _ t901 false _ ?side1 ?side2 ?side3 ?side4 A92.out).mono ?_); (case side1 => repeat (first | exact (Kd.R_reads' HO_920001.out).2.2 | (with_reducible refine Kd.C_alloc ?_ _) | (with_reducible refine Kd.C_drewN ?_ _) | (with_reducible refine Kd.C_drew ?_))); (case side2 => exact (Kd.R_reads' HO_920001.out).2.1); (case side3 => repeat (first | exact (Kd.R_reads' HO_906001.out).2.2 | (with_reducible refine Kd.C_alloc ?_ _) | (with_reducible refine Kd.C_drewN ?_ _) | (with_reducible refine Kd.C_drew ?_))); (case side4 => exact (Kd.R_reads' HO_906001.out).2.1); rintro e w109 ⟨rfl, hb⟩; have n0_ := Aside0.mk (Kd.R_below (by (with_reducible repeat (first | apply Kd.R_alloc | apply Kd.R_drewN | apply Kd.R_drew)); exact HO_9.out) hb); have n1_ := Aside0.mk (Kd.R_below (by (with_reducible repeat (first | apply Kd.R_alloc | apply Kd.R_drewN | apply Kd.R_drew)); exact HO_906001.out) hb); have n2_ := Aside0.mk (Kd.R_below (by (with_reducible repeat (first | apply Kd.R_alloc | apply Kd.R_drewN | apply Kd.R_drew)); exact HO_911001.out) hb); have n3_ := Aside0.mk (Kd.R_below (by (with_reducible repeat (first | apply Kd.R_alloc | apply Kd.R_drewN | apply Kd.R_drew)); exact HO_920001.out) hb); have n4_ := Aside0.mk (Kd.R_below (by (with_reducible repeat (first | apply Kd.R_alloc | apply Kd.R_drewN | apply Kd.R_drew)); exact HO924.out) hb); have n5_ := Aside0.mk (Kd.R_below (by (with_reducible repeat (first | apply Kd.R_alloc | apply Kd.R_drewN | apply Kd.R_drew)); exact HO928.out) hb); have n6_ := Aside0.mk (blk_below (g := gb890) (o := .cells #[.int .i64 a0_0, .slice A0_1 l0_1.length c0_1] 42 (0, 0)) (z29_7) hb); have n7_ := Aside0.mk (blk_below (g := gb905) (o := .cells #[.int .i64 t900, .slice Ao32 t901.length co32] 46 (0, 0)) (z29_8) hb); have n8_ := Aside0.mk (blk_below (g := gb910) (o := .cells #[.int .i64 t906, .slice Ao39 t907.length co39] 46 (0, 0)) (z29_9) hb); have n9_ := Aside0.mk (blk_below (g := gb919) (o := .cells #[.int .i64 t914, .slice Ao49 t915.length co49] 46 (0, 0)) (z29_10) hb); have n10_ := Aside0.mk (below_step (z29_1) hb); clear HO_9; clear HO_906001; clear HO_911001; clear HO_920001; clear HO924; clear HO928; clear BK890; clear BK905; clear BK910; clear BK919; clear HB; have HO_9 := n0_; have HO_906001 := n1_; have HO_911001 := n2_; have HO_920001 := n3_; have HO924 := n4_; have HO928 := n5_; have BK890 := n6_; have BK905 := n7_; have BK910 := n8_; have BK919 := n9_; have HB := n10_; clear n0_ n1_ n2_ n3_ n4_ n5_ n6_ n7_ n8_ n9_ n10_; (try clear hb); (try clear hb2); (try clear hk); (try clear hi)))
           go_meet
           case rel => exact ⟨_, (true), (z29_11), H', ⟨by have := HJ18.out; first | omega | exact Nat.le_refl _⟩, ⟨by (with_reducible repeat (first | apply Kd.R_alloc | apply Kd.R_drewN | apply Kd.R_drew)); exact Kd.R_mono HO_906001.out (fun _ hk => ⟨hk.2.1, hk.2.2.1⟩)⟩, ⟨by (with_reducible repeat (first | apply Kd.R_alloc | apply Kd.R_drewN | apply Kd.R_drew)); exact Kd.R_mono HO_911001.out (fun _ hk => ⟨hk.2.1, hk.2.2.1⟩)⟩, ⟨by (with_reducible repeat (first | apply Kd.R_alloc | apply Kd.R_drewN | apply Kd.R_drew)); exact Kd.R_mono HO_920001.out (fun _ hk => ⟨hk.2.1, hk.2.2.1⟩)⟩, ⟨by (with_reducible repeat (first | refine blk_drewN ?_ _ | refine blk_drew ?_ | refine blk_alloc ?_ _)); exact BK890.out⟩, ⟨by (with_reducible repeat (first | refine blk_drewN ?_ _ | refine blk_drew ?_ | refine blk_alloc ?_ _)); exact BK905.out⟩, ⟨by (with_reducible repeat (first | refine blk_drewN ?_ _ | refine blk_drew ?_ | refine blk_alloc ?_ _)); exact BK910.out⟩, ⟨by (with_reducible repeat (first | refine blk_drewN ?_ _ | refine blk_drew ?_ | refine blk_alloc ?_ _)); exact BK919.out⟩, ⟨by repeat (first | (with_reducible first | exact HB.out | apply below_alloc | apply pw_below_drewN | apply below_drew1 | refine below_set ?_ GE890.out | refine below_set ?_ GE905.out | refine below_set ?_ GE910.out | refine below_set ?_ GE919.out) | exact HB.out)⟩⟩
        case rest =>
         clear HC77
         try clear c1
         try clear c2
         try clear p2
         try clear c3
         try clear c4
         try clear c4b0
         try clear c5
         try clear c6
         try clear c7
         try clear c8
         try clear c9
         try clear c9b0
         try clear c10
         try clear c19
         try clear c25
         try clear c26
         try clear c30
         try clear c32
         try clear c34
         try clear c36
         try clear c37
         try clear c45
         try clear c46
         try clear c47
         try clear c49
         try clear c50
         try clear c51
         try clear c52
         try clear c53
         try clear c54
         try clear c56
         try clear c57
         try clear c60
         try clear c61
         try clear c62
         try clear c64
         try clear c65
         try clear c68
         try clear c71
         try clear c74
         try clear c85
         try clear c86
         try clear c87
         try clear c91
         try clear c91b0
         try clear c93
         try clear c94
         try clear c95
         try clear c96
         try clear c98
         try clear c99
         try clear c102
         try clear c103
         try clear c104
         try clear c106
         try clear c107
         try clear hcz100_0
         try clear hcz100_1
         try clear hcz105_0
         try clear hcz105_1
         try clear hcz108_0
         try clear hcz108_1
         try clear hcz11_0
         try clear hcz11_1
         try clear hcz21_0
         try clear hcz21_1
         try clear hcz23_0
         try clear hcz23_1
         try clear hcz31_0
         try clear hcz31_1
         try clear hcz33_0
         try clear hcz33_1
         try clear hcz38_0
         try clear hcz38_1
         try clear hcz41_0
         try clear hcz41_1
         try clear hcz48_0
         try clear hcz48_1
         try clear hcz55_0
         try clear hcz55_1
         try clear hcz58_0
         try clear hcz58_1
         try clear hcz63_0
         try clear hcz63_1
         try clear hcz66_0
         try clear hcz66_1
         try clear hcz6_0
         try clear hcz6_1
         try clear hcz88_0
         try clear hcz88_1
         try clear hcz97_0
         try clear hcz97_1
         try clear hfz100_0
         try clear hfz100_1
         try clear hfz105_0
         try clear hfz105_1
         try clear hfz108_0
         try clear hfz108_1
         try clear hfz11_0
         try clear hfz11_1
         try clear hfz21_0
         try clear hfz21_1
         try clear hfz23_0
         try clear hfz23_1
         try clear hfz31_0
         try clear hfz31_1
         try clear hfz33_0
         try clear hfz33_1
         try clear hfz38_0
         try clear hfz38_1
         try clear hfz41_0
         try clear hfz41_1
         try clear hfz48_0
         try clear hfz48_1
         try clear hfz55_0
         try clear hfz55_1
         try clear hfz58_0
         try clear hfz58_1
         try clear hfz63_0
         try clear hfz63_1
         try clear hfz66_0
         try clear hfz66_1
         try clear hfz6_0
         try clear hfz6_1
         try clear hfz88_0
         try clear hfz88_1
         try clear hfz97_0
         try clear hfz97_1
         try clear p2
         obtain ⟨kq, x82_76, rfl, HA, HJ76, HO_906001, HO_911001, HO_920001, BK890, BK905, BK910, BK919, HB⟩ := hcut
         have hl911001_76 := (Kd.R_reads' HO_911001.out).1
         rw [hl911001_76] at HO_911001
         (try simp only [hl911001_76])
         (try simp only [hl911001_76] at BK890)
         (try simp only [hl911001_76] at BK905)
         (try simp only [hl911001_76] at BK910)
         (try simp only [hl911001_76] at BK919)
         (try simp only [hl911001_76] at HO_906001)
         (try simp only [hl911001_76] at HO_920001)
         cases kq with
         | zero => exact absurd HA.out (by simp [laws_FnExactPoolAll.j1])
         | succ kj76 =>
          have H := HA.out
          clear HA
          simp only [laws_FnExactPoolAll.j1] at H
          by_cases c110 : x82_76 = true
          ·subst c110
           have H1 : (some false) = some r := by rw [if_pos rfl] at H; exact H
           clear H
           have H := H1
           clear H1
           exact absurd ((Option.some.inj H).trans hT) (by simp)
          ·replace c110 := Bool.eq_false_iff.mpr c110
           subst c110
           have H1 : ((laws_markPool.f kj76 t914 t915 1).bind fun bt935 => ((laws_heldPool.f kj76 t914 bt935.2 1).bind fun t937 => (if t937 < 0 then (some false) else (if t937 = bt935.1 then ((laws_toPool.f kj76 a0_0 l0_1).bind fun bt938 => ((laws_toPageS.f kj76 l1).bind fun t942 => ((impl_PoolAll.f bt938.1 bt938.2 t942).bind fun bt945 => ((laws_eqPool.f kj76 bt945.1 bt945.2.1 t900 t901).bind fun t951 => (if t951 = true then (laws_FnExactPoolAll.j2 kj76 bt935.1 (bt945.2.2 != t904) t914 bt935.2) else (laws_FnExactPoolAll.j2 kj76 bt935.1 true t914 bt935.2)))))) else (some false))))) = some r := by rw [if_neg (show ¬ (false = true) by decide)] at H; exact H
           clear H
           have H := H1
           clear H1
           replace H := Option.bind_eq_some_iff.mp H
           obtain ⟨⟨t935, t936⟩, A1110, H⟩ := H
           replace H : ((laws_heldPool.f kj76 t914 t936 1).bind fun t937 => (if t937 < 0 then (some false) else (if t937 = t935 then ((laws_toPool.f kj76 a0_0 l0_1).bind fun bt938 => ((laws_toPageS.f kj76 l1).bind fun t942 => ((impl_PoolAll.f bt938.1 bt938.2 t942).bind fun bt945 => ((laws_eqPool.f kj76 bt945.1 bt945.2.1 t900 t901).bind fun t951 => (if t951 = true then (laws_FnExactPoolAll.j2 kj76 t935 (bt945.2.2 != t904) t914 t936) else (laws_FnExactPoolAll.j2 kj76 t935 true t914 t936)))))) else (some false)))) = some r := H
           have A111 := Aside0.mk A1110
           clear A1110
           replace H := Option.bind_eq_some_iff.mp H
           obtain ⟨t937, A1120, H⟩ := H
           replace H : (if t937 < 0 then (some false) else (if t937 = t935 then ((laws_toPool.f kj76 a0_0 l0_1).bind fun bt938 => ((laws_toPageS.f kj76 l1).bind fun t942 => ((impl_PoolAll.f bt938.1 bt938.2 t942).bind fun bt945 => ((laws_eqPool.f kj76 bt945.1 bt945.2.1 t900 t901).bind fun t951 => (if t951 = true then (laws_FnExactPoolAll.j2 kj76 t935 (bt945.2.2 != t904) t914 t936) else (laws_FnExactPoolAll.j2 kj76 t935 true t914 t936)))))) else (some false))) = some r := H
           have A112 := Aside0.mk A1120
           clear A1120
           by_cases c113 : t937 < 0
           ·rw [if_pos c113] at H
            have c113b0 : decide (t937 < 0) = true := decide_eq_true c113
            clear c113
            exact absurd ((Option.some.inj H).trans hT) (by simp)
           ·rw [if_neg c113] at H
            have c113b0 : decide (t937 < 0) = false := decide_eq_false c113
            clear c113
            by_cases c114 : t937 = t935
            ·rw [if_pos c114] at H
             have c114b0 : (t937 == t935) = true := beq_iff_eq.mpr c114
             have c114b1 : (t937 != t935) = false := bne_eq_false_iff_eq.mpr c114
             clear c114
             replace H := Option.bind_eq_some_iff.mp H
             obtain ⟨⟨t938, t939⟩, A1150, H⟩ := H
             replace H : ((laws_toPageS.f kj76 l1).bind fun t942 => ((impl_PoolAll.f t938 t939 t942).bind fun bt945 => ((laws_eqPool.f kj76 bt945.1 bt945.2.1 t900 t901).bind fun t951 => (if t951 = true then (laws_FnExactPoolAll.j2 kj76 t935 (bt945.2.2 != t904) t914 t936) else (laws_FnExactPoolAll.j2 kj76 t935 true t914 t936))))) = some r := H
             have A115 := Aside0.mk A1150
             clear A1150
             replace H := Option.bind_eq_some_iff.mp H
             obtain ⟨t942, A1160, H⟩ := H
             replace H : ((impl_PoolAll.f t938 t939 t942).bind fun bt945 => ((laws_eqPool.f kj76 bt945.1 bt945.2.1 t900 t901).bind fun t951 => (if t951 = true then (laws_FnExactPoolAll.j2 kj76 t935 (bt945.2.2 != t904) t914 t936) else (laws_FnExactPoolAll.j2 kj76 t935 true t914 t936)))) = some r := H
             have A116 := Aside0.mk A1160
             clear A1160
             replace H := Option.bind_eq_some_iff.mp H
             obtain ⟨⟨t945, t946, t949⟩, A1170, H⟩ := H
             replace H : ((laws_eqPool.f kj76 t945 t946 t900 t901).bind fun t951 => (if t951 = true then (laws_FnExactPoolAll.j2 kj76 t935 (t949 != t904) t914 t936) else (laws_FnExactPoolAll.j2 kj76 t935 true t914 t936))) = some r := H
             have A117 := Aside0.mk A1170
             clear A1170
             have HC118 := Aside0.mk H
             clear H
             have hnb119 := NB919_890.out
             have hnc119 := NB890_919.out
             have hnb120 := NB919_905.out
             have hnc120 := NB905_919.out
             have hnb121 := NB919_910.out
             have hnc121 := NB910_919.out
             have hcz122_0 : wc.cell? ⟨gb919, 0, none⟩ = some (.int .i64 t914) := (blk_cell BK919.out 0).trans rfl
             have hcz122_1 : wc.cell? ⟨gb919, 1, none⟩ = some (.slice Ao49 t915.length co49) := (blk_cell BK919.out 1).trans rfl
             have hfz122_0 := blk_frozen BK919.out 0
             have hfz122_1 := blk_frozen BK919.out 1
             go_upto_region 32 with (first | ((with_reducible refine gate_callee (f := 47) rfl ?_); refine goesL_ (some 85) rfl rfl Try.func47 (by kernel_rfl) rfl #[.agg #[.int .i64 t914, .slice Ao49 t915.length co49], .int .i64 1] rfl (z29_5) ?_; (with_reducible refine (laws_markPool.calls kj76 t914 (fun k_ => some k_ = (.slice Ao49 t915.length co49 : Value).ownBlock) (.slice Ao49 t915.length co49) t915 1 t935 t936 w _ ?side1 ?side2 A111.out).mono ?_); (case side1 => repeat (first | (with_reducible first | exact HB.out | apply below_alloc | apply pw_below_drewN | apply below_drew1 | refine below_set ?_ GE890.out | refine below_set ?_ GE905.out | refine below_set ?_ GE910.out | refine below_set ?_ GE919.out) | exact HB.out)); (case side2 => exact Kd.R_tight rfl HO_920001.out); rintro e w123 ⟨rfl, hy0, hb, hkp⟩; refine ⟨_, rfl, ?_⟩; have n0_ := Aside0.mk (Kd.R_mono (ok' := fun k_ => some k_ ≠ (.slice Ao39 t931.length co39 : Value).ownBlock ∧ some k_ ≠ (.slice Ao49 t915.length co49 : Value).ownBlock) (Kd.R_keptB (HO_906001.out) hkp (fun k_ hk_ hs_ => (hk_.2) hs_)) (fun k_ hk_ => ⟨hk_.1.1, hk_.1.2⟩)); have n1_ := Aside0.mk (Kd.R_mono (ok' := fun k_ => some k_ ≠ (.slice Ao32 t901.length co32 : Value).ownBlock ∧ some k_ ≠ (.slice Ao49 t915.length co49 : Value).ownBlock) (Kd.R_keptB (HO_911001.out) hkp (fun k_ hk_ hs_ => (hk_.2) hs_)) (fun k_ hk_ => ⟨hk_.1.1, hk_.1.2⟩)); have n2_ := Aside0.mk (Kd.R_reok rfl hy0 (fun k_ e_ => HO_920001.out.1 k_ e_)); have n3_ := Aside0.mk (blk_kept (z29_7) hkp (fun hs_ => (fun e_ => (Kd.R_ne HO_920001.out BK890.out (by decide)) e_) hs_)); have n4_ := Aside0.mk (blk_kept (z29_8) hkp (fun hs_ => (fun e_ => (Kd.R_ne HO_920001.out BK905.out (by decide)) e_) hs_)); have n5_ := Aside0.mk (blk_kept (z29_9) hkp (fun hs_ => (fun e_ => (Kd.R_ne HO_920001.out BK910.out (by decide)) e_) hs_)); have n6_ := Aside0.mk (blk_kept (z29_10) hkp (fun hs_ => (fun e_ => (Kd.R_ne HO_920001.out BK919.out (by decide)) e_) hs_)); have n7_ := Aside0.mk (hb); clear HO_906001; clear HO_911001; clear HO_920001; clear BK890; clear BK905; clear BK910; clear BK919; clear HB; have HO_906001 := n0_; have HO_911001 := n1_; have HO_920001 := n2_; have BK890 := n3_; have BK905 := n4_; have BK910 := n5_; have BK919 := n6_; have HB := n7_; clear n0_ n1_ n2_ n3_ n4_ n5_ n6_ n7_; (try clear hb); (try clear hkp); (try clear hy0); have hcz124_0 : w123.cell? ⟨gb919, 0, none⟩ = some (.int .i64 t914) := (blk_cell BK919.out 0).trans rfl; have hcz124_1 : w123.cell? ⟨gb919, 1, none⟩ = some (.slice Ao49 t915.length co49) := (blk_cell BK919.out 1).trans rfl; have hfz124_0 := blk_frozen BK919.out 0; have hfz124_1 := blk_frozen BK919.out 1) | ((with_reducible refine gate_callee (f := 48) rfl ?_); refine goesL_ (some 88) rfl rfl Try.func48 (by kernel_rfl) rfl #[.agg #[.int .i64 t914, .slice Ao49 t936.length co49], .int .i64 1] rfl (by (try simp only [List.map_toArray, List.map_cons, List.map_nil]); first | done | (rw [show t936.length = t915.length from (Kd.R_reads' HO_920001.out).1.symm] <;> rfl) | rfl | (simp only [List.length_drop, List.length_take]; rfl)) ?_; (with_reducible refine (laws_heldPool.calls kj76 t914 _ _ t936 1 t937 _ ?side1 ?side2 A112.out).mono ?_); (case side1 => repeat (first | exact (Kd.R_reads' HO_920001.out).2.2 | (with_reducible refine Kd.C_alloc ?_ _) | (with_reducible refine Kd.C_drewN ?_ _) | (with_reducible refine Kd.C_drew ?_))); (case side2 => rw [show t936.length = t915.length from (Kd.R_reads' HO_920001.out).1.symm]; exact (Kd.R_reads' HO_920001.out).2.1); rintro e w125 ⟨rfl, hb⟩; refine ⟨_, rfl, ?_⟩; have n0_ := Aside0.mk (Kd.R_below (by (with_reducible repeat (first | apply Kd.R_alloc | apply Kd.R_drewN | apply Kd.R_drew)); exact HO_906001.out) hb); have n1_ := Aside0.mk (Kd.R_below (by (with_reducible repeat (first | apply Kd.R_alloc | apply Kd.R_drewN | apply Kd.R_drew)); exact HO_911001.out) hb); have n2_ := Aside0.mk (Kd.R_below (by (with_reducible repeat (first | apply Kd.R_alloc | apply Kd.R_drewN | apply Kd.R_drew)); exact HO_920001.out) hb); have n3_ := Aside0.mk (blk_below (g := gb890) (o := .cells #[.int .i64 a0_0, .slice A0_1 l0_1.length c0_1] 42 (0, 0)) (z29_7) hb); have n4_ := Aside0.mk (blk_below (g := gb905) (o := .cells #[.int .i64 t900, .slice Ao32 t901.length co32] 46 (0, 0)) (z29_8) hb); have n5_ := Aside0.mk (blk_below (g := gb910) (o := .cells #[.int .i64 t906, .slice Ao39 t931.length co39] 46 (0, 0)) (z29_9) hb); have n6_ := Aside0.mk (blk_below (g := gb919) (o := .cells #[.int .i64 t914, .slice Ao49 t915.length co49] 46 (0, 0)) (z29_10) hb); have n7_ := Aside0.mk (below_step (z29_1) hb); clear HO_906001; clear HO_911001; clear HO_920001; clear BK890; clear BK905; clear BK910; clear BK919; clear HB; have HO_906001 := n0_; have HO_911001 := n1_; have HO_920001 := n2_; have BK890 := n3_; have BK905 := n4_; have BK910 := n5_; have BK919 := n6_; have HB := n7_; clear n0_ n1_ n2_ n3_ n4_ n5_ n6_ n7_; (try clear hb); (try clear hb2); (try clear hk); (try clear hi); have hnb126 := NB890_905.out; have hnc126 := NB905_890.out; have hnb127 := NB890_910.out; have hnc127 := NB910_890.out; have hcz128_0 : w125.cell? ⟨gb890, 0, none⟩ = some (.int .i64 a0_0) := (blk_cell BK890.out 0).trans rfl; have hcz128_1 : w125.cell? ⟨gb890, 1, none⟩ = some (.slice A0_1 l0_1.length c0_1) := (blk_cell BK890.out 1).trans rfl; have hfz128_0 := blk_frozen BK890.out 0; have hfz128_1 := blk_frozen BK890.out 1) | ((with_reducible refine gate_callee (f := 34) rfl ?_); refine goesL_ (some 96) rfl rfl Try.func34 (by kernel_rfl) rfl #[.agg #[.int .i64 a0_0, .slice A0_1 l0_1.length c0_1]] rfl (z29_5) ?_; (with_reducible refine (laws_toPool.calls kj76 a0_0 _ _ l0_1 t938 t939 _ ?side1 ?side2 A115.out).mono ?_); (case side1 => repeat (first | exact (Kd.C_below HR0_1.out HB.out) | (with_reducible refine Kd.C_alloc ?_ _) | (with_reducible refine Kd.C_drewN ?_ _) | (with_reducible refine Kd.C_drew ?_))); (case side2 => exact HC0_1.out); rintro e w129 ⟨v940, rfl, ho0, hb⟩; refine ⟨_, rfl, ?_⟩; have n0_ := Aside0.mk (Kd.R_elder' (by (with_reducible repeat (first | apply Kd.R_alloc | apply Kd.R_drewN | apply Kd.R_drew)); exact HO_906001.out) (Kd.R_base ho0) hb); have n1_ := Aside0.mk (Kd.R_elder' (by (with_reducible repeat (first | apply Kd.R_alloc | apply Kd.R_drewN | apply Kd.R_drew)); exact HO_911001.out) (Kd.R_base ho0) hb); have n2_ := Aside0.mk (Kd.R_elder' (by (with_reducible repeat (first | apply Kd.R_alloc | apply Kd.R_drewN | apply Kd.R_drew)); exact HO_920001.out) (Kd.R_base ho0) hb); have n3_ := Aside0.mk (Kd.R_lower (Kd.R_new' (Kd.R_new' (Kd.R_new' ho0 (Kd.R_lt (by (with_reducible repeat (first | apply Kd.R_alloc | apply Kd.R_drewN | apply Kd.R_drew)); exact HO_906001.out))) (Kd.R_lt (by (with_reducible repeat (first | apply Kd.R_alloc | apply Kd.R_drewN | apply Kd.R_drew)); exact HO_911001.out))) (Kd.R_lt (by (with_reducible repeat (first | apply Kd.R_alloc | apply Kd.R_drewN | apply Kd.R_drew)); exact HO_920001.out))) (below_size (z29_1))); have n4_ := Aside0.mk (blk_below (g := gb890) (o := .cells #[.int .i64 a0_0, .slice A0_1 l0_1.length c0_1] 42 (0, 0)) (z29_7) hb); have n5_ := Aside0.mk (blk_below (g := gb905) (o := .cells #[.int .i64 t900, .slice Ao32 t901.length co32] 46 (0, 0)) (z29_8) hb); have n6_ := Aside0.mk (blk_below (g := gb910) (o := .cells #[.int .i64 t906, .slice Ao39 t931.length co39] 46 (0, 0)) (z29_9) hb); have n7_ := Aside0.mk (blk_below (g := gb919) (o := .cells #[.int .i64 t914, .slice Ao49 t915.length co49] 46 (0, 0)) (z29_10) hb); have n8_ := Aside0.mk (below_step (z29_1) hb); clear HO_906001; clear HO_911001; clear HO_920001; clear BK890; clear BK905; clear BK910; clear BK919; clear HB; have HO_906001 := n0_; have HO_911001 := n1_; have HO_920001 := n2_; have HO941 := n3_; have BK890 := n4_; have BK905 := n5_; have BK910 := n6_; have BK919 := n7_; have HB := n8_; clear n0_ n1_ n2_ n3_ n4_ n5_ n6_ n7_ n8_; (try clear hb); (try clear hb2); (try clear hk); (try clear hi); (try clear ho0)) | ((with_reducible refine gate_callee (f := 50) rfl ?_); refine goesL_ (some 98) rfl rfl Try.func50 (by kernel_rfl) rfl #[.slice A1 l1.length c1] rfl (z29_5) ?_; (with_reducible refine (laws_toPageS.calls kj76 _ _ l1 t942 _ ?side1 ?side2 A116.out).mono ?_); (case side1 => repeat (first | exact (Kd.C_below HR1.out HB.out) | (with_reducible refine Kd.C_alloc ?_ _) | (with_reducible refine Kd.C_drewN ?_ _) | (with_reducible refine Kd.C_drew ?_))); (case side2 => exact HC1.out); rintro e w130 ⟨v943, rfl, ho0, hb⟩; refine ⟨_, rfl, ?_⟩; have n0_ := Aside0.mk (Kd.R_elder' (by (with_reducible repeat (first | apply Kd.R_alloc | apply Kd.R_drewN | apply Kd.R_drew)); exact HO_906001.out) (Kd.R_base ho0) hb); have n1_ := Aside0.mk (Kd.R_elder' (by (with_reducible repeat (first | apply Kd.R_alloc | apply Kd.R_drewN | apply Kd.R_drew)); exact HO_911001.out) (Kd.R_base ho0) hb); have n2_ := Aside0.mk (Kd.R_elder' (by (with_reducible repeat (first | apply Kd.R_alloc | apply Kd.R_drewN | apply Kd.R_drew)); exact HO_920001.out) (Kd.R_base ho0) hb); have n3_ := Aside0.mk (Kd.R_elder' (by (with_reducible repeat (first | apply Kd.R_alloc | apply Kd.R_drewN | apply Kd.R_drew)); exact HO941.out) (Kd.R_base ho0) hb); have n4_ := Aside0.mk (Kd.R_lower (Kd.R_new' (Kd.R_new' (Kd.R_new' (Kd.R_new' ho0 (Kd.R_lt (by (with_reducible repeat (first | apply Kd.R_alloc | apply Kd.R_drewN | apply Kd.R_drew)); exact HO_906001.out))) (Kd.R_lt (by (with_reducible repeat (first | apply Kd.R_alloc | apply Kd.R_drewN | apply Kd.R_drew)); exact HO_911001.out))) (Kd.R_lt (by (with_reducible repeat (first | apply Kd.R_alloc | apply Kd.R_drewN | apply Kd.R_drew)); exact HO_920001.out))) (Kd.R_lt (by (with_reducible repeat (first | apply Kd.R_alloc | apply Kd.R_drewN | apply Kd.R_drew)); exact HO941.out))) (below_size (z29_1))); have n5_ := Aside0.mk (blk_below (g := gb890) (o := .cells #[.int .i64 a0_0, .slice A0_1 l0_1.length c0_1] 42 (0, 0)) (z29_7) hb); have n6_ := Aside0.mk (blk_below (g := gb905) (o := .cells #[.int .i64 t900, .slice Ao32 t901.length co32] 46 (0, 0)) (z29_8) hb); have n7_ := Aside0.mk (blk_below (g := gb910) (o := .cells #[.int .i64 t906, .slice Ao39 t931.length co39] 46 (0, 0)) (z29_9) hb); have n8_ := Aside0.mk (blk_below (g := gb919) (o := .cells #[.int .i64 t914, .slice Ao49 t915.length co49] 46 (0, 0)) (z29_10) hb); have n9_ := Aside0.mk (below_step (z29_1) hb); clear HO_906001; clear HO_911001; clear HO_920001; clear HO941; clear BK890; clear BK905; clear BK910; clear BK919; clear HB; have HO_906001 := n0_; have HO_911001 := n1_; have HO_920001 := n2_; have HO941 := n3_; have HO944 := n4_; have BK890 := n5_; have BK905 := n6_; have BK910 := n7_; have BK919 := n8_; have HB := n9_; clear n0_ n1_ n2_ n3_ n4_ n5_ n6_ n7_ n8_ n9_; (try clear hb); (try clear hb2); (try clear hk); (try clear hi); (try clear ho0); obtain ⟨Ao131, co131, eo131⟩ := Kd.R_slice HO941.out; subst eo131; obtain ⟨Ao132, co132, eo132⟩ := Kd.R_slice HO944.out; subst eo132) | ((with_reducible refine gate_callee (f := 45) rfl ?_); refine goesL_ (some 99) rfl rfl Try.func45 (by kernel_rfl) rfl #[.agg #[.int .i64 t938, .slice Ao131 t939.length co131], .slice Ao132 t942.length co132] rfl (z29_5) ?_; (with_reducible refine (impl_PoolAll.calls t938 _ _ t939 _ _ t942 t945 t946 t949 _ ?side1 ?side2 ?side3 ?side4 A117.out).mono ?_); (case side1 => repeat (first | exact (Kd.R_reads' HO941.out).2.2 | (with_reducible refine Kd.C_alloc ?_ _) | (with_reducible refine Kd.C_drewN ?_ _) | (with_reducible refine Kd.C_drew ?_))); (case side2 => exact (Kd.R_reads' HO941.out).2.1); (case side3 => repeat (first | exact (Kd.R_reads' HO944.out).2.2 | (with_reducible refine Kd.C_alloc ?_ _) | (with_reducible refine Kd.C_drewN ?_ _) | (with_reducible refine Kd.C_drew ?_))); (case side4 => exact (Kd.R_reads' HO944.out).2.1); rintro e w133 ⟨v947, rfl, ho0, hb⟩; refine ⟨_, rfl, ?_⟩; have n0_ := Aside0.mk (Kd.R_elder' (by (with_reducible repeat (first | apply Kd.R_alloc | apply Kd.R_drewN | apply Kd.R_drew)); exact HO_906001.out) (Kd.R_base ho0) hb); have n1_ := Aside0.mk (Kd.R_elder' (by (with_reducible repeat (first | apply Kd.R_alloc | apply Kd.R_drewN | apply Kd.R_drew)); exact HO_911001.out) (Kd.R_base ho0) hb); have n2_ := Aside0.mk (Kd.R_elder' (by (with_reducible repeat (first | apply Kd.R_alloc | apply Kd.R_drewN | apply Kd.R_drew)); exact HO_920001.out) (Kd.R_base ho0) hb); have n3_ := Aside0.mk (Kd.R_elder' (by (with_reducible repeat (first | apply Kd.R_alloc | apply Kd.R_drewN | apply Kd.R_drew)); exact HO941.out) (Kd.R_base ho0) hb); have n4_ := Aside0.mk (Kd.R_elder' (by (with_reducible repeat (first | apply Kd.R_alloc | apply Kd.R_drewN | apply Kd.R_drew)); exact HO944.out) (Kd.R_base ho0) hb); have n5_ := Aside0.mk (Kd.R_lower (Kd.R_new' (Kd.R_new' (Kd.R_new' (Kd.R_new' (Kd.R_new' ho0 (Kd.R_lt (by (with_reducible repeat (first | apply Kd.R_alloc | apply Kd.R_drewN | apply Kd.R_drew)); exact HO_906001.out))) (Kd.R_lt (by (with_reducible repeat (first | apply Kd.R_alloc | apply Kd.R_drewN | apply Kd.R_drew)); exact HO_911001.out))) (Kd.R_lt (by (with_reducible repeat (first | apply Kd.R_alloc | apply Kd.R_drewN | apply Kd.R_drew)); exact HO_920001.out))) (Kd.R_lt (by (with_reducible repeat (first | apply Kd.R_alloc | apply Kd.R_drewN | apply Kd.R_drew)); exact HO941.out))) (Kd.R_lt (by (with_reducible repeat (first | apply Kd.R_alloc | apply Kd.R_drewN | apply Kd.R_drew)); exact HO944.out))) (below_size (z29_1))); have n6_ := Aside0.mk (blk_below (g := gb890) (o := .cells #[.int .i64 a0_0, .slice A0_1 l0_1.length c0_1] 42 (0, 0)) (z29_7) hb); have n7_ := Aside0.mk (blk_below (g := gb905) (o := .cells #[.int .i64 t900, .slice Ao32 t901.length co32] 46 (0, 0)) (z29_8) hb); have n8_ := Aside0.mk (blk_below (g := gb910) (o := .cells #[.int .i64 t906, .slice Ao39 t931.length co39] 46 (0, 0)) (z29_9) hb); have n9_ := Aside0.mk (blk_below (g := gb919) (o := .cells #[.int .i64 t914, .slice Ao49 t915.length co49] 46 (0, 0)) (z29_10) hb); have n10_ := Aside0.mk (below_step (z29_1) hb); clear HO_906001; clear HO_911001; clear HO_920001; clear HO941; clear HO944; clear BK890; clear BK905; clear BK910; clear BK919; clear HB; have HO_906001 := n0_; have HO_911001 := n1_; have HO_920001 := n2_; have HO941 := n3_; have HO944 := n4_; have HO948 := n5_; have BK890 := n6_; have BK905 := n7_; have BK910 := n8_; have BK919 := n9_; have HB := n10_; clear n0_ n1_ n2_ n3_ n4_ n5_ n6_ n7_ n8_ n9_ n10_; (try clear hb); (try clear hb2); (try clear hk); (try clear hi); (try clear ho0)) | ((with_reducible refine gate_dst (N := 15) rfl ?_); refine box_event ?hg (N := 15) ?hd (cs := #[.int .i64 0, .slice none 0 0]) (t := 46) ?hr ?_; (case hd => rfl); (case hg => rfl); (case hr => first | (go_simp; done) | (go_simp; rfl)); intro gb950 hg w134 hbox hb; have n0_ := Aside0.mk (Kd.R_below (by (with_reducible repeat (first | apply Kd.R_alloc | apply Kd.R_drewN | apply Kd.R_drew)); exact HO_906001.out) hb); have n1_ := Aside0.mk (Kd.R_below (by (with_reducible repeat (first | apply Kd.R_alloc | apply Kd.R_drewN | apply Kd.R_drew)); exact HO_911001.out) hb); have n2_ := Aside0.mk (Kd.R_below (by (with_reducible repeat (first | apply Kd.R_alloc | apply Kd.R_drewN | apply Kd.R_drew)); exact HO_920001.out) hb); have n3_ := Aside0.mk (Kd.R_below (by (with_reducible repeat (first | apply Kd.R_alloc | apply Kd.R_drewN | apply Kd.R_drew)); exact HO941.out) hb); have n4_ := Aside0.mk (Kd.R_below (by (with_reducible repeat (first | apply Kd.R_alloc | apply Kd.R_drewN | apply Kd.R_drew)); exact HO944.out) hb); have n5_ := Aside0.mk (Kd.R_below (by (with_reducible repeat (first | apply Kd.R_alloc | apply Kd.R_drewN | apply Kd.R_drew)); exact HO948.out) hb); have n6_ := Aside0.mk (blk_below (g := gb890) (o := .cells #[.int .i64 a0_0, .slice A0_1 l0_1.length c0_1] 42 (0, 0)) (z29_7) hb); have n7_ := Aside0.mk (blk_below (g := gb905) (o := .cells #[.int .i64 t900, .slice Ao32 t901.length co32] 46 (0, 0)) (z29_8) hb); have n8_ := Aside0.mk (blk_below (g := gb910) (o := .cells #[.int .i64 t906, .slice Ao39 t931.length co39] 46 (0, 0)) (z29_9) hb); have n9_ := Aside0.mk (blk_below (g := gb919) (o := .cells #[.int .i64 t914, .slice Ao49 t915.length co49] 46 (0, 0)) (z29_10) hb); have n10_ := Aside0.mk (below_step (z29_1) hb); have n11_ := Aside0.mk (hbox); have n12_ := Aside0.mk ((by rw [hg]; exact (below_size (z29_1)) : w.heap.size ≤ gb950)); have n13_ := Aside0.mk ((by rw [hg]; exact (below_size (z29_1)) : w.heap.size ≤ gb950)); have n14_ := Aside0.mk ((by rw [hg]; exact Nat.ne_of_lt (blk_lt (g := gb890) (o := .cells #[.int .i64 a0_0, .slice A0_1 l0_1.length c0_1] 42 (0, 0)) (z29_7)) : gb890 ≠ gb950)); have n15_ := Aside0.mk ((by rw [hg]; exact Nat.ne_of_gt (blk_lt (g := gb890) (o := .cells #[.int .i64 a0_0, .slice A0_1 l0_1.length c0_1] 42 (0, 0)) (z29_7)) : gb950 ≠ gb890)); have n16_ := Aside0.mk ((by rw [hg]; exact Nat.ne_of_lt (blk_lt (g := gb905) (o := .cells #[.int .i64 t900, .slice Ao32 t901.length co32] 46 (0, 0)) (z29_8)) : gb905 ≠ gb950)); have n17_ := Aside0.mk ((by rw [hg]; exact Nat.ne_of_gt (blk_lt (g := gb905) (o := .cells #[.int .i64 t900, .slice Ao32 t901.length co32] 46 (0, 0)) (z29_8)) : gb950 ≠ gb905)); have n18_ := Aside0.mk ((by rw [hg]; exact Nat.ne_of_lt (blk_lt (g := gb910) (o := .cells #[.int .i64 t906, .slice Ao39 t931.length co39] 46 (0, 0)) (z29_9)) : gb910 ≠ gb950)); have n19_ := Aside0.mk ((by rw [hg]; exact Nat.ne_of_gt (blk_lt (g := gb910) (o := .cells #[.int .i64 t906, .slice Ao39 t931.length co39] 46 (0, 0)) (z29_9)) : gb950 ≠ gb910)); have n20_ := Aside0.mk ((by rw [hg]; exact Nat.ne_of_lt (blk_lt (g := gb919) (o := .cells #[.int .i64 t914, .slice Ao49 t915.length co49] 46 (0, 0)) (z29_10)) : gb919 ≠ gb950)); have n21_ := Aside0.mk ((by rw [hg]; exact Nat.ne_of_gt (blk_lt (g := gb919) (o := .cells #[.int .i64 t914, .slice Ao49 t915.length co49] 46 (0, 0)) (z29_10)) : gb950 ≠ gb919)); clear HO_906001; clear HO_911001; clear HO_920001; clear HO941; clear HO944; clear HO948; clear BK890; clear BK905; clear BK910; clear BK919; clear HB; have HO_906001 := n0_; have HO_911001 := n1_; have HO_920001 := n2_; have HO941 := n3_; have HO944 := n4_; have HO948 := n5_; have BK890 := n6_; have BK905 := n7_; have BK910 := n8_; have BK919 := n9_; have HB := n10_; have BK950 := n11_; have GW950 := n12_; have GE950 := n13_; have NB890_950 := n14_; have NB950_890 := n15_; have NB905_950 := n16_; have NB950_905 := n17_; have NB910_950 := n18_; have NB950_910 := n19_; have NB919_950 := n20_; have NB950_919 := n21_; clear n0_ n1_ n2_ n3_ n4_ n5_ n6_ n7_ n8_ n9_ n10_ n11_ n12_ n13_ n14_ n15_ n16_ n17_ n18_ n19_ n20_ n21_; clear hb hbox hg; have hnb135 := NB950_890.out; have hnc135 := NB890_950.out; have hnb136 := NB950_905.out; have hnc136 := NB905_950.out; have hnb137 := NB950_910.out; have hnc137 := NB910_950.out; have hnb138 := NB950_919.out; have hnc138 := NB919_950.out; have hcz139_0 : w134.cell? ⟨gb950, 0, none⟩ = some (.int .i64 0) := (blk_cell BK950.out 0).trans rfl; have hcz139_1 : w134.cell? ⟨gb950, 1, none⟩ = some (.slice none 0 0) := (blk_cell BK950.out 1).trans rfl; have hfz139_0 := blk_frozen BK950.out 0; have hfz139_1 := blk_frozen BK950.out 1; obtain ⟨Ao140, co140, eo140⟩ := Kd.R_slice HO948.out; subst eo140))
             (try simp only [Act.put, List.setIfInBounds_toArray, List.set_cons_zero, List.set_cons_succ])
             go_cut [110] (fun v110 wc => ∃ (kq : Nat) (x110_117 : Bool), v110 = .bool x110_117 ∧ Aside0 (laws_FnExactPoolAll.j2 kq t935 x110_117 t914 t936 = some r) ∧ Aside0 (kq ≤ kj76) ∧ Aside0 (Kd.R k25 25 wc w.heap.size (fun k_ => some k_ ≠ ((.slice Ao39 t931.length co39) : Value).ownBlock ∧ some k_ ≠ ((.slice Ao49 t915.length co49) : Value).ownBlock ∧ some k_ ≠ ((.slice Ao140 t946.length co140) : Value).ownBlock) (.slice Ao32 t901.length co32) t901) ∧ Aside0 (Kd.R k25 25 wc w.heap.size (fun k_ => some k_ ≠ ((.slice Ao32 t901.length co32) : Value).ownBlock ∧ some k_ ≠ ((.slice Ao49 t915.length co49) : Value).ownBlock ∧ some k_ ≠ ((.slice Ao140 t946.length co140) : Value).ownBlock) (.slice Ao39 t931.length co39) t931) ∧ Aside0 (Kd.R k25 25 wc w.heap.size (fun k_ => some k_ ≠ ((.slice Ao32 t901.length co32) : Value).ownBlock ∧ some k_ ≠ ((.slice Ao39 t931.length co39) : Value).ownBlock ∧ some k_ ≠ ((.slice Ao140 t946.length co140) : Value).ownBlock) (.slice Ao49 t915.length co49) t936) ∧ Aside0 (Kd.R k25 25 wc w.heap.size (fun k_ => some k_ ≠ ((.slice Ao32 t901.length co32) : Value).ownBlock ∧ some k_ ≠ ((.slice Ao39 t931.length co39) : Value).ownBlock ∧ some k_ ≠ ((.slice Ao49 t915.length co49) : Value).ownBlock) (.slice Ao140 t946.length co140) t946) ∧ Aside0 (wc.heap[gb890]? = some (.cells #[.int .i64 a0_0, (.slice A0_1 l0_1.length c0_1)] 42 (0, 0))) ∧ Aside0 (wc.heap[gb905]? = some (.cells #[.int .i64 t900, (.slice Ao32 t901.length co32)] 46 (0, 0))) ∧ Aside0 (wc.heap[gb910]? = some (.cells #[.int .i64 t906, (.slice Ao39 t931.length co39)] 46 (0, 0))) ∧ Aside0 (wc.heap[gb919]? = some (.cells #[.int .i64 t914, (.slice Ao49 t915.length co49)] 46 (0, 0))) ∧ Aside0 (wc.heap[gb950]? = some (.cells #[.int .i64 t945, (.slice Ao140 t946.length co140)] 46 (0, 0))) ∧ Aside0 (Below w.heap.size w wc))
             case first =>
              have H := HC118.out
              clear HC118
              replace H := Option.bind_eq_some_iff.mp H
              obtain ⟨t951, A1410, H⟩ := H
              replace H : (if t951 = true then (laws_FnExactPoolAll.j2 kj76 t935 (t949 != t904) t914 t936) else (laws_FnExactPoolAll.j2 kj76 t935 true t914 t936)) = some r := H
              have A141 := Aside0.mk A1410
              clear A1410
              by_cases c142 : t951 = true
              ·subst c142
               have H1 : (laws_FnExactPoolAll.j2 kj76 t935 (t949 != t904) t914 t936) = some r := by rw [if_pos rfl] at H; exact H
               clear H
               have H := H1
               clear H1
               have H' := Aside0.mk H
               clear H
               have hnb143 := NB950_890.out
               have hnc143 := NB890_950.out
               have hnb144 := NB950_905.out
               have hnc144 := NB905_950.out
               have hnb145 := NB950_910.out
               have hnc145 := NB910_950.out
               have hnb146 := NB950_919.out
               have hnc146 := NB919_950.out
               have hcz147_0 : w134.cell? ⟨gb950, 0, none⟩ = some (.int .i64 0) := (blk_cell BK950.out 0).trans rfl
               have hcz147_1 : w134.cell? ⟨gb950, 1, none⟩ = some (.slice none 0 0) := (blk_cell BK950.out 1).trans rfl
               have hfz147_0 := blk_frozen BK950.out 0
               have hfz147_1 := blk_frozen BK950.out 1
               have hnb148 := NB905_890.out
               have hnc148 := NB890_905.out
               have hnb149 := NB905_910.out
               have hnc149 := NB910_905.out
               have hnb150 := NB905_919.out
               have hnc150 := NB919_905.out
               have hcz151_0 : w134.cell? ⟨gb905, 0, none⟩ = some (.int .i64 t900) := (blk_cell BK905.out 0).trans rfl
               have hcz151_1 : w134.cell? ⟨gb905, 1, none⟩ = some (.slice Ao32 t901.length co32) := (blk_cell BK905.out 1).trans rfl
               have hfz151_0 := blk_frozen BK905.out 0
               have hfz151_1 := blk_frozen BK905.out 1
               go_wp2_with (first | ((with_reducible refine gate_callee (f := 36) rfl ?_); refine goesL_ (some 104) rfl rfl Try.func36 (by kernel_rfl) rfl #[.agg #[.int .i64 t945, .slice Ao140 t946.length co140], .agg #[.int .i64 t900, .slice Ao32 t901.length co32]] rfl (z29_5) ?_; (with_reducible refine (laws_eqPool.calls kj76 t945 _ _ t946 t900 _ _ t901 true _ ?side1 ?side2 ?side3 ?side4 A141.out).mono ?_); (case side1 => refine (Kd.R_reads' (e := 25) (base := w.heap.size) (ok := fun k_ => (((((True ∧ some k_ ≠ (.slice Ao32 t901.length co32 : Value).ownBlock) ∧ some k_ ≠ (.slice Ao39 t931.length co39 : Value).ownBlock) ∧ some k_ ≠ (.slice Ao49 t915.length co49 : Value).ownBlock) ∧ some k_ ≠ (.slice Ao131 t939.length co131 : Value).ownBlock) ∧ some k_ ≠ (.slice Ao132 t942.length co132 : Value).ownBlock)) (n := t946.length) (c := co140) ?_).2.2; exact (by (with_reducible repeat (first | apply Kd.R_alloc | apply Kd.R_drewN | apply Kd.R_drew)); exact (Kd.R_mono (Kd.R_far (p := ⟨gb950, 1, none⟩) (Kd.R_far (p := ⟨gb950, 0, none⟩) (Kd.R_types HO948.out BK950.out (by decide)) (fun _ hk => hk.2) (.int .i64 t945)) (fun _ hk => hk.2) (.slice Ao140 t946.length co140)) (fun _ h_ => h_.1)))); (case side2 => exact (Kd.R_reads' HO948.out).2.1); (case side3 => refine (Kd.R_reads' (e := 25) (base := w.heap.size) (ok := fun k_ => ((((some k_ ≠ (.slice Ao39 t931.length co39 : Value).ownBlock ∧ some k_ ≠ (.slice Ao49 t915.length co49 : Value).ownBlock) ∧ some k_ ≠ (.slice Ao131 t939.length co131 : Value).ownBlock) ∧ some k_ ≠ (.slice Ao132 t942.length co132 : Value).ownBlock) ∧ some k_ ≠ (.slice Ao140 t946.length co140 : Value).ownBlock)) (n := t901.length) (c := co32) ?_).2.2; exact (by (with_reducible repeat (first | apply Kd.R_alloc | apply Kd.R_drewN | apply Kd.R_drew)); exact (Kd.R_mono (Kd.R_far (p := ⟨gb950, 1, none⟩) (Kd.R_far (p := ⟨gb950, 0, none⟩) (Kd.R_types HO_906001.out BK950.out (by decide)) (fun _ hk => hk.2) (.int .i64 t945)) (fun _ hk => hk.2) (.slice Ao140 t946.length co140)) (fun _ h_ => h_.1)))); (case side4 => exact (Kd.R_reads' HO_906001.out).2.1); rintro e w152 ⟨rfl, hb⟩; refine ⟨_, rfl, ?_⟩; have n0_ := Aside0.mk (Kd.R_below (by (with_reducible repeat (first | apply Kd.R_alloc | apply Kd.R_drewN | apply Kd.R_drew)); exact (Kd.R_mono (Kd.R_far (p := ⟨gb950, 1, none⟩) (Kd.R_far (p := ⟨gb950, 0, none⟩) (Kd.R_types HO_906001.out BK950.out (by decide)) (fun _ hk => hk.2) (.int .i64 t945)) (fun _ hk => hk.2) (.slice Ao140 t946.length co140)) (fun _ h_ => h_.1))) hb); have n1_ := Aside0.mk (Kd.R_below (by (with_reducible repeat (first | apply Kd.R_alloc | apply Kd.R_drewN | apply Kd.R_drew)); exact (Kd.R_mono (Kd.R_far (p := ⟨gb950, 1, none⟩) (Kd.R_far (p := ⟨gb950, 0, none⟩) (Kd.R_types HO_911001.out BK950.out (by decide)) (fun _ hk => hk.2) (.int .i64 t945)) (fun _ hk => hk.2) (.slice Ao140 t946.length co140)) (fun _ h_ => h_.1))) hb); have n2_ := Aside0.mk (Kd.R_below (by (with_reducible repeat (first | apply Kd.R_alloc | apply Kd.R_drewN | apply Kd.R_drew)); exact (Kd.R_mono (Kd.R_far (p := ⟨gb950, 1, none⟩) (Kd.R_far (p := ⟨gb950, 0, none⟩) (Kd.R_types HO_920001.out BK950.out (by decide)) (fun _ hk => hk.2) (.int .i64 t945)) (fun _ hk => hk.2) (.slice Ao140 t946.length co140)) (fun _ h_ => h_.1))) hb); have n3_ := Aside0.mk (Kd.R_below (by (with_reducible repeat (first | apply Kd.R_alloc | apply Kd.R_drewN | apply Kd.R_drew)); exact (Kd.R_mono (Kd.R_far (p := ⟨gb950, 1, none⟩) (Kd.R_far (p := ⟨gb950, 0, none⟩) (Kd.R_types HO941.out BK950.out (by decide)) (fun _ hk => hk.2) (.int .i64 t945)) (fun _ hk => hk.2) (.slice Ao140 t946.length co140)) (fun _ h_ => h_.1))) hb); have n4_ := Aside0.mk (Kd.R_below (by (with_reducible repeat (first | apply Kd.R_alloc | apply Kd.R_drewN | apply Kd.R_drew)); exact (Kd.R_mono (Kd.R_far (p := ⟨gb950, 1, none⟩) (Kd.R_far (p := ⟨gb950, 0, none⟩) (Kd.R_types HO944.out BK950.out (by decide)) (fun _ hk => hk.2) (.int .i64 t945)) (fun _ hk => hk.2) (.slice Ao140 t946.length co140)) (fun _ h_ => h_.1))) hb); have n5_ := Aside0.mk (Kd.R_below (by (with_reducible repeat (first | apply Kd.R_alloc | apply Kd.R_drewN | apply Kd.R_drew)); exact (Kd.R_mono (Kd.R_far (p := ⟨gb950, 1, none⟩) (Kd.R_far (p := ⟨gb950, 0, none⟩) (Kd.R_types HO948.out BK950.out (by decide)) (fun _ hk => hk.2) (.int .i64 t945)) (fun _ hk => hk.2) (.slice Ao140 t946.length co140)) (fun _ h_ => h_.1))) hb); have n6_ := Aside0.mk (blk_below (g := gb890) (o := .cells #[.int .i64 a0_0, .slice A0_1 l0_1.length c0_1] 42 (0, 0)) (by (with_reducible repeat (first | refine blk_drewN ?_ _ | refine blk_drew ?_ | refine blk_alloc ?_ _)); refine blk_far ?_ NB890_950.out _; (with_reducible repeat (first | refine blk_drewN ?_ _ | refine blk_drew ?_ | refine blk_alloc ?_ _)); refine blk_far ?_ NB890_950.out _; (with_reducible repeat (first | refine blk_drewN ?_ _ | refine blk_drew ?_ | refine blk_alloc ?_ _)); exact BK890.out) hb); have n7_ := Aside0.mk (blk_below (g := gb905) (o := .cells #[.int .i64 t900, .slice Ao32 t901.length co32] 46 (0, 0)) (by (with_reducible repeat (first | refine blk_drewN ?_ _ | refine blk_drew ?_ | refine blk_alloc ?_ _)); refine blk_far ?_ NB905_950.out _; (with_reducible repeat (first | refine blk_drewN ?_ _ | refine blk_drew ?_ | refine blk_alloc ?_ _)); refine blk_far ?_ NB905_950.out _; (with_reducible repeat (first | refine blk_drewN ?_ _ | refine blk_drew ?_ | refine blk_alloc ?_ _)); exact BK905.out) hb); have n8_ := Aside0.mk (blk_below (g := gb910) (o := .cells #[.int .i64 t906, .slice Ao39 t931.length co39] 46 (0, 0)) (by (with_reducible repeat (first | refine blk_drewN ?_ _ | refine blk_drew ?_ | refine blk_alloc ?_ _)); refine blk_far ?_ NB910_950.out _; (with_reducible repeat (first | refine blk_drewN ?_ _ | refine blk_drew ?_ | refine blk_alloc ?_ _)); refine blk_far ?_ NB910_950.out _; (with_reducible repeat (first | refine blk_drewN ?_ _ | refine blk_drew ?_ | refine blk_alloc ?_ _)); exact BK910.out) hb); have n9_ := Aside0.mk (blk_below (g := gb919) (o := .cells #[.int .i64 t914, .slice Ao49 t915.length co49] 46 (0, 0)) (by (with_reducible repeat (first | refine blk_drewN ?_ _ | refine blk_drew ?_ | refine blk_alloc ?_ _)); refine blk_far ?_ NB919_950.out _; (with_reducible repeat (first | refine blk_drewN ?_ _ | refine blk_drew ?_ | refine blk_alloc ?_ _)); refine blk_far ?_ NB919_950.out _; (with_reducible repeat (first | refine blk_drewN ?_ _ | refine blk_drew ?_ | refine blk_alloc ?_ _)); exact BK919.out) hb); have n10_ := Aside0.mk (blk_below (g := gb950) (o := .cells #[.int .i64 t945, .slice Ao140 t946.length co140] 46 (0, 0)) (by (with_reducible repeat (first | refine blk_drewN ?_ _ | refine blk_drew ?_ | refine blk_alloc ?_ _)); refine blk_put (cs := #[.int .i64 t945, .slice none 0 0]) ?_ 1 _ rfl; (with_reducible repeat (first | refine blk_drewN ?_ _ | refine blk_drew ?_ | refine blk_alloc ?_ _)); refine blk_put (cs := #[.int .i64 0, .slice none 0 0]) ?_ 0 _ rfl; (with_reducible repeat (first | refine blk_drewN ?_ _ | refine blk_drew ?_ | refine blk_alloc ?_ _)); exact BK950.out) hb); have n11_ := Aside0.mk (below_step (z29_0) hb); clear HO_906001; clear HO_911001; clear HO_920001; clear HO941; clear HO944; clear HO948; clear BK890; clear BK905; clear BK910; clear BK919; clear BK950; clear HB; have HO_906001 := n0_; have HO_911001 := n1_; have HO_920001 := n2_; have HO941 := n3_; have HO944 := n4_; have HO948 := n5_; have BK890 := n6_; have BK905 := n7_; have BK910 := n8_; have BK919 := n9_; have BK950 := n10_; have HB := n11_; clear n0_ n1_ n2_ n3_ n4_ n5_ n6_ n7_ n8_ n9_ n10_ n11_; (try clear hb); (try clear hb2); (try clear hk); (try clear hi)))
               go_meet
               case rel => exact ⟨_, ((t949 != t904)), (z29_11), H', ⟨by have := HJ18.out; have := HJ76.out; first | omega | exact Nat.le_refl _⟩, ⟨by (try simp only [hl911001_76]); (with_reducible repeat (first | apply Kd.R_alloc | apply Kd.R_drewN | apply Kd.R_drew)); exact Kd.R_mono HO_906001.out (fun _ hk => ⟨hk.1.1.1.1, ⟨hk.1.1.1.2, hk.2⟩⟩)⟩, ⟨by (try simp only [hl911001_76]); (with_reducible repeat (first | apply Kd.R_alloc | apply Kd.R_drewN | apply Kd.R_drew)); exact Kd.R_mono HO_911001.out (fun _ hk => ⟨hk.1.1.1.1, ⟨hk.1.1.1.2, hk.2⟩⟩)⟩, ⟨by (try simp only [hl911001_76]); (with_reducible repeat (first | apply Kd.R_alloc | apply Kd.R_drewN | apply Kd.R_drew)); exact Kd.R_mono HO_920001.out (fun _ hk => ⟨hk.1.1.1.1, ⟨hk.1.1.1.2, hk.2⟩⟩)⟩, ⟨by (try simp only [hl911001_76]); (with_reducible repeat (first | apply Kd.R_alloc | apply Kd.R_drewN | apply Kd.R_drew)); exact Kd.R_mono HO948.out (fun _ hk => ⟨hk.1.1.1.1.2, ⟨hk.1.1.1.2, hk.1.1.2⟩⟩)⟩, ⟨by (try simp only [hl911001_76]); (with_reducible repeat (first | refine blk_drewN ?_ _ | refine blk_drew ?_ | refine blk_alloc ?_ _)); exact BK890.out⟩, ⟨by (try simp only [hl911001_76]); (with_reducible repeat (first | refine blk_drewN ?_ _ | refine blk_drew ?_ | refine blk_alloc ?_ _)); exact BK905.out⟩, ⟨by (try simp only [hl911001_76]); (with_reducible repeat (first | refine blk_drewN ?_ _ | refine blk_drew ?_ | refine blk_alloc ?_ _)); exact BK910.out⟩, ⟨by (try simp only [hl911001_76]); (with_reducible repeat (first | refine blk_drewN ?_ _ | refine blk_drew ?_ | refine blk_alloc ?_ _)); exact BK919.out⟩, ⟨by (try simp only [hl911001_76]); (with_reducible repeat (first | refine blk_drewN ?_ _ | refine blk_drew ?_ | refine blk_alloc ?_ _)); exact BK950.out⟩, ⟨by repeat (first | (with_reducible first | exact HB.out | apply below_alloc | apply pw_below_drewN | apply below_drew1 | refine below_set ?_ GE890.out | refine below_set ?_ GE905.out | refine below_set ?_ GE910.out | refine below_set ?_ GE919.out | refine below_set ?_ GE950.out) | exact HB.out)⟩⟩
              ·replace c142 := Bool.eq_false_iff.mpr c142
               subst c142
               have H1 : (laws_FnExactPoolAll.j2 kj76 t935 true t914 t936) = some r := by rw [if_neg (show ¬ (false = true) by decide)] at H; exact H
               clear H
               have H := H1
               clear H1
               have H' := Aside0.mk H
               clear H
               have hnb153 := NB950_890.out
               have hnc153 := NB890_950.out
               have hnb154 := NB950_905.out
               have hnc154 := NB905_950.out
               have hnb155 := NB950_910.out
               have hnc155 := NB910_950.out
               have hnb156 := NB950_919.out
               have hnc156 := NB919_950.out
               have hcz157_0 : w134.cell? ⟨gb950, 0, none⟩ = some (.int .i64 0) := (blk_cell BK950.out 0).trans rfl
               have hcz157_1 : w134.cell? ⟨gb950, 1, none⟩ = some (.slice none 0 0) := (blk_cell BK950.out 1).trans rfl
               have hfz157_0 := blk_frozen BK950.out 0
               have hfz157_1 := blk_frozen BK950.out 1
               have hnb158 := NB905_890.out
               have hnc158 := NB890_905.out
               have hnb159 := NB905_910.out
               have hnc159 := NB910_905.out
               have hnb160 := NB905_919.out
               have hnc160 := NB919_905.out
               have hcz161_0 : w134.cell? ⟨gb905, 0, none⟩ = some (.int .i64 t900) := (blk_cell BK905.out 0).trans rfl
               have hcz161_1 : w134.cell? ⟨gb905, 1, none⟩ = some (.slice Ao32 t901.length co32) := (blk_cell BK905.out 1).trans rfl
               have hfz161_0 := blk_frozen BK905.out 0
               have hfz161_1 := blk_frozen BK905.out 1
               go_wp2_with (first | ((with_reducible refine gate_callee (f := 36) rfl ?_); refine goesL_ (some 104) rfl rfl Try.func36 (by kernel_rfl) rfl #[.agg #[.int .i64 t945, .slice Ao140 t946.length co140], .agg #[.int .i64 t900, .slice Ao32 t901.length co32]] rfl (z29_5) ?_; (with_reducible refine (laws_eqPool.calls kj76 t945 _ _ t946 t900 _ _ t901 false _ ?side1 ?side2 ?side3 ?side4 A141.out).mono ?_); (case side1 => refine (Kd.R_reads' (e := 25) (base := w.heap.size) (ok := fun k_ => (((((True ∧ some k_ ≠ (.slice Ao32 t901.length co32 : Value).ownBlock) ∧ some k_ ≠ (.slice Ao39 t931.length co39 : Value).ownBlock) ∧ some k_ ≠ (.slice Ao49 t915.length co49 : Value).ownBlock) ∧ some k_ ≠ (.slice Ao131 t939.length co131 : Value).ownBlock) ∧ some k_ ≠ (.slice Ao132 t942.length co132 : Value).ownBlock)) (n := t946.length) (c := co140) ?_).2.2; exact (by (with_reducible repeat (first | apply Kd.R_alloc | apply Kd.R_drewN | apply Kd.R_drew)); exact (Kd.R_mono (Kd.R_far (p := ⟨gb950, 1, none⟩) (Kd.R_far (p := ⟨gb950, 0, none⟩) (Kd.R_types HO948.out BK950.out (by decide)) (fun _ hk => hk.2) (.int .i64 t945)) (fun _ hk => hk.2) (.slice Ao140 t946.length co140)) (fun _ h_ => h_.1)))); (case side2 => exact (Kd.R_reads' HO948.out).2.1); (case side3 => refine (Kd.R_reads' (e := 25) (base := w.heap.size) (ok := fun k_ => ((((some k_ ≠ (.slice Ao39 t931.length co39 : Value).ownBlock ∧ some k_ ≠ (.slice Ao49 t915.length co49 : Value).ownBlock) ∧ some k_ ≠ (.slice Ao131 t939.length co131 : Value).ownBlock) ∧ some k_ ≠ (.slice Ao132 t942.length co132 : Value).ownBlock) ∧ some k_ ≠ (.slice Ao140 t946.length co140 : Value).ownBlock)) (n := t901.length) (c := co32) ?_).2.2; exact (by (with_reducible repeat (first | apply Kd.R_alloc | apply Kd.R_drewN | apply Kd.R_drew)); exact (Kd.R_mono (Kd.R_far (p := ⟨gb950, 1, none⟩) (Kd.R_far (p := ⟨gb950, 0, none⟩) (Kd.R_types HO_906001.out BK950.out (by decide)) (fun _ hk => hk.2) (.int .i64 t945)) (fun _ hk => hk.2) (.slice Ao140 t946.length co140)) (fun _ h_ => h_.1)))); (case side4 => exact (Kd.R_reads' HO_906001.out).2.1); rintro e w162 ⟨rfl, hb⟩; refine ⟨_, rfl, ?_⟩; have n0_ := Aside0.mk (Kd.R_below (by (with_reducible repeat (first | apply Kd.R_alloc | apply Kd.R_drewN | apply Kd.R_drew)); exact (Kd.R_mono (Kd.R_far (p := ⟨gb950, 1, none⟩) (Kd.R_far (p := ⟨gb950, 0, none⟩) (Kd.R_types HO_906001.out BK950.out (by decide)) (fun _ hk => hk.2) (.int .i64 t945)) (fun _ hk => hk.2) (.slice Ao140 t946.length co140)) (fun _ h_ => h_.1))) hb); have n1_ := Aside0.mk (Kd.R_below (by (with_reducible repeat (first | apply Kd.R_alloc | apply Kd.R_drewN | apply Kd.R_drew)); exact (Kd.R_mono (Kd.R_far (p := ⟨gb950, 1, none⟩) (Kd.R_far (p := ⟨gb950, 0, none⟩) (Kd.R_types HO_911001.out BK950.out (by decide)) (fun _ hk => hk.2) (.int .i64 t945)) (fun _ hk => hk.2) (.slice Ao140 t946.length co140)) (fun _ h_ => h_.1))) hb); have n2_ := Aside0.mk (Kd.R_below (by (with_reducible repeat (first | apply Kd.R_alloc | apply Kd.R_drewN | apply Kd.R_drew)); exact (Kd.R_mono (Kd.R_far (p := ⟨gb950, 1, none⟩) (Kd.R_far (p := ⟨gb950, 0, none⟩) (Kd.R_types HO_920001.out BK950.out (by decide)) (fun _ hk => hk.2) (.int .i64 t945)) (fun _ hk => hk.2) (.slice Ao140 t946.length co140)) (fun _ h_ => h_.1))) hb); have n3_ := Aside0.mk (Kd.R_below (by (with_reducible repeat (first | apply Kd.R_alloc | apply Kd.R_drewN | apply Kd.R_drew)); exact (Kd.R_mono (Kd.R_far (p := ⟨gb950, 1, none⟩) (Kd.R_far (p := ⟨gb950, 0, none⟩) (Kd.R_types HO941.out BK950.out (by decide)) (fun _ hk => hk.2) (.int .i64 t945)) (fun _ hk => hk.2) (.slice Ao140 t946.length co140)) (fun _ h_ => h_.1))) hb); have n4_ := Aside0.mk (Kd.R_below (by (with_reducible repeat (first | apply Kd.R_alloc | apply Kd.R_drewN | apply Kd.R_drew)); exact (Kd.R_mono (Kd.R_far (p := ⟨gb950, 1, none⟩) (Kd.R_far (p := ⟨gb950, 0, none⟩) (Kd.R_types HO944.out BK950.out (by decide)) (fun _ hk => hk.2) (.int .i64 t945)) (fun _ hk => hk.2) (.slice Ao140 t946.length co140)) (fun _ h_ => h_.1))) hb); have n5_ := Aside0.mk (Kd.R_below (by (with_reducible repeat (first | apply Kd.R_alloc | apply Kd.R_drewN | apply Kd.R_drew)); exact (Kd.R_mono (Kd.R_far (p := ⟨gb950, 1, none⟩) (Kd.R_far (p := ⟨gb950, 0, none⟩) (Kd.R_types HO948.out BK950.out (by decide)) (fun _ hk => hk.2) (.int .i64 t945)) (fun _ hk => hk.2) (.slice Ao140 t946.length co140)) (fun _ h_ => h_.1))) hb); have n6_ := Aside0.mk (blk_below (g := gb890) (o := .cells #[.int .i64 a0_0, .slice A0_1 l0_1.length c0_1] 42 (0, 0)) (by (with_reducible repeat (first | refine blk_drewN ?_ _ | refine blk_drew ?_ | refine blk_alloc ?_ _)); refine blk_far ?_ NB890_950.out _; (with_reducible repeat (first | refine blk_drewN ?_ _ | refine blk_drew ?_ | refine blk_alloc ?_ _)); refine blk_far ?_ NB890_950.out _; (with_reducible repeat (first | refine blk_drewN ?_ _ | refine blk_drew ?_ | refine blk_alloc ?_ _)); exact BK890.out) hb); have n7_ := Aside0.mk (blk_below (g := gb905) (o := .cells #[.int .i64 t900, .slice Ao32 t901.length co32] 46 (0, 0)) (by (with_reducible repeat (first | refine blk_drewN ?_ _ | refine blk_drew ?_ | refine blk_alloc ?_ _)); refine blk_far ?_ NB905_950.out _; (with_reducible repeat (first | refine blk_drewN ?_ _ | refine blk_drew ?_ | refine blk_alloc ?_ _)); refine blk_far ?_ NB905_950.out _; (with_reducible repeat (first | refine blk_drewN ?_ _ | refine blk_drew ?_ | refine blk_alloc ?_ _)); exact BK905.out) hb); have n8_ := Aside0.mk (blk_below (g := gb910) (o := .cells #[.int .i64 t906, .slice Ao39 t931.length co39] 46 (0, 0)) (by (with_reducible repeat (first | refine blk_drewN ?_ _ | refine blk_drew ?_ | refine blk_alloc ?_ _)); refine blk_far ?_ NB910_950.out _; (with_reducible repeat (first | refine blk_drewN ?_ _ | refine blk_drew ?_ | refine blk_alloc ?_ _)); refine blk_far ?_ NB910_950.out _; (with_reducible repeat (first | refine blk_drewN ?_ _ | refine blk_drew ?_ | refine blk_alloc ?_ _)); exact BK910.out) hb); have n9_ := Aside0.mk (blk_below (g := gb919) (o := .cells #[.int .i64 t914, .slice Ao49 t915.length co49] 46 (0, 0)) (by (with_reducible repeat (first | refine blk_drewN ?_ _ | refine blk_drew ?_ | refine blk_alloc ?_ _)); refine blk_far ?_ NB919_950.out _; (with_reducible repeat (first | refine blk_drewN ?_ _ | refine blk_drew ?_ | refine blk_alloc ?_ _)); refine blk_far ?_ NB919_950.out _; (with_reducible repeat (first | refine blk_drewN ?_ _ | refine blk_drew ?_ | refine blk_alloc ?_ _)); exact BK919.out) hb); have n10_ := Aside0.mk (blk_below (g := gb950) (o := .cells #[.int .i64 t945, .slice Ao140 t946.length co140] 46 (0, 0)) (by (with_reducible repeat (first | refine blk_drewN ?_ _ | refine blk_drew ?_ | refine blk_alloc ?_ _)); refine blk_put (cs := #[.int .i64 t945, .slice none 0 0]) ?_ 1 _ rfl; (with_reducible repeat (first | refine blk_drewN ?_ _ | refine blk_drew ?_ | refine blk_alloc ?_ _)); refine blk_put (cs := #[.int .i64 0, .slice none 0 0]) ?_ 0 _ rfl; (with_reducible repeat (first | refine blk_drewN ?_ _ | refine blk_drew ?_ | refine blk_alloc ?_ _)); exact BK950.out) hb); have n11_ := Aside0.mk (below_step (z29_0) hb); clear HO_906001; clear HO_911001; clear HO_920001; clear HO941; clear HO944; clear HO948; clear BK890; clear BK905; clear BK910; clear BK919; clear BK950; clear HB; have HO_906001 := n0_; have HO_911001 := n1_; have HO_920001 := n2_; have HO941 := n3_; have HO944 := n4_; have HO948 := n5_; have BK890 := n6_; have BK905 := n7_; have BK910 := n8_; have BK919 := n9_; have BK950 := n10_; have HB := n11_; clear n0_ n1_ n2_ n3_ n4_ n5_ n6_ n7_ n8_ n9_ n10_ n11_; (try clear hb); (try clear hb2); (try clear hk); (try clear hi)))
               go_meet
               case rel => exact ⟨_, (true), (z29_11), H', ⟨by have := HJ18.out; have := HJ76.out; first | omega | exact Nat.le_refl _⟩, ⟨by (try simp only [hl911001_76]); (with_reducible repeat (first | apply Kd.R_alloc | apply Kd.R_drewN | apply Kd.R_drew)); exact Kd.R_mono HO_906001.out (fun _ hk => ⟨hk.1.1.1.1, ⟨hk.1.1.1.2, hk.2⟩⟩)⟩, ⟨by (try simp only [hl911001_76]); (with_reducible repeat (first | apply Kd.R_alloc | apply Kd.R_drewN | apply Kd.R_drew)); exact Kd.R_mono HO_911001.out (fun _ hk => ⟨hk.1.1.1.1, ⟨hk.1.1.1.2, hk.2⟩⟩)⟩, ⟨by (try simp only [hl911001_76]); (with_reducible repeat (first | apply Kd.R_alloc | apply Kd.R_drewN | apply Kd.R_drew)); exact Kd.R_mono HO_920001.out (fun _ hk => ⟨hk.1.1.1.1, ⟨hk.1.1.1.2, hk.2⟩⟩)⟩, ⟨by (try simp only [hl911001_76]); (with_reducible repeat (first | apply Kd.R_alloc | apply Kd.R_drewN | apply Kd.R_drew)); exact Kd.R_mono HO948.out (fun _ hk => ⟨hk.1.1.1.1.2, ⟨hk.1.1.1.2, hk.1.1.2⟩⟩)⟩, ⟨by (try simp only [hl911001_76]); (with_reducible repeat (first | refine blk_drewN ?_ _ | refine blk_drew ?_ | refine blk_alloc ?_ _)); exact BK890.out⟩, ⟨by (try simp only [hl911001_76]); (with_reducible repeat (first | refine blk_drewN ?_ _ | refine blk_drew ?_ | refine blk_alloc ?_ _)); exact BK905.out⟩, ⟨by (try simp only [hl911001_76]); (with_reducible repeat (first | refine blk_drewN ?_ _ | refine blk_drew ?_ | refine blk_alloc ?_ _)); exact BK910.out⟩, ⟨by (try simp only [hl911001_76]); (with_reducible repeat (first | refine blk_drewN ?_ _ | refine blk_drew ?_ | refine blk_alloc ?_ _)); exact BK919.out⟩, ⟨by (try simp only [hl911001_76]); (with_reducible repeat (first | refine blk_drewN ?_ _ | refine blk_drew ?_ | refine blk_alloc ?_ _)); exact BK950.out⟩, ⟨by repeat (first | (with_reducible first | exact HB.out | apply below_alloc | apply pw_below_drewN | apply below_drew1 | refine below_set ?_ GE890.out | refine below_set ?_ GE905.out | refine below_set ?_ GE910.out | refine below_set ?_ GE919.out | refine below_set ?_ GE950.out) | exact HB.out)⟩⟩
             case rest =>
              clear HC118
              try clear c1
              try clear c2
              try clear p2
              try clear c3
              try clear c4
              try clear c4b0
              try clear c5
              try clear c6
              try clear c7
              try clear c8
              try clear c9
              try clear c9b0
              try clear c10
              try clear c11
              try clear c12
              try clear c13
              try clear c14
              try clear c15
              try clear c16
              try clear c19
              try clear c25
              try clear c26
              try clear c30
              try clear c32
              try clear c34
              try clear c36
              try clear c37
              try clear c45
              try clear c46
              try clear c47
              try clear c48
              try clear c49
              try clear c50
              try clear c51
              try clear c52
              try clear c53
              try clear c54
              try clear c56
              try clear c57
              try clear c60
              try clear c61
              try clear c62
              try clear c64
              try clear c65
              try clear c68
              try clear c71
              try clear c74
              try clear c85
              try clear c86
              try clear c87
              try clear c91
              try clear c91b0
              try clear c93
              try clear c94
              try clear c95
              try clear c96
              try clear c98
              try clear c99
              try clear c102
              try clear c103
              try clear c104
              try clear c106
              try clear c107
              try clear c110
              try clear c113
              try clear c113b0
              try clear c114
              try clear c114b0
              try clear c114b1
              try clear c119
              try clear c120
              try clear c121
              try clear c126
              try clear c127
              try clear c135
              try clear c136
              try clear c137
              try clear c138
              try clear c142
              try clear c143
              try clear c144
              try clear c145
              try clear c146
              try clear c148
              try clear c149
              try clear c150
              try clear c153
              try clear c154
              try clear c155
              try clear c156
              try clear c158
              try clear c159
              try clear c160
              try clear hcz100_0
              try clear hcz100_1
              try clear hcz105_0
              try clear hcz105_1
              try clear hcz108_0
              try clear hcz108_1
              try clear hcz11_0
              try clear hcz11_1
              try clear hcz122_0
              try clear hcz122_1
              try clear hcz124_0
              try clear hcz124_1
              try clear hcz128_0
              try clear hcz128_1
              try clear hcz139_0
              try clear hcz139_1
              try clear hcz147_0
              try clear hcz147_1
              try clear hcz151_0
              try clear hcz151_1
              try clear hcz157_0
              try clear hcz157_1
              try clear hcz161_0
              try clear hcz161_1
              try clear hcz21_0
              try clear hcz21_1
              try clear hcz23_0
              try clear hcz23_1
              try clear hcz31_0
              try clear hcz31_1
              try clear hcz33_0
              try clear hcz33_1
              try clear hcz38_0
              try clear hcz38_1
              try clear hcz41_0
              try clear hcz41_1
              try clear hcz48_0
              try clear hcz48_1
              try clear hcz55_0
              try clear hcz55_1
              try clear hcz58_0
              try clear hcz58_1
              try clear hcz63_0
              try clear hcz63_1
              try clear hcz66_0
              try clear hcz66_1
              try clear hcz6_0
              try clear hcz6_1
              try clear hcz88_0
              try clear hcz88_1
              try clear hcz97_0
              try clear hcz97_1
              try clear hfz100_0
              try clear hfz100_1
              try clear hfz105_0
              try clear hfz105_1
              try clear hfz108_0
              try clear hfz108_1
              try clear hfz11_0
              try clear hfz11_1
              try clear hfz122_0
              try clear hfz122_1
              try clear hfz124_0
              try clear hfz124_1
              try clear hfz128_0
              try clear hfz128_1
              try clear hfz139_0
              try clear hfz139_1
              try clear hfz147_0
              try clear hfz147_1
              try clear hfz151_0
              try clear hfz151_1
              try clear hfz157_0
              try clear hfz157_1
              try clear hfz161_0
              try clear hfz161_1
              try clear hfz21_0
              try clear hfz21_1
              try clear hfz23_0
              try clear hfz23_1
              try clear hfz31_0
              try clear hfz31_1
              try clear hfz33_0
              try clear hfz33_1
              try clear hfz38_0
              try clear hfz38_1
              try clear hfz41_0
              try clear hfz41_1
              try clear hfz48_0
              try clear hfz48_1
              try clear hfz55_0
              try clear hfz55_1
              try clear hfz58_0
              try clear hfz58_1
              try clear hfz63_0
              try clear hfz63_1
              try clear hfz66_0
              try clear hfz66_1
              try clear hfz6_0
              try clear hfz6_1
              try clear hfz88_0
              try clear hfz88_1
              try clear hfz97_0
              try clear hfz97_1
              try clear p2
              obtain ⟨kq, x110_117, rfl, HA, HJ117, HO_906001, HO_911001, HO_920001, HO_951001, BK890, BK905, BK910, BK919, BK950, HB⟩ := hcut
              have hl920001_117 := (Kd.R_reads' HO_920001.out).1
              rw [hl920001_117] at HO_920001
              (try simp only [hl920001_117])
              (try simp only [hl920001_117] at BK890)
              (try simp only [hl920001_117] at BK905)
              (try simp only [hl920001_117] at BK910)
              (try simp only [hl920001_117] at BK919)
              (try simp only [hl920001_117] at BK950)
              (try simp only [hl920001_117] at HO_906001)
              (try simp only [hl920001_117] at HO_911001)
              (try simp only [hl920001_117] at HO_951001)
              cases kq with
              | zero => exact absurd HA.out (by simp [laws_FnExactPoolAll.j2])
              | succ kj117 =>
               have H := HA.out
               clear HA
               simp only [laws_FnExactPoolAll.j2] at H
               by_cases c163 : x110_117 = true
               ·subst c163
                have H1 : (some false) = some r := by rw [if_pos rfl] at H; exact H
                clear H
                have H := H1
                clear H1
                exact absurd ((Option.some.inj H).trans hT) (by simp)
               ·replace c163 := Bool.eq_false_iff.mpr c163
                subst c163
                have H1 : ((laws_heldPool.f kj117 t914 t936 1).bind fun t952 => (if t952 < 0 then (some false) else (if t952 = t935 then (some true) else (some false)))) = some r := by rw [if_neg (show ¬ (false = true) by decide)] at H; exact H
                clear H
                have H := H1
                clear H1
                replace H := Option.bind_eq_some_iff.mp H
                obtain ⟨t952, A1640, H⟩ := H
                replace H : (if t952 < 0 then (some false) else (if t952 = t935 then (some true) else (some false))) = some r := H
                have A164 := Aside0.mk A1640
                clear A1640
                by_cases c165 : t952 < 0
                ·rw [if_pos c165] at H
                 have c165b0 : decide (t952 < 0) = true := decide_eq_true c165
                 clear c165
                 exact absurd ((Option.some.inj H).trans hT) (by simp)
                ·rw [if_neg c165] at H
                 have c165b0 : decide (t952 < 0) = false := decide_eq_false c165
                 clear c165
                 by_cases c166 : t952 = t935
                 ·rw [if_pos c166] at H
                  have c166b0 : (t952 == t935) = true := beq_iff_eq.mpr c166
                  have c166b1 : (t952 != t935) = false := bne_eq_false_iff_eq.mpr c166
                  clear c166
                  obtain rfl := Option.some.inj H
                  have hnb167 := NB919_890.out
                  have hnc167 := NB890_919.out
                  have hnb168 := NB919_905.out
                  have hnc168 := NB905_919.out
                  have hnb169 := NB919_910.out
                  have hnc169 := NB910_919.out
                  have hnb170 := NB919_950.out
                  have hnc170 := NB950_919.out
                  have hcz171_0 : wc.cell? ⟨gb919, 0, none⟩ = some (.int .i64 t914) := (blk_cell BK919.out 0).trans rfl
                  have hcz171_1 : wc.cell? ⟨gb919, 1, none⟩ = some (.slice Ao49 t936.length co49) := (blk_cell BK919.out 1).trans rfl
                  have hfz171_0 := blk_frozen BK919.out 0
                  have hfz171_1 := blk_frozen BK919.out 1
                  go_wp2_with (first | ((with_reducible refine gate_callee (f := 48) rfl ?_); refine goesL_ (some 113) rfl rfl Try.func48 (by kernel_rfl) rfl #[.agg #[.int .i64 t914, .slice Ao49 t936.length co49], .int .i64 1] rfl (z29_5) ?_; (with_reducible refine (laws_heldPool.calls kj117 t914 _ _ t936 1 t952 _ ?side1 ?side2 A164.out).mono ?_); (case side1 => repeat (first | exact (Kd.R_reads' HO_920001.out).2.2 | (with_reducible refine Kd.C_alloc ?_ _) | (with_reducible refine Kd.C_drewN ?_ _) | (with_reducible refine Kd.C_drew ?_))); (case side2 => exact (Kd.R_reads' HO_920001.out).2.1); rintro e w172 ⟨rfl, hb⟩; refine ⟨_, rfl, ?_⟩; have n0_ := Aside0.mk (Kd.R_below (by (with_reducible repeat (first | apply Kd.R_alloc | apply Kd.R_drewN | apply Kd.R_drew)); exact HO_906001.out) hb); have n1_ := Aside0.mk (Kd.R_below (by (with_reducible repeat (first | apply Kd.R_alloc | apply Kd.R_drewN | apply Kd.R_drew)); exact HO_911001.out) hb); have n2_ := Aside0.mk (Kd.R_below (by (with_reducible repeat (first | apply Kd.R_alloc | apply Kd.R_drewN | apply Kd.R_drew)); exact HO_920001.out) hb); have n3_ := Aside0.mk (Kd.R_below (by (with_reducible repeat (first | apply Kd.R_alloc | apply Kd.R_drewN | apply Kd.R_drew)); exact HO_951001.out) hb); have n4_ := Aside0.mk (blk_below (g := gb890) (o := .cells #[.int .i64 a0_0, .slice A0_1 l0_1.length c0_1] 42 (0, 0)) (z29_7) hb); have n5_ := Aside0.mk (blk_below (g := gb905) (o := .cells #[.int .i64 t900, .slice Ao32 t901.length co32] 46 (0, 0)) (z29_8) hb); have n6_ := Aside0.mk (blk_below (g := gb910) (o := .cells #[.int .i64 t906, .slice Ao39 t931.length co39] 46 (0, 0)) (z29_9) hb); have n7_ := Aside0.mk (blk_below (g := gb919) (o := .cells #[.int .i64 t914, .slice Ao49 t936.length co49] 46 (0, 0)) (z29_10) hb); have n8_ := Aside0.mk (blk_below (g := gb950) (o := .cells #[.int .i64 t945, .slice Ao140 t946.length co140] 46 (0, 0)) (by (with_reducible repeat (first | refine blk_drewN ?_ _ | refine blk_drew ?_ | refine blk_alloc ?_ _)); exact BK950.out) hb); have n9_ := Aside0.mk (below_step (z29_0) hb); clear HO_906001; clear HO_911001; clear HO_920001; clear HO_951001; clear BK890; clear BK905; clear BK910; clear BK919; clear BK950; clear HB; have HO_906001 := n0_; have HO_911001 := n1_; have HO_920001 := n2_; have HO_951001 := n3_; have BK890 := n4_; have BK905 := n5_; have BK910 := n6_; have BK919 := n7_; have BK950 := n8_; have HB := n9_; clear n0_ n1_ n2_ n3_ n4_ n5_ n6_ n7_ n8_ n9_; (try clear hb); (try clear hb2); (try clear hk); (try clear hi)))
                  go_ret
                  exact ⟨by first | rfl | (simp [errW_none, errW_some] <;> rfl) | (simp [*, errW_none, errW_some] <;> rfl), by repeat (first | (with_reducible first | exact HB.out | apply below_alloc | apply pw_below_drewN | apply below_drew1 | refine below_set ?_ GE890.out | refine below_set ?_ GE905.out | refine below_set ?_ GE910.out | refine below_set ?_ GE919.out | refine below_set ?_ GE950.out) | exact HB.out)⟩
                 ·rw [if_neg c166] at H
                  have c166b0 : (t952 == t935) = false := beq_eq_false_iff_ne.mpr c166
                  have c166b1 : (t952 != t935) = true := bne_iff_ne.mpr c166
                  exact absurd ((Option.some.inj H).trans hT) (by simp)
            ·rw [if_neg c114] at H
             have c114b0 : (t937 == t935) = false := beq_eq_false_iff_ne.mpr c114
             have c114b1 : (t937 != t935) = true := bne_iff_ne.mpr c114
             exact absurd ((Option.some.inj H).trans hT) (by simp)
       ·replace c74 := Bool.eq_false_iff.mpr c74
        subst c74
        have H1 : (some false) = some r := by rw [if_neg (show ¬ (false = true) by decide)] at H; exact H
        clear H
        have H := H1
        clear H1
        exact absurd ((Option.some.inj H).trans hT) (by simp)
      ·replace c71 := Bool.eq_false_iff.mpr c71
       subst c71
       have H1 : (some false) = some r := by rw [if_neg (show ¬ (false = true) by decide)] at H; exact H
       clear H
       have H := H1
       clear H1
       exact absurd ((Option.some.inj H).trans hT) (by simp)

end Go.Proofs.Ytcobbpghipeoeaa.R
