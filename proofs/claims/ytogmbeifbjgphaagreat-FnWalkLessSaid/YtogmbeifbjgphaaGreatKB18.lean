/- The reference: an edge is taken away. -/
import Derived.Test.YtogmbeifbjgphaaGreatKB17
namespace Go.Proofs.YtogmbeifbjgphaaGreat.R
open Go.RowKit Go.Proofs.YtogmbeifbjgphaaGreatV.PrintWords Go.Proofs.YtogmbeifbjgphaaGreatV.PrintLast Go.Proofs.YtogmbeifbjgphaaGreatV.PrintMore Go.Proofs.YtogmbeifbjgphaaGreat.M
set_option linter.unusedVariables false
set_option linter.unusedSimpArgs false
attribute [local go_sem high] eqN eqE
abbrev sCut5 : List (Nat × Bool) := [(0, true), (1, true), (2, true), (3, true), (4, true), (5, true), (6, true)]
theorem sCut5_ok : schedB .any (opsOf Tryz.f101 5) sCut5 (Array.replicate (opsOf Tryz.f101 5).size false) = true := by kernel_rfl
set_option maxHeartbeats 16000000 in
set_option maxRecDepth 100000 in
theorem cut_calls (A : Option Addr) (c : Nat) (ns : List Nd) (B : Option Addr) (d : Nat) (es : List Eg) (x : Eg) (w : World) (hr : kE.C w B es.length es) (hl : es.length ≤ 1000000) :
 Calls Tryz.prog 101 #[.agg #[.slice A ns.length c, .slice B es.length d], .agg #[.int .i64 x.lab, .int .i64 x.a.lab, .int .i64 x.a.num, .int .i64 x.b.lab, .int .i64 x.b.num]] w fun e w' => ∃ B' d', e = .returned (.agg #[.slice A ns.length c, .slice B' (es.filter fun e => decide (e ≠ x)).length d']) ∧ kE.R 30 w' w.heap.size (fun _ => True) (.slice B' (es.filter fun e => decide (e ≠ x)).length d') (es.filter fun e => decide (e ≠ x)) ∧ Below w.heap.size w w' := by
 have HC := Aside0.mk hr
 have HL := Aside0.mk hl
 clear hr hl
 have Y0 := Aside0.mk (show ((((w.alloc (.cells #[.slice A ns.length c, .slice B es.length d] 26)).alloc (.cells #[.int .i64 x.lab, .int .i64 x.a.lab, .int .i64 x.a.num, .int .i64 x.b.lab, .int .i64 x.b.num] 30)).alloc (.cells #[.slice none 0 0, .slice none 0 0] 26)).alloc (.cells #[] 30)).heap[w.heap.size]? = some (.cells #[.slice A ns.length c, .slice B es.length d] 26) from blk_alloc (blk_alloc (blk_alloc (blk_new w _) _) _) _)
 have Y1 := Aside0.mk (show ((((w.alloc (.cells #[.slice A ns.length c, .slice B es.length d] 26)).alloc (.cells #[.int .i64 x.lab, .int .i64 x.a.lab, .int .i64 x.a.num, .int .i64 x.b.lab, .int .i64 x.b.num] 30)).alloc (.cells #[.slice none 0 0, .slice none 0 0] 26)).alloc (.cells #[] 30)).heap[w.heap.size + 1]? = some (.cells #[.int .i64 x.lab, .int .i64 x.a.lab, .int .i64 x.a.num, .int .i64 x.b.lab, .int .i64 x.b.num] 30) from blk_alloc (blk_alloc (by have h := blk_new (w.alloc (.cells #[.slice A ns.length c, .slice B es.length d] 26)) (.cells #[.int .i64 x.lab, .int .i64 x.a.lab, .int .i64 x.a.num, .int .i64 x.b.lab, .int .i64 x.b.num] 30); simpa using h) _) _)
 have Y2 := Aside0.mk (show ((((w.alloc (.cells #[.slice A ns.length c, .slice B es.length d] 26)).alloc (.cells #[.int .i64 x.lab, .int .i64 x.a.lab, .int .i64 x.a.num, .int .i64 x.b.lab, .int .i64 x.b.num] 30)).alloc (.cells #[.slice none 0 0, .slice none 0 0] 26)).alloc (.cells #[] 30)).heap[w.heap.size + 2]? = some (.cells #[.slice none 0 0, .slice none 0 0] 26) from blk_alloc (by have h := blk_new ((w.alloc (.cells #[.slice A ns.length c, .slice B es.length d] 26)).alloc (.cells #[.int .i64 x.lab, .int .i64 x.a.lab, .int .i64 x.a.num, .int .i64 x.b.lab, .int .i64 x.b.num] 30)) (.cells #[.slice none 0 0, .slice none 0 0] 26); simpa using h) _)
 have Y3 := Aside0.mk (show kE.R 30 ((((w.alloc (.cells #[.slice A ns.length c, .slice B es.length d] 26)).alloc (.cells #[.int .i64 x.lab, .int .i64 x.a.lab, .int .i64 x.a.num, .int .i64 x.b.lab, .int .i64 x.b.num] 30)).alloc (.cells #[.slice none 0 0, .slice none 0 0] 26)).alloc (.cells #[] 30)) (w.heap.size + 3) (fun _ => True) (.slice (some ⟨(((w.alloc (.cells #[.slice A ns.length c, .slice B es.length d] 26)).alloc (.cells #[.int .i64 x.lab, .int .i64 x.a.lab, .int .i64 x.a.num, .int .i64 x.b.lab, .int .i64 x.b.num] 30)).alloc (.cells #[.slice none 0 0, .slice none 0 0] 26)).heap.size, 0, none⟩) 0 0) [] from R_empty flatE (by simp))
 have Y4 := Aside0.mk (show Below w.heap.size w ((((w.alloc (.cells #[.slice A ns.length c, .slice B es.length d] 26)).alloc (.cells #[.int .i64 x.lab, .int .i64 x.a.lab, .int .i64 x.a.num, .int .i64 x.b.lab, .int .i64 x.b.num] 30)).alloc (.cells #[.slice none 0 0, .slice none 0 0] 26)).alloc (.cells #[] 30)) from below_alloc (below_alloc (below_alloc (below_alloc (Below.refl _ _) _) _) _) _)
 go_enter Tryz.func101, Tryz.ntmps101
 go_wp2_with (fail)
 go_loopw [5, 6] (fun s5 s6 wr => ∃ (j : Nat) (B1 : Option Addr) (c1 : Nat) (ys : List Eg), j ≤ es.length ∧ s5 = .slice B1 ys.length c1 ∧ s6 = .int .i64 (j : Int) ∧ Aside0 (ys = (es.take j).filter fun e => decide (e ≠ x)) ∧ Aside0 (kE.R 30 wr (w.heap.size + 3) (fun _ => True) (.slice B1 ys.length c1) ys) ∧ Aside0 (wr.cell? ⟨w.heap.size, 0, none⟩ = some (.slice A ns.length c)) ∧ Aside0 (wr.cell? ⟨w.heap.size, 1, none⟩ = some (.slice B es.length d)) ∧ Aside0 (wr.cell? ⟨w.heap.size + 1, 0, none⟩ = some (.int .i64 x.lab)) ∧ Aside0 (wr.cell? ⟨w.heap.size + 1, 1, none⟩ = some (.int .i64 x.a.lab)) ∧ Aside0 (wr.cell? ⟨w.heap.size + 1, 2, none⟩ = some (.int .i64 x.a.num)) ∧ Aside0 (wr.cell? ⟨w.heap.size + 1, 3, none⟩ = some (.int .i64 x.b.lab)) ∧ Aside0 (wr.cell? ⟨w.heap.size + 1, 4, none⟩ = some (.int .i64 x.b.num)) ∧ Aside0 (wr.heap[w.heap.size + 2]? = some (.cells #[.slice none 0 0, .slice none 0 0] 26 (0, 0))) ∧ Aside0 (wr.heap[w.heap.size]? = some (.cells #[.slice A ns.length c, .slice B es.length d] 26 (0, 0))) ∧ Aside0 (Below w.heap.size w wr)) (fun _ s6 _ => (es.length - intOf s6).toNat)
 case atStart => exact ⟨0, _, 0, [], Nat.zero_le _, by first | rfl | simp, rfl, ⟨by simp⟩, ⟨by simpa using Y3.out⟩, ⟨(blk_cell Y0.out 0).trans rfl⟩, ⟨(blk_cell Y0.out 1).trans rfl⟩, ⟨(blk_cell Y1.out 0).trans rfl⟩, ⟨(blk_cell Y1.out 1).trans rfl⟩, ⟨(blk_cell Y1.out 2).trans rfl⟩, ⟨(blk_cell Y1.out 3).trans rfl⟩, ⟨(blk_cell Y1.out 4).trans rfl⟩, Y2, Y0, Y4⟩
 case round =>
  obtain ⟨j, B1, c1, ys, hj, rfl, rfl, HYS, HRW, Z0, Z1, Z2, Z3, Z4, Z5, Z6, HG, HX, HB⟩ := hrel
  have g0 := Z0.out
  have g1 := Z1.out
  have x0 := Z2.out
  have x1 := Z3.out
  have x2 := Z4.out
  have x3 := Z5.out
  have x4 := Z6.out
  have hl := HL.out
  have HYL := Aside0.mk (show (ys.length + 1) * 40 ≤ 140737488355328 by
   have h1 : ys.length ≤ j := by rw [HYS.out]; exact Nat.le_trans (List.length_filter_le _ _) (by rw [List.length_take]; omega)
   omega)
  by_cases hlt : j < es.length
  ·obtain ⟨ad, e1, r0, r1, r2, r3, r4⟩ := eg_at (Kd.C_below HC.out HB.out) j hlt
   cases e1
   have HT := Aside0.mk (take_snoc hlt)
   generalize hy : eat es j = y at r0 r1 r2 r3 r4 HT
   clear hy
   by_cases hxy : y = x
   ·have hne : (!y.lab == x.lab || ((!y.a.lab == x.a.lab || !y.a.num == x.a.num) || (!y.b.lab == x.b.lab || !y.b.num == x.b.num))) = false := by
     have h := (eg_eq y x).trans (decide_eq_true hxy)
     revert h
     cases y.lab == x.lab <;> cases y.a.lab == x.a.lab <;> cases y.a.num == x.a.num <;> cases y.b.lab == x.b.lab <;> cases y.b.num == x.b.num <;> decide
    have HF := Aside0.mk (show ys = (es.take (j + 1)).filter fun e => decide (e ≠ x) by rw [HT.out, List.filter_append, HYS.out, show [y].filter (fun e => decide (e ≠ x)) = [] by simp [hxy], List.append_nil])
    clear hxy
    go_wp2_with (fail)
    have HK_ := Aside0.mk (show Reg (fun u_ => Below w.heap.size w u_ ∧ u_.cell? ⟨w.heap.size, 0, none⟩ = some (.slice A ns.length c) ∧ u_.cell? ⟨w.heap.size, 1, none⟩ = some (.slice (some ad) es.length d) ∧ u_.cell? (ad.add (j * 5)) = some (.int .i64 y.lab) ∧ u_.cell? ⟨(ad.add (j * 5)).block, (ad.add (j * 5)).off + 1, none⟩ = some (.int .i64 y.a.lab) ∧ u_.cell? ⟨(ad.add (j * 5)).block, (ad.add (j * 5)).off + 2, none⟩ = some (.int .i64 y.a.num) ∧ u_.cell? ⟨(ad.add (j * 5)).block, (ad.add (j * 5)).off + 3, none⟩ = some (.int .i64 y.b.lab) ∧ u_.cell? ⟨(ad.add (j * 5)).block, (ad.add (j * 5)).off + 4, none⟩ = some (.int .i64 y.b.num) ∧ u_.cell? ⟨w.heap.size + 1, 0, none⟩ = some (.int .i64 x.lab) ∧ u_.cell? ⟨w.heap.size + 1, 1, none⟩ = some (.int .i64 x.a.lab) ∧ u_.cell? ⟨w.heap.size + 1, 2, none⟩ = some (.int .i64 x.a.num) ∧ u_.cell? ⟨w.heap.size + 1, 3, none⟩ = some (.int .i64 x.b.lab) ∧ u_.cell? ⟨w.heap.size + 1, 4, none⟩ = some (.int .i64 x.b.num) ∧ u_.heap[w.heap.size + 2]? = some (.cells #[.slice none 0 0, .slice none 0 0] 26 (0, 0)) ∧ u_.heap[w.heap.size]? = some (.cells #[.slice A ns.length c, .slice (some ad) es.length d] 26 (0, 0)) ∧ kE.R 30 u_ (w.heap.size + 3) (fun _ => True) (.slice B1 ys.length c1) ys ∧ True) from ⟨fun _ _ hb_ ⟨q_, s0_, s1_, s2_, s3_, s4_, s5_, s6_, s7_, s8_, s9_, s10_, s11_, e0_, e1_, e2_, _⟩ => ⟨below_step q_ hb_, pw_cell_below hb_ s0_, pw_cell_below hb_ s1_, pw_cell_below hb_ s2_, pw_cell_below hb_ s3_, pw_cell_below hb_ s4_, pw_cell_below hb_ s5_, pw_cell_below hb_ s6_, pw_cell_below hb_ s7_, pw_cell_below hb_ s8_, pw_cell_below hb_ s9_, pw_cell_below hb_ s10_, pw_cell_below hb_ s11_, blk_below e0_ hb_, blk_below e1_ hb_, Kd.R_below e2_ hb_, trivial⟩⟩)
    refine region_by _ sCut5 (by kernel_rfl) sCut5_ok rfl (fun d _ _ _ _ h => by cases d <;> exact h) HK_.out ⟨HB.out, g0, g1, r0, r1, r2, r3, r4, x0, x1, x2, x3, x4, HG.out, HX.out, HRW.out, trivial⟩ ?_
    intro u hS
    clear g0 g1 r0 r1 r2 r3 r4 x0 x1 x2 x3 x4
    repeat (first | (refine h_off gt_ (by rfl) ?_; intro a_ ha_; (simp only [Act.put, pu1, pu2, pu3] at ha_); subst ha_) | (refine h_on (v := ?_) gt_ (by rfl) ?_ ?_; rotate_left; (· rintro w_ ⟨-, s0_, s1_, s2_, s3_, s4_, s5_, s6_, s7_, s8_, s9_, s10_, s11_, -, -, -, -⟩; go_simp; with_reducible rfl); intro a_ ha_; (simp only [Act.put, pu1, pu2, pu3] at ha_); subst ha_) | (refine h_offc hS gt_ (by rfl) ?_; intro a_ ha_; (simp only [Act.put, pu1, pu2, pu3] at ha_); subst ha_))
    refine h_end ?_
    clear HK_ HB HG HX HRW
    obtain ⟨hB_, g0, g1, r0, r1, r2, r3, r4, x0, x1, x2, x3, x4, hE0_, hE1_, hE2_, -⟩ := hS
    have HB := Aside0.mk hB_
    clear hB_
    have HG := Aside0.mk hE0_
    clear hE0_
    have HX := Aside0.mk hE1_
    clear hE1_
    have HRW := Aside0.mk hE2_
    clear hE2_
    go_wp2
    go_roundw
    case rel => exact ⟨j + 1, B1, c1, ys, by omega, rfl, by go_num, HF, HRW, ⟨g0⟩, ⟨g1⟩, ⟨x0⟩, ⟨x1⟩, ⟨x2⟩, ⟨x3⟩, ⟨x4⟩, HG, HX, HB⟩
    case measure => simp [intOf]; omega
   ·have hne : (!y.lab == x.lab || ((!y.a.lab == x.a.lab || !y.a.num == x.a.num) || (!y.b.lab == x.b.lab || !y.b.num == x.b.num))) = true := by
     have h := (eg_eq y x).trans (decide_eq_false hxy)
     revert h
     cases y.lab == x.lab <;> cases y.a.lab == x.a.lab <;> cases y.a.num == x.a.num <;> cases y.b.lab == x.b.lab <;> cases y.b.num == x.b.num <;> decide
    have HF := Aside0.mk (show ys ++ [y] = (es.take (j + 1)).filter fun e => decide (e ≠ x) by rw [HT.out, List.filter_append, HYS.out, show [y].filter (fun e => decide (e ≠ x)) = [y] by simp [hxy]])
    clear hxy
    go_wp2_with (fail)
    have HK_ := Aside0.mk (show Reg (fun u_ => Below w.heap.size w u_ ∧ u_.cell? ⟨w.heap.size, 0, none⟩ = some (.slice A ns.length c) ∧ u_.cell? ⟨w.heap.size, 1, none⟩ = some (.slice (some ad) es.length d) ∧ u_.cell? (ad.add (j * 5)) = some (.int .i64 y.lab) ∧ u_.cell? ⟨(ad.add (j * 5)).block, (ad.add (j * 5)).off + 1, none⟩ = some (.int .i64 y.a.lab) ∧ u_.cell? ⟨(ad.add (j * 5)).block, (ad.add (j * 5)).off + 2, none⟩ = some (.int .i64 y.a.num) ∧ u_.cell? ⟨(ad.add (j * 5)).block, (ad.add (j * 5)).off + 3, none⟩ = some (.int .i64 y.b.lab) ∧ u_.cell? ⟨(ad.add (j * 5)).block, (ad.add (j * 5)).off + 4, none⟩ = some (.int .i64 y.b.num) ∧ u_.cell? ⟨w.heap.size + 1, 0, none⟩ = some (.int .i64 x.lab) ∧ u_.cell? ⟨w.heap.size + 1, 1, none⟩ = some (.int .i64 x.a.lab) ∧ u_.cell? ⟨w.heap.size + 1, 2, none⟩ = some (.int .i64 x.a.num) ∧ u_.cell? ⟨w.heap.size + 1, 3, none⟩ = some (.int .i64 x.b.lab) ∧ u_.cell? ⟨w.heap.size + 1, 4, none⟩ = some (.int .i64 x.b.num) ∧ u_.heap[w.heap.size + 2]? = some (.cells #[.slice none 0 0, .slice none 0 0] 26 (0, 0)) ∧ u_.heap[w.heap.size]? = some (.cells #[.slice A ns.length c, .slice (some ad) es.length d] 26 (0, 0)) ∧ kE.R 30 u_ (w.heap.size + 3) (fun _ => True) (.slice B1 ys.length c1) ys ∧ True) from ⟨fun _ _ hb_ ⟨q_, s0_, s1_, s2_, s3_, s4_, s5_, s6_, s7_, s8_, s9_, s10_, s11_, e0_, e1_, e2_, _⟩ => ⟨below_step q_ hb_, pw_cell_below hb_ s0_, pw_cell_below hb_ s1_, pw_cell_below hb_ s2_, pw_cell_below hb_ s3_, pw_cell_below hb_ s4_, pw_cell_below hb_ s5_, pw_cell_below hb_ s6_, pw_cell_below hb_ s7_, pw_cell_below hb_ s8_, pw_cell_below hb_ s9_, pw_cell_below hb_ s10_, pw_cell_below hb_ s11_, blk_below e0_ hb_, blk_below e1_ hb_, Kd.R_below e2_ hb_, trivial⟩⟩)
    refine region_by _ sCut5 (by kernel_rfl) sCut5_ok rfl (fun d _ _ _ _ h => by cases d <;> exact h) HK_.out ⟨HB.out, g0, g1, r0, r1, r2, r3, r4, x0, x1, x2, x3, x4, HG.out, HX.out, HRW.out, trivial⟩ ?_
    intro u hS
    clear g0 g1 r0 r1 r2 r3 r4 x0 x1 x2 x3 x4
    repeat (first | (refine h_off gt_ (by rfl) ?_; intro a_ ha_; (simp only [Act.put, pu1, pu2, pu3] at ha_); subst ha_) | (refine h_on (v := ?_) gt_ (by rfl) ?_ ?_; rotate_left; (· rintro w_ ⟨-, s0_, s1_, s2_, s3_, s4_, s5_, s6_, s7_, s8_, s9_, s10_, s11_, -, -, -, -⟩; go_simp; with_reducible rfl); intro a_ ha_; (simp only [Act.put, pu1, pu2, pu3] at ha_); subst ha_) | (refine h_offc hS gt_ (by rfl) ?_; intro a_ ha_; (simp only [Act.put, pu1, pu2, pu3] at ha_); subst ha_))
    refine h_end ?_
    clear HK_ HB HG HX HRW
    obtain ⟨hB_, g0, g1, r0, r1, r2, r3, r4, x0, x1, x2, x3, x4, hE0_, hE1_, hE2_, -⟩ := hS
    have HB := Aside0.mk hB_
    clear hB_
    have HG := Aside0.mk hE0_
    clear hE0_
    have HX := Aside0.mk hE1_
    clear hE1_
    have HRW := Aside0.mk hE2_
    clear hE2_
    go_wp2_with (first | ((with_reducible refine gate_builtin (b := .append) rfl ?_); go_must ((refine w_append flatE (W := u.alloc (.cells #[.int .i64 y.lab, .int .i64 y.a.lab, .int .i64 y.a.num, .int .i64 y.b.lab, .int .i64 y.b.num] 30)) (base := w.heap.size + 3) (e := 30) (.agg #[(.int .i64 0), (.int .i64 0), (.int .i64 0), (.int .i64 0), (.int .i64 0)]) 40 (.slice B1 ys.length c1) ys [y] rfl rfl Tryz.underlying24 infoE rfl (by decide) (Kd.R_below HRW.out (below_alloc (Below.refl _ _) _)) (one_rowE (blk_new u _)) rfl rfl (by have := blk_lt HG.out; simp; omega) (by have := HYL.out; omega) ?_); intro B2 n2 p2 wt hn2 hp2 hr2 hg2 ho2; have HR2 := Aside0.mk hr2; have HN2 := Aside0.mk hn2; have HOK := Aside0.mk (show ∀ k, (Value.slice B1 ys.length c1).ownBlock = some k → w.heap.size + 3 ≤ k from Kd.R_base HRW.out); have HB2 := Aside0.mk ((below_alloc HB.out (.cells #[.int .i64 y.lab, .int .i64 y.a.lab, .int .i64 y.a.num, .int .i64 y.b.lab, .int .i64 y.b.num] 30)).grown hg2 (below_alloc HB.out _).size (fun k hk => by have := HOK.out k hk; omega)); have HG2 := Aside0.mk ((hg2.block _ (blk_lt (blk_alloc HG.out _)) (fun e => by have := HOK.out _ e.symm; omega)).trans (blk_alloc HG.out _)); have HX2 := Aside0.mk ((hg2.block _ (blk_lt (blk_alloc HX.out _)) (fun e => by have := HOK.out _ e.symm; omega)).trans (blk_alloc HX.out _)); have m0 : wt.cell? ⟨w.heap.size, 0, none⟩ = some (.slice A ns.length c) := cell_grown (pw_cell_below (below_alloc (Below.refl _ _) _) g0) hg2 (fun e => by have := HOK.out _ e.symm; omega); have m1 : wt.cell? ⟨w.heap.size, 1, none⟩ = some (.slice (some ad) es.length d) := cell_grown (pw_cell_below (below_alloc (Below.refl _ _) _) g1) hg2 (fun e => by have := HOK.out _ e.symm; omega); have m2 : wt.cell? ⟨w.heap.size + 1, 0, none⟩ = some (.int .i64 x.lab) := cell_grown (pw_cell_below (below_alloc (Below.refl _ _) _) x0) hg2 (fun e => by have := HOK.out _ e.symm; omega); have m3 : wt.cell? ⟨w.heap.size + 1, 1, none⟩ = some (.int .i64 x.a.lab) := cell_grown (pw_cell_below (below_alloc (Below.refl _ _) _) x1) hg2 (fun e => by have := HOK.out _ e.symm; omega); have m4 : wt.cell? ⟨w.heap.size + 1, 2, none⟩ = some (.int .i64 x.a.num) := cell_grown (pw_cell_below (below_alloc (Below.refl _ _) _) x2) hg2 (fun e => by have := HOK.out _ e.symm; omega); have m5 : wt.cell? ⟨w.heap.size + 1, 3, none⟩ = some (.int .i64 x.b.lab) := cell_grown (pw_cell_below (below_alloc (Below.refl _ _) _) x3) hg2 (fun e => by have := HOK.out _ e.symm; omega); have m6 : wt.cell? ⟨w.heap.size + 1, 4, none⟩ = some (.int .i64 x.b.num) := cell_grown (pw_cell_below (below_alloc (Below.refl _ _) _) x4) hg2 (fun e => by have := HOK.out _ e.symm; omega); clear hr2 hg2 hn2 hp2 ho2)))
    go_roundw
    case rel => exact ⟨j + 1, B2, p2, ys ++ [y], by omega, by rw [HN2.out], by go_num, HF, ⟨by have h9 := HR2.out; rw [HN2.out] at h9; exact h9⟩, ⟨m0⟩, ⟨m1⟩, ⟨m2⟩, ⟨m3⟩, ⟨m4⟩, ⟨m5⟩, ⟨m6⟩, HG2, HX2, HB2⟩
    case measure => simp [intOf]; omega
  ·obtain rfl : j = es.length := by omega
   rw [List.take_length] at HYS
   have HOK := Aside0.mk (show ∀ k, (Value.slice B1 ys.length c1).ownBlock = some k → w.heap.size + 3 ≤ k from Kd.R_base HRW.out)
   go_wp2_with (first | ((with_reducible refine gate_store (p := 31) rfl ?_); go_must ((refine wpList_plain rfl fun K_ hK_ => wp_cell w.heap.size 1 B1 ys.length c1 rfl rfl rfl ⟨_, (blk_cell HX.out 1).trans rfl⟩ (blk_frozen HX.out 1) (by kernel_rfl) (hK_ _ _ ?_)); refine named _ ?_; intro ud hud; have HX5 := Aside0.mk (show ud.heap[w.heap.size]? = some (.cells #[.slice A ns.length c, .slice B1 ys.length c1] 26 (0, 0)) by rw [hud]; exact blk_set HX.out 1 (.slice B1 ys.length c1)); have HG5 := Aside0.mk (show ud.heap[w.heap.size + 2]? = some (.cells #[.slice none 0 0, .slice none 0 0] 26 (0, 0)) by rw [hud]; exact blk_far HG.out (show w.heap.size + 2 ≠ w.heap.size by omega) _); have HR5 := Aside0.mk (show kE.R 30 ud (w.heap.size + 3) (fun _ => True) (.slice B1 ys.length c1) ys by rw [hud]; exact R_farE HRW.out (grown_setCell wr w.heap.size 1 _) (fun k hk e => by have h1 := HOK.out k hk; have := Option.some.inj e; omega)); have HB5 := Aside0.mk (show Below w.heap.size w ud by rw [hud]; exact below_set HB.out (Nat.le_refl _)); have k0 : ud.cell? ⟨w.heap.size, 0, none⟩ = some (.slice A ns.length c) := (blk_cell HX5.out 0).trans rfl; have k1 : ud.cell? ⟨w.heap.size, 1, none⟩ = some (.slice B1 ys.length c1) := (blk_cell HX5.out 1).trans rfl; clear hud)) | ((with_reducible refine gate_store (p := 4) rfl ?_); go_must ((refine wpList_plain rfl fun K_ hK_ => wp_store_row _ _ _ rfl (w.heap.size + 2) #[.slice A ns.length c, .slice B1 ys.length c1] rfl rfl _ _ HG5.out (by kernel_rfl) rfl (by simp [Value.oneCell']) (hK_ _ _ ?_)); refine named _ ?_; intro uz huz; have RZ := Aside0.mk (show uz.heap[w.heap.size + 2]? = some (.cells #[.slice A ns.length c, .slice B1 ys.length c1] 26 (0, 0)) by rw [huz]; exact setRow_heap _ _ _ _ _ _ HG5.out); have HR6 := Aside0.mk (show kE.R 30 uz (w.heap.size + 3) (fun _ => True) (.slice B1 ys.length c1) ys by rw [huz]; exact R_farE HR5.out (grown_setRow ud (w.heap.size + 2) _) (fun k hk e => by have h1 := HOK.out k hk; have := Option.some.inj e; omega)); have HB6 := Aside0.mk (show Below w.heap.size w uz by rw [huz]; exact below_setRow HB5.out (by omega) _); clear huz)))
   refine bodyPost_ret (results_cell_row rfl _ _ (w.heap.size + 2) _ #[.slice A ns.length c, .slice B1 ys.length c1] (0, 0) _ rfl RZ.out Tryz.underlying26 rfl (by kernel_rfl)) rfl ⟨B1, c1, by rw [← HYS.out], by rw [← HYS.out]; exact Kd.R_lower HR6.out (by omega), HB6.out⟩
end Go.Proofs.YtogmbeifbjgphaaGreat.R
