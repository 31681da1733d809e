/- The reference: a node is taken away, with its edges. -/
import Derived.Test.YtogmbeifbjgphaaGreatKB18
namespace Go.Proofs.YtogmbeifbjgphaaGreat.R
open Go.RowKit Go.Proofs.YtogmbeifbjgphaaGreatV.PrintWords Go.Proofs.YtogmbeifbjgphaaGreatV.PrintLast Go.Proofs.YtogmbeifbjgphaaGreatV.PrintMore Go.Proofs.YtogmbeifbjgphaaGreat.M
set_option linter.unusedVariables false
set_option linter.unusedSimpArgs false
attribute [local go_sem high] eqN eqE
theorem cell_grownA {w wr : World} {row : Option Nat} {a : Addr} {v : Value} (h : w.cell? a = some v) (hg : w.grownBy wr row) (hne : some a.block ≠ row) : wr.cell? a = some v :=
 (World.cell?_of_block (hg.block a.block (World.block_lt_of_cell? w _ h) hne)).trans h
theorem take_snocN {l : List Nd} {j : Nat} (h : j < l.length) : l.take (j + 1) = l.take j ++ [at_ l j] := by
 rw [List.take_add_one, List.getElem?_eq_getElem h, at_lt h]
 rfl
section
variable {w w2 : World} {base G : Nat} {A B A' B' : Option Addr} {c d c' d' : Nat} {ns ns' : List Nd} {es es' : List Eg}
/-- A row of the graph has grown, in place or elsewhere. -/
theorem Own.growN (h : Own w base G A c ns B d es) (hg : w.grownBy w2 (Value.slice A ns.length c).ownBlock) (hr : kN.R 28 w2 base (fun _ => True) (.slice A' ns'.length c') ns') (ho : (Value.slice A' ns'.length c').ownBlock = (Value.slice A ns.length c).ownBlock ∨ ∃ b, (Value.slice A' ns'.length c').ownBlock = some b ∧ w.heap.size ≤ b) : Own (w2.setCell ⟨G, 0, none⟩ (.slice A' ns'.length c')) base G A' c' ns' B d es := by
 have hb := h.blkN hg
 have he := R_farE h.re hg (fun k hk e => h.off k e.symm hk)
 have hgn : ∀ k, (Value.slice A' ns'.length c').ownBlock = some k → k ≠ G := fun k hk => by
  rcases ho with e | ⟨b, e, hb⟩
  ·exact h.gn k (e ▸ hk)
  ·have := blk_lt h.blk
   rw [e] at hk
   have := Option.some.inj hk
   omega
 exact ⟨by have := blk_set hb 0 (.slice A' ns'.length c'); exact this, R_farN hr (grown_setCell w2 G 0 _) (fun k hk e => hgn k hk (Option.some.inj e)), R_farE he (grown_setCell w2 G 0 _) (fun k hk e => h.ge k hk (Option.some.inj e)), off_left h.off ho (Kd.R_lt h.re), hgn, h.ge, h.gb⟩
theorem Own.growE (h : Own w base G A c ns B d es) (hg : w.grownBy w2 (Value.slice B es.length d).ownBlock) (hr : kE.R 30 w2 base (fun _ => True) (.slice B' es'.length d') es') (ho : (Value.slice B' es'.length d').ownBlock = (Value.slice B es.length d).ownBlock ∨ ∃ b, (Value.slice B' es'.length d').ownBlock = some b ∧ w.heap.size ≤ b) : Own (w2.setCell ⟨G, 1, none⟩ (.slice B' es'.length d')) base G A c ns B' d' es' := by
 have hb := h.blkE hg
 have hn := R_farN h.rn hg (fun k hk e => h.off k hk e.symm)
 have hge : ∀ k, (Value.slice B' es'.length d').ownBlock = some k → k ≠ G := fun k hk => by
  rcases ho with e | ⟨b, e, hb⟩
  ·exact h.ge k (e ▸ hk)
  ·have := blk_lt h.blk
   rw [e] at hk
   have := Option.some.inj hk
   omega
 exact ⟨by have := blk_set hb 1 (.slice B' es'.length d'); exact this, R_farN hn (grown_setCell w2 G 1 _) (fun k hk e => h.gn k hk (Option.some.inj e)), R_farE hr (grown_setCell w2 G 1 _) (fun k hk e => hge k hk (Option.some.inj e)), off_right h.off ho (Kd.R_lt h.rn), h.gn, hge, h.gb⟩
end
abbrev sOff5 : List (Nat × Bool) := [(0, true), (1, true), (2, true), (3, true), (4, true), (5, true), (6, true)]
theorem sOff5_ok : schedB .any (opsOf Tryz.f102 5) sOff5 (Array.replicate (opsOf Tryz.f102 5).size false) = true := by kernel_rfl
abbrev sOff6 : List (Nat × Bool) := [(0, true), (1, true), (2, true), (3, true), (4, true), (5, true), (6, true), (7, false), (8, false), (9, true)]
theorem sOff6_ok : schedE .any (opsOf Tryz.f102 6) 10 sOff6 (Array.replicate (opsOf Tryz.f102 6).size false) = true := by kernel_rfl
abbrev sOff10 : List (Nat × Bool) := [(0, true), (1, true), (2, true), (3, true), (4, true), (5, true), (6, true), (7, true), (8, true), (9, true), (10, true), (11, true), (12, true), (13, true), (14, true), (15, true), (16, true), (17, true)]
theorem sOff10_ok : schedB .any (opsOf Tryz.f102 10) sOff10 (Array.replicate (opsOf Tryz.f102 10).size false) = true := by kernel_rfl
abbrev sOff11 : List (Nat × Bool) := sOff6
theorem sOff11_ok : schedE .any (opsOf Tryz.f102 11) 10 sOff11 (Array.replicate (opsOf Tryz.f102 11).size false) = true := by kernel_rfl
set_option maxHeartbeats 16000000 in
set_option maxRecDepth 100000 in
theorem off_calls (A : Option Addr) (c : Nat) (ns : List Nd) (B : Option Addr) (d : Nat) (es : List Eg) (n : Nd) (w : World) (hr : GR w A c ns B d es) (hn : ns.length ≤ 1000000) (he : es.length ≤ 1000000) :
 Calls Tryz.prog 102 #[.agg #[.slice A ns.length c, .slice B es.length d], .agg #[.int .i64 n.lab, .int .i64 n.num]] w fun e w' => ∃ A' c' B' d', e = .returned (.agg #[.slice A' (ns.filter fun y => decide (y ≠ n)).length c', .slice B' (es.filter fun y => !endB n y).length d']) ∧ GR w' A' c' (ns.filter fun y => decide (y ≠ n)) B' d' (es.filter fun y => !endB n y) ∧ kN.R 28 w' w.heap.size (fun _ => True) (.slice A' (ns.filter fun y => decide (y ≠ n)).length c') (ns.filter fun y => decide (y ≠ n)) ∧ kE.R 30 w' w.heap.size (fun _ => True) (.slice B' (es.filter fun y => !endB n y).length d') (es.filter fun y => !endB n y) ∧ Below w.heap.size w w' := by
 have HC := Aside0.mk hr.cn
 have HC2 := Aside0.mk hr.ce
 have HNL := Aside0.mk hn
 have HEL := Aside0.mk he
 clear hr hn he
 have Y0 := Aside0.mk (show ((((((w.alloc (.cells #[.slice A ns.length c, .slice B es.length d] 26)).alloc (.cells #[.int .i64 n.lab, .int .i64 n.num] 28)).alloc (.cells #[.slice none 0 0, .slice none 0 0] 26)).alloc (.cells #[] 28)).alloc (.cells #[] 30)).alloc (.cells #[.slice (some ⟨w.heap.size + 1 + 1 + 1, 0, none⟩) 0 0, .slice (some ⟨w.heap.size + 1 + 1 + 1 + 1, 0, none⟩) 0 0] 26)).heap[w.heap.size]? = some (.cells #[.slice A ns.length c, .slice B es.length d] 26) from blk_alloc (blk_alloc (blk_alloc (blk_alloc (blk_alloc (blk_new w _) _) _) _) _) _)
 have Y1 := Aside0.mk (show ((((((w.alloc (.cells #[.slice A ns.length c, .slice B es.length d] 26)).alloc (.cells #[.int .i64 n.lab, .int .i64 n.num] 28)).alloc (.cells #[.slice none 0 0, .slice none 0 0] 26)).alloc (.cells #[] 28)).alloc (.cells #[] 30)).alloc (.cells #[.slice (some ⟨w.heap.size + 1 + 1 + 1, 0, none⟩) 0 0, .slice (some ⟨w.heap.size + 1 + 1 + 1 + 1, 0, none⟩) 0 0] 26)).heap[w.heap.size + 1]? = some (.cells #[.int .i64 n.lab, .int .i64 n.num] 28) from blk_alloc (blk_alloc (blk_alloc (blk_alloc (by have h := blk_new (w.alloc (.cells #[.slice A ns.length c, .slice B es.length d] 26)) (.cells #[.int .i64 n.lab, .int .i64 n.num] 28); simpa using h) _) _) _) _)
 have Y2 := Aside0.mk (show ((((((w.alloc (.cells #[.slice A ns.length c, .slice B es.length d] 26)).alloc (.cells #[.int .i64 n.lab, .int .i64 n.num] 28)).alloc (.cells #[.slice none 0 0, .slice none 0 0] 26)).alloc (.cells #[] 28)).alloc (.cells #[] 30)).alloc (.cells #[.slice (some ⟨w.heap.size + 1 + 1 + 1, 0, none⟩) 0 0, .slice (some ⟨w.heap.size + 1 + 1 + 1 + 1, 0, none⟩) 0 0] 26)).heap[w.heap.size + 2]? = some (.cells #[.slice none 0 0, .slice none 0 0] 26) from blk_alloc (blk_alloc (blk_alloc (by have h := blk_new ((w.alloc (.cells #[.slice A ns.length c, .slice B es.length d] 26)).alloc (.cells #[.int .i64 n.lab, .int .i64 n.num] 28)) (.cells #[.slice none 0 0, .slice none 0 0] 26); simpa using h) _) _) _)
 have hs3 : (((w.alloc (.cells #[.slice A ns.length c, .slice B es.length d] 26)).alloc (.cells #[.int .i64 n.lab, .int .i64 n.num] 28)).alloc (.cells #[.slice none 0 0, .slice none 0 0] 26)).heap.size = w.heap.size + 1 + 1 + 1 := by simp
 have hs4 : ((((w.alloc (.cells #[.slice A ns.length c, .slice B es.length d] 26)).alloc (.cells #[.int .i64 n.lab, .int .i64 n.num] 28)).alloc (.cells #[.slice none 0 0, .slice none 0 0] 26)).alloc (.cells #[] 28)).heap.size = w.heap.size + 1 + 1 + 1 + 1 := by simp
 have Y3 := Aside0.mk (show Own ((((((w.alloc (.cells #[.slice A ns.length c, .slice B es.length d] 26)).alloc (.cells #[.int .i64 n.lab, .int .i64 n.num] 28)).alloc (.cells #[.slice none 0 0, .slice none 0 0] 26)).alloc (.cells #[] 28)).alloc (.cells #[] 30)).alloc (.cells #[.slice (some ⟨w.heap.size + 1 + 1 + 1, 0, none⟩) 0 0, .slice (some ⟨w.heap.size + 1 + 1 + 1 + 1, 0, none⟩) 0 0] 26)) (w.heap.size + 3) (w.heap.size + 5) (some ⟨w.heap.size + 1 + 1 + 1, 0, none⟩) 0 [] (some ⟨w.heap.size + 1 + 1 + 1 + 1, 0, none⟩) 0 [] from
  ⟨by have h := blk_new (((((w.alloc (.cells #[.slice A ns.length c, .slice B es.length d] 26)).alloc (.cells #[.int .i64 n.lab, .int .i64 n.num] 28)).alloc (.cells #[.slice none 0 0, .slice none 0 0] 26)).alloc (.cells #[] 28)).alloc (.cells #[] 30)) (.cells #[.slice (some ⟨w.heap.size + 1 + 1 + 1, 0, none⟩) 0 0, .slice (some ⟨w.heap.size + 1 + 1 + 1 + 1, 0, none⟩) 0 0] 26); simpa using h, Kd.R_alloc (Kd.R_alloc (by have h := R_empty (W := (((w.alloc (.cells #[.slice A ns.length c, .slice B es.length d] 26)).alloc (.cells #[.int .i64 n.lab, .int .i64 n.num] 28)).alloc (.cells #[.slice none 0 0, .slice none 0 0] 26))) (base := w.heap.size + 3) (e := 28) flatN (by rw [hs3]; omega); rw [hs3] at h; exact h) _) _, Kd.R_alloc (by have h := R_empty (W := ((((w.alloc (.cells #[.slice A ns.length c, .slice B es.length d] 26)).alloc (.cells #[.int .i64 n.lab, .int .i64 n.num] 28)).alloc (.cells #[.slice none 0 0, .slice none 0 0] 26)).alloc (.cells #[] 28))) (base := w.heap.size + 3) (e := 30) flatE (by rw [hs4]; omega); rw [hs4] at h; exact h) _, fun k h1 h2 => by have e1 : w.heap.size + 1 + 1 + 1 = k := Option.some.inj h1; have e2 : w.heap.size + 1 + 1 + 1 + 1 = k := Option.some.inj h2; omega, fun k h1 => by have e1 : w.heap.size + 1 + 1 + 1 = k := Option.some.inj h1; omega, fun k h1 => by have e1 : w.heap.size + 1 + 1 + 1 + 1 = k := Option.some.inj h1; omega, by omega⟩)
 clear hs3 hs4
 have Y4 := Aside0.mk (show Below w.heap.size w ((((((w.alloc (.cells #[.slice A ns.length c, .slice B es.length d] 26)).alloc (.cells #[.int .i64 n.lab, .int .i64 n.num] 28)).alloc (.cells #[.slice none 0 0, .slice none 0 0] 26)).alloc (.cells #[] 28)).alloc (.cells #[] 30)).alloc (.cells #[.slice (some ⟨w.heap.size + 1 + 1 + 1, 0, none⟩) 0 0, .slice (some ⟨w.heap.size + 1 + 1 + 1 + 1, 0, none⟩) 0 0] 26)) from below_alloc (below_alloc (below_alloc (below_alloc (below_alloc (below_alloc (Below.refl _ _) _) _) _) _) _) _)
 go_enter Tryz.func102, Tryz.ntmps102
 go_wp2_with (fail)
 go_loopw [6] (fun s6 wr => ∃ (j : Nat) (B1 : Option Addr) (c1 : Nat) (ys : List Nd), j ≤ ns.length ∧ s6 = .int .i64 (j : Int) ∧ Aside0 (ys = (ns.take j).filter fun y => decide (y ≠ n)) ∧ Aside0 (Own wr (w.heap.size + 3) (w.heap.size + 5) B1 c1 ys (some ⟨w.heap.size + 4, 0, none⟩) 0 []) ∧ Aside0 (wr.cell? ⟨w.heap.size, 0, none⟩ = some (.slice A ns.length c)) ∧ Aside0 (wr.cell? ⟨w.heap.size, 1, none⟩ = some (.slice B es.length d)) ∧ Aside0 (wr.cell? ⟨w.heap.size + 1, 0, none⟩ = some (.int .i64 n.lab)) ∧ Aside0 (wr.cell? ⟨w.heap.size + 1, 1, none⟩ = some (.int .i64 n.num)) ∧ Aside0 (wr.heap[w.heap.size + 2]? = some (.cells #[.slice none 0 0, .slice none 0 0] 26 (0, 0))) ∧ Aside0 (Below w.heap.size w wr)) (fun s6 _ => (ns.length - intOf s6).toNat)
 case atStart => exact ⟨0, _, 0, [], Nat.zero_le _, rfl, ⟨by simp⟩, Y3, ⟨(blk_cell Y0.out 0).trans rfl⟩, ⟨(blk_cell Y0.out 1).trans rfl⟩, ⟨(blk_cell Y1.out 0).trans rfl⟩, ⟨(blk_cell Y1.out 1).trans rfl⟩, Y2, Y4⟩
 case round =>
  obtain ⟨j, B1, c1, ys, hj, rfl, HYS, HO, Z0, Z1, Z2, Z3, HG, HB⟩ := hrel
  have g0 := Z0.out
  have g1 := Z1.out
  have n0 := Z2.out
  have n1 := Z3.out
  have hl := HNL.out
  have HYL := Aside0.mk (show (ys.length + 1) * 16 ≤ 140737488355328 by
   have h1 : ys.length ≤ j := by rw [HYS.out]; exact Nat.le_trans (List.length_filter_le _ _) (by rw [List.length_take]; omega)
   omega)
  by_cases hlt : j < ns.length
  ·obtain ⟨ad, e1, q0, q1⟩ := nd_at HC.out j hlt
   cases e1
   have RB := Aside0.mk (World.block_lt_of_cell? w _ q0)
   have HT := Aside0.mk (take_snocN hlt)
   generalize hy : at_ ns j = y at q0 q1 HT
   clear hy
   have r0 := pw_cell_below HB.out q0
   have r1 := pw_cell_below HB.out q1
   clear q0 q1
   have hne : (!y.lab == n.lab || !y.num == n.num) = !decide (y = n) := by
    rw [← nd_eq y n]
    cases y.lab == n.lab <;> cases y.num == n.num <;> rfl
   cases hxy : decide (y = n)
   all_goals rw [hxy] at hne
   case' true => have HF := Aside0.mk (show ys = (ns.take (j + 1)).filter fun y => decide (y ≠ n) by rw [HT.out, List.filter_append, HYS.out, show [y].filter (fun y => decide (y ≠ n)) = [] by simp [of_decide_eq_true hxy], List.append_nil])
   case' false => have HF := Aside0.mk (show ys ++ [y] = (ns.take (j + 1)).filter fun y => decide (y ≠ n) by rw [HT.out, List.filter_append, HYS.out, show [y].filter (fun y => decide (y ≠ n)) = [y] by simp [of_decide_eq_false hxy]])
   all_goals
    clear hxy
    simp only [Bool.not_true, Bool.not_false] at hne
    go_wp2_with (fail)
    have HK_ := Aside0.mk (show Reg (fun u_ => Below w.heap.size w u_ ∧ u_.cell? ⟨w.heap.size, 0, none⟩ = some (.slice (some ad) ns.length c) ∧ u_.cell? ⟨w.heap.size, 1, none⟩ = some (.slice B es.length d) ∧ u_.cell? ⟨w.heap.size + 1, 0, none⟩ = some (.int .i64 n.lab) ∧ u_.cell? ⟨w.heap.size + 1, 1, none⟩ = some (.int .i64 n.num) ∧ u_.cell? (ad.add (j * 2)) = some (.int .i64 y.lab) ∧ u_.cell? ⟨(ad.add (j * 2)).block, (ad.add (j * 2)).off + 1, none⟩ = some (.int .i64 y.num) ∧ u_.heap[w.heap.size + 2]? = some (.cells #[.slice none 0 0, .slice none 0 0] 26 (0, 0)) ∧ Own u_ (w.heap.size + 3) (w.heap.size + 5) B1 c1 ys (some ⟨w.heap.size + 4, 0, none⟩) 0 [] ∧ True) from ⟨fun _ _ hb_ ⟨q_, s0_, s1_, s2_, s3_, s4_, s5_, e0_, e1_, _⟩ => ⟨below_step q_ hb_, pw_cell_below hb_ s0_, pw_cell_below hb_ s1_, pw_cell_below hb_ s2_, pw_cell_below hb_ s3_, pw_cell_below hb_ s4_, pw_cell_below hb_ s5_, blk_below e0_ hb_, Own.below e1_ hb_, trivial⟩⟩)
    refine region_by _ sOff5 (by kernel_rfl) sOff5_ok rfl (fun d _ _ _ _ h => by cases d <;> exact h) HK_.out ⟨HB.out, g0, g1, n0, n1, r0, r1, HG.out, HO.out, trivial⟩ ?_
    intro u hS
    clear g0 g1 n0 n1 r0 r1
    repeat (first | (refine h_off gt_ (by rfl) ?_; intro a_ ha_; (simp only [Act.put, pu1, pu2, pu3] at ha_); subst ha_) | (refine h_on (v := ?_) gt_ (by rfl) ?_ ?_; rotate_left; (· rintro w_ ⟨-, s0_, s1_, s2_, s3_, s4_, s5_, -, -, -⟩; go_simp; with_reducible rfl); intro a_ ha_; (simp only [Act.put, pu1, pu2, pu3] at ha_); subst ha_) | (refine h_offc hS gt_ (by rfl) ?_; intro a_ ha_; (simp only [Act.put, pu1, pu2, pu3] at ha_); subst ha_))
    refine h_end ?_
    clear HK_ HB HG HO
    obtain ⟨hB_, g0, g1, n0, n1, r0, r1, hE0_, hE1_, -⟩ := hS
    have HB := Aside0.mk hB_
    clear hB_
    have HG := Aside0.mk hE0_
    clear hE0_
    have HO := Aside0.mk hE1_
    clear hE1_
    go_wp2
   all_goals first
   | (go_roundw
      case rel => exact ⟨j + 1, B1, c1, ys, by omega, by go_num, HF, HO, ⟨g0⟩, ⟨g1⟩, ⟨n0⟩, ⟨n1⟩, HG, HB⟩
      case measure => simp [intOf]; omega)
   | skip
   have t5 := HO.out.c0
   have HK_ := Aside0.mk (show Reg (fun u_ => u_.cell? ⟨w.heap.size + 5, 0, none⟩ = some (.slice B1 ys.length c1) ∧ u_.cell? ⟨w.heap.size, 0, none⟩ = some (.slice (some ad) ns.length c) ∧ u_.cell? ⟨w.heap.size, 1, none⟩ = some (.slice B es.length d) ∧ u_.cell? ⟨w.heap.size + 1, 0, none⟩ = some (.int .i64 n.lab) ∧ u_.cell? ⟨w.heap.size + 1, 1, none⟩ = some (.int .i64 n.num) ∧ u_.cell? (ad.add (j * 2)) = some (.int .i64 y.lab) ∧ u_.cell? ⟨(ad.add (j * 2)).block, (ad.add (j * 2)).off + 1, none⟩ = some (.int .i64 y.num)) from ⟨fun _ _ hb_ ⟨s0_, s1_, s2_, s3_, s4_, s5_, s6_⟩ => ⟨pw_cell_below hb_ s0_, pw_cell_below hb_ s1_, pw_cell_below hb_ s2_, pw_cell_below hb_ s3_, pw_cell_below hb_ s4_, pw_cell_below hb_ s5_, pw_cell_below hb_ s6_⟩⟩)
   refine region_end _ 10 sOff6 (by kernel_rfl) sOff6_ok (by decide) (fun d _ _ _ _ h => by cases d <;> exact h) HK_.out ⟨t5, g0, g1, n0, n1, r0, r1⟩ ?_
   intro u9 hS hbu9
   have HO1 := Aside0.mk (HO.out.below hbu9)
   have HG1 := Aside0.mk (blk_below HG.out hbu9)
   have HB1 := Aside0.mk (below_step HB.out hbu9)
   clear hbu9 HO HG HB t5 g0 g1 n0 n1 r0 r1
   repeat (first | (refine h_off gt_ (by rfl) ?_; intro a_ ha_; (simp only [Act.put, pu1, pu2, pu3] at ha_); subst ha_) | (refine h_on (v := ?_) gt_ (by rfl) ?_ ?_; rotate_left; (· rintro w_ ⟨s0_, s1_, s2_, s3_, s4_, s5_, s6_⟩; go_simp; with_reducible rfl); intro a_ ha_; (simp only [Act.put, pu1, pu2, pu3] at ha_); subst ha_))
   refine h_val (v := .slice (some ⟨u9.heap.size, 0, none⟩) 1 1) (w1 := u9.alloc (.cells #[.int .i64 y.lab, .int .i64 y.num] 28)) HK_.out hS gt_ (by rfl) ?_ (below_alloc (Below.refl _ _) _) ?_
   ·go_simp
    first | done | rfl
   intro a_ ha_ hS1
   simp only [Act.put, pu1, pu2, pu3] at ha_
   subst ha_
   have HV := Aside0.mk (one_rowN (blk_new u9 (.cells #[.int .i64 y.lab, .int .i64 y.num] 28)))
   have HO2 := Aside0.mk (HO1.out.below (below_alloc (Below.refl u9.heap.size u9) (.cells #[.int .i64 y.lab, .int .i64 y.num] 28)))
   have HG2 := Aside0.mk (blk_alloc HG1.out (.cells #[.int .i64 y.lab, .int .i64 y.num] 28))
   have HB2 := Aside0.mk (below_alloc HB1.out (.cells #[.int .i64 y.lab, .int .i64 y.num] 28))
   clear HO1 HG1 HB1 hS
   obtain ⟨s0_, s1_, s2_, s3_, s4_, s5_, s6_⟩ := hS1
   have HOWN := Aside0.mk (show ∀ k, (Value.slice B1 ys.length c1).ownBlock = some k → w.heap.size + 3 ≤ k ∧ k ≠ w.heap.size + 5 from fun k hk => ⟨Kd.R_base HO2.out.rn k hk, HO2.out.gn k hk⟩)
   refine h_append2 flatN (W := u9.alloc (.cells #[.int .i64 y.lab, .int .i64 y.num] 28)) (base := w.heap.size + 3) (.agg #[(.int .i64 0), (.int .i64 0)]) 16 (.slice B1 ys.length c1) ys [y] _ 1 _ gt_ (by rfl) rfl Tryz.underlying23 infoN rfl (by decide) rfl rfl HO2.out.rn HV.out HO2.out.base_le (by have := HYL.out; omega) (fun wz hgz => ⟨cell_grownA s0_ hgz (fun e => (HOWN.out _ e.symm).2 rfl), cell_grownA s1_ hgz (fun e => by have h1 : w.heap.size + 3 ≤ w.heap.size := (HOWN.out _ e.symm).1; omega), cell_grownA s2_ hgz (fun e => by have h1 : w.heap.size + 3 ≤ w.heap.size := (HOWN.out _ e.symm).1; omega), cell_grownA s3_ hgz (fun e => by have h1 : w.heap.size + 3 ≤ w.heap.size + 1 := (HOWN.out _ e.symm).1; omega), cell_grownA s4_ hgz (fun e => by have h1 : w.heap.size + 3 ≤ w.heap.size + 1 := (HOWN.out _ e.symm).1; omega), cell_grownA s5_ hgz (fun e => by have h1 : w.heap.size + 3 ≤ (ad.add (j * 2)).block := (HOWN.out _ e.symm).1; have h2 := RB.out; omega), cell_grownA s6_ hgz (fun e => by have h1 : w.heap.size + 3 ≤ (ad.add (j * 2)).block := (HOWN.out _ e.symm).1; have h2 := RB.out; omega)⟩) ?_
   intro B2 n2 p2 uc hn2 hp2 hr2 hg2 ho2 a_ ha_
   simp only [Act.put, pu1, pu2, pu3] at ha_
   subst ha_
   obtain rfl : n2 = (ys ++ [y]).length := hn2
   have HOF0 := Aside0.mk (HO2.out.growN hg2 hr2 ho2)
   have HBK := Aside0.mk (HO2.out.blkN hg2)
   have HG3 := Aside0.mk ((hg2.block _ (blk_lt HG2.out) (fun e => by have h1 := (HOWN.out _ e.symm).1; omega)).trans HG2.out)
   have HB3 := Aside0.mk (HB2.out.grown hg2 HB2.out.size (fun k hk => by have h1 := (HOWN.out k hk).1; omega))
   have c0_ := cell_grownA s1_ hg2 (fun e => by have h1 : w.heap.size + 3 ≤ w.heap.size := (HOWN.out _ e.symm).1; omega)
   have c1_ := cell_grownA s2_ hg2 (fun e => by have h1 : w.heap.size + 3 ≤ w.heap.size := (HOWN.out _ e.symm).1; omega)
   have c2_ := cell_grownA s3_ hg2 (fun e => by have h1 : w.heap.size + 3 ≤ w.heap.size + 1 := (HOWN.out _ e.symm).1; omega)
   have c3_ := cell_grownA s4_ hg2 (fun e => by have h1 : w.heap.size + 3 ≤ w.heap.size + 1 := (HOWN.out _ e.symm).1; omega)
   clear hr2 ho2 hg2 HO2 HV HG2 HB2 s0_ s1_ s2_ s3_ s4_ s5_ s6_ hp2
   refine h_on (v := ?_) gt_ (by rfl) ?_ ?_
   rotate_left
   ·rintro w_ ⟨s0_, s1_, s2_, s3_, s4_, s5_, s6_⟩
    go_simp
    with_reducible rfl
   intro a_ ha_
   simp only [Act.put, pu1, pu2, pu3] at ha_
   subst ha_
   refine h_last gt_ (by rfl) fun K_ hK_ => ?_
   refine wp_cell (w.heap.size + 5) 0 B2 (ys ++ [y]).length p2 rfl rfl rfl ⟨_, (blk_cell HBK.out 0).trans rfl⟩ (blk_frozen HBK.out 0) (by kernel_rfl) (hK_ _ _ ?_)
   refine named _ ?_
   intro ud hud
   have HOF := Aside0.mk (show Own ud (w.heap.size + 3) (w.heap.size + 5) B2 p2 (ys ++ [y]) (some ⟨w.heap.size + 4, 0, none⟩) 0 [] by rw [hud]; exact HOF0.out)
   have HG5 := Aside0.mk (show ud.heap[w.heap.size + 2]? = some (.cells #[.slice none 0 0, .slice none 0 0] 26 (0, 0)) by rw [hud]; exact blk_far HG3.out (show w.heap.size + 2 ≠ w.heap.size + 5 by omega) _)
   have HB5 := Aside0.mk (show Below w.heap.size w ud by rw [hud]; exact below_set HB3.out (by omega))
   have e0 : ud.cell? ⟨w.heap.size, 0, none⟩ = some (.slice (some ad) ns.length c) := by rw [hud]; exact cell_grownA c0_ (grown_setCell uc (w.heap.size + 5) 0 _) (fun e => by have : w.heap.size = w.heap.size + 5 := Option.some.inj e; omega)
   have e1 : ud.cell? ⟨w.heap.size, 1, none⟩ = some (.slice B es.length d) := by rw [hud]; exact cell_grownA c1_ (grown_setCell uc (w.heap.size + 5) 0 _) (fun e => by have : w.heap.size = w.heap.size + 5 := Option.some.inj e; omega)
   have e2 : ud.cell? ⟨w.heap.size + 1, 0, none⟩ = some (.int .i64 n.lab) := by rw [hud]; exact cell_grownA c2_ (grown_setCell uc (w.heap.size + 5) 0 _) (fun e => by have : w.heap.size + 1 = w.heap.size + 5 := Option.some.inj e; omega)
   have e3 : ud.cell? ⟨w.heap.size + 1, 1, none⟩ = some (.int .i64 n.num) := by rw [hud]; exact cell_grownA c3_ (grown_setCell uc (w.heap.size + 5) 0 _) (fun e => by have : w.heap.size + 1 = w.heap.size + 5 := Option.some.inj e; omega)
   clear hud HOF0 HBK HG3 HB3 c0_ c1_ c2_ c3_ HK_ hK_ HOWN
   simp only [Act.put]
   go_wp2
   go_roundw
   case rel => exact ⟨j + 1, B2, p2, ys ++ [y], by omega, by go_num, HF, HOF, ⟨e0⟩, ⟨e1⟩, ⟨e2⟩, ⟨e3⟩, HG5, HB5⟩
   case measure => simp [intOf]; omega
  ·obtain rfl : j = ns.length := by omega
   rw [List.take_length] at HYS
   go_wp2_with (fail)
   go_loopw [7] (fun s7 wr => ∃ (j : Nat) (Bz : Option Addr) (cz : Nat) (zs : List Eg), j ≤ es.length ∧ s7 = .int .i64 (j : Int) ∧ Aside0 (zs = (es.take j).filter fun y => !endB n y) ∧ Aside0 (Own wr (w.heap.size + 3) (w.heap.size + 5) B1 c1 ys Bz cz zs) ∧ Aside0 (wr.cell? ⟨w.heap.size, 0, none⟩ = some (.slice A ns.length c)) ∧ Aside0 (wr.cell? ⟨w.heap.size, 1, none⟩ = some (.slice B es.length d)) ∧ Aside0 (wr.cell? ⟨w.heap.size + 1, 0, none⟩ = some (.int .i64 n.lab)) ∧ Aside0 (wr.cell? ⟨w.heap.size + 1, 1, none⟩ = some (.int .i64 n.num)) ∧ Aside0 (wr.heap[w.heap.size + 2]? = some (.cells #[.slice none 0 0, .slice none 0 0] 26 (0, 0))) ∧ Aside0 (Below w.heap.size w wr)) (fun s7 _ => (es.length - intOf s7).toNat)
   case atStart => exact ⟨0, _, 0, [], Nat.zero_le _, rfl, ⟨by simp⟩, HO, ⟨g0⟩, ⟨g1⟩, ⟨n0⟩, ⟨n1⟩, HG, HB⟩
   case round =>
    clear g0 g1 n0 n1 HO HG HB Z0 Z1 Z2 Z3
    obtain ⟨j, Bz, cz, zs, hj, rfl, HZS, HO, Z0, Z1, Z2, Z3, HG, HB⟩ := hrel
    have g0 := Z0.out
    have g1 := Z1.out
    have n0 := Z2.out
    have n1 := Z3.out
    have hl2 := HEL.out
    by_cases hlt : j < es.length
    ·obtain ⟨ad, e1, q0, q1, q2, q3, q4⟩ := eg_at HC2.out j hlt
     cases e1
     have HZL := Aside0.mk (show (zs.length + 1) * 40 ≤ 140737488355328 by
      have h1 : zs.length ≤ j := by rw [HZS.out]; exact Nat.le_trans (List.length_filter_le _ _) (by rw [List.length_take]; omega)
      omega)
     have RB := Aside0.mk (World.block_lt_of_cell? w _ q0)
     have HT := Aside0.mk (take_snoc hlt)
     generalize hy : eat es j = y at q0 q1 q2 q3 q4 HT
     clear hy
     have r0 := pw_cell_below HB.out q0
     have r1 := pw_cell_below HB.out q1
     have r2 := pw_cell_below HB.out q2
     have r3 := pw_cell_below HB.out q3
     have r4 := pw_cell_below HB.out q4
     clear q0 q1 q2 q3 q4
     have hna : (!y.a.lab == n.lab || !y.a.num == n.num) = !decide (y.a = n) := by
      rw [← nd_eq y.a n]
      cases y.a.lab == n.lab <;> cases y.a.num == n.num <;> rfl
     have hnb : (!y.b.lab == n.lab || !y.b.num == n.num) = !decide (y.b = n) := by
      rw [← nd_eq y.b n]
      cases y.b.lab == n.lab <;> cases y.b.num == n.num <;> rfl
     cases ha : decide (y.a = n)
     all_goals rw [ha] at hna
     case' true =>
      have HF := Aside0.mk (show zs = (es.take (j + 1)).filter fun y => !endB n y by rw [HT.out, List.filter_append, HZS.out, show [y].filter (fun y => !endB n y) = [] by simp [endB, of_decide_eq_true ha], List.append_nil])
      clear hnb
     case' false =>
      cases hb : decide (y.b = n)
      all_goals rw [hb] at hnb
      case' false => have HF := Aside0.mk (show zs ++ [y] = (es.take (j + 1)).filter fun y => !endB n y by rw [HT.out, List.filter_append, HZS.out, show [y].filter (fun y => !endB n y) = [y] by simp [endB, of_decide_eq_false ha, of_decide_eq_false hb]])
      case' true => have HF := Aside0.mk (show zs = (es.take (j + 1)).filter fun y => !endB n y by rw [HT.out, List.filter_append, HZS.out, show [y].filter (fun y => !endB n y) = [] by simp [endB, of_decide_eq_true hb], List.append_nil])
      all_goals clear hb
     all_goals
      clear ha
      simp only [Bool.not_true, Bool.not_false] at hna
      try simp only [Bool.not_true, Bool.not_false] at hnb
      go_wp2_with (fail)
      have HK_ := Aside0.mk (show Reg (fun u_ => Below w.heap.size w u_ ∧ u_.cell? ⟨w.heap.size, 0, none⟩ = some (.slice A ns.length c) ∧ u_.cell? ⟨w.heap.size, 1, none⟩ = some (.slice (some ad) es.length d) ∧ u_.cell? ⟨w.heap.size + 1, 0, none⟩ = some (.int .i64 n.lab) ∧ u_.cell? ⟨w.heap.size + 1, 1, none⟩ = some (.int .i64 n.num) ∧ u_.cell? (ad.add (j * 5)) = some (.int .i64 y.lab) ∧ u_.cell? ⟨(ad.add (j * 5)).block, (ad.add (j * 5)).off + 1, none⟩ = some (.int .i64 y.a.lab) ∧ u_.cell? ⟨(ad.add (j * 5)).block, (ad.add (j * 5)).off + 2, none⟩ = some (.int .i64 y.a.num) ∧ u_.cell? ⟨(ad.add (j * 5)).block, (ad.add (j * 5)).off + 3, none⟩ = some (.int .i64 y.b.lab) ∧ u_.cell? ⟨(ad.add (j * 5)).block, (ad.add (j * 5)).off + 4, none⟩ = some (.int .i64 y.b.num) ∧ u_.heap[w.heap.size + 2]? = some (.cells #[.slice none 0 0, .slice none 0 0] 26 (0, 0)) ∧ Own u_ (w.heap.size + 3) (w.heap.size + 5) B1 c1 ys Bz cz zs ∧ True) from ⟨fun _ _ hb_ ⟨q_, s0_, s1_, s2_, s3_, s4_, s5_, s6_, s7_, s8_, e0_, e1_, _⟩ => ⟨below_step q_ hb_, pw_cell_below hb_ s0_, pw_cell_below hb_ s1_, pw_cell_below hb_ s2_, pw_cell_below hb_ s3_, pw_cell_below hb_ s4_, pw_cell_below hb_ s5_, pw_cell_below hb_ s6_, pw_cell_below hb_ s7_, pw_cell_below hb_ s8_, blk_below e0_ hb_, Own.below e1_ hb_, trivial⟩⟩)
      refine region_by _ sOff10 (by kernel_rfl) sOff10_ok rfl (fun d _ _ _ _ h => by cases d <;> exact h) HK_.out ⟨HB.out, g0, g1, n0, n1, r0, r1, r2, r3, r4, HG.out, HO.out, trivial⟩ ?_
      intro u hS
      clear g0 g1 n0 n1 r0 r1 r2 r3 r4
      repeat (first | (refine h_off gt_ (by rfl) ?_; intro a_ ha_; (simp only [Act.put, pu1, pu2, pu3] at ha_); subst ha_) | (refine h_on (v := ?_) gt_ (by rfl) ?_ ?_; rotate_left; (· rintro w_ ⟨-, s0_, s1_, s2_, s3_, s4_, s5_, s6_, s7_, s8_, -, -, -⟩; go_simp; with_reducible rfl); intro a_ ha_; (simp only [Act.put, pu1, pu2, pu3] at ha_); subst ha_) | (refine h_offc hS gt_ (by rfl) ?_; intro a_ ha_; (simp only [Act.put, pu1, pu2, pu3] at ha_); subst ha_))
      refine h_end ?_
      clear HK_ HB HG HO
      obtain ⟨hB_, g0, g1, n0, n1, r0, r1, r2, r3, r4, hE0_, hE1_, -⟩ := hS
      have HB := Aside0.mk hB_
      clear hB_
      have HG := Aside0.mk hE0_
      clear hE0_
      have HO := Aside0.mk hE1_
      clear hE1_
      go_wp2
      first
      | (go_roundw
         case rel => exact ⟨j + 1, Bz, cz, zs, by omega, by go_num, HF, HO, ⟨g0⟩, ⟨g1⟩, ⟨n0⟩, ⟨n1⟩, HG, HB⟩
         case measure => simp [intOf]; omega)
      | skip
     have t5 := HO.out.c1
     have HK_ := Aside0.mk (show Reg (fun u_ => u_.cell? ⟨w.heap.size + 5, 1, none⟩ = some (.slice Bz zs.length cz) ∧ u_.cell? ⟨w.heap.size, 0, none⟩ = some (.slice A ns.length c) ∧ u_.cell? ⟨w.heap.size, 1, none⟩ = some (.slice (some ad) es.length d) ∧ u_.cell? ⟨w.heap.size + 1, 0, none⟩ = some (.int .i64 n.lab) ∧ u_.cell? ⟨w.heap.size + 1, 1, none⟩ = some (.int .i64 n.num) ∧ u_.cell? (ad.add (j * 5)) = some (.int .i64 y.lab) ∧ u_.cell? ⟨(ad.add (j * 5)).block, (ad.add (j * 5)).off + 1, none⟩ = some (.int .i64 y.a.lab) ∧ u_.cell? ⟨(ad.add (j * 5)).block, (ad.add (j * 5)).off + 2, none⟩ = some (.int .i64 y.a.num) ∧ u_.cell? ⟨(ad.add (j * 5)).block, (ad.add (j * 5)).off + 3, none⟩ = some (.int .i64 y.b.lab) ∧ u_.cell? ⟨(ad.add (j * 5)).block, (ad.add (j * 5)).off + 4, none⟩ = some (.int .i64 y.b.num)) from ⟨fun _ _ hb_ ⟨s0_, s1_, s2_, s3_, s4_, s5_, s6_, s7_, s8_, s9_⟩ => ⟨pw_cell_below hb_ s0_, pw_cell_below hb_ s1_, pw_cell_below hb_ s2_, pw_cell_below hb_ s3_, pw_cell_below hb_ s4_, pw_cell_below hb_ s5_, pw_cell_below hb_ s6_, pw_cell_below hb_ s7_, pw_cell_below hb_ s8_, pw_cell_below hb_ s9_⟩⟩)
     refine region_end _ 10 sOff11 (by kernel_rfl) sOff11_ok (by decide) (fun d _ _ _ _ h => by cases d <;> exact h) HK_.out ⟨t5, g0, g1, n0, n1, r0, r1, r2, r3, r4⟩ ?_
     intro u9 hS hbu9
     have HO1 := Aside0.mk (HO.out.below hbu9)
     have HG1 := Aside0.mk (blk_below HG.out hbu9)
     have HB1 := Aside0.mk (below_step HB.out hbu9)
     clear hbu9 HO HG HB t5 g0 g1 n0 n1 r0 r1 r2 r3 r4
     repeat (first | (refine h_off gt_ (by rfl) ?_; intro a_ ha_; (simp only [Act.put, pu1, pu2, pu3] at ha_); subst ha_) | (refine h_on (v := ?_) gt_ (by rfl) ?_ ?_; rotate_left; (· rintro w_ ⟨s0_, s1_, s2_, s3_, s4_, s5_, s6_, s7_, s8_, s9_⟩; go_simp; with_reducible rfl); intro a_ ha_; (simp only [Act.put, pu1, pu2, pu3] at ha_); subst ha_))
     refine h_val (v := .slice (some ⟨u9.heap.size, 0, none⟩) 1 1) (w1 := u9.alloc (.cells #[.int .i64 y.lab, .int .i64 y.a.lab, .int .i64 y.a.num, .int .i64 y.b.lab, .int .i64 y.b.num] 30)) HK_.out hS gt_ (by rfl) ?_ (below_alloc (Below.refl _ _) _) ?_
     ·go_simp
      first | done | rfl
     intro a_ ha_ hS1
     simp only [Act.put, pu1, pu2, pu3] at ha_
     subst ha_
     have HV := Aside0.mk (one_rowE (blk_new u9 (.cells #[.int .i64 y.lab, .int .i64 y.a.lab, .int .i64 y.a.num, .int .i64 y.b.lab, .int .i64 y.b.num] 30)))
     have HO2 := Aside0.mk (HO1.out.below (below_alloc (Below.refl u9.heap.size u9) (.cells #[.int .i64 y.lab, .int .i64 y.a.lab, .int .i64 y.a.num, .int .i64 y.b.lab, .int .i64 y.b.num] 30)))
     have HG2 := Aside0.mk (blk_alloc HG1.out (.cells #[.int .i64 y.lab, .int .i64 y.a.lab, .int .i64 y.a.num, .int .i64 y.b.lab, .int .i64 y.b.num] 30))
     have HB2 := Aside0.mk (below_alloc HB1.out (.cells #[.int .i64 y.lab, .int .i64 y.a.lab, .int .i64 y.a.num, .int .i64 y.b.lab, .int .i64 y.b.num] 30))
     clear HO1 HG1 HB1 hS
     obtain ⟨s0_, s1_, s2_, s3_, s4_, s5_, s6_, s7_, s8_, s9_⟩ := hS1
     have HOWN := Aside0.mk (show ∀ k, (Value.slice Bz zs.length cz).ownBlock = some k → w.heap.size + 3 ≤ k ∧ k ≠ w.heap.size + 5 from fun k hk => ⟨Kd.R_base HO2.out.re k hk, HO2.out.ge k hk⟩)
     refine h_append2 flatE (W := u9.alloc (.cells #[.int .i64 y.lab, .int .i64 y.a.lab, .int .i64 y.a.num, .int .i64 y.b.lab, .int .i64 y.b.num] 30)) (base := w.heap.size + 3) (.agg #[(.int .i64 0), (.int .i64 0), (.int .i64 0), (.int .i64 0), (.int .i64 0)]) 40 (.slice Bz zs.length cz) zs [y] _ 1 _ gt_ (by rfl) rfl Tryz.underlying24 infoE rfl (by decide) rfl rfl HO2.out.re HV.out HO2.out.base_le (by have := HZL.out; omega) (fun wz hgz => ⟨cell_grownA s0_ hgz (fun e => (HOWN.out _ e.symm).2 rfl), cell_grownA s1_ hgz (fun e => by have h1 : w.heap.size + 3 ≤ w.heap.size := (HOWN.out _ e.symm).1; omega), cell_grownA s2_ hgz (fun e => by have h1 : w.heap.size + 3 ≤ w.heap.size := (HOWN.out _ e.symm).1; omega), cell_grownA s3_ hgz (fun e => by have h1 : w.heap.size + 3 ≤ w.heap.size + 1 := (HOWN.out _ e.symm).1; omega), cell_grownA s4_ hgz (fun e => by have h1 : w.heap.size + 3 ≤ w.heap.size + 1 := (HOWN.out _ e.symm).1; omega), cell_grownA s5_ hgz (fun e => by have h1 : w.heap.size + 3 ≤ (ad.add (j * 5)).block := (HOWN.out _ e.symm).1; have h2 := RB.out; omega), cell_grownA s6_ hgz (fun e => by have h1 : w.heap.size + 3 ≤ (ad.add (j * 5)).block := (HOWN.out _ e.symm).1; have h2 := RB.out; omega), cell_grownA s7_ hgz (fun e => by have h1 : w.heap.size + 3 ≤ (ad.add (j * 5)).block := (HOWN.out _ e.symm).1; have h2 := RB.out; omega), cell_grownA s8_ hgz (fun e => by have h1 : w.heap.size + 3 ≤ (ad.add (j * 5)).block := (HOWN.out _ e.symm).1; have h2 := RB.out; omega), cell_grownA s9_ hgz (fun e => by have h1 : w.heap.size + 3 ≤ (ad.add (j * 5)).block := (HOWN.out _ e.symm).1; have h2 := RB.out; omega)⟩) ?_
     intro B2 n2 p2 uc hn2 hp2 hr2 hg2 ho2 a_ ha_
     simp only [Act.put, pu1, pu2, pu3] at ha_
     subst ha_
     obtain rfl : n2 = (zs ++ [y]).length := hn2
     have HOF0 := Aside0.mk (HO2.out.growE hg2 hr2 ho2)
     have HBK := Aside0.mk (HO2.out.blkE hg2)
     have HG3 := Aside0.mk ((hg2.block _ (blk_lt HG2.out) (fun e => by have h1 := (HOWN.out _ e.symm).1; omega)).trans HG2.out)
     have HB3 := Aside0.mk (HB2.out.grown hg2 HB2.out.size (fun k hk => by have h1 := (HOWN.out k hk).1; omega))
     have c0_ := cell_grownA s1_ hg2 (fun e => by have h1 : w.heap.size + 3 ≤ w.heap.size := (HOWN.out _ e.symm).1; omega)
     have c1_ := cell_grownA s2_ hg2 (fun e => by have h1 : w.heap.size + 3 ≤ w.heap.size := (HOWN.out _ e.symm).1; omega)
     have c2_ := cell_grownA s3_ hg2 (fun e => by have h1 : w.heap.size + 3 ≤ w.heap.size + 1 := (HOWN.out _ e.symm).1; omega)
     have c3_ := cell_grownA s4_ hg2 (fun e => by have h1 : w.heap.size + 3 ≤ w.heap.size + 1 := (HOWN.out _ e.symm).1; omega)
     clear hr2 ho2 hg2 HO2 HV HG2 HB2 s0_ s1_ s2_ s3_ s4_ s5_ s6_ s7_ s8_ s9_ hp2
     refine h_on (v := ?_) gt_ (by rfl) ?_ ?_
     rotate_left
     ·rintro w_ ⟨s0_, s1_, s2_, s3_, s4_, s5_, s6_, s7_, s8_, s9_⟩
      go_simp
      with_reducible rfl
     intro a_ ha_
     simp only [Act.put, pu1, pu2, pu3] at ha_
     subst ha_
     refine h_last gt_ (by rfl) fun K_ hK_ => ?_
     refine wp_cell (w.heap.size + 5) 1 B2 (zs ++ [y]).length p2 rfl rfl rfl ⟨_, (blk_cell HBK.out 1).trans rfl⟩ (blk_frozen HBK.out 1) (by kernel_rfl) (hK_ _ _ ?_)
     refine named _ ?_
     intro ud hud
     have HOF := Aside0.mk (show Own ud (w.heap.size + 3) (w.heap.size + 5) B1 c1 ys B2 p2 (zs ++ [y]) by rw [hud]; exact HOF0.out)
     have HG5 := Aside0.mk (show ud.heap[w.heap.size + 2]? = some (.cells #[.slice none 0 0, .slice none 0 0] 26 (0, 0)) by rw [hud]; exact blk_far HG3.out (show w.heap.size + 2 ≠ w.heap.size + 5 by omega) _)
     have HB5 := Aside0.mk (show Below w.heap.size w ud by rw [hud]; exact below_set HB3.out (by omega))
     have e0 : ud.cell? ⟨w.heap.size, 0, none⟩ = some (.slice A ns.length c) := by rw [hud]; exact cell_grownA c0_ (grown_setCell uc (w.heap.size + 5) 1 _) (fun e => by have : w.heap.size = w.heap.size + 5 := Option.some.inj e; omega)
     have e1 : ud.cell? ⟨w.heap.size, 1, none⟩ = some (.slice (some ad) es.length d) := by rw [hud]; exact cell_grownA c1_ (grown_setCell uc (w.heap.size + 5) 1 _) (fun e => by have : w.heap.size = w.heap.size + 5 := Option.some.inj e; omega)
     have e2 : ud.cell? ⟨w.heap.size + 1, 0, none⟩ = some (.int .i64 n.lab) := by rw [hud]; exact cell_grownA c2_ (grown_setCell uc (w.heap.size + 5) 1 _) (fun e => by have : w.heap.size + 1 = w.heap.size + 5 := Option.some.inj e; omega)
     have e3 : ud.cell? ⟨w.heap.size + 1, 1, none⟩ = some (.int .i64 n.num) := by rw [hud]; exact cell_grownA c3_ (grown_setCell uc (w.heap.size + 5) 1 _) (fun e => by have : w.heap.size + 1 = w.heap.size + 5 := Option.some.inj e; omega)
     clear hud HOF0 HBK HG3 HB3 c0_ c1_ c2_ c3_ HK_ hK_ HOWN
     simp only [Act.put]
     go_wp2
     go_roundw
     case rel => exact ⟨j + 1, B2, p2, zs ++ [y], by omega, by go_num, HF, HOF, ⟨e0⟩, ⟨e1⟩, ⟨e2⟩, ⟨e3⟩, HG5, HB5⟩
     case measure => simp [intOf]; omega
    ·obtain rfl : j = es.length := by omega
     rw [List.take_length] at HZS
     have k0 := HO.out.c0
     have k1 := HO.out.c1
     go_wp2_with (first | ((with_reducible refine gate_store (p := 4) rfl ?_); go_must ((refine wpList_plain rfl fun K_ hK_ => wp_store_row _ _ _ rfl (w.heap.size + 2) #[.slice B1 ys.length c1, .slice Bz zs.length cz] rfl rfl _ _ HG.out (by kernel_rfl) rfl (by simp [Value.oneCell']) (hK_ _ _ ?_)); refine named _ ?_; intro uz huz; have RZ := Aside0.mk (show uz.heap[w.heap.size + 2]? = some (.cells #[.slice B1 ys.length c1, .slice Bz zs.length cz] 26 (0, 0)) by rw [huz]; exact setRow_heap _ _ _ _ _ _ HG.out); have HOZ := Aside0.mk (show Own uz (w.heap.size + 3) (w.heap.size + 5) B1 c1 ys Bz cz zs by rw [huz]; exact HO.out.far (grown_setRow _ _ _) (fun k e => by have := Option.some.inj e; omega)); have HBZ := Aside0.mk (show Below w.heap.size w uz by rw [huz]; exact below_setRow HB.out (by omega) _); clear huz)))
     refine bodyPost_ret (results_cell_row rfl _ _ (w.heap.size + 2) _ #[.slice B1 ys.length c1, .slice Bz zs.length cz] (0, 0) _ rfl RZ.out Tryz.underlying26 rfl (by kernel_rfl)) rfl ⟨B1, c1, Bz, cz, by rw [← HYS.out, ← HZS.out], by rw [← HYS.out, ← HZS.out]; exact HOZ.out.gr, by rw [← HYS.out]; exact Kd.R_lower HOZ.out.rn (by omega), by rw [← HZS.out]; exact Kd.R_lower HOZ.out.re (by omega), HBZ.out⟩

end Go.Proofs.YtogmbeifbjgphaaGreat.R
