/- A graph of the call's own: a node is put in. -/
import Derived.Test.YtogmbeifbjgphaaGreatKB8
namespace Go.Proofs.YtogmbeifbjgphaaGreat.R
open Go.RowKit Go.Proofs.YtogmbeifbjgphaaGreatV.PrintWords Go.Proofs.YtogmbeifbjgphaaGreatV.PrintLast Go.Proofs.YtogmbeifbjgphaaGreatV.PrintMore Go.Proofs.YtogmbeifbjgphaaGreat.M
set_option linter.unusedVariables false
set_option linter.unusedSimpArgs false
attribute [local go_sem high] eqN eqE
theorem grown_setCell (w : World) (g i : Nat) (v : Value) : w.grownBy (w.setCell ⟨g, i, none⟩ v) (some g) := ⟨rfl, rfl, rfl, by simp, fun k _ hk => Below.heap_setCell w ⟨g, i, none⟩ v k (fun e => hk (by rw [e]))⟩
theorem one_rowN {w : World} {g : Nat} {t : TypeId} {x : Nd} (h : w.heap[g]? = some (.cells #[.int .i64 x.lab, .int .i64 x.num] t (0, 0))) : kN.C w (some ⟨g, 0, none⟩) 1 [x] := by
 refine ⟨rfl, by omega, fun _ => ⟨_, rfl, fun j p hj => ?_⟩⟩
 obtain ⟨rfl, rfl⟩ : j = 0 ∧ x = p := by
  match j, hj with
  | 0, hj => exact ⟨rfl, Option.some.inj hj⟩
 refine ⟨cN x, rfl, kN_mk w x, fun i u hi => ?_⟩
 rw [Nat.zero_mul, Nat.zero_add, add_plain, blk_cell h i]
 simpa using hi
theorem one_rowE {w : World} {g : Nat} {t : TypeId} {x : Eg} (h : w.heap[g]? = some (.cells #[.int .i64 x.lab, .int .i64 x.a.lab, .int .i64 x.a.num, .int .i64 x.b.lab, .int .i64 x.b.num] t (0, 0))) : kE.C w (some ⟨g, 0, none⟩) 1 [x] := by
 refine ⟨rfl, by omega, fun _ => ⟨_, rfl, fun j p hj => ?_⟩⟩
 obtain ⟨rfl, rfl⟩ : j = 0 ∧ x = p := by
  match j, hj with
  | 0, hj => exact ⟨rfl, Option.some.inj hj⟩
 refine ⟨cE x, rfl, kE_mk w x, fun i u hi => ?_⟩
 rw [Nat.zero_mul, Nat.zero_add, add_plain, blk_cell h i]
 simpa using hi
/-- A graph of the call's own: the block that holds its two lists, and the lists, each in its own memory. -/
structure Own (w : World) (base G : Nat) (A : Option Addr) (c : Nat) (ns : List Nd) (B : Option Addr) (d : Nat) (es : List Eg) : Prop where
 blk : w.heap[G]? = some (.cells #[.slice A ns.length c, .slice B es.length d] 26 (0, 0))
 rn : kN.R 28 w base (fun _ => True) (.slice A ns.length c) ns
 re : kE.R 30 w base (fun _ => True) (.slice B es.length d) es
 off : Off (.slice A ns.length c) (.slice B es.length d)
 gn : ∀ k, (Value.slice A ns.length c).ownBlock = some k → k ≠ G
 ge : ∀ k, (Value.slice B es.length d).ownBlock = some k → k ≠ G
 gb : base ≤ G
section
variable {w u : World} {base G : Nat} {A B A' B' : Option Addr} {c d c' d' : Nat} {ns ns' : List Nd} {es es' : List Eg}
theorem Own.below (h : Own w base G A c ns B d es) (hb : Below w.heap.size w u) : Own u base G A c ns B d es := ⟨blk_below h.blk hb, Kd.R_below h.rn hb, Kd.R_below h.re hb, h.off, h.gn, h.ge, h.gb⟩
theorem Own.cN (h : Own w base G A c ns B d es) : kN.C w A ns.length ns := (Kd.R_reads' h.rn).2.2
theorem Own.cE (h : Own w base G A c ns B d es) : kE.C w B es.length es := (Kd.R_reads' h.re).2.2
theorem Own.c0 (h : Own w base G A c ns B d es) : w.cell? ⟨G, 0, none⟩ = some (.slice A ns.length c) := (blk_cell h.blk 0).trans rfl
theorem Own.c1 (h : Own w base G A c ns B d es) : w.cell? ⟨G, 1, none⟩ = some (.slice B es.length d) := (blk_cell h.blk 1).trans rfl
theorem Own.base_le (h : Own w base G A c ns B d es) : base ≤ w.heap.size := by
 have := blk_lt h.blk
 have := h.gb
 omega
/-- The list of nodes is another one. -/
theorem Own.setN (h : Own w base G A c ns B d es) (hr : kN.R 28 w base (fun _ => True) (.slice A' ns'.length c') ns') (ho : Off (.slice A' ns'.length c') (.slice B es.length d)) (hg : ∀ k, (Value.slice A' ns'.length c').ownBlock = some k → k ≠ G) :
 Own (w.setCell ⟨G, 0, none⟩ (.slice A' ns'.length c')) base G A' c' ns' B d es :=
 ⟨by have := blk_set h.blk 0 (.slice A' ns'.length c'); exact this, R_farN hr (grown_setCell w G 0 _) (fun k hk e => hg k hk (Option.some.inj e)), R_farE h.re (grown_setCell w G 0 _) (fun k hk e => h.ge k hk (Option.some.inj e)), ho, hg, h.ge, h.gb⟩
theorem Own.setE (h : Own w base G A c ns B d es) (hr : kE.R 30 w base (fun _ => True) (.slice B' es'.length d') es') (ho : Off (.slice A ns.length c) (.slice B' es'.length d')) (hg : ∀ k, (Value.slice B' es'.length d').ownBlock = some k → k ≠ G) :
 Own (w.setCell ⟨G, 1, none⟩ (.slice B' es'.length d')) base G A c ns B' d' es' :=
 ⟨by have := blk_set h.blk 1 (.slice B' es'.length d'); exact this, R_farN h.rn (grown_setCell w G 1 _) (fun k hk e => h.gn k hk (Option.some.inj e)), R_farE hr (grown_setCell w G 1 _) (fun k hk e => hg k hk (Option.some.inj e)), ho, h.gn, hg, h.gb⟩
end
section
variable {P : Program} {ops : Array Oper} {Q : Exit → Act → World → Prop} {S : World → Prop} {i : Nat} {r : List (Nat × Bool)} {o : Oper} {v : Value} {a : Act} {w : World}
/-- A slice is stored into a cell. -/
theorem wp_cell {K : Act → World → Prop} {ty : TypeId} {x y : Operand} (g k : Nat) (A : Option Addr) (n c : Nat) (hop : o.op = .store ty x y) (hx : a.eval x = .pointer (some ⟨g, k, none⟩)) (hy : a.eval y = .slice A n c) (hc : ∃ u, w.cell? ⟨g, k, none⟩ = some u) (hf : w.frozen? ⟨g, k, none⟩ = false) (hi : (P.info? ty).map (·.size) = some 1)
 (h : K (a.put o.dst undef) (w.setCell ⟨g, k, none⟩ (.slice A n c))) : o.wp P a w K Q := by
 obtain ⟨u, hc⟩ := hc
 have hrun : (execOp a.eval o).run P w = .ok .skip (w.setCell ⟨g, k, none⟩ (.slice A n c)) := by
  simp only [execOp, hop, hx, hy]
  go_simp
  obtain ⟨i0, hi0, hs⟩ := Option.map_eq_some_iff.1 hi
  simp [sizeOf, typeInfo, hi0, hs, hc, hf]
 unfold Oper.wp
 rw [hrun]
 exact h
end
abbrev sPutN1 : List (Nat × Bool) := [(0, true), (1, true), (2, true), (3, true), (4, true), (5, false), (6, true), (7, true), (8, true), (9, true), (10, true)]
theorem sPutN1_ok : schedB .any (opsOf Tryz.f38 1) sPutN1 (Array.replicate (opsOf Tryz.f38 1).size false) = true := by kernel_rfl
abbrev sPutN13 : List (Nat × Bool) := [(0, true), (1, true), (2, true), (3, true), (4, true), (5, true), (6, true), (7, false), (8, false), (9, true), (10, true)]
theorem sPutN13_ok : schedE .any (opsOf Tryz.f38 13) 11 sPutN13 (Array.replicate (opsOf Tryz.f38 13).size false) = true := by kernel_rfl
theorem count_snoc {ns : List Nd} {j : Nat} (h : j < ns.length) (a : Int) : ((ns.take (j + 1)).countP fun n => n.lab == a) = ((ns.take j).countP fun n => n.lab == a) + (if (at_ ns j).lab == a then 1 else 0) := by
 rw [List.take_add_one, List.getElem?_eq_getElem h, at_lt h, List.countP_append]
 simp [List.countP_cons]
/-- How it ends; which nodes there are then. -/
def putNC (ns : List Nd) (x : Nd) : Int := if x ∈ ns then 2 else if 5 ≤ (ns.countP fun n => n.lab == x.lab) then 4 else 0
def putNN (ns : List Nd) (x : Nd) : List Nd := if putNC ns x = 0 then ins code ns x else ns
set_option maxHeartbeats 3200000 in
set_option maxRecDepth 100000 in
theorem putNode_calls (base G : Nat) (A : Option Addr) (ns : List Nd) (B : Option Addr) (d : Nat) (es : List Eg) (x : Nd) (w : World) (HO : Own w base G A ns.length ns B d es) (hns : NsOk ns) (hx : okN x = true) :
 Calls Tryz.prog 38 #[.pointer (some ⟨G, 0, none⟩), .agg #[.int .i64 x.lab, .int .i64 x.num]] w fun e w' => ∃ A' c', e = .returned (.int .i64 (putNC ns x)) ∧ Own w' base G A' c' (putNN ns x) B d es ∧ Below base w w' := by
 have HO0 := Aside0.mk HO
 have HNS := Aside0.mk hns
 have HX := Aside0.mk hx
 have HLN := Aside0.mk hns.len
 clear HO hns hx
 cases hm : decide (x ∈ ns) with
 | true =>
   have HM := Aside0.mk hm
   have HC := Aside0.mk (show putNC ns x = 2 by unfold putNC; rw [if_pos (of_decide_eq_true hm)])
   have HN := Aside0.mk (show putNN ns x = ns by unfold putNN; rw [HC.out]; rfl)
   clear hm
   obtain ⟨p, hp⟩ : ∃ p, p = placeN ns x := ⟨_, rfl⟩
   have HP := Aside0.mk hp
   clear hp
   go_enter Tryz.func38, Tryz.ntmps38
   go_wp2_with (fail)
   refine named _ ?_
   intro W hW
   have HO := Aside0.mk (show Own W base G A ns.length ns B d es by subst hW; exact HO0.out.below (below_alloc (Below.refl _ _) _))
   have g0 := HO.out.c0
   have b0 : W.cell? ⟨w.heap.size, 0, none⟩ = some (.int .i64 x.lab) := by subst hW; simp
   have b1 : W.cell? ⟨w.heap.size, 1, none⟩ = some (.int .i64 x.num) := by subst hW; simp
   have HB := Aside0.mk (show Below w.heap.size w W by subst hW; exact below_alloc (Below.refl _ _) _)
   clear hW

   have HK_ := Aside0.mk (show Reg (fun u_ => Below w.heap.size w u_ ∧ u_.cell? ⟨G, 0, none⟩ = some (.slice A ns.length ns.length) ∧ u_.cell? ⟨w.heap.size, 0, none⟩ = some (.int .i64 x.lab) ∧ u_.cell? ⟨w.heap.size, 1, none⟩ = some (.int .i64 x.num) ∧ True) from ⟨fun _ _ hb_ ⟨q_, s0_, s1_, s2_, _⟩ => ⟨below_step q_ hb_, pw_cell_below hb_ s0_, pw_cell_below hb_ s1_, pw_cell_below hb_ s2_, trivial⟩⟩)
   refine region_by2 _ sPutN1 (by kernel_rfl) sPutN1_ok rfl (fun d _ _ _ _ h => by cases d <;> exact h) HK_.out ⟨HB.out, g0, b0, b1, trivial⟩ ?_
   intro u hS hbu_
   have HOx_ := Aside0.mk (Own.below HO.out hbu_)
   clear HO
   have HO := Aside0.mk HOx_.out
   clear HOx_
   clear hbu_
   clear g0 b0 b1
   repeat (first | (refine h_off gt_ (by rfl) ?_; intro a_ ha_; (simp only [Act.put, pu1, pu2, pu3] at ha_); subst ha_) | (refine h_on (v := ?_) gt_ (by rfl) ?_ ?_; rotate_left; (· rintro w_ ⟨-, s0_, s1_, s2_, -⟩; go_simp; with_reducible rfl); intro a_ ha_; (simp only [Act.put, pu1, pu2, pu3] at ha_); subst ha_) | (refine h_offc hS gt_ (by rfl) ?_; intro a_ ha_; (simp only [Act.put, pu1, pu2, pu3] at ha_); subst ha_) | (refine h_call (f := 88) (args := #[.slice A ns.length ns.length, .agg #[.int .i64 x.lab, .int .i64 x.num], .func (.func 59) #[] #[]]) HK_.out hS Tryz.func88 (by kernel_rfl) rfl gt_ (by rfl) (by rfl) mp_ ?_; (refine (bsN_ok A ns.length ns x _ HO.out.cN HNS.out HX.out).mono ?_); rintro e_ u_ ⟨rfl, hb_⟩; rw [HM.out]; have HOx_ := Aside0.mk (Own.below HO.out hb_); clear HO; have HO := Aside0.mk HOx_.out; clear HOx_; refine ⟨_, rfl, hb_, fun a_ ha_ hS_ => ?_⟩; (simp only [Act.put, pu1, pu2, pu3] at ha_); subst ha_; clear hS; have hS := hS_; clear hS_ hb_))
   refine h_end ?_
   clear HK_ HB
   obtain ⟨hB_, g0, b0, b1, -⟩ := hS
   have HB := Aside0.mk hB_
   clear hB_
   go_wp2
   go_ret
   exact ⟨A, ns.length, retI HC.out.symm, by rw [HN.out]; exact HO.out, HB.out.mono HO0.out.base_le⟩
 | false =>
   have HM := Aside0.mk hm
   clear hm
   obtain ⟨p, hp⟩ : ∃ p, p = placeN ns x := ⟨_, rfl⟩
   have HP := Aside0.mk hp
   clear hp
   go_enter Tryz.func38, Tryz.ntmps38
   go_wp2_with (fail)
   refine named _ ?_
   intro W hW
   have HO := Aside0.mk (show Own W base G A ns.length ns B d es by subst hW; exact HO0.out.below (below_alloc (Below.refl _ _) _))
   have g0 := HO.out.c0
   have b0 : W.cell? ⟨w.heap.size, 0, none⟩ = some (.int .i64 x.lab) := by subst hW; simp
   have b1 : W.cell? ⟨w.heap.size, 1, none⟩ = some (.int .i64 x.num) := by subst hW; simp
   have HB := Aside0.mk (show Below w.heap.size w W by subst hW; exact below_alloc (Below.refl _ _) _)
   clear hW

   have HK_ := Aside0.mk (show Reg (fun u_ => Below w.heap.size w u_ ∧ u_.cell? ⟨G, 0, none⟩ = some (.slice A ns.length ns.length) ∧ u_.cell? ⟨w.heap.size, 0, none⟩ = some (.int .i64 x.lab) ∧ u_.cell? ⟨w.heap.size, 1, none⟩ = some (.int .i64 x.num) ∧ True) from ⟨fun _ _ hb_ ⟨q_, s0_, s1_, s2_, _⟩ => ⟨below_step q_ hb_, pw_cell_below hb_ s0_, pw_cell_below hb_ s1_, pw_cell_below hb_ s2_, trivial⟩⟩)
   refine region_by2 _ sPutN1 (by kernel_rfl) sPutN1_ok rfl (fun d _ _ _ _ h => by cases d <;> exact h) HK_.out ⟨HB.out, g0, b0, b1, trivial⟩ ?_
   intro u hS hbu_
   have HOx_ := Aside0.mk (Own.below HO.out hbu_)
   clear HO
   have HO := Aside0.mk HOx_.out
   clear HOx_
   clear hbu_
   clear g0 b0 b1
   repeat (first | (refine h_off gt_ (by rfl) ?_; intro a_ ha_; (simp only [Act.put, pu1, pu2, pu3] at ha_); subst ha_) | (refine h_on (v := ?_) gt_ (by rfl) ?_ ?_; rotate_left; (· rintro w_ ⟨-, s0_, s1_, s2_, -⟩; go_simp; with_reducible rfl); intro a_ ha_; (simp only [Act.put, pu1, pu2, pu3] at ha_); subst ha_) | (refine h_offc hS gt_ (by rfl) ?_; intro a_ ha_; (simp only [Act.put, pu1, pu2, pu3] at ha_); subst ha_) | (refine h_call (f := 88) (args := #[.slice A ns.length ns.length, .agg #[.int .i64 x.lab, .int .i64 x.num], .func (.func 59) #[] #[]]) HK_.out hS Tryz.func88 (by kernel_rfl) rfl gt_ (by rfl) (by rfl) mp_ ?_; (refine (bsN_ok A ns.length ns x _ HO.out.cN HNS.out HX.out).mono ?_); rintro e_ u_ ⟨rfl, hb_⟩; rw [HM.out]; have HOx_ := Aside0.mk (Own.below HO.out hb_); clear HO; have HO := Aside0.mk HOx_.out; clear HOx_; refine ⟨_, rfl, hb_, fun a_ ha_ hS_ => ?_⟩; (simp only [Act.put, pu1, pu2, pu3] at ha_); subst ha_; clear hS; have hS := hS_; clear hS_ hb_))
   refine h_end ?_
   clear HK_ HB
   obtain ⟨hB_, g0, b0, b1, -⟩ := hS
   have HB := Aside0.mk hB_
   clear hB_
   go_wp2
   have HQ0 := Aside0.mk b0
   have HQ1 := Aside0.mk b1
   clear b0 b1 g0
   go_loopw [7, 25] (fun s7 s25 wr => ∃ j : Nat, j ≤ ns.length ∧ s7 = .int .i64 (((ns.take j).countP fun n => n.lab == x.lab : Nat) : Int) ∧ s25 = .int .i64 (j : Int) ∧ Aside0 (Own wr base G A ns.length ns B d es) ∧ Aside0 (wr.cell? ⟨w.heap.size, 0, none⟩ = some (.int .i64 x.lab)) ∧ Aside0 (wr.cell? ⟨w.heap.size, 1, none⟩ = some (.int .i64 x.num)) ∧ Aside0 (Below w.heap.size w wr)) (fun _ s25 _ => (ns.length - intOf s25).toNat)
   case atStart => exact ⟨0, Nat.zero_le _, by simp, rfl, HO, ⟨HQ0.out⟩, ⟨HQ1.out⟩, HB⟩
   case round =>
    clear HO HQ0 HQ1 HB
    obtain ⟨j, hj, rfl, rfl, HO, HQ0, HQ1, HB⟩ := hrel
    have hl := HLN.out
    have hcj : ((ns.take j).countP fun n => n.lab == x.lab) ≤ 40 := Nat.le_trans List.countP_le_length (by rw [List.length_take]; omega)
    by_cases hlt : j < ns.length
    ·obtain ⟨ad, e1, r0, r1⟩ := nd_at HO.out.cN j hlt
     cases e1
     have HT := Aside0.mk (count_snoc hlt x.lab)
     generalize hy : at_ ns j = y at r0 r1 HT
     clear hy
     generalize hcn : ((ns.take j).countP fun n => n.lab == x.lab) = cnt at hcj HT
     clear hcn
     have q0 : (wr.alloc (.cells #[.int .i64 y.lab, .int .i64 y.num] 28)).cell? ⟨w.heap.size, 0, none⟩ = some (.int .i64 x.lab) := pw_cell_below (below_alloc (Below.refl _ _) _) HQ0.out
     cases hb : (y.lab == x.lab)
     all_goals
      rw [hb] at HT
      go_wp2
      go_roundw
      case rel => exact ⟨j + 1, by omega, by rw [HT.out]; go_num, by go_num, ⟨HO.out.below (below_alloc (Below.refl _ _) _)⟩, ⟨pw_cell_below (below_alloc (Below.refl _ _) _) HQ0.out⟩, ⟨pw_cell_below (below_alloc (Below.refl _ _) _) HQ1.out⟩, ⟨below_alloc HB.out _⟩⟩
      case measure => simp [intOf]; omega
    ·obtain rfl : j = ns.length := by omega
     rw [List.take_length] at hcj ⊢
     have HCN := Aside0.mk (rfl : (ns.countP fun n => n.lab == x.lab) = (ns.countP fun n => n.lab == x.lab))
     generalize hcn : (ns.countP fun n => n.lab == x.lab) = cnt at hcj ⊢
     have HCC := Aside0.mk hcn
     clear HCN hcn
     by_cases h5 : 5 ≤ cnt
     ·have h5' : (5 : Int) ≤ (cnt : Int) := by omega
      have HC := Aside0.mk (show putNC ns x = 4 by unfold putNC; rw [if_neg (of_decide_eq_false HM.out), HCC.out, if_pos h5])
      have HN := Aside0.mk (show putNN ns x = ns by unfold putNN; rw [HC.out]; rfl)
      go_wp2
      go_ret
      exact ⟨A, ns.length, retI HC.out.symm, by rw [HN.out]; exact HO.out, HB.out.mono HO0.out.base_le⟩
     ·have h5' : ¬ (5 : Int) ≤ (cnt : Int) := by omega
      have HC := Aside0.mk (show putNC ns x = 0 by unfold putNC; rw [if_neg (of_decide_eq_false HM.out), HCC.out, if_neg h5])
      have HN := Aside0.mk (show putNN ns x = ns.take (placeN ns x) ++ x :: ns.drop (placeN ns x) by
       unfold putNN
       rw [if_pos HC.out]
       exact ins_eq HNS.out.asc fun a ha e => of_decide_eq_false HM.out (by rw [← code_inj (HNS.out.ok a ha) HX.out e]; exact ha))
      have HPL := Aside0.mk (show placeN ns x ≤ ns.length from List.countP_le_length)
      go_wp2
      have HL1 := Aside0.mk hl
      have g0 := HO.out.c0
      have b0 := HQ0.out
      have b1 := HQ1.out
      have HK_ := Aside0.mk (show Reg (fun u_ => Below w.heap.size w u_ ∧ u_.cell? ⟨G, 0, none⟩ = some (.slice A ns.length ns.length) ∧ u_.cell? ⟨w.heap.size, 0, none⟩ = some (.int .i64 x.lab) ∧ u_.cell? ⟨w.heap.size, 1, none⟩ = some (.int .i64 x.num) ∧ True) from ⟨fun _ _ hb_ ⟨q_, s0_, s1_, s2_, _⟩ => ⟨below_step q_ hb_, pw_cell_below hb_ s0_, pw_cell_below hb_ s1_, pw_cell_below hb_ s2_, trivial⟩⟩)
      refine region_end _ 11 sPutN13 (by kernel_rfl) sPutN13_ok (by decide) (fun d _ _ _ _ h => by cases d <;> exact h) HK_.out ⟨HB.out, g0, b0, b1, trivial⟩ ?_
      intro u hS hbu_
      have HOx_ := Aside0.mk (Own.below HO.out hbu_)
      clear HO
      have HO := Aside0.mk HOx_.out
      clear HOx_
      clear hbu_
      clear g0 b0 b1
      repeat (first | (refine h_off gt_ (by rfl) ?_; intro a_ ha_; (simp only [Act.put, pu1, pu2, pu3] at ha_); subst ha_) | (refine h_on (v := ?_) gt_ (by rfl) ?_ ?_; rotate_left; (· rintro w_ ⟨-, s0_, s1_, s2_, -⟩; go_simp; with_reducible rfl); intro a_ ha_; (simp only [Act.put, pu1, pu2, pu3] at ha_); subst ha_) | (refine h_offc hS gt_ (by rfl) ?_; intro a_ ha_; (simp only [Act.put, pu1, pu2, pu3] at ha_); subst ha_) | (refine h_call (f := 89) (args := #[.slice A ns.length ns.length, .int .i64 (placeN ns x : Nat), .slice (some ⟨u.heap.size, 0, none⟩) 1 1]) HK_.out hS Tryz.func89 (by kernel_rfl) rfl gt_ (by rfl) (by rfl) mp_ ?_; (refine (insN_calls A ns (placeN ns x) x _ 1 _ HO.out.cN HV.out HPL.out (by have := HL1.out; omega)).mono ?_); rintro e_ u_ ⟨g2, cap, rfl, hcap, hr_, hb_⟩; have HRW := Aside0.mk hr_; clear hr_; have HOx_ := Aside0.mk (Own.below HO.out hb_); clear HO; have HO := Aside0.mk HOx_.out; clear HOx_; refine ⟨_, rfl, hb_, fun a_ ha_ hS_ => ?_⟩; (simp only [Act.put, pu1, pu2, pu3] at ha_); subst ha_; clear hS; have hS := hS_; clear hS_ hb_) | (refine h_val (v := ?_) (w1 := ?_) HK_.out hS gt_ (by rfl) ?_ ?_ ?_; rotate_left 2; (· go_simp; (first | (refine And.intro ?_ ?_ <;> with_reducible rfl) | with_reducible rfl)); (· exact below_alloc (Below.refl _ _) _); intro a_ ha_ hS_; (simp only [Act.put, pu1, pu2, pu3] at ha_); subst ha_; have HOx_ := Aside0.mk (Own.below HO.out (below_alloc (Below.refl u.heap.size u) (.cells #[.int .i64 x.lab, .int .i64 x.num] 28))); clear HO; have HO := Aside0.mk HOx_.out; clear HOx_; have HV := Aside0.mk (one_rowN (blk_new u (.cells #[.int .i64 x.lab, .int .i64 x.num] 28))); have HU := Aside0.mk (blk_lt HO.out.blk); have HBL := Aside0.mk (Kd.R_lt HO.out.re); clear hS; have hS := hS_; clear hS_))
      have hlen : (ns.take (placeN ns x) ++ x :: ns.drop (placeN ns x)).length = ns.length + 1 := by
       have := HPL.out
       simp
       omega
      have hg2 := Kd.R_base HRW.out g2 rfl
      have hGu := HU.out
      have hbG := HO.out.gb
      have HOF := Aside0.mk (HO.out.setN (A' := some ⟨g2, 0, none⟩) (c' := cap) (ns' := ns.take (placeN ns x) ++ x :: ns.drop (placeN ns x)) (by rw [hlen]; exact Kd.R_lower HRW.out (by omega)) (fun k h1 h2 => by
       have h3 := HBL.out k h2
       have h4 : g2 = k := Option.some.inj h1
       omega) (fun k h1 => by
       have h4 : g2 = k := Option.some.inj h1
       omega))
      rw [hlen] at HOF
      have HBF := Aside0.mk (show Below base w (u_.setCell ⟨G, 0, none⟩ (.slice (some ⟨g2, 0, none⟩) (ns.length + 1) cap)) from (hS.1.mono HO0.out.base_le).setCell hbG _)
      refine h_last gt_ (by rfl) fun K_ hK_ => ?_
      refine wp_cell G 0 _ _ _ rfl rfl rfl ⟨_, HO.out.c0⟩ (blk_frozen HO.out.blk 0) (by kernel_rfl) (hK_ _ _ ?_)
      clear hS HO HRW HV HU HBL HK_ hK_ HB hg2 hGu
      simp only [Act.put]
      go_wp2
      go_ret
      exact ⟨some ⟨g2, 0, none⟩, cap, retI HC.out.symm, by rw [HN.out]; exact HOF.out, HBF.out⟩
end Go.Proofs.YtogmbeifbjgphaaGreat.R
