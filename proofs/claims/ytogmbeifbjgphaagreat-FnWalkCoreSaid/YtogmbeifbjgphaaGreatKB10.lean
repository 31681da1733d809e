/- A graph of the call's own: an edge is put in. -/
import Derived.Test.YtogmbeifbjgphaaGreatKB9
namespace Go.Proofs.YtogmbeifbjgphaaGreat.R
open Go.RowKit Go.Proofs.YtogmbeifbjgphaaGreatV.PrintWords Go.Proofs.YtogmbeifbjgphaaGreatV.PrintLast Go.Proofs.YtogmbeifbjgphaaGreatV.PrintMore Go.Proofs.YtogmbeifbjgphaaGreat.M
set_option linter.unusedVariables false
set_option linter.unusedSimpArgs false
attribute [local go_sem high] eqN eqE
abbrev sPutE1 : List (Nat × Bool) := [(0, true), (1, true), (2, true), (3, true), (4, true), (5, false), (6, true), (7, true), (8, true), (9, true), (10, true)]
theorem sPutE1_ok : schedB .any (opsOf Tryz.f40 1) sPutE1 (Array.replicate (opsOf Tryz.f40 1).size false) = true := by kernel_rfl
abbrev sPutE4 : List (Nat × Bool) := [(0, true), (1, true), (2, true), (3, true), (4, true), (5, true), (6, false), (7, true), (8, true), (9, true), (10, true), (11, true), (12, true), (13, true), (14, true), (15, false), (16, true), (17, true)]
theorem sPutE4_ok : schedB .any (opsOf Tryz.f40 4) sPutE4 (Array.replicate (opsOf Tryz.f40 4).size false) = true := by kernel_rfl
abbrev sPutE13 : List (Nat × Bool) := [(0, true), (1, true), (2, true), (3, true), (4, true), (5, true), (6, true), (7, false), (8, false), (9, true), (10, true)]
theorem sPutE13_ok : schedE .any (opsOf Tryz.f40 15) 11 sPutE13 (Array.replicate (opsOf Tryz.f40 15).size false) = true := by kernel_rfl
theorem count_snocE {es : List Eg} {j : Nat} (h : j < es.length) (a : Int) : ((es.take (j + 1)).countP fun n => n.lab == a) = ((es.take j).countP fun n => n.lab == a) + (if (eat es j).lab == a then 1 else 0) := by
 rw [List.take_add_one, List.getElem?_eq_getElem h, eat_lt h, List.countP_append]
 simp [List.countP_cons]
def putEC (ns : List Nd) (es : List Eg) (x : Eg) : Int := if x ∈ es then 2 else if x.a ∈ ns ∧ x.b ∈ ns then (if 7 ≤ (es.countP fun e => e.lab == x.lab) then 4 else 0) else 3
def putEE (ns : List Nd) (es : List Eg) (x : Eg) : List Eg := if putEC ns es x = 0 then ins key es x else es
set_option maxHeartbeats 6400000 in
set_option maxRecDepth 100000 in
theorem putEdge_calls (base G : Nat) (A : Option Addr) (c : Nat) (ns : List Nd) (B : Option Addr) (es : List Eg) (x : Eg) (w : World) (HO : Own w base G A c ns B es.length es) (hns : NsOk ns) (hok : ∀ y ∈ es, okE y = true) (hasc : Asc key es) (hes : es.length ≤ 1000000) (hx : okE x = true) :
 Calls Tryz.prog 40 #[.pointer (some ⟨G, 0, none⟩), .agg #[.int .i64 x.lab, .int .i64 x.a.lab, .int .i64 x.a.num, .int .i64 x.b.lab, .int .i64 x.b.num]] w fun e w' => ∃ B' d', e = .returned (.int .i64 (putEC ns es x)) ∧ Own w' base G A c ns B' d' (putEE ns es x) ∧ Below base w w' := by
 have HO0 := Aside0.mk HO
 have HNS := Aside0.mk hns
 have HOK := Aside0.mk hok
 have HAS := Aside0.mk hasc
 have HX := Aside0.mk hx
 have HAO := Aside0.mk (okE_iff.1 hx).2.1
 have HBO := Aside0.mk (okE_iff.1 hx).2.2.1
 have HLN := Aside0.mk hes
 clear HO hns hok hasc hes hx
 cases hm : decide (x ∈ es) with
 | true =>
   have HM := Aside0.mk hm
   have HC := Aside0.mk (show putEC ns es x = 2 by unfold putEC; rw [if_pos (of_decide_eq_true hm)])
   have HN := Aside0.mk (show putEE ns es x = es by unfold putEE; rw [HC.out]; rfl)
   clear hm
   go_enter Tryz.func40, Tryz.ntmps40
   go_wp2_with (fail)
   refine named _ ?_
   intro W hW
   have HO := Aside0.mk (show Own W base G A c ns B es.length es by subst hW; exact HO0.out.below (below_alloc (Below.refl _ _) _))
   have g0 := HO.out.c1
   have b0 : W.cell? ⟨w.heap.size, 0, none⟩ = some (.int .i64 x.lab) := by subst hW; simp
   have b1 : W.cell? ⟨w.heap.size, 1, none⟩ = some (.int .i64 x.a.lab) := by subst hW; simp
   have b2 : W.cell? ⟨w.heap.size, 2, none⟩ = some (.int .i64 x.a.num) := by subst hW; simp
   have b3 : W.cell? ⟨w.heap.size, 3, none⟩ = some (.int .i64 x.b.lab) := by subst hW; simp
   have b4 : W.cell? ⟨w.heap.size, 4, none⟩ = some (.int .i64 x.b.num) := by subst hW; simp
   have HB := Aside0.mk (show Below w.heap.size w W by subst hW; exact below_alloc (Below.refl _ _) _)
   clear hW
   have HK_ := Aside0.mk (show Reg (fun u_ => Below w.heap.size w u_ ∧ u_.cell? ⟨G, 1, none⟩ = some (.slice B es.length es.length) ∧ u_.cell? ⟨w.heap.size, 0, none⟩ = some (.int .i64 x.lab) ∧ u_.cell? ⟨w.heap.size, 1, none⟩ = some (.int .i64 x.a.lab) ∧ u_.cell? ⟨w.heap.size, 2, none⟩ = some (.int .i64 x.a.num) ∧ u_.cell? ⟨w.heap.size, 3, none⟩ = some (.int .i64 x.b.lab) ∧ u_.cell? ⟨w.heap.size, 4, none⟩ = some (.int .i64 x.b.num) ∧ True) from ⟨fun _ _ hb_ ⟨q_, s0_, s1_, s2_, s3_, s4_, s5_, _⟩ => ⟨below_step q_ hb_, pw_cell_below hb_ s0_, pw_cell_below hb_ s1_, pw_cell_below hb_ s2_, pw_cell_below hb_ s3_, pw_cell_below hb_ s4_, pw_cell_below hb_ s5_, trivial⟩⟩)
   refine region_by2 _ sPutE1 (by kernel_rfl) sPutE1_ok rfl (fun d _ _ _ _ h => by cases d <;> exact h) HK_.out ⟨HB.out, g0, b0, b1, b2, b3, b4, trivial⟩ ?_
   intro u hS hbu_
   have HOx_ := Aside0.mk (Own.below HO.out hbu_)
   clear HO
   have HO := Aside0.mk HOx_.out
   clear HOx_
   clear hbu_
   clear g0 b0 b1 b2 b3 b4
   repeat (first | (refine h_off gt_ (by rfl) ?_; intro a_ ha_; (simp only [Act.put, pu1, pu2, pu3] at ha_); subst ha_) | (refine h_on (v := ?_) gt_ (by rfl) ?_ ?_; rotate_left; (· rintro w_ ⟨-, s0_, s1_, s2_, s3_, s4_, s5_, -⟩; go_simp; with_reducible rfl); intro a_ ha_; (simp only [Act.put, pu1, pu2, pu3] at ha_); subst ha_) | (refine h_offc hS gt_ (by rfl) ?_; intro a_ ha_; (simp only [Act.put, pu1, pu2, pu3] at ha_); subst ha_) | (refine h_call (f := 93) (args := #[.slice B es.length es.length, .agg #[.int .i64 x.lab, .int .i64 x.a.lab, .int .i64 x.a.num, .int .i64 x.b.lab, .int .i64 x.b.num], .func (.func 94) #[] #[]]) HK_.out hS Tryz.func93 (by kernel_rfl) rfl gt_ (by rfl) (by rfl) mp_ ?_; (refine (bsE_ok B es.length es x _ HO.out.cE HOK.out HAS.out HLN.out HX.out).mono ?_); rintro e_ u_ ⟨rfl, hb_⟩; rw [HM.out]; have HOx_ := Aside0.mk (Own.below HO.out hb_); clear HO; have HO := Aside0.mk HOx_.out; clear HOx_; refine ⟨_, rfl, hb_, fun a_ ha_ hS_ => ?_⟩; (simp only [Act.put, pu1, pu2, pu3] at ha_); subst ha_; clear hS; have hS := hS_; clear hS_ hb_))
   refine h_end ?_
   clear HK_ HB
   obtain ⟨hB_, g0, b0, b1, b2, b3, b4, -⟩ := hS
   have HB := Aside0.mk hB_
   clear hB_
   go_wp2
   go_ret
   exact ⟨B, es.length, retI HC.out.symm, by rw [HN.out]; exact HO.out, HB.out.mono HO0.out.base_le⟩
 | false =>
   have HM := Aside0.mk hm
   clear hm
   by_cases hends : x.a ∈ ns ∧ x.b ∈ ns
   ·have HE2 := Aside0.mk hends
    have HMA := Aside0.mk (decide_eq_true hends.1)
    have HMB := Aside0.mk (decide_eq_true hends.2)
    clear hends
    go_enter Tryz.func40, Tryz.ntmps40
    go_wp2_with (fail)
    refine named _ ?_
    intro W hW
    have HO := Aside0.mk (show Own W base G A c ns B es.length es by subst hW; exact HO0.out.below (below_alloc (Below.refl _ _) _))
    have g0 := HO.out.c1
    have b0 : W.cell? ⟨w.heap.size, 0, none⟩ = some (.int .i64 x.lab) := by subst hW; simp
    have b1 : W.cell? ⟨w.heap.size, 1, none⟩ = some (.int .i64 x.a.lab) := by subst hW; simp
    have b2 : W.cell? ⟨w.heap.size, 2, none⟩ = some (.int .i64 x.a.num) := by subst hW; simp
    have b3 : W.cell? ⟨w.heap.size, 3, none⟩ = some (.int .i64 x.b.lab) := by subst hW; simp
    have b4 : W.cell? ⟨w.heap.size, 4, none⟩ = some (.int .i64 x.b.num) := by subst hW; simp
    have HB := Aside0.mk (show Below w.heap.size w W by subst hW; exact below_alloc (Below.refl _ _) _)
    clear hW
    have HK_ := Aside0.mk (show Reg (fun u_ => Below w.heap.size w u_ ∧ u_.cell? ⟨G, 1, none⟩ = some (.slice B es.length es.length) ∧ u_.cell? ⟨w.heap.size, 0, none⟩ = some (.int .i64 x.lab) ∧ u_.cell? ⟨w.heap.size, 1, none⟩ = some (.int .i64 x.a.lab) ∧ u_.cell? ⟨w.heap.size, 2, none⟩ = some (.int .i64 x.a.num) ∧ u_.cell? ⟨w.heap.size, 3, none⟩ = some (.int .i64 x.b.lab) ∧ u_.cell? ⟨w.heap.size, 4, none⟩ = some (.int .i64 x.b.num) ∧ True) from ⟨fun _ _ hb_ ⟨q_, s0_, s1_, s2_, s3_, s4_, s5_, _⟩ => ⟨below_step q_ hb_, pw_cell_below hb_ s0_, pw_cell_below hb_ s1_, pw_cell_below hb_ s2_, pw_cell_below hb_ s3_, pw_cell_below hb_ s4_, pw_cell_below hb_ s5_, trivial⟩⟩)
    refine region_by2 _ sPutE1 (by kernel_rfl) sPutE1_ok rfl (fun d _ _ _ _ h => by cases d <;> exact h) HK_.out ⟨HB.out, g0, b0, b1, b2, b3, b4, trivial⟩ ?_
    intro u hS hbu_
    have HOx_ := Aside0.mk (Own.below HO.out hbu_)
    clear HO
    have HO := Aside0.mk HOx_.out
    clear HOx_
    clear hbu_
    clear g0 b0 b1 b2 b3 b4
    repeat (first | (refine h_off gt_ (by rfl) ?_; intro a_ ha_; (simp only [Act.put, pu1, pu2, pu3] at ha_); subst ha_) | (refine h_on (v := ?_) gt_ (by rfl) ?_ ?_; rotate_left; (· rintro w_ ⟨-, s0_, s1_, s2_, s3_, s4_, s5_, -⟩; go_simp; with_reducible rfl); intro a_ ha_; (simp only [Act.put, pu1, pu2, pu3] at ha_); subst ha_) | (refine h_offc hS gt_ (by rfl) ?_; intro a_ ha_; (simp only [Act.put, pu1, pu2, pu3] at ha_); subst ha_) | (refine h_call (f := 93) (args := #[.slice B es.length es.length, .agg #[.int .i64 x.lab, .int .i64 x.a.lab, .int .i64 x.a.num, .int .i64 x.b.lab, .int .i64 x.b.num], .func (.func 94) #[] #[]]) HK_.out hS Tryz.func93 (by kernel_rfl) rfl gt_ (by rfl) (by rfl) mp_ ?_; (refine (bsE_ok B es.length es x _ HO.out.cE HOK.out HAS.out HLN.out HX.out).mono ?_); rintro e_ u_ ⟨rfl, hb_⟩; rw [HM.out]; have HOx_ := Aside0.mk (Own.below HO.out hb_); clear HO; have HO := Aside0.mk HOx_.out; clear HOx_; refine ⟨_, rfl, hb_, fun a_ ha_ hS_ => ?_⟩; (simp only [Act.put, pu1, pu2, pu3] at ha_); subst ha_; clear hS; have hS := hS_; clear hS_ hb_))
    refine h_end ?_
    clear HK_ HB
    obtain ⟨hB_, g0, b0, b1, b2, b3, b4, -⟩ := hS
    have HB := Aside0.mk hB_
    clear hB_
    go_wp2_with (fail)
    have gn0 := HO.out.c0
    clear g0
    have HK_ := Aside0.mk (show Reg (fun u_ => Below w.heap.size w u_ ∧ u_.cell? ⟨G, 0, none⟩ = some (.slice A ns.length c) ∧ u_.cell? ⟨w.heap.size, 0, none⟩ = some (.int .i64 x.lab) ∧ u_.cell? ⟨w.heap.size, 1, none⟩ = some (.int .i64 x.a.lab) ∧ u_.cell? ⟨w.heap.size, 2, none⟩ = some (.int .i64 x.a.num) ∧ u_.cell? ⟨w.heap.size, 3, none⟩ = some (.int .i64 x.b.lab) ∧ u_.cell? ⟨w.heap.size, 4, none⟩ = some (.int .i64 x.b.num) ∧ True) from ⟨fun _ _ hb_ ⟨q_, s0_, s1_, s2_, s3_, s4_, s5_, _⟩ => ⟨below_step q_ hb_, pw_cell_below hb_ s0_, pw_cell_below hb_ s1_, pw_cell_below hb_ s2_, pw_cell_below hb_ s3_, pw_cell_below hb_ s4_, pw_cell_below hb_ s5_, trivial⟩⟩)
    refine region_by2 _ sPutE4 (by kernel_rfl) sPutE4_ok rfl (fun d _ _ _ _ h => by cases d <;> exact h) HK_.out ⟨HB.out, gn0, b0, b1, b2, b3, b4, trivial⟩ ?_
    intro u hS hbu_
    have HOx_ := Aside0.mk (Own.below HO.out hbu_)
    clear HO
    have HO := Aside0.mk HOx_.out
    clear HOx_
    clear hbu_
    clear gn0 b0 b1 b2 b3 b4
    repeat (first | (refine h_off gt_ (by rfl) ?_; intro a_ ha_; (simp only [Act.put, pu1, pu2, pu3] at ha_); subst ha_) | (refine h_on (v := ?_) gt_ (by rfl) ?_ ?_; rotate_left; (· rintro w_ ⟨-, s0_, s1_, s2_, s3_, s4_, s5_, -⟩; go_simp; with_reducible rfl); intro a_ ha_; (simp only [Act.put, pu1, pu2, pu3] at ha_); subst ha_) | (refine h_offc hS gt_ (by rfl) ?_; intro a_ ha_; (simp only [Act.put, pu1, pu2, pu3] at ha_); subst ha_) | (refine h_call (f := 95) (args := #[.slice A ns.length c, .agg #[.int .i64 x.a.lab, .int .i64 x.a.num]]) HK_.out hS Tryz.func95 (by kernel_rfl) rfl gt_ (by rfl) (by rfl) mp_ ?_; (refine (nodeThere_calls A c ns x.a _ HO.out.cN HNS.out (HAO.out)).mono ?_); rintro e_ u_ ⟨rfl, hb_⟩; rw [HMA.out]; have HOx_ := Aside0.mk (Own.below HO.out hb_); clear HO; have HO := Aside0.mk HOx_.out; clear HOx_; refine ⟨_, rfl, hb_, fun a_ ha_ hS_ => ?_⟩; (simp only [Act.put, pu1, pu2, pu3] at ha_); subst ha_; clear hS; have hS := hS_; clear hS_ hb_) | (refine h_call (f := 95) (args := #[.slice A ns.length c, .agg #[.int .i64 x.b.lab, .int .i64 x.b.num]]) HK_.out hS Tryz.func95 (by kernel_rfl) rfl gt_ (by rfl) (by rfl) mp_ ?_; (refine (nodeThere_calls A c ns x.b _ HO.out.cN HNS.out (HBO.out)).mono ?_); rintro e_ u_ ⟨rfl, hb_⟩; rw [HMB.out]; have HOx_ := Aside0.mk (Own.below HO.out hb_); clear HO; have HO := Aside0.mk HOx_.out; clear HOx_; refine ⟨_, rfl, hb_, fun a_ ha_ hS_ => ?_⟩; (simp only [Act.put, pu1, pu2, pu3] at ha_); subst ha_; clear hS; have hS := hS_; clear hS_ hb_))
    refine h_end ?_
    clear HK_ HB
    obtain ⟨hB_, gn0, b0, b1, b2, b3, b4, -⟩ := hS
    have HB := Aside0.mk hB_
    clear hB_
    clear gn0
    have g1 := HO.out.c1
    go_wp2
    clear g1
    have HQ0 := Aside0.mk b0
    have HQ1 := Aside0.mk b1
    have HQ2 := Aside0.mk b2
    have HQ3 := Aside0.mk b3
    have HQ4 := Aside0.mk b4
    clear b0 b1 b2 b3 b4
    go_loopw [7, 43] (fun s7 s43 wr => ∃ j : Nat, j ≤ es.length ∧ s7 = .int .i64 (((es.take j).countP fun n => n.lab == x.lab : Nat) : Int) ∧ s43 = .int .i64 (j : Int) ∧ Aside0 (Own wr base G A c ns B es.length es) ∧ Aside0 (wr.cell? ⟨w.heap.size, 0, none⟩ = some (.int .i64 x.lab)) ∧ Aside0 (wr.cell? ⟨w.heap.size, 1, none⟩ = some (.int .i64 x.a.lab)) ∧ Aside0 (wr.cell? ⟨w.heap.size, 2, none⟩ = some (.int .i64 x.a.num)) ∧ Aside0 (wr.cell? ⟨w.heap.size, 3, none⟩ = some (.int .i64 x.b.lab)) ∧ Aside0 (wr.cell? ⟨w.heap.size, 4, none⟩ = some (.int .i64 x.b.num)) ∧ Aside0 (Below w.heap.size w wr)) (fun _ s43 _ => (es.length - intOf s43).toNat)
    case atStart => exact ⟨0, Nat.zero_le _, by simp, rfl, HO, ⟨HQ0.out⟩, ⟨HQ1.out⟩, ⟨HQ2.out⟩, ⟨HQ3.out⟩, ⟨HQ4.out⟩, HB⟩
    case round =>
     clear HO HQ0 HQ1 HQ2 HQ3 HQ4 HB
     obtain ⟨j, hj, rfl, rfl, HO, HQ0, HQ1, HQ2, HQ3, HQ4, HB⟩ := hrel
     have hl := HLN.out
     have hcj : ((es.take j).countP fun n => n.lab == x.lab) ≤ 1000000 := Nat.le_trans List.countP_le_length (by rw [List.length_take]; omega)
     by_cases hlt : j < es.length
     ·obtain ⟨ad, e1, r0, r1, r2, r3, r4⟩ := eg_at HO.out.cE j hlt
      cases e1
      have HT := Aside0.mk (count_snocE hlt x.lab)
      generalize hy : eat es j = y at r0 r1 r2 r3 r4 HT
      clear hy
      generalize hcn : ((es.take j).countP fun n => n.lab == x.lab) = cnt at hcj HT
      clear hcn
      have q0 : (wr.alloc (.cells #[.int .i64 y.lab, .int .i64 y.a.lab, .int .i64 y.a.num, .int .i64 y.b.lab, .int .i64 y.b.num] 30)).cell? ⟨w.heap.size, 0, none⟩ = some (.int .i64 x.lab) := pw_cell_below (below_alloc (Below.refl _ _) _) HQ0.out
      cases hb : (y.lab == x.lab)
      all_goals
       rw [hb] at HT
       go_wp2
       go_roundw
       case rel => exact ⟨j + 1, by omega, by rw [HT.out]; go_num, by go_num, ⟨HO.out.below (below_alloc (Below.refl _ _) _)⟩, ⟨pw_cell_below (below_alloc (Below.refl _ _) _) HQ0.out⟩, ⟨pw_cell_below (below_alloc (Below.refl _ _) _) HQ1.out⟩, ⟨pw_cell_below (below_alloc (Below.refl _ _) _) HQ2.out⟩, ⟨pw_cell_below (below_alloc (Below.refl _ _) _) HQ3.out⟩, ⟨pw_cell_below (below_alloc (Below.refl _ _) _) HQ4.out⟩, ⟨below_alloc HB.out _⟩⟩
       case measure => simp [intOf]; omega
     ·obtain rfl : j = es.length := by omega
      rw [List.take_length] at hcj ⊢
      have HCN := Aside0.mk (rfl : (es.countP fun n => n.lab == x.lab) = (es.countP fun n => n.lab == x.lab))
      generalize hcn : (es.countP fun n => n.lab == x.lab) = cnt at hcj ⊢
      have HCC := Aside0.mk hcn
      clear HCN hcn
      by_cases h5 : 7 ≤ cnt
      ·have h5' : (7 : Int) ≤ (cnt : Int) := by omega
       have HC := Aside0.mk (show putEC ns es x = 4 by unfold putEC; rw [if_neg (of_decide_eq_false HM.out), if_pos HE2.out, HCC.out, if_pos h5])
       have HN := Aside0.mk (show putEE ns es x = es by unfold putEE; rw [HC.out]; rfl)
       go_wp2
       go_ret
       exact ⟨B, es.length, retI HC.out.symm, by rw [HN.out]; exact HO.out, HB.out.mono HO0.out.base_le⟩
      ·have h5' : ¬ (7 : Int) ≤ (cnt : Int) := by omega
       have HC := Aside0.mk (show putEC ns es x = 0 by unfold putEC; rw [if_neg (of_decide_eq_false HM.out), if_pos HE2.out, HCC.out, if_neg h5])
       have HN := Aside0.mk (show putEE ns es x = es.take (placeE es x) ++ x :: es.drop (placeE es x) by
        unfold putEE
        rw [if_pos HC.out]
        exact ins_eq HAS.out fun a ha e => of_decide_eq_false HM.out (by rw [← key_inj (HOK.out a ha) HX.out e]; exact ha))
       have HPL := Aside0.mk (show placeE es x ≤ es.length from List.countP_le_length)
       go_wp2
       have HL1 := Aside0.mk hl
       have g0 := HO.out.c1
       have b0 := HQ0.out
       have b1 := HQ1.out
       have b2 := HQ2.out
       have b3 := HQ3.out
       have b4 := HQ4.out
       have HK_ := Aside0.mk (show Reg (fun u_ => Below w.heap.size w u_ ∧ u_.cell? ⟨G, 1, none⟩ = some (.slice B es.length es.length) ∧ u_.cell? ⟨w.heap.size, 0, none⟩ = some (.int .i64 x.lab) ∧ u_.cell? ⟨w.heap.size, 1, none⟩ = some (.int .i64 x.a.lab) ∧ u_.cell? ⟨w.heap.size, 2, none⟩ = some (.int .i64 x.a.num) ∧ u_.cell? ⟨w.heap.size, 3, none⟩ = some (.int .i64 x.b.lab) ∧ u_.cell? ⟨w.heap.size, 4, none⟩ = some (.int .i64 x.b.num) ∧ True) from ⟨fun _ _ hb_ ⟨q_, s0_, s1_, s2_, s3_, s4_, s5_, _⟩ => ⟨below_step q_ hb_, pw_cell_below hb_ s0_, pw_cell_below hb_ s1_, pw_cell_below hb_ s2_, pw_cell_below hb_ s3_, pw_cell_below hb_ s4_, pw_cell_below hb_ s5_, trivial⟩⟩)
       refine region_end _ 11 sPutE13 (by kernel_rfl) sPutE13_ok (by decide) (fun d _ _ _ _ h => by cases d <;> exact h) HK_.out ⟨HB.out, g0, b0, b1, b2, b3, b4, trivial⟩ ?_
       intro u hS hbu_
       have HOx_ := Aside0.mk (Own.below HO.out hbu_)
       clear HO
       have HO := Aside0.mk HOx_.out
       clear HOx_
       clear hbu_
       clear g0 b0 b1 b2 b3 b4
       repeat (first | (refine h_off gt_ (by rfl) ?_; intro a_ ha_; (simp only [Act.put, pu1, pu2, pu3] at ha_); subst ha_) | (refine h_on (v := ?_) gt_ (by rfl) ?_ ?_; rotate_left; (· rintro w_ ⟨-, s0_, s1_, s2_, s3_, s4_, s5_, -⟩; go_simp; with_reducible rfl); intro a_ ha_; (simp only [Act.put, pu1, pu2, pu3] at ha_); subst ha_) | (refine h_offc hS gt_ (by rfl) ?_; intro a_ ha_; (simp only [Act.put, pu1, pu2, pu3] at ha_); subst ha_) | (refine h_call (f := 96) (args := #[.slice B es.length es.length, .int .i64 (placeE es x : Nat), .slice (some ⟨u.heap.size, 0, none⟩) 1 1]) HK_.out hS Tryz.func96 (by kernel_rfl) rfl gt_ (by rfl) (by rfl) mp_ ?_; (refine (insE_calls B es (placeE es x) x _ 1 _ HO.out.cE HV.out HPL.out (by have := HL1.out; omega)).mono ?_); rintro e_ u_ ⟨g2, cap, rfl, hcap, hr_, hb_⟩; have HRW := Aside0.mk hr_; clear hr_; have HOx_ := Aside0.mk (Own.below HO.out hb_); clear HO; have HO := Aside0.mk HOx_.out; clear HOx_; refine ⟨_, rfl, hb_, fun a_ ha_ hS_ => ?_⟩; (simp only [Act.put, pu1, pu2, pu3] at ha_); subst ha_; clear hS; have hS := hS_; clear hS_ hb_) | (refine h_val (v := ?_) (w1 := ?_) HK_.out hS gt_ (by rfl) ?_ ?_ ?_; rotate_left 2; (· go_simp; (first | (refine And.intro ?_ ?_ <;> with_reducible rfl) | with_reducible rfl)); (· exact below_alloc (Below.refl _ _) _); intro a_ ha_ hS_; (simp only [Act.put, pu1, pu2, pu3] at ha_); subst ha_; have HOx_ := Aside0.mk (Own.below HO.out (below_alloc (Below.refl u.heap.size u) (.cells #[.int .i64 x.lab, .int .i64 x.a.lab, .int .i64 x.a.num, .int .i64 x.b.lab, .int .i64 x.b.num] 30))); clear HO; have HO := Aside0.mk HOx_.out; clear HOx_; have HV := Aside0.mk (one_rowE (blk_new u (.cells #[.int .i64 x.lab, .int .i64 x.a.lab, .int .i64 x.a.num, .int .i64 x.b.lab, .int .i64 x.b.num] 30))); have HU := Aside0.mk (blk_lt HO.out.blk); have HBL := Aside0.mk (Kd.R_lt HO.out.rn); clear hS; have hS := hS_; clear hS_))
       have hlen : (es.take (placeE es x) ++ x :: es.drop (placeE es x)).length = es.length + 1 := by
        have := HPL.out
        simp
        omega
       have hg2 := Kd.R_base HRW.out g2 rfl
       have hGu := HU.out
       have hbG := HO.out.gb
       have HOF := Aside0.mk (HO.out.setE (B' := some ⟨g2, 0, none⟩) (d' := cap) (es' := es.take (placeE es x) ++ x :: es.drop (placeE es x)) (by rw [hlen]; exact Kd.R_lower HRW.out (by omega)) (fun k h1 h2 => by
        have h3 := HBL.out k h1
        have h4 : g2 = k := Option.some.inj h2
        omega) (fun k h1 => by
        have h4 : g2 = k := Option.some.inj h1
        omega))
       rw [hlen] at HOF
       have HBF := Aside0.mk (show Below base w (u_.setCell ⟨G, 1, none⟩ (.slice (some ⟨g2, 0, none⟩) (es.length + 1) cap)) from (hS.1.mono HO0.out.base_le).setCell hbG _)
       refine h_last gt_ (by rfl) fun K_ hK_ => ?_
       refine wp_cell G 1 _ _ _ rfl rfl rfl ⟨_, HO.out.c1⟩ (blk_frozen HO.out.blk 1) (by kernel_rfl) (hK_ _ _ ?_)
       clear hS HO HRW HV HU HBL HK_ hK_ HB hg2 hGu
       simp only [Act.put]
       go_wp2
       go_ret
       exact ⟨some ⟨g2, 0, none⟩, cap, retI HC.out.symm, by rw [HN.out]; exact HOF.out, HBF.out⟩
   ·have HC := Aside0.mk (show putEC ns es x = 3 by unfold putEC; rw [if_neg (of_decide_eq_false HM.out), if_neg hends])
    have HN := Aside0.mk (show putEE ns es x = es by unfold putEE; rw [HC.out]; rfl)
    cases hma : decide (x.a ∈ ns) with
    | false =>
      have HMA := Aside0.mk hma
      have HMB : Aside0 (decide (x.b ∈ ns) = decide (x.b ∈ ns)) := ⟨rfl⟩
      clear hma hends
      go_enter Tryz.func40, Tryz.ntmps40
      go_wp2_with (fail)
      refine named _ ?_
      intro W hW
      have HO := Aside0.mk (show Own W base G A c ns B es.length es by subst hW; exact HO0.out.below (below_alloc (Below.refl _ _) _))
      have g0 := HO.out.c1
      have b0 : W.cell? ⟨w.heap.size, 0, none⟩ = some (.int .i64 x.lab) := by subst hW; simp
      have b1 : W.cell? ⟨w.heap.size, 1, none⟩ = some (.int .i64 x.a.lab) := by subst hW; simp
      have b2 : W.cell? ⟨w.heap.size, 2, none⟩ = some (.int .i64 x.a.num) := by subst hW; simp
      have b3 : W.cell? ⟨w.heap.size, 3, none⟩ = some (.int .i64 x.b.lab) := by subst hW; simp
      have b4 : W.cell? ⟨w.heap.size, 4, none⟩ = some (.int .i64 x.b.num) := by subst hW; simp
      have HB := Aside0.mk (show Below w.heap.size w W by subst hW; exact below_alloc (Below.refl _ _) _)
      clear hW
      have HK_ := Aside0.mk (show Reg (fun u_ => Below w.heap.size w u_ ∧ u_.cell? ⟨G, 1, none⟩ = some (.slice B es.length es.length) ∧ u_.cell? ⟨w.heap.size, 0, none⟩ = some (.int .i64 x.lab) ∧ u_.cell? ⟨w.heap.size, 1, none⟩ = some (.int .i64 x.a.lab) ∧ u_.cell? ⟨w.heap.size, 2, none⟩ = some (.int .i64 x.a.num) ∧ u_.cell? ⟨w.heap.size, 3, none⟩ = some (.int .i64 x.b.lab) ∧ u_.cell? ⟨w.heap.size, 4, none⟩ = some (.int .i64 x.b.num) ∧ True) from ⟨fun _ _ hb_ ⟨q_, s0_, s1_, s2_, s3_, s4_, s5_, _⟩ => ⟨below_step q_ hb_, pw_cell_below hb_ s0_, pw_cell_below hb_ s1_, pw_cell_below hb_ s2_, pw_cell_below hb_ s3_, pw_cell_below hb_ s4_, pw_cell_below hb_ s5_, trivial⟩⟩)
      refine region_by2 _ sPutE1 (by kernel_rfl) sPutE1_ok rfl (fun d _ _ _ _ h => by cases d <;> exact h) HK_.out ⟨HB.out, g0, b0, b1, b2, b3, b4, trivial⟩ ?_
      intro u hS hbu_
      have HOx_ := Aside0.mk (Own.below HO.out hbu_)
      clear HO
      have HO := Aside0.mk HOx_.out
      clear HOx_
      clear hbu_
      clear g0 b0 b1 b2 b3 b4
      repeat (first | (refine h_off gt_ (by rfl) ?_; intro a_ ha_; (simp only [Act.put, pu1, pu2, pu3] at ha_); subst ha_) | (refine h_on (v := ?_) gt_ (by rfl) ?_ ?_; rotate_left; (· rintro w_ ⟨-, s0_, s1_, s2_, s3_, s4_, s5_, -⟩; go_simp; with_reducible rfl); intro a_ ha_; (simp only [Act.put, pu1, pu2, pu3] at ha_); subst ha_) | (refine h_offc hS gt_ (by rfl) ?_; intro a_ ha_; (simp only [Act.put, pu1, pu2, pu3] at ha_); subst ha_) | (refine h_call (f := 93) (args := #[.slice B es.length es.length, .agg #[.int .i64 x.lab, .int .i64 x.a.lab, .int .i64 x.a.num, .int .i64 x.b.lab, .int .i64 x.b.num], .func (.func 94) #[] #[]]) HK_.out hS Tryz.func93 (by kernel_rfl) rfl gt_ (by rfl) (by rfl) mp_ ?_; (refine (bsE_ok B es.length es x _ HO.out.cE HOK.out HAS.out HLN.out HX.out).mono ?_); rintro e_ u_ ⟨rfl, hb_⟩; rw [HM.out]; have HOx_ := Aside0.mk (Own.below HO.out hb_); clear HO; have HO := Aside0.mk HOx_.out; clear HOx_; refine ⟨_, rfl, hb_, fun a_ ha_ hS_ => ?_⟩; (simp only [Act.put, pu1, pu2, pu3] at ha_); subst ha_; clear hS; have hS := hS_; clear hS_ hb_))
      refine h_end ?_
      clear HK_ HB
      obtain ⟨hB_, g0, b0, b1, b2, b3, b4, -⟩ := hS
      have HB := Aside0.mk hB_
      clear hB_
      go_wp2_with (fail)
      have gn0 := HO.out.c0
      clear g0
      have HK_ := Aside0.mk (show Reg (fun u_ => Below w.heap.size w u_ ∧ u_.cell? ⟨G, 0, none⟩ = some (.slice A ns.length c) ∧ u_.cell? ⟨w.heap.size, 0, none⟩ = some (.int .i64 x.lab) ∧ u_.cell? ⟨w.heap.size, 1, none⟩ = some (.int .i64 x.a.lab) ∧ u_.cell? ⟨w.heap.size, 2, none⟩ = some (.int .i64 x.a.num) ∧ u_.cell? ⟨w.heap.size, 3, none⟩ = some (.int .i64 x.b.lab) ∧ u_.cell? ⟨w.heap.size, 4, none⟩ = some (.int .i64 x.b.num) ∧ True) from ⟨fun _ _ hb_ ⟨q_, s0_, s1_, s2_, s3_, s4_, s5_, _⟩ => ⟨below_step q_ hb_, pw_cell_below hb_ s0_, pw_cell_below hb_ s1_, pw_cell_below hb_ s2_, pw_cell_below hb_ s3_, pw_cell_below hb_ s4_, pw_cell_below hb_ s5_, trivial⟩⟩)
      refine region_by2 _ sPutE4 (by kernel_rfl) sPutE4_ok rfl (fun d _ _ _ _ h => by cases d <;> exact h) HK_.out ⟨HB.out, gn0, b0, b1, b2, b3, b4, trivial⟩ ?_
      intro u hS hbu_
      have HOx_ := Aside0.mk (Own.below HO.out hbu_)
      clear HO
      have HO := Aside0.mk HOx_.out
      clear HOx_
      clear hbu_
      clear gn0 b0 b1 b2 b3 b4
      repeat (first | (refine h_off gt_ (by rfl) ?_; intro a_ ha_; (simp only [Act.put, pu1, pu2, pu3] at ha_); subst ha_) | (refine h_on (v := ?_) gt_ (by rfl) ?_ ?_; rotate_left; (· rintro w_ ⟨-, s0_, s1_, s2_, s3_, s4_, s5_, -⟩; go_simp; with_reducible rfl); intro a_ ha_; (simp only [Act.put, pu1, pu2, pu3] at ha_); subst ha_) | (refine h_offc hS gt_ (by rfl) ?_; intro a_ ha_; (simp only [Act.put, pu1, pu2, pu3] at ha_); subst ha_) | (refine h_call (f := 95) (args := #[.slice A ns.length c, .agg #[.int .i64 x.a.lab, .int .i64 x.a.num]]) HK_.out hS Tryz.func95 (by kernel_rfl) rfl gt_ (by rfl) (by rfl) mp_ ?_; (refine (nodeThere_calls A c ns x.a _ HO.out.cN HNS.out (HAO.out)).mono ?_); rintro e_ u_ ⟨rfl, hb_⟩; rw [HMA.out]; have HOx_ := Aside0.mk (Own.below HO.out hb_); clear HO; have HO := Aside0.mk HOx_.out; clear HOx_; refine ⟨_, rfl, hb_, fun a_ ha_ hS_ => ?_⟩; (simp only [Act.put, pu1, pu2, pu3] at ha_); subst ha_; clear hS; have hS := hS_; clear hS_ hb_) | (refine h_call (f := 95) (args := #[.slice A ns.length c, .agg #[.int .i64 x.b.lab, .int .i64 x.b.num]]) HK_.out hS Tryz.func95 (by kernel_rfl) rfl gt_ (by rfl) (by rfl) mp_ ?_; (refine (nodeThere_calls A c ns x.b _ HO.out.cN HNS.out (HBO.out)).mono ?_); rintro e_ u_ ⟨rfl, hb_⟩; rw [HMB.out]; have HOx_ := Aside0.mk (Own.below HO.out hb_); clear HO; have HO := Aside0.mk HOx_.out; clear HOx_; refine ⟨_, rfl, hb_, fun a_ ha_ hS_ => ?_⟩; (simp only [Act.put, pu1, pu2, pu3] at ha_); subst ha_; clear hS; have hS := hS_; clear hS_ hb_))
      refine h_end ?_
      clear HK_ HB
      obtain ⟨hB_, gn0, b0, b1, b2, b3, b4, -⟩ := hS
      have HB := Aside0.mk hB_
      clear hB_
      go_wp2
      go_ret
      exact ⟨B, es.length, retI HC.out.symm, by rw [HN.out]; exact HO.out, HB.out.mono HO0.out.base_le⟩
    | true =>
      have HMA := Aside0.mk hma
      have HMB := Aside0.mk (decide_eq_false (fun h => hends ⟨of_decide_eq_true hma, h⟩))
      clear hma hends
      go_enter Tryz.func40, Tryz.ntmps40
      go_wp2_with (fail)
      refine named _ ?_
      intro W hW
      have HO := Aside0.mk (show Own W base G A c ns B es.length es by subst hW; exact HO0.out.below (below_alloc (Below.refl _ _) _))
      have g0 := HO.out.c1
      have b0 : W.cell? ⟨w.heap.size, 0, none⟩ = some (.int .i64 x.lab) := by subst hW; simp
      have b1 : W.cell? ⟨w.heap.size, 1, none⟩ = some (.int .i64 x.a.lab) := by subst hW; simp
      have b2 : W.cell? ⟨w.heap.size, 2, none⟩ = some (.int .i64 x.a.num) := by subst hW; simp
      have b3 : W.cell? ⟨w.heap.size, 3, none⟩ = some (.int .i64 x.b.lab) := by subst hW; simp
      have b4 : W.cell? ⟨w.heap.size, 4, none⟩ = some (.int .i64 x.b.num) := by subst hW; simp
      have HB := Aside0.mk (show Below w.heap.size w W by subst hW; exact below_alloc (Below.refl _ _) _)
      clear hW
      have HK_ := Aside0.mk (show Reg (fun u_ => Below w.heap.size w u_ ∧ u_.cell? ⟨G, 1, none⟩ = some (.slice B es.length es.length) ∧ u_.cell? ⟨w.heap.size, 0, none⟩ = some (.int .i64 x.lab) ∧ u_.cell? ⟨w.heap.size, 1, none⟩ = some (.int .i64 x.a.lab) ∧ u_.cell? ⟨w.heap.size, 2, none⟩ = some (.int .i64 x.a.num) ∧ u_.cell? ⟨w.heap.size, 3, none⟩ = some (.int .i64 x.b.lab) ∧ u_.cell? ⟨w.heap.size, 4, none⟩ = some (.int .i64 x.b.num) ∧ True) from ⟨fun _ _ hb_ ⟨q_, s0_, s1_, s2_, s3_, s4_, s5_, _⟩ => ⟨below_step q_ hb_, pw_cell_below hb_ s0_, pw_cell_below hb_ s1_, pw_cell_below hb_ s2_, pw_cell_below hb_ s3_, pw_cell_below hb_ s4_, pw_cell_below hb_ s5_, trivial⟩⟩)
      refine region_by2 _ sPutE1 (by kernel_rfl) sPutE1_ok rfl (fun d _ _ _ _ h => by cases d <;> exact h) HK_.out ⟨HB.out, g0, b0, b1, b2, b3, b4, trivial⟩ ?_
      intro u hS hbu_
      have HOx_ := Aside0.mk (Own.below HO.out hbu_)
      clear HO
      have HO := Aside0.mk HOx_.out
      clear HOx_
      clear hbu_
      clear g0 b0 b1 b2 b3 b4
      repeat (first | (refine h_off gt_ (by rfl) ?_; intro a_ ha_; (simp only [Act.put, pu1, pu2, pu3] at ha_); subst ha_) | (refine h_on (v := ?_) gt_ (by rfl) ?_ ?_; rotate_left; (· rintro w_ ⟨-, s0_, s1_, s2_, s3_, s4_, s5_, -⟩; go_simp; with_reducible rfl); intro a_ ha_; (simp only [Act.put, pu1, pu2, pu3] at ha_); subst ha_) | (refine h_offc hS gt_ (by rfl) ?_; intro a_ ha_; (simp only [Act.put, pu1, pu2, pu3] at ha_); subst ha_) | (refine h_call (f := 93) (args := #[.slice B es.length es.length, .agg #[.int .i64 x.lab, .int .i64 x.a.lab, .int .i64 x.a.num, .int .i64 x.b.lab, .int .i64 x.b.num], .func (.func 94) #[] #[]]) HK_.out hS Tryz.func93 (by kernel_rfl) rfl gt_ (by rfl) (by rfl) mp_ ?_; (refine (bsE_ok B es.length es x _ HO.out.cE HOK.out HAS.out HLN.out HX.out).mono ?_); rintro e_ u_ ⟨rfl, hb_⟩; rw [HM.out]; have HOx_ := Aside0.mk (Own.below HO.out hb_); clear HO; have HO := Aside0.mk HOx_.out; clear HOx_; refine ⟨_, rfl, hb_, fun a_ ha_ hS_ => ?_⟩; (simp only [Act.put, pu1, pu2, pu3] at ha_); subst ha_; clear hS; have hS := hS_; clear hS_ hb_))
      refine h_end ?_
      clear HK_ HB
      obtain ⟨hB_, g0, b0, b1, b2, b3, b4, -⟩ := hS
      have HB := Aside0.mk hB_
      clear hB_
      go_wp2_with (fail)
      have gn0 := HO.out.c0
      clear g0
      have HK_ := Aside0.mk (show Reg (fun u_ => Below w.heap.size w u_ ∧ u_.cell? ⟨G, 0, none⟩ = some (.slice A ns.length c) ∧ u_.cell? ⟨w.heap.size, 0, none⟩ = some (.int .i64 x.lab) ∧ u_.cell? ⟨w.heap.size, 1, none⟩ = some (.int .i64 x.a.lab) ∧ u_.cell? ⟨w.heap.size, 2, none⟩ = some (.int .i64 x.a.num) ∧ u_.cell? ⟨w.heap.size, 3, none⟩ = some (.int .i64 x.b.lab) ∧ u_.cell? ⟨w.heap.size, 4, none⟩ = some (.int .i64 x.b.num) ∧ True) from ⟨fun _ _ hb_ ⟨q_, s0_, s1_, s2_, s3_, s4_, s5_, _⟩ => ⟨below_step q_ hb_, pw_cell_below hb_ s0_, pw_cell_below hb_ s1_, pw_cell_below hb_ s2_, pw_cell_below hb_ s3_, pw_cell_below hb_ s4_, pw_cell_below hb_ s5_, trivial⟩⟩)
      refine region_by2 _ sPutE4 (by kernel_rfl) sPutE4_ok rfl (fun d _ _ _ _ h => by cases d <;> exact h) HK_.out ⟨HB.out, gn0, b0, b1, b2, b3, b4, trivial⟩ ?_
      intro u hS hbu_
      have HOx_ := Aside0.mk (Own.below HO.out hbu_)
      clear HO
      have HO := Aside0.mk HOx_.out
      clear HOx_
      clear hbu_
      clear gn0 b0 b1 b2 b3 b4
      repeat (first | (refine h_off gt_ (by rfl) ?_; intro a_ ha_; (simp only [Act.put, pu1, pu2, pu3] at ha_); subst ha_) | (refine h_on (v := ?_) gt_ (by rfl) ?_ ?_; rotate_left; (· rintro w_ ⟨-, s0_, s1_, s2_, s3_, s4_, s5_, -⟩; go_simp; with_reducible rfl); intro a_ ha_; (simp only [Act.put, pu1, pu2, pu3] at ha_); subst ha_) | (refine h_offc hS gt_ (by rfl) ?_; intro a_ ha_; (simp only [Act.put, pu1, pu2, pu3] at ha_); subst ha_) | (refine h_call (f := 95) (args := #[.slice A ns.length c, .agg #[.int .i64 x.a.lab, .int .i64 x.a.num]]) HK_.out hS Tryz.func95 (by kernel_rfl) rfl gt_ (by rfl) (by rfl) mp_ ?_; (refine (nodeThere_calls A c ns x.a _ HO.out.cN HNS.out (HAO.out)).mono ?_); rintro e_ u_ ⟨rfl, hb_⟩; rw [HMA.out]; have HOx_ := Aside0.mk (Own.below HO.out hb_); clear HO; have HO := Aside0.mk HOx_.out; clear HOx_; refine ⟨_, rfl, hb_, fun a_ ha_ hS_ => ?_⟩; (simp only [Act.put, pu1, pu2, pu3] at ha_); subst ha_; clear hS; have hS := hS_; clear hS_ hb_) | (refine h_call (f := 95) (args := #[.slice A ns.length c, .agg #[.int .i64 x.b.lab, .int .i64 x.b.num]]) HK_.out hS Tryz.func95 (by kernel_rfl) rfl gt_ (by rfl) (by rfl) mp_ ?_; (refine (nodeThere_calls A c ns x.b _ HO.out.cN HNS.out (HBO.out)).mono ?_); rintro e_ u_ ⟨rfl, hb_⟩; rw [HMB.out]; have HOx_ := Aside0.mk (Own.below HO.out hb_); clear HO; have HO := Aside0.mk HOx_.out; clear HOx_; refine ⟨_, rfl, hb_, fun a_ ha_ hS_ => ?_⟩; (simp only [Act.put, pu1, pu2, pu3] at ha_); subst ha_; clear hS; have hS := hS_; clear hS_ hb_))
      refine h_end ?_
      clear HK_ HB
      obtain ⟨hB_, gn0, b0, b1, b2, b3, b4, -⟩ := hS
      have HB := Aside0.mk hB_
      clear hB_
      go_wp2
      go_ret
      exact ⟨B, es.length, retI HC.out.symm, by rw [HN.out]; exact HO.out, HB.out.mono HO0.out.base_le⟩
end Go.Proofs.YtogmbeifbjgphaaGreat.R
