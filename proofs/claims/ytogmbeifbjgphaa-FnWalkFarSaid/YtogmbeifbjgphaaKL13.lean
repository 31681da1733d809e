/- The law FnWalkFar, walked. -/
import Derived.Test.YtogmbeifbjgphaaKL11
namespace Go.Proofs.Ytogmbeifbjgphaa.R
open Go.RowKit Go.Proofs.YtogmbeifbjgphaaV.PrintWords Go.Proofs.YtogmbeifbjgphaaV.PrintLast Go.Proofs.YtogmbeifbjgphaaV.PrintMore Go.Proofs.Ytogmbeifbjgphaa.M
set_option linter.unusedVariables false
set_option linter.unusedSimpArgs false
attribute [local go_sem high] eqN eqE
abbrev sWf15 : Pl := (.tk 0 (.tk 1 (.tk 2 (.tk 3 (.tk 4 (.tk 5 (.tk 6 (.nd .one 7 (.tk 8 (.tk 9 (.tk 10 .fin)))))))))))
theorem sWf15_ok : planB .any (opsOf Try.f15 15) [] sWf15 (Array.replicate (opsOf Try.f15 15).size false) = true := by kernel_rfl
abbrev sWf17 : Pl := (.tk 0 (.tk 1 (.tk 2 (.tk 3 (.tk 4 (.tk 5 (.tk 6 (.tk 7 (.tk 8 (.tk 9 (.tk 10 (.tk 11 (.nd .one 12 (.tk 13 (.tk 14 (.tk 15 (.tk 16 .fin)))))))))))))))))
theorem sWf17_ok : planB .any (opsOf Try.f15 17) [] sWf17 (Array.replicate (opsOf Try.f15 17).size false) = true := by kernel_rfl
def WfS (w : World) (g3 g4 : Nat) (A1 : Option Addr) (c1 : Nat) (ns : List Nd) (B1 : Option Addr) (d1 : Nat) (es : List Eg) (n : Nd) (A5 : Option Addr) (D : List Int) (A6 : Option Addr) (P : List Int) (wr : World) : Prop :=
  wr.heap[g3]? = some (.cells #[.slice A1 ns.length c1, .slice B1 es.length d1] 26 (0, 0)) ∧ wr.heap[g4]? = some (.cells #[.int .i64 n.lab, .int .i64 n.num] 28 (0, 0)) ∧ GR wr A1 c1 ns B1 d1 es ∧ (Kd.int .i64).C wr A5 D.length D ∧ (Kd.int .i64).C wr A6 P.length P ∧ Below w.heap.size w wr
set_option maxHeartbeats 25600000 in
set_option maxRecDepth 100000 in
theorem walkFarLaw_calls (A : Option Addr) (c : Nat) (l : List Int) (w : World) (hl : (Kd.int .u8).C w A l.length l) (hc : l.length ≤ c) (hb : ∀ x ∈ l, 0 ≤ x ∧ x < 256) :
    Calls Try.prog 15 #[.slice A l.length c] w fun e w' => e = .returned (.bool true) ∧ Below w.heap.size w w' := by
  have HL := Aside0.mk hl
  have HC := Aside0.mk hc
  have HY := Aside0.mk hb
  have HB := Aside0.mk (Below.refl w.heap.size w)
  clear hl hc hb
  by_cases hlen : 1048576 < l.length
  · have hl1 : (1048576 : Int) < (l.length : Int) := by omega
    go_enter Try.func15, Try.ntmps15
    go_wp2_with (fail)
    go_ret
    exact ⟨rfl, HB.out⟩
  have hl1 : ¬ (1048576 : Int) < (l.length : Int) := by omega
  clear hlen
  go_enter Try.func15, Try.ntmps15
  go_upto_region 5 with (first | (go_at_call 52; go_must ((refine (drawWD_calls A c l _ (Kd.C_below HL.out HB.out) HC.out HY.out).mono ?_); rintro e u_ ⟨⟨A1, c1, ns, B1, d1, es, n, rfl, hgr_, -, -, hn_, he_⟩, hb⟩; have HGR := Aside0.mk hgr_; have HLN := Aside0.mk (And.intro hn_ he_); clear hgr_ hn_ he_; obtain ⟨D, hD_⟩ : ∃ y, wDist ns es n = y := ⟨_, rfl⟩; have HD := Aside0.mk hD_; have HDL := Aside0.mk (wd_len hD_); clear hD_; replace HB := Aside0.mk (below_step HB.out hb); clear hb)) | ((with_reducible refine gate_dst (N := 3) rfl ?_); go_must ((refine w_new #[.slice none 0 0, .slice none 0 0] 26 rfl (by go_simp; (first | done | rfl)) ?_); intro g3 u_ hge_ hb0_ hb; have N3HGR := Aside0.mk (HGR.out.new hge_); have Hg3 := Aside0.mk (show w.heap.size + 0 ≤ g3 from by have hl0_ := HB.out.size; exact by omega); have L3 := Aside0.mk hb0_; replace HB := Aside0.mk (below_step HB.out hb); replace HGR := Aside0.mk (HGR.out.below hb); clear hge_ hb0_ hb; (try clear t3c0 t3c1); obtain ⟨t3c0, t3c1⟩ := cs2 (L3.out))) | ((with_reducible refine gate_dst (N := 4) rfl ?_); go_must ((refine w_new #[.int .i64 0, .int .i64 0] 28 rfl (by go_simp; (first | done | rfl)) ?_); intro g4 u_ hge_ hb0_ hb; have N4HGR := Aside0.mk (HGR.out.new hge_); have Hg4 := Aside0.mk (show w.heap.size + 0 ≤ g4 ∧ g3 < g4 from by have hl0_ := HB.out.size; have hl_g3 := blk_lt L3.out; exact ⟨by omega, by omega⟩); have L4 := Aside0.mk hb0_; replace HB := Aside0.mk (below_step HB.out hb); replace L3 := Aside0.mk (blk_below L3.out hb); replace HGR := Aside0.mk (HGR.out.below hb); clear hge_ hb0_ hb; (try clear t3c0 t3c1); obtain ⟨t3c0, t3c1⟩ := cs2 (L3.out); (try clear t4c0 t4c1); obtain ⟨t4c0, t4c1⟩ := cs2 (L4.out))) | ((with_reducible refine gate_store (p := 3) rfl ?_); go_must ((refine wpList_plain rfl fun K_ hK_ => wp_store_row _ _ _ rfl (g3) #[.slice A1 ns.length c1, .slice B1 es.length d1] rfl rfl _ _ L3.out (by kernel_rfl) rfl (by simp [Value.oneCell']) (hK_ _ _ ?_)); refine named _ ?_; intro wz hwz; replace HB := Aside0.mk (sb_ hwz HB.out (by have := Hg3.out; have := Hg4.out; omega)); replace L4 := Aside0.mk (so_ hwz L4.out (by have := Hg3.out; have := Hg4.out; omega)); replace L3 := Aside0.mk (sh_ hwz L3.out); replace HGR := Aside0.mk ((HGR.out).row hwz N3HGR.out.1 N3HGR.out.2); (try clear t3c0 t3c1); obtain ⟨t3c0, t3c1⟩ := cs2 (L3.out); (try clear t4c0 t4c1); obtain ⟨t4c0, t4c1⟩ := cs2 (L4.out); clear hwz)) | ((with_reducible refine gate_store (p := 4) rfl ?_); go_must ((refine wpList_plain rfl fun K_ hK_ => wp_store_row _ _ _ rfl (g4) #[.int .i64 n.lab, .int .i64 n.num] rfl rfl _ _ L4.out (by kernel_rfl) rfl (by simp [Value.oneCell']) (hK_ _ _ ?_)); refine named _ ?_; intro wz hwz; replace HB := Aside0.mk (sb_ hwz HB.out (by have := Hg3.out; have := Hg4.out; omega)); replace L3 := Aside0.mk (so_ hwz L3.out (by have := Hg3.out; have := Hg4.out; omega)); replace L4 := Aside0.mk (sh_ hwz L4.out); replace HGR := Aside0.mk ((HGR.out).row hwz N4HGR.out.1 N4HGR.out.2); (try clear t3c0 t3c1); obtain ⟨t3c0, t3c1⟩ := cs2 (L3.out); (try clear t4c0 t4c1); obtain ⟨t4c0, t4c1⟩ := cs2 (L4.out); clear hwz)) | (go_at_call 53; go_must ((refine (walkDist_as A1 c1 ns B1 d1 es n D _ HGR.out HD.out).mono ?_); rintro e u_ ⟨⟨A5, c5, rfl, hc_, hl_, hf_⟩, hb⟩; have HC5 := Aside0.mk hc_; clear hc_ hl_ hf_; replace HB := Aside0.mk (below_step HB.out hb); replace L3 := Aside0.mk (blk_below L3.out hb); replace L4 := Aside0.mk (blk_below L4.out hb); replace HGR := Aside0.mk (HGR.out.below hb); (try clear t3c0 t3c1); obtain ⟨t3c0, t3c1⟩ := cs2 (L3.out); (try clear t4c0 t4c1); obtain ⟨t4c0, t4c1⟩ := cs2 (L4.out); clear hb)))
  by_cases hin : okG ns es = true ∧ n ∈ ns
  · have HOG := Aside0.mk (okG_true.1 hin.1)
    have HMEM := Aside0.mk hin.2
    have HDE := Aside0.mk (wd_at HD.out hin.1 hin.2)
    obtain ⟨s, hs⟩ : ∃ s, idx ns n = s := ⟨_, rfl⟩
    have HSE := Aside0.mk hs
    have HPL := Aside0.mk (show placeI ns n = (s : Int) by rw [placeI_in hin.2, hs])
    have HSN := Aside0.mk (show s < ns.length by rw [← hs]; exact idx_lt hin.2)
    rw [hs] at HDE
    have HDN := Aside0.mk (show D.length = ns.length by rw [HDE.out, distL_length])
    obtain ⟨P, hP⟩ : ∃ y, wParts ns es = y := ⟨_, rfl⟩
    have HPQ := Aside0.mk hP
    have HPE := Aside0.mk (show P = partL (adjI ns es) ns.length from hP.symm.trans (if_pos hin.1))
    have hdz : ¬ (D.length : Int) = 0 := by have := HDN.out; have := HSN.out; omega
    have hdn : (D.length : Int) ≤ 100 := by have := HDN.out; have := HLN.out; omega
    obtain ⟨a1, rfl⟩ : ∃ ad, A1 = some ad := by obtain ⟨ad, e, _⟩ := HGR.out.cn.2.2 (by have := HSN.out; omega); exact ⟨ad, e⟩
    obtain ⟨a5, rfl⟩ : ∃ ad, A5 = some ad := by obtain ⟨ad, e, _⟩ := HC5.out.2.2 (by have := HDN.out; have := HSN.out; omega); exact ⟨ad, e⟩
    clear hin hs hP
    go_upto_region 8 with (first | (go_at_call 55; go_must ((refine (sWalkDist_as (some a1) c1 ns B1 d1 es n D _ HGR.out HLN.out HD.out).mono ?_); rintro e u_ ⟨⟨A6, c6, rfl, hc_, hl_, hf_⟩, hb⟩; have HC6 := Aside0.mk hc_; clear hc_ hl_ hf_; replace HB := Aside0.mk (below_step HB.out hb); replace L3 := Aside0.mk (blk_below L3.out hb); replace L4 := Aside0.mk (blk_below L4.out hb); replace HGR := Aside0.mk (HGR.out.below hb); replace HC5 := Aside0.mk (Kd.C_below (HC5.out) hb); (try clear t3c0 t3c1); obtain ⟨t3c0, t3c1⟩ := cs2 (L3.out); (try clear t4c0 t4c1); obtain ⟨t4c0, t4c1⟩ := cs2 (L4.out); clear hb)) | (go_at_call 54; go_must ((refine (wpInts_calls (some a5) c5 A6 c6 D _ HC5.out HC6.out (by have := HDL.out; have := HLN.out; omega)).mono ?_); rintro e u_ ⟨rfl, hb⟩; replace HB := Aside0.mk (below_step HB.out hb); replace L3 := Aside0.mk (blk_below L3.out hb); replace L4 := Aside0.mk (blk_below L4.out hb); replace HGR := Aside0.mk (HGR.out.below hb); replace HC5 := Aside0.mk (Kd.C_below (HC5.out) hb); replace HC6 := Aside0.mk (Kd.C_below (HC6.out) hb); (try clear t3c0 t3c1); obtain ⟨t3c0, t3c1⟩ := cs2 (L3.out); (try clear t4c0 t4c1); obtain ⟨t4c0, t4c1⟩ := cs2 (L4.out); clear hb)) | (go_at_call 58; go_must ((refine (walkParts_as (some a1) c1 ns B1 d1 es P _ HGR.out HPQ.out).mono ?_); rintro e u_ ⟨⟨A6, c6, rfl, hc_, hl_, hf_⟩, hb⟩; have HP6 := Aside0.mk hc_; clear hc_ hl_ hf_; replace HB := Aside0.mk (below_step HB.out hb); replace L3 := Aside0.mk (blk_below L3.out hb); replace L4 := Aside0.mk (blk_below L4.out hb); replace HGR := Aside0.mk (HGR.out.below hb); replace HC5 := Aside0.mk (Kd.C_below (HC5.out) hb); (try clear t3c0 t3c1); obtain ⟨t3c0, t3c1⟩ := cs2 (L3.out); (try clear t4c0 t4c1); obtain ⟨t4c0, t4c1⟩ := cs2 (L4.out); clear hb)))
    obtain ⟨a6, rfl⟩ : ∃ ad, A6 = some ad := by obtain ⟨ad, e, _⟩ := HP6.out.2.2 (by rw [HPE.out, partL_length]; have := HSN.out; omega); exact ⟨ad, e⟩
    go_wp2_with (fail)
    go_loopw [7, 8, 9] (fun s7 s8 s9 wr => ∃ i far cnt : Nat, i ≤ D.length ∧ s9 = .int .i64 (i : Int) ∧ s7 = .int .i64 (far : Int) ∧ s8 = .int .i64 (cnt : Int) ∧ far ≤ 100 ∧ (∃ v, v < ns.length ∧ dist (adjI ns es) s v = (far : Int)) ∧ cnt = sm i (fun u => (decide (0 ≤ dist (adjI ns es) s u)).toNat) ∧ cnt ≤ i ∧ WfS w g3 g4 (some a1) c1 ns B1 d1 es n (some a5) D (some a6) P wr) (fun _ _ s9 _ => (D.length - intOf s9).toNat)
    case atStart => exact ⟨0, 0, 0, Nat.zero_le _, rfl, rfl, rfl, Nat.zero_le _, ⟨s, HSN.out, dist_self s⟩, rfl, Nat.le_refl _, ⟨L3.out, L4.out, HGR.out, HC5.out, HP6.out, HB.out⟩⟩
    case round =>
      clear L3 L4 HGR HC5 HP6 HB
      obtain ⟨i, far, cnt, hi, rfl, rfl, rfl, hf1, hfe, hcn, hcb, l3_, l4_, gr_, c5_, p6_, hb_⟩ := hrel
      have HI := Aside0.mk hi
      have HF1 := Aside0.mk hf1
      have HFE := Aside0.mk hfe
      have HCN := Aside0.mk hcn
      have HCB := Aside0.mk hcb
      clear hi hf1 hfe hcn hcb
      have L3 := Aside0.mk l3_
      have L4 := Aside0.mk l4_
      have HGR := Aside0.mk gr_
      have HC5 := Aside0.mk c5_
      have HP6 := Aside0.mk p6_
      have HB := Aside0.mk hb_
      obtain ⟨t3c0, t3c1⟩ := cs2 (L3.out)
      obtain ⟨t4c0, t4c1⟩ := cs2 (L4.out)
      clear l3_ l4_ gr_ c5_ p6_ hb_
      have hf100 : (far : Int) ≤ 100 := by have := HF1.out; omega
      by_cases hlt : i < D.length
      · have hil : (i : Int) < (D.length : Int) := by omega
        have hiN : i < ns.length := by have := HDN.out; omega
        have HIL := Aside0.mk hlt
        have hip : (i : Int) < (P.length : Int) := by rw [HPE.out, partL_length]; omega
        have hsp : (s : Int) < (P.length : Int) := by rw [HPE.out, partL_length]; have := HSN.out; omega
        have hc100 : (cnt : Int) ≤ 100 := by have := HCB.out; have := HIL.out; have := HDN.out; have := HLN.out; omega
        obtain ⟨x, hx⟩ : ∃ x, dist (adjI ns es) s i = x := ⟨_, rfl⟩
        have HXA := Aside0.mk (show D.getD i 0 = x by rw [← hx, HDE.out]; exact gt_distL hiN)
        have HXD := Aside0.mk hx
        have hxl : -1 ≤ x := by rw [← hx]; exact dist_low _ _
        have hxu : x ≤ 100 := by rw [← hx]; have h1 := dist_ub HOG.out HMEM.out hiN; rw [HSE.out] at h1; have := HLN.out; omega
        have HRE := Aside0.mk (root_eq (adj := adjI ns es) adjI_sym s i)
        rw [hx] at HRE
        have HCS := Aside0.mk (show sm (i + 1) (fun u => (decide (0 ≤ dist (adjI ns es) s u)).toNat) = cnt + (decide (0 ≤ x)).toNat by rw [sm_succ, HCN.out, hx])
        obtain ⟨a5_, e5_, k0⟩ := int_at HC5.out i HIL.out
        obtain rfl := Option.some.inj e5_
        rw [HXA.out] at k0
        clear e5_
        obtain ⟨a6_, e6_, p0⟩ := int_at HP6.out i (by rw [HPE.out, partL_length]; exact hiN)
        obtain rfl := Option.some.inj e6_
        rw [show P.getD i 0 = ((root (adjI ns es) i : Nat) : Int) by rw [HPE.out]; exact gt_partL hiN] at p0
        clear e6_
        obtain ⟨a6_, e6_, p1⟩ := int_at HP6.out s (by rw [HPE.out, partL_length]; exact HSN.out)
        obtain rfl := Option.some.inj e6_
        rw [show P.getD s 0 = ((root (adjI ns es) s : Nat) : Int) by rw [HPE.out]; exact gt_partL HSN.out] at p1
        clear e6_
        have HIN := Aside0.mk hiN
        clear hlt hx hiN
        by_cases hx0 : 0 ≤ x
        · have HPI := Aside0.mk (show P.getD i 0 = ((root (adjI ns es) i : Nat) : Int) by rw [HPE.out]; exact gt_partL HIN.out)
          have HPS := Aside0.mk (show P.getD s 0 = ((root (adjI ns es) i : Nat) : Int) by rw [← HRE.out.2 hx0, HPE.out]; exact gt_partL HSN.out)
          rw [HRE.out.2 hx0] at p1
          obtain ⟨xn, rfl⟩ : ∃ xn : Nat, x = (xn : Int) := ⟨x.toNat, by omega⟩
          have HC1 := Aside0.mk (show cnt + 1 = sm (i + 1) (fun u => (decide (0 ≤ dist (adjI ns es) s u)).toNat) by rw [HCS.out, decide_eq_true hx0]; rfl)
          generalize ((root (adjI ns es) i : Nat) : Int) = pi at p0 p1 HPI HPS
          have hxb : decide (0 ≤ (xn : Int)) = true := decide_eq_true hx0
          by_cases hgt : (far : Int) < (xn : Int)
          all_goals
            go_wp2_with (fail)
            have ZL3 := L3
            have ZL4 := L4
            refine region_bp [] sWf15 (by kernel_rfl) sWf15_ok (by decide) (fun d _ _ _ _ h => by cases d <;> exact h) ?_
            intro u hb
            have hS := hb
            replace HB := Aside0.mk (below_step HB.out hb)
            replace L3 := Aside0.mk (blk_below L3.out hb)
            replace L4 := Aside0.mk (blk_below L4.out hb)
            replace HGR := Aside0.mk (HGR.out.below hb)
            replace HC5 := Aside0.mk (Kd.C_below (HC5.out) hb)
            replace HP6 := Aside0.mk (Kd.C_below (HP6.out) hb)
            (try clear t3c0 t3c1)
            obtain ⟨t3c0, t3c1⟩ := cs2 (L3.out)
            (try clear t4c0 t4c1)
            obtain ⟨t4c0, t4c1⟩ := cs2 (L4.out)
            clear hb
            repeat (first | (refine p_off hS gt_ (by rfl) ?_; intro a_ ha_; (simp only [Act.put, List.setIfInBounds_toArray, List.set_cons_zero, List.set_cons_succ] at ha_); subst ha_) | (refine p_on (v := ?_) hS gt_ (by rfl) ?_ ?_; rotate_left; (· rintro w_ hS_; obtain ⟨t3c0_, t3c1_⟩ := cs2 (blk_below ZL3.out hS_); obtain ⟨t4c0_, t4c1_⟩ := cs2 (blk_below ZL4.out hS_); have p0_ := pw_cell_below hS_ p0; have p1_ := pw_cell_below hS_ p1; go_simp; with_reducible rfl); intro a_ ha_; (simp only [Act.put, List.setIfInBounds_toArray, List.set_cons_zero, List.set_cons_succ] at ha_); subst ha_) | (refine p_poff gt_ (by rfl) ?_; intro a_ ha_; (simp only [Act.put, List.setIfInBounds_toArray, List.set_cons_zero, List.set_cons_succ] at ha_); subst ha_) | (refine p_pon (v := ?_) gt_ (by rfl) ?_ ?_; rotate_left; (· go_simp; with_reducible rfl); intro a_ ha_; (simp only [Act.put, List.setIfInBounds_toArray, List.set_cons_zero, List.set_cons_succ] at ha_); subst ha_) | (refine p_ooff hS gt_ (by rfl) ?_; intro a_ ha_; (simp only [Act.put, List.setIfInBounds_toArray, List.set_cons_zero, List.set_cons_succ] at ha_); subst ha_) | (refine p_loff gt_ (by rfl) ?_; intro a_ ha_; (simp only [Act.put, List.setIfInBounds_toArray, List.set_cons_zero, List.set_cons_succ] at ha_); subst ha_) | (refine p_call (f := 56) (args := #[.agg #[.slice (some a1) ns.length c1, .slice B1 es.length d1], .agg #[.int .i64 n.lab, .int .i64 n.num]]) Try.func56 (by kernel_rfl) rfl gt_ (by rfl) (by rfl) mp_ ?_; (refine (wpAt_as (some a1) c1 ns B1 d1 es n s _ HGR.out HLN.out HPL.out).mono ?_); rintro e_ u_ ⟨rfl, hb⟩; replace HB := Aside0.mk (below_step HB.out hb); replace L3 := Aside0.mk (blk_below L3.out hb); replace L4 := Aside0.mk (blk_below L4.out hb); replace HGR := Aside0.mk (HGR.out.below hb); replace HC5 := Aside0.mk (Kd.C_below (HC5.out) hb); replace HP6 := Aside0.mk (Kd.C_below (HP6.out) hb); (try clear t3c0 t3c1); obtain ⟨t3c0, t3c1⟩ := cs2 (L3.out); (try clear t4c0 t4c1); obtain ⟨t4c0, t4c1⟩ := cs2 (L4.out); replace hS := below_step hS hb; refine ⟨_, rfl, hS, fun a_ ha_ => ?_⟩; (simp only [Act.put, List.setIfInBounds_toArray, List.set_cons_zero, List.set_cons_succ] at ha_); subst ha_; clear hb))
            refine p_fin ?_
            clear hS ZL3 ZL4
            clear k0 p0 p1
            obtain ⟨a5_, e5_, k0⟩ := int_at HC5.out i HIL.out
            obtain rfl := Option.some.inj e5_
            rw [HXA.out] at k0
            clear e5_
            obtain ⟨a6_, e6_, p0⟩ := int_at HP6.out i (by rw [HPE.out, partL_length]; exact HIN.out)
            obtain rfl := Option.some.inj e6_
            rw [HPI.out] at p0
            clear e6_
            obtain ⟨a6_, e6_, p1⟩ := int_at HP6.out s (by rw [HPE.out, partL_length]; exact HSN.out)
            obtain rfl := Option.some.inj e6_
            rw [HPS.out] at p1
            clear e6_
            go_wp2_with (fail)
            have ZL3 := L3
            have ZL4 := L4
            refine region_bp [] sWf17 (by kernel_rfl) sWf17_ok (by decide) (fun d _ _ _ _ h => by cases d <;> exact h) ?_
            intro u hb
            have hS := hb
            replace HB := Aside0.mk (below_step HB.out hb)
            replace L3 := Aside0.mk (blk_below L3.out hb)
            replace L4 := Aside0.mk (blk_below L4.out hb)
            replace HGR := Aside0.mk (HGR.out.below hb)
            replace HC5 := Aside0.mk (Kd.C_below (HC5.out) hb)
            replace HP6 := Aside0.mk (Kd.C_below (HP6.out) hb)
            (try clear t3c0 t3c1)
            obtain ⟨t3c0, t3c1⟩ := cs2 (L3.out)
            (try clear t4c0 t4c1)
            obtain ⟨t4c0, t4c1⟩ := cs2 (L4.out)
            clear hb
            repeat (first | (refine p_off hS gt_ (by rfl) ?_; intro a_ ha_; (simp only [Act.put, List.setIfInBounds_toArray, List.set_cons_zero, List.set_cons_succ] at ha_); subst ha_) | (refine p_on (v := ?_) hS gt_ (by rfl) ?_ ?_; rotate_left; (· rintro w_ hS_; obtain ⟨t3c0_, t3c1_⟩ := cs2 (blk_below ZL3.out hS_); obtain ⟨t4c0_, t4c1_⟩ := cs2 (blk_below ZL4.out hS_); have k0_ := pw_cell_below hS_ k0; have p0_ := pw_cell_below hS_ p0; have p1_ := pw_cell_below hS_ p1; go_simp; with_reducible rfl); intro a_ ha_; (simp only [Act.put, List.setIfInBounds_toArray, List.set_cons_zero, List.set_cons_succ] at ha_); subst ha_) | (refine p_poff gt_ (by rfl) ?_; intro a_ ha_; (simp only [Act.put, List.setIfInBounds_toArray, List.set_cons_zero, List.set_cons_succ] at ha_); subst ha_) | (refine p_pon (v := ?_) gt_ (by rfl) ?_ ?_; rotate_left; (· go_simp; with_reducible rfl); intro a_ ha_; (simp only [Act.put, List.setIfInBounds_toArray, List.set_cons_zero, List.set_cons_succ] at ha_); subst ha_) | (refine p_ooff hS gt_ (by rfl) ?_; intro a_ ha_; (simp only [Act.put, List.setIfInBounds_toArray, List.set_cons_zero, List.set_cons_succ] at ha_); subst ha_) | (refine p_loff gt_ (by rfl) ?_; intro a_ ha_; (simp only [Act.put, List.setIfInBounds_toArray, List.set_cons_zero, List.set_cons_succ] at ha_); subst ha_) | (refine p_call (f := 56) (args := #[.agg #[.slice (some a1) ns.length c1, .slice B1 es.length d1], .agg #[.int .i64 n.lab, .int .i64 n.num]]) Try.func56 (by kernel_rfl) rfl gt_ (by rfl) (by rfl) mp_ ?_; (refine (wpAt_as (some a1) c1 ns B1 d1 es n s _ HGR.out HLN.out HPL.out).mono ?_); rintro e_ u_ ⟨rfl, hb⟩; replace HB := Aside0.mk (below_step HB.out hb); replace L3 := Aside0.mk (blk_below L3.out hb); replace L4 := Aside0.mk (blk_below L4.out hb); replace HGR := Aside0.mk (HGR.out.below hb); replace HC5 := Aside0.mk (Kd.C_below (HC5.out) hb); replace HP6 := Aside0.mk (Kd.C_below (HP6.out) hb); (try clear t3c0 t3c1); obtain ⟨t3c0, t3c1⟩ := cs2 (L3.out); (try clear t4c0 t4c1); obtain ⟨t4c0, t4c1⟩ := cs2 (L4.out); replace hS := below_step hS hb; refine ⟨_, rfl, hS, fun a_ ha_ => ?_⟩; (simp only [Act.put, List.setIfInBounds_toArray, List.set_cons_zero, List.set_cons_succ] at ha_); subst ha_; clear hb))
            refine p_fin ?_
            clear hS ZL3 ZL4
            go_wp2_with (fail)
            go_roundw
            case rel => first | exact ⟨i + 1, xn, cnt + 1, HIL.out, by go_num, rfl, by go_num, by omega, ⟨i, HIN.out, HXD.out⟩, HC1.out, by have := HCB.out; omega, ⟨L3.out, L4.out, HGR.out, HC5.out, HP6.out, HB.out⟩⟩ | exact ⟨i + 1, far, cnt + 1, HIL.out, by go_num, rfl, by go_num, HF1.out, HFE.out, HC1.out, by have := HCB.out; omega, ⟨L3.out, L4.out, HGR.out, HC5.out, HP6.out, HB.out⟩⟩
            case measure => have := HIL.out; simp [intOf]; omega
        · have hne : ¬ ((root (adjI ns es) i : Nat) : Int) = ((root (adjI ns es) s : Nat) : Int) := fun h => hx0 (HRE.out.1 (by omega))
          have HC1 := Aside0.mk (show cnt = sm (i + 1) (fun u => (decide (0 ≤ dist (adjI ns es) s u)).toNat) by rw [HCS.out, decide_eq_false hx0]; rfl)
          have hgt : ¬ (far : Int) < x := by omega
          have HPI := Aside0.mk (show P.getD i 0 = ((root (adjI ns es) i : Nat) : Int) by rw [HPE.out]; exact gt_partL HIN.out)
          have HPS := Aside0.mk (show P.getD s 0 = ((root (adjI ns es) s : Nat) : Int) by rw [HPE.out]; exact gt_partL HSN.out)
          generalize ((root (adjI ns es) i : Nat) : Int) = pi at p0 hne HPI
          generalize ((root (adjI ns es) s : Nat) : Int) = ps at p1 hne HPS
          go_wp2_with (fail)
          have ZL3 := L3
          have ZL4 := L4
          refine region_bp [] sWf15 (by kernel_rfl) sWf15_ok (by decide) (fun d _ _ _ _ h => by cases d <;> exact h) ?_
          intro u hb
          have hS := hb
          replace HB := Aside0.mk (below_step HB.out hb)
          replace L3 := Aside0.mk (blk_below L3.out hb)
          replace L4 := Aside0.mk (blk_below L4.out hb)
          replace HGR := Aside0.mk (HGR.out.below hb)
          replace HC5 := Aside0.mk (Kd.C_below (HC5.out) hb)
          replace HP6 := Aside0.mk (Kd.C_below (HP6.out) hb)
          (try clear t3c0 t3c1)
          obtain ⟨t3c0, t3c1⟩ := cs2 (L3.out)
          (try clear t4c0 t4c1)
          obtain ⟨t4c0, t4c1⟩ := cs2 (L4.out)
          clear hb
          repeat (first | (refine p_off hS gt_ (by rfl) ?_; intro a_ ha_; (simp only [Act.put, List.setIfInBounds_toArray, List.set_cons_zero, List.set_cons_succ] at ha_); subst ha_) | (refine p_on (v := ?_) hS gt_ (by rfl) ?_ ?_; rotate_left; (· rintro w_ hS_; obtain ⟨t3c0_, t3c1_⟩ := cs2 (blk_below ZL3.out hS_); obtain ⟨t4c0_, t4c1_⟩ := cs2 (blk_below ZL4.out hS_); have p0_ := pw_cell_below hS_ p0; have p1_ := pw_cell_below hS_ p1; go_simp; with_reducible rfl); intro a_ ha_; (simp only [Act.put, List.setIfInBounds_toArray, List.set_cons_zero, List.set_cons_succ] at ha_); subst ha_) | (refine p_poff gt_ (by rfl) ?_; intro a_ ha_; (simp only [Act.put, List.setIfInBounds_toArray, List.set_cons_zero, List.set_cons_succ] at ha_); subst ha_) | (refine p_pon (v := ?_) gt_ (by rfl) ?_ ?_; rotate_left; (· go_simp; with_reducible rfl); intro a_ ha_; (simp only [Act.put, List.setIfInBounds_toArray, List.set_cons_zero, List.set_cons_succ] at ha_); subst ha_) | (refine p_ooff hS gt_ (by rfl) ?_; intro a_ ha_; (simp only [Act.put, List.setIfInBounds_toArray, List.set_cons_zero, List.set_cons_succ] at ha_); subst ha_) | (refine p_loff gt_ (by rfl) ?_; intro a_ ha_; (simp only [Act.put, List.setIfInBounds_toArray, List.set_cons_zero, List.set_cons_succ] at ha_); subst ha_) | (refine p_call (f := 56) (args := #[.agg #[.slice (some a1) ns.length c1, .slice B1 es.length d1], .agg #[.int .i64 n.lab, .int .i64 n.num]]) Try.func56 (by kernel_rfl) rfl gt_ (by rfl) (by rfl) mp_ ?_; (refine (wpAt_as (some a1) c1 ns B1 d1 es n s _ HGR.out HLN.out HPL.out).mono ?_); rintro e_ u_ ⟨rfl, hb⟩; replace HB := Aside0.mk (below_step HB.out hb); replace L3 := Aside0.mk (blk_below L3.out hb); replace L4 := Aside0.mk (blk_below L4.out hb); replace HGR := Aside0.mk (HGR.out.below hb); replace HC5 := Aside0.mk (Kd.C_below (HC5.out) hb); replace HP6 := Aside0.mk (Kd.C_below (HP6.out) hb); (try clear t3c0 t3c1); obtain ⟨t3c0, t3c1⟩ := cs2 (L3.out); (try clear t4c0 t4c1); obtain ⟨t4c0, t4c1⟩ := cs2 (L4.out); replace hS := below_step hS hb; refine ⟨_, rfl, hS, fun a_ ha_ => ?_⟩; (simp only [Act.put, List.setIfInBounds_toArray, List.set_cons_zero, List.set_cons_succ] at ha_); subst ha_; clear hb))
          refine p_fin ?_
          clear hS ZL3 ZL4
          clear k0 p0 p1
          obtain ⟨a5_, e5_, k0⟩ := int_at HC5.out i HIL.out
          obtain rfl := Option.some.inj e5_
          rw [HXA.out] at k0
          clear e5_
          obtain ⟨a6_, e6_, p0⟩ := int_at HP6.out i (by rw [HPE.out, partL_length]; exact HIN.out)
          obtain rfl := Option.some.inj e6_
          rw [HPI.out] at p0
          clear e6_
          obtain ⟨a6_, e6_, p1⟩ := int_at HP6.out s (by rw [HPE.out, partL_length]; exact HSN.out)
          obtain rfl := Option.some.inj e6_
          rw [HPS.out] at p1
          clear e6_
          go_wp2_with (fail)
          have ZL3 := L3
          have ZL4 := L4
          refine region_bp [] sWf17 (by kernel_rfl) sWf17_ok (by decide) (fun d _ _ _ _ h => by cases d <;> exact h) ?_
          intro u hb
          have hS := hb
          replace HB := Aside0.mk (below_step HB.out hb)
          replace L3 := Aside0.mk (blk_below L3.out hb)
          replace L4 := Aside0.mk (blk_below L4.out hb)
          replace HGR := Aside0.mk (HGR.out.below hb)
          replace HC5 := Aside0.mk (Kd.C_below (HC5.out) hb)
          replace HP6 := Aside0.mk (Kd.C_below (HP6.out) hb)
          (try clear t3c0 t3c1)
          obtain ⟨t3c0, t3c1⟩ := cs2 (L3.out)
          (try clear t4c0 t4c1)
          obtain ⟨t4c0, t4c1⟩ := cs2 (L4.out)
          clear hb
          repeat (first | (refine p_off hS gt_ (by rfl) ?_; intro a_ ha_; (simp only [Act.put, List.setIfInBounds_toArray, List.set_cons_zero, List.set_cons_succ] at ha_); subst ha_) | (refine p_on (v := ?_) hS gt_ (by rfl) ?_ ?_; rotate_left; (· rintro w_ hS_; obtain ⟨t3c0_, t3c1_⟩ := cs2 (blk_below ZL3.out hS_); obtain ⟨t4c0_, t4c1_⟩ := cs2 (blk_below ZL4.out hS_); have k0_ := pw_cell_below hS_ k0; have p0_ := pw_cell_below hS_ p0; have p1_ := pw_cell_below hS_ p1; go_simp; with_reducible rfl); intro a_ ha_; (simp only [Act.put, List.setIfInBounds_toArray, List.set_cons_zero, List.set_cons_succ] at ha_); subst ha_) | (refine p_poff gt_ (by rfl) ?_; intro a_ ha_; (simp only [Act.put, List.setIfInBounds_toArray, List.set_cons_zero, List.set_cons_succ] at ha_); subst ha_) | (refine p_pon (v := ?_) gt_ (by rfl) ?_ ?_; rotate_left; (· go_simp; with_reducible rfl); intro a_ ha_; (simp only [Act.put, List.setIfInBounds_toArray, List.set_cons_zero, List.set_cons_succ] at ha_); subst ha_) | (refine p_ooff hS gt_ (by rfl) ?_; intro a_ ha_; (simp only [Act.put, List.setIfInBounds_toArray, List.set_cons_zero, List.set_cons_succ] at ha_); subst ha_) | (refine p_loff gt_ (by rfl) ?_; intro a_ ha_; (simp only [Act.put, List.setIfInBounds_toArray, List.set_cons_zero, List.set_cons_succ] at ha_); subst ha_) | (refine p_call (f := 56) (args := #[.agg #[.slice (some a1) ns.length c1, .slice B1 es.length d1], .agg #[.int .i64 n.lab, .int .i64 n.num]]) Try.func56 (by kernel_rfl) rfl gt_ (by rfl) (by rfl) mp_ ?_; (refine (wpAt_as (some a1) c1 ns B1 d1 es n s _ HGR.out HLN.out HPL.out).mono ?_); rintro e_ u_ ⟨rfl, hb⟩; replace HB := Aside0.mk (below_step HB.out hb); replace L3 := Aside0.mk (blk_below L3.out hb); replace L4 := Aside0.mk (blk_below L4.out hb); replace HGR := Aside0.mk (HGR.out.below hb); replace HC5 := Aside0.mk (Kd.C_below (HC5.out) hb); replace HP6 := Aside0.mk (Kd.C_below (HP6.out) hb); (try clear t3c0 t3c1); obtain ⟨t3c0, t3c1⟩ := cs2 (L3.out); (try clear t4c0 t4c1); obtain ⟨t4c0, t4c1⟩ := cs2 (L4.out); replace hS := below_step hS hb; refine ⟨_, rfl, hS, fun a_ ha_ => ?_⟩; (simp only [Act.put, List.setIfInBounds_toArray, List.set_cons_zero, List.set_cons_succ] at ha_); subst ha_; clear hb))
          refine p_fin ?_
          clear hS ZL3 ZL4
          go_wp2_with (fail)
          go_roundw
          case rel => exact ⟨i + 1, far, cnt, HIL.out, by go_num, rfl, rfl, HF1.out, HFE.out, HC1.out, by have := HCB.out; omega, ⟨L3.out, L4.out, HGR.out, HC5.out, HP6.out, HB.out⟩⟩
          case measure => have := HIL.out; simp [intOf]; omega
      · have hil : ¬ (i : Int) < (D.length : Int) := by omega
        have HFC := Aside0.mk (show far < cnt by
          obtain ⟨v, hv, hd⟩ := HFE.out
          have h1 := far_lt adjI_sym (fun u v h => adjI_lt h) HSN.out hv hd
          rw [HCN.out, show i = ns.length by have := HDN.out; have := HI.out; omega]
          exact h1)
        clear hlt
        go_wp2_with (fail)
        go_loopw [10, 11, 12] (fun s10 _ _ wr => ∃ k : Nat, k ≤ far + 1 ∧ s10 = .int .i64 (k : Int) ∧ WfS w g3 g4 (some a1) c1 ns B1 d1 es n (some a5) D (some a6) P wr) (fun s10 _ _ _ => (far + 1 - intOf s10).toNat)
        case atStart => exact ⟨0, Nat.zero_le _, rfl, ⟨L3.out, L4.out, HGR.out, HC5.out, HP6.out, HB.out⟩⟩
        case round =>
          clear L3 L4 HGR HC5 HP6 HB
          obtain ⟨k, hk, rfl, l3_, l4_, gr_, c5_, p6_, hb_⟩ := hrel
          have HK := Aside0.mk hk
          clear hk
          have L3 := Aside0.mk l3_
          have L4 := Aside0.mk l4_
          have HGR := Aside0.mk gr_
          have HC5 := Aside0.mk c5_
          have HP6 := Aside0.mk p6_
          have HB := Aside0.mk hb_
          obtain ⟨t3c0, t3c1⟩ := cs2 (L3.out)
          obtain ⟨t4c0, t4c1⟩ := cs2 (L4.out)
          clear l3_ l4_ gr_ c5_ p6_ hb_
          by_cases hlt : k ≤ far
          · have hkf : (k : Int) ≤ (far : Int) := by omega
            have HKF := Aside0.mk hlt
            go_wp2_with (fail)
            go_loopw [11, 12] (fun s11 s12 wr => ∃ (j : Nat) (b : Bool), j ≤ D.length ∧ s12 = .int .i64 (j : Int) ∧ s11 = .bool b ∧ Aside0 (b = true ↔ ∃ u, u < j ∧ dist (adjI ns es) s u = (k : Int)) ∧ WfS w g3 g4 (some a1) c1 ns B1 d1 es n (some a5) D (some a6) P wr) (fun _ s12 _ => (D.length - intOf s12).toNat)
            case atStart => exact ⟨0, false, Nat.zero_le _, rfl, rfl, ⟨⟨(fun h => nomatch h), fun ⟨u, hu, _⟩ => absurd hu (Nat.not_lt_zero u)⟩⟩, ⟨L3.out, L4.out, HGR.out, HC5.out, HP6.out, HB.out⟩⟩
            case round =>
              clear L3 L4 HGR HC5 HP6 HB
              obtain ⟨j, b, hj, rfl, rfl, HBK, l3_, l4_, gr_, c5_, p6_, hb_⟩ := hrel
              have HJ := Aside0.mk hj
              clear hj
              have L3 := Aside0.mk l3_
              have L4 := Aside0.mk l4_
              have HGR := Aside0.mk gr_
              have HC5 := Aside0.mk c5_
              have HP6 := Aside0.mk p6_
              have HB := Aside0.mk hb_
              obtain ⟨t3c0, t3c1⟩ := cs2 (L3.out)
              obtain ⟨t4c0, t4c1⟩ := cs2 (L4.out)
              clear l3_ l4_ gr_ c5_ p6_ hb_
              by_cases hlt : j < D.length
              · have hjl : (j : Int) < (D.length : Int) := by omega
                have HJL := Aside0.mk hlt
                obtain ⟨x, hx⟩ : ∃ x, dist (adjI ns es) s j = x := ⟨_, rfl⟩
                have HXA := Aside0.mk (show D.getD j 0 = x by rw [← hx, HDE.out]; exact gt_distL (by have := HDN.out; omega))
                have HXD := Aside0.mk hx
                obtain ⟨a5_, e5_, k0⟩ := int_at HC5.out j hlt
                obtain rfl := Option.some.inj e5_
                rw [HXA.out] at k0
                clear e5_
                clear hlt hx
                by_cases hxk : x = (k : Int)
                · have HBN := Aside0.mk (show true = true ↔ ∃ u, u < j + 1 ∧ dist (adjI ns es) s u = (k : Int) from ⟨fun _ => ⟨j, Nat.lt_succ_self j, HXD.out.trans hxk⟩, fun _ => rfl⟩)
                  cases b
                  all_goals
                    go_wp2_with (fail)
                    go_roundw
                    case rel => exact ⟨j + 1, true, HJL.out, by go_num, by first | rfl | simp [hxk], HBN, ⟨L3.out, L4.out, HGR.out, HC5.out, HP6.out, HB.out⟩⟩
                    case measure => have := HJL.out; simp [intOf]; omega
                · have HBN := Aside0.mk (show b = true ↔ ∃ u, u < j + 1 ∧ dist (adjI ns es) s u = (k : Int) from HBK.out.trans ⟨fun ⟨u, h1, h2⟩ => ⟨u, by omega, h2⟩, fun ⟨u, h1, h2⟩ => ⟨u, by
                    rcases Nat.lt_succ_iff_lt_or_eq.1 h1 with h | rfl
                    · exact h
                    · exact absurd (HXD.out.symm.trans h2) hxk, h2⟩⟩)
                  cases b
                  all_goals
                    go_wp2_with (fail)
                    go_roundw
                    case rel => exact ⟨j + 1, _, HJL.out, by go_num, by first | rfl | simp [hxk], HBN, ⟨L3.out, L4.out, HGR.out, HC5.out, HP6.out, HB.out⟩⟩
                    case measure => have := HJL.out; simp [intOf]; omega
              · have hjl : ¬ (j : Int) < (D.length : Int) := by omega
                obtain rfl : b = true := HBK.out.2 (by
                  obtain ⟨v, hv, hd⟩ := HFE.out
                  obtain ⟨u, hu, hd2⟩ := dist_gaps adjI_sym (fun u v h => adjI_lt h) HSN.out far v hv hd k HKF.out
                  exact ⟨u, by have := HDN.out; omega, hd2⟩)
                clear hlt
                go_wp2_with (fail)
                go_roundw
                case rel => exact ⟨k + 1, by have := HKF.out; omega, by go_num, ⟨L3.out, L4.out, HGR.out, HC5.out, HP6.out, HB.out⟩⟩
                case measure => have := HKF.out; simp [intOf]; omega
          · have hkf : ¬ (k : Int) ≤ (far : Int) := by omega
            have hfc : (far : Int) < (cnt : Int) := by have := HFC.out; omega
            clear hlt
            go_wp2_with (fail)
            go_ret
            exact ⟨rfl, HB.out⟩
  · obtain rfl := wd_nil HD.out hin
    clear hin
    go_wp2_with (first | (go_at_call 55; go_must ((refine (sWalkDist_as A1 c1 ns B1 d1 es n ([] : List Int) _ HGR.out HLN.out HD.out).mono ?_); rintro e u_ ⟨⟨A6, c6, rfl, hc_, hl_, hf_⟩, hb⟩; have HC6 := Aside0.mk hc_; clear hc_ hl_ hf_; replace HB := Aside0.mk (below_step HB.out hb); replace L3 := Aside0.mk (blk_below L3.out hb); replace L4 := Aside0.mk (blk_below L4.out hb); replace HGR := Aside0.mk (HGR.out.below hb); replace HC5 := Aside0.mk (Kd.C_below (HC5.out) hb); (try clear t3c0 t3c1); obtain ⟨t3c0, t3c1⟩ := cs2 (L3.out); (try clear t4c0 t4c1); obtain ⟨t4c0, t4c1⟩ := cs2 (L4.out); clear hb)) | (go_at_call 54; go_must ((refine (wpInts_calls A5 c5 A6 c6 ([] : List Int) _ HC5.out HC6.out (by have := HDL.out; have := HLN.out; omega)).mono ?_); rintro e u_ ⟨rfl, hb⟩; replace HB := Aside0.mk (below_step HB.out hb); replace L3 := Aside0.mk (blk_below L3.out hb); replace L4 := Aside0.mk (blk_below L4.out hb); replace HGR := Aside0.mk (HGR.out.below hb); replace HC5 := Aside0.mk (Kd.C_below (HC5.out) hb); replace HC6 := Aside0.mk (Kd.C_below (HC6.out) hb); (try clear t3c0 t3c1); obtain ⟨t3c0, t3c1⟩ := cs2 (L3.out); (try clear t4c0 t4c1); obtain ⟨t4c0, t4c1⟩ := cs2 (L4.out); clear hb)))
    go_ret
    exact ⟨rfl, HB.out⟩
end Go.Proofs.Ytogmbeifbjgphaa.R
