/- The law FnWalkSum, walked. -/
import Derived.Test.YtogmbeifbjgphaaKHP
import Derived.Test.YtogmbeifbjgphaaKL11
import Derived.Test.YtogmbeifbjgphaaKB23
namespace Go.Proofs.Ytogmbeifbjgphaa.R
open Go.RowKit Go.Proofs.YtogmbeifbjgphaaV.PrintWords Go.Proofs.YtogmbeifbjgphaaV.PrintLast Go.Proofs.YtogmbeifbjgphaaV.PrintMore Go.Proofs.Ytogmbeifbjgphaa.M
set_option linter.unusedVariables false
set_option linter.unusedSimpArgs false
attribute [local go_sem high] eqN eqE
abbrev sWs11 : Pl := (.tk 0 (.tk 1 (.tk 2 (.tk 3 (.tk 4 (.tk 5 (.tk 6 (.nd .one 7 (.tk 8 (.tk 9 (.tk 10 .fin)))))))))))
theorem sWs11_ok : planB .any (opsOf Try.f16 11) [] sWs11 (Array.replicate (opsOf Try.f16 11).size false) = true := by kernel_rfl
abbrev sWs20 : Pl := (.tk 0 (.tk 1 (.tk 2 (.tk 3 (.tk 4 (.tk 5 (.tk 6 (.tk 7 (.tk 8 (.tk 9 (.tk 10 (.tk 11 (.tk 12 (.tk 13 (.tk 14 (.tk 15 (.tk 16 (.tk 17 (.tk 18 (.tk 19 (.tk 20 (.tk 21 (.tk 22 (.tk 23 (.tk 24 (.tk 25 (.tk 26 (.tk 27 (.tk 28 (.tk 29 (.tk 30 (.tk 31 .fin))))))))))))))))))))))))))))))))
theorem sWs20_ok : planB .any (opsOf Try.f16 20) [] sWs20 (Array.replicate (opsOf Try.f16 20).size false) = true := by kernel_rfl
abbrev sWs23 : Pl := (.tk 0 (.tk 1 (.tk 2 (.tk 3 (.tk 4 (.tk 5 (.tk 6 (.tk 7 (.tk 11 (.tk 12 (.tk 13 (.tk 14 (.tk 15 (.tk 16 (.tk 17 (.tk 18 (.nd .one 8 (.tk 9 (.tk 10 (.nd .one 19 (.tk 20 (.tk 21 (.tk 22 .fin)))))))))))))))))))))))
theorem sWs23_ok : planB .any (opsOf Try.f16 23) [] sWs23 (Array.replicate (opsOf Try.f16 23).size false) = true := by kernel_rfl
theorem jo_zero (es : List Eg) (x y : Nd) : jo es 0 x y = false := by
  rw [Bool.eq_false_iff]
  intro h
  obtain ⟨j, hj, _⟩ := jo_iff.1 h
  omega
set_option maxHeartbeats 25600000 in
set_option maxRecDepth 100000 in
theorem walkSumLaw_calls (A : Option Addr) (c : Nat) (l : List Int) (w : World) (hl : (Kd.int .u8).C w A l.length l) (hc : l.length ≤ c) (hb : ∀ x ∈ l, 0 ≤ x ∧ x < 256) :
    Calls Try.prog 16 #[.slice A l.length c] w fun e w' => e = .returned (.bool true) ∧ Below w.heap.size w w' := by
  have HL := Aside0.mk hl
  have HC := Aside0.mk hc
  have HY := Aside0.mk hb
  have HB := Aside0.mk (Below.refl w.heap.size w)
  clear hl hc hb
  by_cases hlen : 1048576 < l.length
  · have hl1 : (1048576 : Int) < (l.length : Int) := by omega
    go_enter Try.func16, Try.ntmps16
    go_wp2_with (fail)
    go_ret
    exact ⟨rfl, HB.out⟩
  have hl1 : ¬ (1048576 : Int) < (l.length : Int) := by omega
  clear hlen
  go_enter Try.func16, Try.ntmps16
  go_upto_region 5 with (first | (go_at_call 59; go_must ((refine (drawWP_calls A c l _ (Kd.C_below HL.out HB.out) HC.out HY.out).mono ?_); rintro e u_ ⟨⟨A1, c1, ns, B1, d1, es, rfl, hgr_, -, -, hn_, he_⟩, hb⟩; have HGR := Aside0.mk hgr_; have HLN := Aside0.mk (And.intro hn_ he_); clear hgr_ hn_ he_; obtain ⟨P, hP_⟩ : ∃ y, wParts ns es = y := ⟨_, rfl⟩; have HPQ := Aside0.mk hP_; have HPN := Aside0.mk (wp_len hP_); clear hP_; replace HB := Aside0.mk (below_step HB.out hb); clear hb)) | ((with_reducible refine gate_dst (N := 3) rfl ?_); go_must ((refine w_new #[.slice none 0 0, .slice none 0 0] 26 rfl (by go_simp; (first | done | rfl)) ?_); intro g3 u_ hge_ hb0_ hb; have N3HGR := Aside0.mk (HGR.out.new hge_); have Hg3 := Aside0.mk (show w.heap.size + 0 ≤ g3 from by have hl0_ := HB.out.size; exact by omega); have L3 := Aside0.mk hb0_; replace HB := Aside0.mk (below_step HB.out hb); replace HGR := Aside0.mk (HGR.out.below hb); clear hge_ hb0_ hb; (try clear t3c0 t3c1); obtain ⟨t3c0, t3c1⟩ := cs2 (L3.out))) | ((with_reducible refine gate_store (p := 3) rfl ?_); go_must ((refine wpList_plain rfl fun K_ hK_ => wp_store_row _ _ _ rfl (g3) #[.slice A1 ns.length c1, .slice B1 es.length d1] rfl rfl _ _ L3.out (by kernel_rfl) rfl (by simp [Value.oneCell']) (hK_ _ _ ?_)); refine named _ ?_; intro wz hwz; replace HB := Aside0.mk (sb_ hwz HB.out (by have := Hg3.out; omega)); replace L3 := Aside0.mk (sh_ hwz L3.out); replace HGR := Aside0.mk ((HGR.out).row hwz N3HGR.out.1 N3HGR.out.2); (try clear t3c0 t3c1); obtain ⟨t3c0, t3c1⟩ := cs2 (L3.out); clear hwz)) | (go_at_call 58; go_must ((refine (walkParts_as A1 c1 ns B1 d1 es P _ HGR.out HPQ.out).mono ?_); rintro e u_ ⟨⟨A4, c4, rfl, hc_, hl_, hf_⟩, hb⟩; have HC4 := Aside0.mk hc_; clear hc_ hl_ hf_; replace HB := Aside0.mk (below_step HB.out hb); replace L3 := Aside0.mk (blk_below L3.out hb); replace HGR := Aside0.mk (HGR.out.below hb); (try clear t3c0 t3c1); obtain ⟨t3c0, t3c1⟩ := cs2 (L3.out); clear hb)))
  obtain ⟨v, hv⟩ : ∃ v, okG ns es = v := ⟨_, rfl⟩
  have HOK := Aside0.mk hv
  clear hv
  cases v
  · go_wp2_with (first | (go_at_call 60; go_must ((refine (sWalkParts_as A1 c1 ns B1 d1 es P _ HGR.out HLN.out HPQ.out).mono ?_); rintro e u_ ⟨⟨A6, c6, rfl, hc_, hl_, hf_⟩, hb⟩; have HC6 := Aside0.mk hc_; clear hc_ hl_ hf_; replace HB := Aside0.mk (below_step HB.out hb); replace L3 := Aside0.mk (blk_below L3.out hb); replace HGR := Aside0.mk (HGR.out.below hb); replace HC4 := Aside0.mk (Kd.C_below (HC4.out) hb); (try clear t3c0 t3c1); obtain ⟨t3c0, t3c1⟩ := cs2 (L3.out); clear hb)) | (go_at_call 54; go_must ((refine (wpInts_calls A4 c4 A6 c6 P _ HC4.out HC6.out (by have := HPN.out; have := HLN.out; omega)).mono ?_); rintro e u_ ⟨rfl, hb⟩; replace HB := Aside0.mk (below_step HB.out hb); replace L3 := Aside0.mk (blk_below L3.out hb); replace HGR := Aside0.mk (HGR.out.below hb); replace HC4 := Aside0.mk (Kd.C_below (HC4.out) hb); replace HC6 := Aside0.mk (Kd.C_below (HC6.out) hb); (try clear t3c0 t3c1); obtain ⟨t3c0, t3c1⟩ := cs2 (L3.out); clear hb)) | (go_at_call 33; go_must ((refine (sGraphOk_as A1 c1 ns B1 d1 es _ _ HGR.out HLN.out HOK.out).mono ?_); rintro e u_ ⟨rfl, hb⟩; replace HB := Aside0.mk (below_step HB.out hb); replace L3 := Aside0.mk (blk_below L3.out hb); replace HGR := Aside0.mk (HGR.out.below hb); replace HC4 := Aside0.mk (Kd.C_below (HC4.out) hb); (try clear t3c0 t3c1); obtain ⟨t3c0, t3c1⟩ := cs2 (L3.out); clear hb)) | (go_at_call 60; go_must ((refine (sWalkParts_as A1 c1 ns B1 d1 es P _ HGR.out HLN.out HPQ.out).mono ?_); rintro e u_ ⟨⟨A7, c7, rfl, hc_, hl_, hf_⟩, hb⟩; have HC7 := Aside0.mk hc_; clear hc_ hl_ hf_; replace HB := Aside0.mk (below_step HB.out hb); replace L3 := Aside0.mk (blk_below L3.out hb); replace HGR := Aside0.mk (HGR.out.below hb); replace HC4 := Aside0.mk (Kd.C_below (HC4.out) hb); (try clear t3c0 t3c1); obtain ⟨t3c0, t3c1⟩ := cs2 (L3.out); clear hb)) | (go_at_call 54; go_must ((refine (wpInts_calls A4 c4 A7 c7 P _ HC4.out HC7.out (by have := HPN.out; have := HLN.out; omega)).mono ?_); rintro e u_ ⟨rfl, hb⟩; replace HB := Aside0.mk (below_step HB.out hb); replace L3 := Aside0.mk (blk_below L3.out hb); replace HGR := Aside0.mk (HGR.out.below hb); replace HC4 := Aside0.mk (Kd.C_below (HC4.out) hb); replace HC7 := Aside0.mk (Kd.C_below (HC7.out) hb); (try clear t3c0 t3c1); obtain ⟨t3c0, t3c1⟩ := cs2 (L3.out); clear hb)))
    go_ret
    exact ⟨rfl, HB.out⟩
  · have HOG := Aside0.mk (okG_true.1 HOK.out)
    have HLM := Aside0.mk (NsOk.mk HOG.out.nok HOG.out.nasc HOG.out.nfew).len
    have HPE := Aside0.mk (show P = partL (adjI ns es) ns.length from HPQ.out.symm.trans (if_pos HOK.out))
    have hnn : (ns.length : Int) ≤ 40 := by have := HLM.out; omega
    go_wp2_with (first | (go_at_call 60; go_must ((refine (sWalkParts_as A1 c1 ns B1 d1 es P _ HGR.out HLN.out HPQ.out).mono ?_); rintro e u_ ⟨⟨A6, c6, rfl, hc_, hl_, hf_⟩, hb⟩; have HC6 := Aside0.mk hc_; clear hc_ hl_ hf_; replace HB := Aside0.mk (below_step HB.out hb); replace L3 := Aside0.mk (blk_below L3.out hb); replace HGR := Aside0.mk (HGR.out.below hb); replace HC4 := Aside0.mk (Kd.C_below (HC4.out) hb); (try clear t3c0 t3c1); obtain ⟨t3c0, t3c1⟩ := cs2 (L3.out); clear hb)) | (go_at_call 54; go_must ((refine (wpInts_calls A4 c4 A6 c6 P _ HC4.out HC6.out (by have := HPN.out; have := HLN.out; omega)).mono ?_); rintro e u_ ⟨rfl, hb⟩; replace HB := Aside0.mk (below_step HB.out hb); replace L3 := Aside0.mk (blk_below L3.out hb); replace HGR := Aside0.mk (HGR.out.below hb); replace HC4 := Aside0.mk (Kd.C_below (HC4.out) hb); replace HC6 := Aside0.mk (Kd.C_below (HC6.out) hb); (try clear t3c0 t3c1); obtain ⟨t3c0, t3c1⟩ := cs2 (L3.out); clear hb)) | (go_at_call 33; go_must ((refine (sGraphOk_as A1 c1 ns B1 d1 es _ _ HGR.out HLN.out HOK.out).mono ?_); rintro e u_ ⟨rfl, hb⟩; replace HB := Aside0.mk (below_step HB.out hb); replace L3 := Aside0.mk (blk_below L3.out hb); replace HGR := Aside0.mk (HGR.out.below hb); replace HC4 := Aside0.mk (Kd.C_below (HC4.out) hb); (try clear t3c0 t3c1); obtain ⟨t3c0, t3c1⟩ := cs2 (L3.out); clear hb)))
    clear HC6
    go_loopw [5, 6] (fun s5 s6 wr => ∃ i sum : Nat, i ≤ ns.length ∧ s6 = .int .i64 (i : Int) ∧ s5 = .int .i64 (sum : Int) ∧ sum = sm i (fun j => (nearI (adjI ns es) ns.length j).length) ∧ sum ≤ 40 * i ∧ WpS w g3 A1 c1 ns B1 d1 es A4 P wr) (fun _ s6 _ => (ns.length - intOf s6).toNat)
    case atStart => exact ⟨0, 0, Nat.zero_le _, rfl, rfl, rfl, Nat.le_refl _, ⟨L3.out, HGR.out, HC4.out, HB.out⟩⟩
    case round =>
      clear L3 HGR HC4 HB
      obtain ⟨i, sum, hi, rfl, rfl, hs, hsb, l3_, gr_, c4_, hb_⟩ := hrel
      have HI := Aside0.mk hi
      have HS := Aside0.mk hs
      have HSB := Aside0.mk hsb
      clear hi hs hsb
      have L3 := Aside0.mk l3_
      have HGR := Aside0.mk gr_
      have HC4 := Aside0.mk c4_
      have HB := Aside0.mk hb_
      obtain ⟨t3c0, t3c1⟩ := cs2 (L3.out)
      clear l3_ gr_ c4_ hb_
      by_cases hlt : i < ns.length
      · have hin : (i : Int) < (ns.length : Int) := by omega
        have HIN := Aside0.mk hlt
        obtain ⟨a1, rfl⟩ : ∃ ad, A1 = some ad := by obtain ⟨ad, e, _⟩ := HGR.out.cn.2.2 (by omega); exact ⟨ad, e⟩
        obtain ⟨y, hy⟩ : ∃ y, at_ ns i = y := ⟨_, rfl⟩
        have HYA := Aside0.mk hy
        obtain ⟨M, hM⟩ : ∃ m, nearG ns es y = m := ⟨_, rfl⟩
        have HM := Aside0.mk hM
        have HML := Aside0.mk (show M.length = (nearI (adjI ns es) ns.length i).length by rw [← hM, ← hy, near_at HOG.out hlt, List.length_map])
        have HMF := Aside0.mk (show M.length ≤ 40 by have := nearI_few (adjI ns es) ns.length i; have := HML.out; have := HLM.out; omega)
        have hw1 : IntKind.i64.wrap ((sum : Int) + (M.length : Int)) = ((sum + M.length : Nat) : Int) := by rw [IntKind.wrap_i64]; have := HMF.out; have := HSB.out; have := HI.out; have := HLM.out; omega
        have HSN := Aside0.mk (show sum + M.length = sm (i + 1) (fun j => (nearI (adjI ns es) ns.length j).length) by rw [sm_succ, HML.out, HS.out])
        clear hlt hy hM
        obtain ⟨a1_, e1_, r0, r1⟩ := nd_at HGR.out.cn i HIN.out
        obtain rfl := Option.some.inj e1_
        clear e1_
        rw [HYA.out] at r0 r1
        go_wp2_with (fail)
        have ZL3 := L3
        refine region_bp [] sWs11 (by kernel_rfl) sWs11_ok (by decide) (fun d _ _ _ _ h => by cases d <;> exact h) ?_
        intro u hb
        have hS := hb
        replace HB := Aside0.mk (below_step HB.out hb)
        replace L3 := Aside0.mk (blk_below L3.out hb)
        replace HGR := Aside0.mk (HGR.out.below hb)
        replace HC4 := Aside0.mk (Kd.C_below (HC4.out) hb)
        (try clear t3c0 t3c1)
        obtain ⟨t3c0, t3c1⟩ := cs2 (L3.out)
        clear hb
        repeat (first | (refine p_off hS gt_ (by rfl) ?_; intro a_ ha_; (simp only [Act.put, List.setIfInBounds_toArray, List.set_cons_zero, List.set_cons_succ] at ha_); subst ha_) | (refine p_on (v := ?_) hS gt_ (by rfl) ?_ ?_; rotate_left; (· rintro w_ hS_; obtain ⟨t3c0_, t3c1_⟩ := cs2 (blk_below ZL3.out hS_); have r0_ := pw_cell_below hS_ r0; have r1_ := pw_cell_below hS_ r1; go_simp; with_reducible rfl); intro a_ ha_; (simp only [Act.put, List.setIfInBounds_toArray, List.set_cons_zero, List.set_cons_succ] at ha_); subst ha_) | (refine p_poff gt_ (by rfl) ?_; intro a_ ha_; (simp only [Act.put, List.setIfInBounds_toArray, List.set_cons_zero, List.set_cons_succ] at ha_); subst ha_) | (refine p_pon (v := ?_) gt_ (by rfl) ?_ ?_; rotate_left; (· go_simp; with_reducible rfl); intro a_ ha_; (simp only [Act.put, List.setIfInBounds_toArray, List.set_cons_zero, List.set_cons_succ] at ha_); subst ha_) | (refine p_ooff hS gt_ (by rfl) ?_; intro a_ ha_; (simp only [Act.put, List.setIfInBounds_toArray, List.set_cons_zero, List.set_cons_succ] at ha_); subst ha_) | (refine p_loff gt_ (by rfl) ?_; intro a_ ha_; (simp only [Act.put, List.setIfInBounds_toArray, List.set_cons_zero, List.set_cons_succ] at ha_); subst ha_) | (refine p_call (f := 42) (args := #[.agg #[.slice (some a1) ns.length c1, .slice B1 es.length d1], .agg #[.int .i64 y.lab, .int .i64 y.num]]) Try.func42 (by kernel_rfl) rfl gt_ (by rfl) (by rfl) mp_ ?_; (refine (near_as (some a1) c1 ns B1 d1 es y M _ HGR.out HM.out).mono ?_); rintro e_ u_ ⟨A7, c7, rfl, -, -, hb⟩; replace HB := Aside0.mk (below_step HB.out hb); replace L3 := Aside0.mk (blk_below L3.out hb); replace HGR := Aside0.mk (HGR.out.below hb); replace HC4 := Aside0.mk (Kd.C_below (HC4.out) hb); (try clear t3c0 t3c1); obtain ⟨t3c0, t3c1⟩ := cs2 (L3.out); replace hS := below_step hS hb; refine ⟨_, rfl, hS, fun a_ ha_ => ?_⟩; (simp only [Act.put, List.setIfInBounds_toArray, List.set_cons_zero, List.set_cons_succ] at ha_); subst ha_; clear hb))
        refine p_fin ?_
        clear hS ZL3
        clear hw1 r0 r1
        go_wp2_with (fail)
        go_roundw
        case rel => exact ⟨i + 1, sum + M.length, HIN.out, by go_num, rfl, HSN.out, by have := HSB.out; have := HMF.out; omega, ⟨L3.out, HGR.out, HC4.out, HB.out⟩⟩
        case measure => have := HIN.out; simp [intOf]; omega
      · have hin : ¬ (i : Int) < (ns.length : Int) := by omega
        obtain rfl : i = ns.length := by have := HI.out; omega
        have HSE := Aside0.mk (show sum = 2 * pairs (adjI ns es) ns.length by rw [HS.out, ← handshake adjI_sym (adjI_irr HOG.out) ns.length]; exact sm_congr fun i _ => nearI_len _ _ _)
        have HSB2 := Aside0.mk (show sum ≤ 1600 by have := HSB.out; have := HLM.out; omega)
        clear hlt HS HSB HI hin
        go_wp2_with (fail)
        go_loopw [7, 8, 9, 10] (fun s7 s8 _ _ wr => ∃ i prs : Nat, i ≤ es.length ∧ s8 = .int .i64 (i : Int) ∧ s7 = .int .i64 (prs : Int) ∧ prs = sm i (fun j => (isF es j).toNat) ∧ prs ≤ i ∧ WpS w g3 A1 c1 ns B1 d1 es A4 P wr) (fun _ s8 _ _ _ => (es.length - intOf s8).toNat)
        case atStart => exact ⟨0, 0, Nat.zero_le _, rfl, rfl, rfl, Nat.le_refl _, ⟨L3.out, HGR.out, HC4.out, HB.out⟩⟩
        case round =>
          clear L3 HGR HC4 HB
          obtain ⟨i, prs, hi, rfl, rfl, hp, hpb, l3_, gr_, c4_, hb_⟩ := hrel
          have HI := Aside0.mk hi
          have HPR := Aside0.mk hp
          have HPB := Aside0.mk hpb
          clear hi hp hpb
          have L3 := Aside0.mk l3_
          have HGR := Aside0.mk gr_
          have HC4 := Aside0.mk c4_
          have HB := Aside0.mk hb_
          obtain ⟨t3c0, t3c1⟩ := cs2 (L3.out)
          clear l3_ gr_ c4_ hb_
          have hen : (es.length : Int) ≤ 100 := by have := HLN.out; omega
          by_cases hlt : i < es.length
          · have hin : (i : Int) < (es.length : Int) := by omega
            have HIN := Aside0.mk hlt
            obtain ⟨b1, rfl⟩ : ∃ ad, B1 = some ad := by obtain ⟨ad, e, _⟩ := HGR.out.ce.2.2 (by omega); exact ⟨ad, e⟩
            obtain ⟨f, hf⟩ : ∃ f, eat es i = f := ⟨_, rfl⟩
            have HFI := Aside0.mk hf
            obtain ⟨hfa, hfb⟩ : f.a ∈ ns ∧ f.b ∈ ns := by rw [← hf]; exact ends_at HOG.out hlt
            have hre : root (adjI ns es) (idx ns f.a) = root (adjI ns es) (idx ns f.b) := by rw [← hf]; exact ends_root HOG.out hlt
            obtain ⟨u1, hu1⟩ : ∃ u, idx ns f.a = u := ⟨_, rfl⟩
            obtain ⟨v1, hv1⟩ : ∃ u, idx ns f.b = u := ⟨_, rfl⟩
            have HPu1 := Aside0.mk (show placeI ns f.a = (u1 : Int) by rw [placeI_in hfa, hu1])
            have HPv1 := Aside0.mk (show placeI ns f.b = (v1 : Int) by rw [placeI_in hfb, hv1])
            have HUN := Aside0.mk (show u1 < ns.length by rw [← hu1]; exact idx_lt hfa)
            have HVN := Aside0.mk (show v1 < ns.length by rw [← hv1]; exact idx_lt hfb)
            have HRE := Aside0.mk (show root (adjI ns es) u1 = root (adjI ns es) v1 by rw [← hu1, ← hv1]; exact hre)
            have hup : (u1 : Int) < (P.length : Int) := by rw [HPE.out, partL_length]; have := HUN.out; omega
            have hvp : (v1 : Int) < (P.length : Int) := by rw [HPE.out, partL_length]; have := HVN.out; omega
            obtain ⟨a4, rfl⟩ : ∃ ad, A4 = some ad := by obtain ⟨ad, e, _⟩ := HC4.out.2.2 (by omega); exact ⟨ad, e⟩
            clear hlt hf hfa hfb hre hu1 hv1
            go_wp2_with (fail)
            go_loopw [9, 10] (fun s9 s10 wr => ∃ (k : Nat) (b : Bool), k ≤ i ∧ s10 = .int .i64 (k : Int) ∧ s9 = .bool b ∧ Aside0 ((!jo es k f.a f.b) = b) ∧ WpS w g3 A1 c1 ns (some b1) d1 es (some a4) P wr) (fun _ s10 _ => (i - intOf s10).toNat)
            case atStart => exact ⟨0, true, Nat.zero_le _, rfl, rfl, ⟨by rw [jo_zero]; rfl⟩, ⟨L3.out, HGR.out, HC4.out, HB.out⟩⟩
            case round =>
              clear L3 HGR HC4 HB
              obtain ⟨k, b, hk, rfl, rfl, HBK, l3_, gr_, c4_, hb_⟩ := hrel
              have HK := Aside0.mk hk
              clear hk
              have L3 := Aside0.mk l3_
              have HGR := Aside0.mk gr_
              have HC4 := Aside0.mk c4_
              have HB := Aside0.mk hb_
              obtain ⟨t3c0, t3c1⟩ := cs2 (L3.out)
              clear l3_ gr_ c4_ hb_
              by_cases hlt : k < i
              · have hki : (k : Int) < (i : Int) := by omega
                have HKI := Aside0.mk hlt
                have hke : (k : Int) < (es.length : Int) := by have := HIN.out; omega
                have hkb : (k : Int) < 100 := by have := HLN.out; have := HIN.out; omega
                obtain ⟨e, he⟩ : ∃ e, eat es k = e := ⟨_, rfl⟩
                have HEK := Aside0.mk he
                obtain ⟨va, hva⟩ : ∃ v, (e.a.lab == f.a.lab && (e.a.num == f.a.num)) = v := ⟨_, rfl⟩
                obtain ⟨vb, hvb⟩ : ∃ v, (e.b.lab == f.b.lab && (e.b.num == f.b.num)) = v := ⟨_, rfl⟩
                have HJO := Aside0.mk (show (!jo es (k + 1) f.a f.b) = (b && (!va || !vb)) by
                  rw [jo_succ, show eE es k = e from he, ← nd_eq e.a f.a, ← nd_eq e.b f.b, hva, hvb, ← HBK.out]
                  cases jo es k f.a f.b <;> cases va <;> cases vb <;> rfl)
                have HKE := Aside0.mk (show k < es.length by have := HIN.out; omega)
                clear hlt he
                obtain ⟨b1_, e1_, x0, x1, x2, x3, x4⟩ := eg_at HGR.out.ce k HKE.out
                obtain rfl := Option.some.inj e1_
                rw [HEK.out] at x0 x1 x2 x3 x4
                clear e1_
                obtain ⟨b1_, e1_, y0, y1, y2, y3, y4⟩ := eg_at HGR.out.ce i HIN.out
                obtain rfl := Option.some.inj e1_
                rw [HFI.out] at y0 y1 y2 y3 y4
                clear e1_
                cases b
                all_goals
                  cases va
                  all_goals
                    cases vb
                    all_goals
                      go_wp2_with (fail)
                      have ZL3 := L3
                      refine region_bp [] sWs20 (by kernel_rfl) sWs20_ok (by decide) (fun d _ _ _ _ h => by cases d <;> exact h) ?_
                      intro u hb
                      have hS := hb
                      replace HB := Aside0.mk (below_step HB.out hb)
                      replace L3 := Aside0.mk (blk_below L3.out hb)
                      replace HGR := Aside0.mk (HGR.out.below hb)
                      replace HC4 := Aside0.mk (Kd.C_below (HC4.out) hb)
                      (try clear t3c0 t3c1)
                      obtain ⟨t3c0, t3c1⟩ := cs2 (L3.out)
                      clear hb
                      repeat (first | (refine p_off hS gt_ (by rfl) ?_; intro a_ ha_; (simp only [Act.put, List.setIfInBounds_toArray, List.set_cons_zero, List.set_cons_succ] at ha_); subst ha_) | (refine p_on (v := ?_) hS gt_ (by rfl) ?_ ?_; rotate_left; (· rintro w_ hS_; obtain ⟨t3c0_, t3c1_⟩ := cs2 (blk_below ZL3.out hS_); have x0_ := pw_cell_below hS_ x0; have x1_ := pw_cell_below hS_ x1; have x2_ := pw_cell_below hS_ x2; have x3_ := pw_cell_below hS_ x3; have x4_ := pw_cell_below hS_ x4; have y0_ := pw_cell_below hS_ y0; have y1_ := pw_cell_below hS_ y1; have y2_ := pw_cell_below hS_ y2; have y3_ := pw_cell_below hS_ y3; have y4_ := pw_cell_below hS_ y4; go_simp; with_reducible rfl); intro a_ ha_; (simp only [Act.put, List.setIfInBounds_toArray, List.set_cons_zero, List.set_cons_succ] at ha_); subst ha_) | (refine p_poff gt_ (by rfl) ?_; intro a_ ha_; (simp only [Act.put, List.setIfInBounds_toArray, List.set_cons_zero, List.set_cons_succ] at ha_); subst ha_) | (refine p_pon (v := ?_) gt_ (by rfl) ?_ ?_; rotate_left; (· go_simp; with_reducible rfl); intro a_ ha_; (simp only [Act.put, List.setIfInBounds_toArray, List.set_cons_zero, List.set_cons_succ] at ha_); subst ha_) | (refine p_ooff hS gt_ (by rfl) ?_; intro a_ ha_; (simp only [Act.put, List.setIfInBounds_toArray, List.set_cons_zero, List.set_cons_succ] at ha_); subst ha_) | (refine p_loff gt_ (by rfl) ?_; intro a_ ha_; (simp only [Act.put, List.setIfInBounds_toArray, List.set_cons_zero, List.set_cons_succ] at ha_); subst ha_))
                      refine p_fin ?_
                      clear hS ZL3
                      go_wp2_with (fail)
                      go_roundw
                      case rel => exact ⟨k + 1, _, HKI.out, by go_num, rfl, ⟨HJO.out⟩, ⟨L3.out, HGR.out, HC4.out, HB.out⟩⟩
                      case measure => have := HKI.out; simp [intOf]; omega
              · have hki : ¬ (k : Int) < (i : Int) := by omega
                obtain rfl : k = i := by have := HK.out; omega
                have HBF := Aside0.mk (show isF es k = b from by rw [← HBK.out, ← HFI.out]; rfl)
                have HPC := Aside0.mk (show prs + b.toNat = sm (k + 1) (fun j => (isF es j).toNat) by rw [sm_succ, HBF.out, HPR.out])
                have hpb : (prs : Int) ≤ 100 := by have := HPB.out; have := HIN.out; have := HLN.out; omega
                clear hlt
                obtain ⟨b1_, e1_, y0, y1, y2, y3, y4⟩ := eg_at HGR.out.ce k HIN.out
                obtain rfl := Option.some.inj e1_
                rw [HFI.out] at y0 y1 y2 y3 y4
                clear e1_
                obtain ⟨a4_, e4_, k0⟩ := int_at HC4.out u1 (by rw [HPE.out, partL_length]; exact HUN.out)
                obtain rfl := Option.some.inj e4_
                rw [show P.getD u1 0 = ((root (adjI ns es) u1 : Nat) : Int) by rw [HPE.out]; exact gt_partL HUN.out] at k0
                clear e4_
                obtain ⟨a4_, e4_, k1⟩ := int_at HC4.out v1 (by rw [HPE.out, partL_length]; exact HVN.out)
                obtain rfl := Option.some.inj e4_
                rw [show P.getD v1 0 = ((root (adjI ns es) v1 : Nat) : Int) by rw [HPE.out]; exact gt_partL HVN.out] at k1
                clear e4_
                rw [HRE.out] at k0
                cases b
                all_goals
                  go_wp2_with (fail)
                  have ZL3 := L3
                  refine region_bp [] sWs23 (by kernel_rfl) sWs23_ok (by decide) (fun d _ _ _ _ h => by cases d <;> exact h) ?_
                  intro u hb
                  have hS := hb
                  replace HB := Aside0.mk (below_step HB.out hb)
                  replace L3 := Aside0.mk (blk_below L3.out hb)
                  replace HGR := Aside0.mk (HGR.out.below hb)
                  replace HC4 := Aside0.mk (Kd.C_below (HC4.out) hb)
                  (try clear t3c0 t3c1)
                  obtain ⟨t3c0, t3c1⟩ := cs2 (L3.out)
                  clear hb
                  repeat (first | (refine p_off hS gt_ (by rfl) ?_; intro a_ ha_; (simp only [Act.put, List.setIfInBounds_toArray, List.set_cons_zero, List.set_cons_succ] at ha_); subst ha_) | (refine p_on (v := ?_) hS gt_ (by rfl) ?_ ?_; rotate_left; (· rintro w_ hS_; obtain ⟨t3c0_, t3c1_⟩ := cs2 (blk_below ZL3.out hS_); have y0_ := pw_cell_below hS_ y0; have y1_ := pw_cell_below hS_ y1; have y2_ := pw_cell_below hS_ y2; have y3_ := pw_cell_below hS_ y3; have y4_ := pw_cell_below hS_ y4; have k0_ := pw_cell_below hS_ k0; have k1_ := pw_cell_below hS_ k1; go_simp; with_reducible rfl); intro a_ ha_; (simp only [Act.put, List.setIfInBounds_toArray, List.set_cons_zero, List.set_cons_succ] at ha_); subst ha_) | (refine p_poff gt_ (by rfl) ?_; intro a_ ha_; (simp only [Act.put, List.setIfInBounds_toArray, List.set_cons_zero, List.set_cons_succ] at ha_); subst ha_) | (refine p_pon (v := ?_) gt_ (by rfl) ?_ ?_; rotate_left; (· go_simp; with_reducible rfl); intro a_ ha_; (simp only [Act.put, List.setIfInBounds_toArray, List.set_cons_zero, List.set_cons_succ] at ha_); subst ha_) | (refine p_ooff hS gt_ (by rfl) ?_; intro a_ ha_; (simp only [Act.put, List.setIfInBounds_toArray, List.set_cons_zero, List.set_cons_succ] at ha_); subst ha_) | (refine p_loff gt_ (by rfl) ?_; intro a_ ha_; (simp only [Act.put, List.setIfInBounds_toArray, List.set_cons_zero, List.set_cons_succ] at ha_); subst ha_) | (refine p_call (f := 56) (args := #[.agg #[.slice A1 ns.length c1, .slice (some b1) es.length d1], .agg #[.int .i64 f.a.lab, .int .i64 f.a.num]]) Try.func56 (by kernel_rfl) rfl gt_ (by rfl) (by rfl) mp_ ?_; (refine (wpAt_as A1 c1 ns (some b1) d1 es f.a u1 _ HGR.out HLN.out HPu1.out).mono ?_); rintro e_ u_ ⟨rfl, hb⟩; replace HB := Aside0.mk (below_step HB.out hb); replace L3 := Aside0.mk (blk_below L3.out hb); replace HGR := Aside0.mk (HGR.out.below hb); replace HC4 := Aside0.mk (Kd.C_below (HC4.out) hb); (try clear t3c0 t3c1); obtain ⟨t3c0, t3c1⟩ := cs2 (L3.out); replace hS := below_step hS hb; refine ⟨_, rfl, hS, fun a_ ha_ => ?_⟩; (simp only [Act.put, List.setIfInBounds_toArray, List.set_cons_zero, List.set_cons_succ] at ha_); subst ha_; clear hb) | (refine p_call (f := 56) (args := #[.agg #[.slice A1 ns.length c1, .slice (some b1) es.length d1], .agg #[.int .i64 f.b.lab, .int .i64 f.b.num]]) Try.func56 (by kernel_rfl) rfl gt_ (by rfl) (by rfl) mp_ ?_; (refine (wpAt_as A1 c1 ns (some b1) d1 es f.b v1 _ HGR.out HLN.out HPv1.out).mono ?_); rintro e_ u_ ⟨rfl, hb⟩; replace HB := Aside0.mk (below_step HB.out hb); replace L3 := Aside0.mk (blk_below L3.out hb); replace HGR := Aside0.mk (HGR.out.below hb); replace HC4 := Aside0.mk (Kd.C_below (HC4.out) hb); (try clear t3c0 t3c1); obtain ⟨t3c0, t3c1⟩ := cs2 (L3.out); replace hS := below_step hS hb; refine ⟨_, rfl, hS, fun a_ ha_ => ?_⟩; (simp only [Act.put, List.setIfInBounds_toArray, List.set_cons_zero, List.set_cons_succ] at ha_); subst ha_; clear hb))
                  refine p_fin ?_
                  clear hS ZL3
                  go_wp2_with (fail)
                  go_roundw
                  case rel => first | exact ⟨k + 1, prs + 1, HIN.out, by go_num, by go_num, HPC.out, by have := HPB.out; omega, ⟨L3.out, HGR.out, HC4.out, HB.out⟩⟩ | exact ⟨k + 1, prs, HIN.out, by go_num, rfl, HPC.out, by have := HPB.out; omega, ⟨L3.out, HGR.out, HC4.out, HB.out⟩⟩
                  case measure => have := HIN.out; simp [intOf]; omega
          · have hin : ¬ (i : Int) < (es.length : Int) := by omega
            obtain rfl : i = es.length := by have := HI.out; omega
            have hfin : sum = 2 * prs := by rw [HSE.out, HPR.out, firsts_pairs HOG.out]
            have hpb : (prs : Int) ≤ 100 := by have := HPB.out; omega
            subst hfin
            clear hlt
            go_wp2_with (fail)
            go_ret
            exact ⟨by first | rfl | (congr 2; simp; done) | (congr 2; rw [decide_eq_true_iff]; omega), HB.out⟩
end Go.Proofs.Ytogmbeifbjgphaa.R
