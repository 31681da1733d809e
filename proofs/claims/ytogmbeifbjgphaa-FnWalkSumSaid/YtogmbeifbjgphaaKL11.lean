/- The law FnWalkParts, walked. -/
import Derived.Test.YtogmbeifbjgphaaKHO
import Derived.Test.YtogmbeifbjgphaaKL10
namespace Go.Proofs.Ytogmbeifbjgphaa.R
open Go.RowKit Go.Proofs.YtogmbeifbjgphaaV.PrintWords Go.Proofs.YtogmbeifbjgphaaV.PrintLast Go.Proofs.YtogmbeifbjgphaaV.PrintMore Go.Proofs.Ytogmbeifbjgphaa.M
set_option linter.unusedVariables false
set_option linter.unusedSimpArgs false
attribute [local go_sem high] eqN eqE
abbrev sWq12 : Pl := (.tk 0 (.tk 1 (.tk 2 (.tk 3 (.tk 4 (.tk 5 (.nd .one 6 (.tk 7 .fin))))))))
theorem sWq12_ok : planB .any (opsOf Try.f17 12) [] sWq12 (Array.replicate (opsOf Try.f17 12).size false) = true := by kernel_rfl
abbrev sWq16 : Pl := (.tk 0 (.tk 1 (.tk 2 (.tk 3 (.tk 4 (.tk 5 (.tk 6 (.tk 7 (.tk 8 (.tk 9 (.tk 10 (.tk 11 (.tk 12 (.tk 13 (.tk 14 .fin)))))))))))))))
theorem sWq16_ok : planB .any (opsOf Try.f17 16) [] sWq16 (Array.replicate (opsOf Try.f17 16).size false) = true := by kernel_rfl
abbrev sWq18 : Pl := (.tk 0 (.tk 1 (.tk 2 (.tk 3 (.tk 4 (.tk 5 (.tk 6 (.tk 7 (.tk 8 (.tk 9 (.tk 10 (.tk 11 (.tk 12 (.tk 13 (.tk 14 (.tk 15 (.tk 16 (.tk 17 (.tk 18 (.tk 19 (.tk 20 (.tk 21 (.tk 22 (.tk 23 (.tk 24 (.tk 25 (.tk 26 .fin)))))))))))))))))))))))))))
theorem sWq18_ok : planB .any (opsOf Try.f17 18) [] sWq18 (Array.replicate (opsOf Try.f17 18).size false) = true := by kernel_rfl
theorem walkParts_as (A : Option Addr) (c : Nat) (ns : List Nd) (B : Option Addr) (d : Nat) (es : List Eg) (P : List Int) (w : World) (hr : GR w A c ns B d es) (h : wParts ns es = P) :
    Calls Try.prog 58 #[.agg #[.slice A ns.length c, .slice B es.length d]] w fun e w' => RetI w.heap.size P e w' ∧ Below w.heap.size w w' := by
  subst h
  exact walkParts_calls A c ns B d es w hr
theorem sWalkParts_as (A : Option Addr) (c : Nat) (ns : List Nd) (B : Option Addr) (d : Nat) (es : List Eg) (P : List Int) (w : World) (hr : GR w A c ns B d es) (hl : ns.length ≤ 100 ∧ es.length ≤ 100) (h : wParts ns es = P) :
    Calls Try.prog 60 #[.agg #[.slice A ns.length c, .slice B es.length d]] w fun e w' => RetI w.heap.size P e w' ∧ Below w.heap.size w w' := by
  subst h
  exact sWalkParts_calls A c ns B d es w hr hl
theorem wp_len {ns : List Nd} {es : List Eg} {P : List Int} (h : wParts ns es = P) : P.length ≤ ns.length := by
  rw [← h]
  unfold wParts
  split
  · rw [partL_length]
    exact Nat.le_refl _
  · exact Nat.zero_le _
theorem wd_of {ns : List Nd} {es : List Eg} (hg : OkG ns es) {i : Nat} (hi : i < ns.length) {D : List Int} (h : distL (adjI ns es) ns.length i = D) : wDist ns es (at_ ns i) = D := by
  rw [← h]
  exact (if_pos ⟨okG_true.2 hg, at_mem hi⟩).trans (by rw [idx_at hg hi])
def WpS (w : World) (g3 : Nat) (A1 : Option Addr) (c1 : Nat) (ns : List Nd) (B1 : Option Addr) (d1 : Nat) (es : List Eg) (A4 : Option Addr) (P : List Int) (wr : World) : Prop :=
  wr.heap[g3]? = some (.cells #[.slice A1 ns.length c1, .slice B1 es.length d1] 26 (0, 0)) ∧ GR wr A1 c1 ns B1 d1 es ∧ (Kd.int .i64).C wr A4 P.length P ∧ Below w.heap.size w wr
set_option maxHeartbeats 25600000 in
set_option maxRecDepth 100000 in
theorem walkPartsLaw_calls (A : Option Addr) (c : Nat) (l : List Int) (w : World) (hl : (Kd.int .u8).C w A l.length l) (hc : l.length ≤ c) (hb : ∀ x ∈ l, 0 ≤ x ∧ x < 256) :
    Calls Try.prog 17 #[.slice A l.length c] w fun e w' => e = .returned (.bool true) ∧ Below w.heap.size w w' := by
  have HL := Aside0.mk hl
  have HC := Aside0.mk hc
  have HY := Aside0.mk hb
  have HB := Aside0.mk (Below.refl w.heap.size w)
  clear hl hc hb
  by_cases hlen : 1048576 < l.length
  · have hl1 : (1048576 : Int) < (l.length : Int) := by omega
    go_enter Try.func17, Try.ntmps17
    go_wp2_with (fail)
    go_ret
    exact ⟨rfl, HB.out⟩
  have hl1 : ¬ (1048576 : Int) < (l.length : Int) := by omega
  clear hlen
  go_enter Try.func17, Try.ntmps17
  go_upto_region 7 with (first | (go_at_call 59; go_must ((refine (drawWP_calls A c l _ (Kd.C_below HL.out HB.out) HC.out HY.out).mono ?_); rintro e u_ ⟨⟨A1, c1, ns, B1, d1, es, rfl, hgr_, -, -, hn_, he_⟩, hb⟩; have HGR := Aside0.mk hgr_; have HLN := Aside0.mk (And.intro hn_ he_); clear hgr_ hn_ he_; obtain ⟨P, hP_⟩ : ∃ y, wParts ns es = y := ⟨_, rfl⟩; have HPQ := Aside0.mk hP_; have HPN := Aside0.mk (wp_len hP_); clear hP_; replace HB := Aside0.mk (below_step HB.out hb); clear hb)) | ((with_reducible refine gate_dst (N := 3) rfl ?_); go_must ((refine w_new #[.slice none 0 0, .slice none 0 0] 26 rfl (by go_simp; (first | done | rfl)) ?_); intro g3 u_ hge_ hb0_ hb; have N3HGR := Aside0.mk (HGR.out.new hge_); have Hg3 := Aside0.mk (show w.heap.size + 0 ≤ g3 from by have hl0_ := HB.out.size; exact by omega); have L3 := Aside0.mk hb0_; replace HB := Aside0.mk (below_step HB.out hb); replace HGR := Aside0.mk (HGR.out.below hb); clear hge_ hb0_ hb; (try clear t3c0 t3c1); obtain ⟨t3c0, t3c1⟩ := cs2 (L3.out))) | ((with_reducible refine gate_store (p := 3) rfl ?_); go_must ((refine wpList_plain rfl fun K_ hK_ => wp_store_row _ _ _ rfl (g3) #[.slice A1 ns.length c1, .slice B1 es.length d1] rfl rfl _ _ L3.out (by kernel_rfl) rfl (by simp [Value.oneCell']) (hK_ _ _ ?_)); refine named _ ?_; intro wz hwz; replace HB := Aside0.mk (sb_ hwz HB.out (by have := Hg3.out; omega)); replace L3 := Aside0.mk (sh_ hwz L3.out); replace HGR := Aside0.mk ((HGR.out).row hwz N3HGR.out.1 N3HGR.out.2); (try clear t3c0 t3c1); obtain ⟨t3c0, t3c1⟩ := cs2 (L3.out); clear hwz)) | (go_at_call 58; go_must ((refine (walkParts_as A1 c1 ns B1 d1 es P _ HGR.out HPQ.out).mono ?_); rintro e u_ ⟨⟨A4, c4, rfl, hc_, hl_, hf_⟩, hb⟩; have HC4 := Aside0.mk hc_; clear hc_ hl_ hf_; replace HB := Aside0.mk (below_step HB.out hb); replace L3 := Aside0.mk (blk_below L3.out hb); replace HGR := Aside0.mk (HGR.out.below hb); (try clear t3c0 t3c1); obtain ⟨t3c0, t3c1⟩ := cs2 (L3.out); clear hb)) | (go_at_call 60; go_must ((refine (sWalkParts_as A1 c1 ns B1 d1 es P _ HGR.out HLN.out HPQ.out).mono ?_); rintro e u_ ⟨⟨A6, c6, rfl, hc_, hl_, hf_⟩, hb⟩; have HC6 := Aside0.mk hc_; clear hc_ hl_ hf_; replace HB := Aside0.mk (below_step HB.out hb); replace L3 := Aside0.mk (blk_below L3.out hb); replace HGR := Aside0.mk (HGR.out.below hb); replace HC4 := Aside0.mk (Kd.C_below (HC4.out) hb); (try clear t3c0 t3c1); obtain ⟨t3c0, t3c1⟩ := cs2 (L3.out); clear hb)) | (go_at_call 54; go_must ((refine (wpInts_calls A4 c4 A6 c6 P _ HC4.out HC6.out (by have := HPN.out; have := HLN.out; omega)).mono ?_); rintro e u_ ⟨rfl, hb⟩; replace HB := Aside0.mk (below_step HB.out hb); replace L3 := Aside0.mk (blk_below L3.out hb); replace HGR := Aside0.mk (HGR.out.below hb); replace HC4 := Aside0.mk (Kd.C_below (HC4.out) hb); replace HC6 := Aside0.mk (Kd.C_below (HC6.out) hb); (try clear t3c0 t3c1); obtain ⟨t3c0, t3c1⟩ := cs2 (L3.out); clear hb)))
  obtain ⟨v, hv⟩ : ∃ v, okG ns es = v := ⟨_, rfl⟩
  have HOK := Aside0.mk hv
  clear hv HC6
  cases v
  · obtain rfl : P = [] := HPQ.out.symm.trans (if_neg fun h => by rw [HOK.out] at h; cases h)
    go_wp2_with (first | (go_at_call 33; go_must ((refine (sGraphOk_as A1 c1 ns B1 d1 es _ _ HGR.out HLN.out HOK.out).mono ?_); rintro e u_ ⟨rfl, hb⟩; replace HB := Aside0.mk (below_step HB.out hb); replace L3 := Aside0.mk (blk_below L3.out hb); replace HGR := Aside0.mk (HGR.out.below hb); replace HC4 := Aside0.mk (Kd.C_below (HC4.out) hb); (try clear t3c0 t3c1); obtain ⟨t3c0, t3c1⟩ := cs2 (L3.out); clear hb)))
    go_ret
    exact ⟨rfl, HB.out⟩
  · have HOG := Aside0.mk (okG_true.1 HOK.out)
    have HPE := Aside0.mk (show P = partL (adjI ns es) ns.length from HPQ.out.symm.trans (if_pos HOK.out))
    go_wp2_with (first | (go_at_call 33; go_must ((refine (sGraphOk_as A1 c1 ns B1 d1 es _ _ HGR.out HLN.out HOK.out).mono ?_); rintro e u_ ⟨rfl, hb⟩; replace HB := Aside0.mk (below_step HB.out hb); replace L3 := Aside0.mk (blk_below L3.out hb); replace HGR := Aside0.mk (HGR.out.below hb); replace HC4 := Aside0.mk (Kd.C_below (HC4.out) hb); (try clear t3c0 t3c1); obtain ⟨t3c0, t3c1⟩ := cs2 (L3.out); clear hb)))
    go_loopw [5, 6, 7] (fun s5 _ _ wr => ∃ i : Nat, i ≤ P.length ∧ s5 = .int .i64 (i : Int) ∧ WpS w g3 A1 c1 ns B1 d1 es A4 P wr) (fun s5 _ _ _ => (P.length - intOf s5).toNat)
    case atStart => exact ⟨0, Nat.zero_le _, rfl, ⟨L3.out, HGR.out, HC4.out, HB.out⟩⟩
    case round =>
      clear L3 HGR HC4 HB
      obtain ⟨i, hi, rfl, l3_, gr_, c4_, hb_⟩ := hrel
      have HI := Aside0.mk hi
      clear hi
      have L3 := Aside0.mk l3_
      have HGR := Aside0.mk gr_
      have HC4 := Aside0.mk c4_
      have HB := Aside0.mk hb_
      obtain ⟨t3c0, t3c1⟩ := cs2 (L3.out)
      clear l3_ gr_ c4_ hb_
      have hdn : (P.length : Int) ≤ 100 := by have := HPN.out; have := HLN.out; omega
      by_cases hlt : i < P.length
      · have hil : (i : Int) < (P.length : Int) := by omega
        have HID := Aside0.mk hlt
        have HIN := Aside0.mk (show i < ns.length by have := HPN.out; omega)
        have hin : (i : Int) < (ns.length : Int) := by have := HIN.out; omega
        obtain ⟨a1, rfl⟩ : ∃ ad, A1 = some ad := by obtain ⟨ad, e, _⟩ := HGR.out.cn.2.2 (by omega); exact ⟨ad, e⟩
        obtain ⟨a4, rfl⟩ : ∃ ad, A4 = some ad := by obtain ⟨ad, e, _⟩ := HC4.out.2.2 (by omega); exact ⟨ad, e⟩
        obtain ⟨y, hy⟩ : ∃ y, at_ ns i = y := ⟨_, rfl⟩
        have HYA := Aside0.mk hy
        obtain ⟨D, hD⟩ : ∃ m, distL (adjI ns es) ns.length i = m := ⟨_, rfl⟩
        have HDE := Aside0.mk hD
        have HDQ := Aside0.mk (show wDist ns es y = D by rw [← hy]; exact wd_of HOG.out HIN.out hD)
        clear hlt hy hD
        obtain ⟨a1_, e1_, r0, r1⟩ := nd_at HGR.out.cn i HIN.out
        obtain rfl := Option.some.inj e1_
        clear e1_
        rw [HYA.out] at r0 r1
        go_wp2_with (fail)
        have ZL3 := L3
        refine region_bp [] sWq12 (by kernel_rfl) sWq12_ok (by decide) (fun d _ _ _ _ h => by cases d <;> exact h) ?_
        intro u hb
        have hS := hb
        replace HB := Aside0.mk (below_step HB.out hb)
        replace L3 := Aside0.mk (blk_below L3.out hb)
        replace HGR := Aside0.mk (HGR.out.below hb)
        replace HC4 := Aside0.mk (Kd.C_below (HC4.out) hb)
        (try clear t3c0 t3c1)
        obtain ⟨t3c0, t3c1⟩ := cs2 (L3.out)
        clear hb
        repeat (first | (refine p_off hS gt_ (by rfl) ?_; intro a_ ha_; (simp only [Act.put, List.setIfInBounds_toArray, List.set_cons_zero, List.set_cons_succ] at ha_); subst ha_) | (refine p_on (v := ?_) hS gt_ (by rfl) ?_ ?_; rotate_left; (· rintro w_ hS_; obtain ⟨t3c0_, t3c1_⟩ := cs2 (blk_below ZL3.out hS_); have r0_ := pw_cell_below hS_ r0; have r1_ := pw_cell_below hS_ r1; go_simp; with_reducible rfl); intro a_ ha_; (simp only [Act.put, List.setIfInBounds_toArray, List.set_cons_zero, List.set_cons_succ] at ha_); subst ha_) | (refine p_poff gt_ (by rfl) ?_; intro a_ ha_; (simp only [Act.put, List.setIfInBounds_toArray, List.set_cons_zero, List.set_cons_succ] at ha_); subst ha_) | (refine p_pon (v := ?_) gt_ (by rfl) ?_ ?_; rotate_left; (· go_simp; with_reducible rfl); intro a_ ha_; (simp only [Act.put, List.setIfInBounds_toArray, List.set_cons_zero, List.set_cons_succ] at ha_); subst ha_) | (refine p_ooff hS gt_ (by rfl) ?_; intro a_ ha_; (simp only [Act.put, List.setIfInBounds_toArray, List.set_cons_zero, List.set_cons_succ] at ha_); subst ha_) | (refine p_loff gt_ (by rfl) ?_; intro a_ ha_; (simp only [Act.put, List.setIfInBounds_toArray, List.set_cons_zero, List.set_cons_succ] at ha_); subst ha_) | (refine p_call (f := 53) (args := #[.agg #[.slice (some a1) ns.length c1, .slice B1 es.length d1], .agg #[.int .i64 y.lab, .int .i64 y.num]]) Try.func53 (by kernel_rfl) rfl gt_ (by rfl) (by rfl) mp_ ?_; (refine (walkDist_as (some a1) c1 ns B1 d1 es y D _ HGR.out HDQ.out).mono ?_); rintro e_ u_ ⟨⟨A6, c6, rfl, hc_, hl_, hf_⟩, hb⟩; have HC6 := Aside0.mk hc_; clear hc_ hl_ hf_; replace HB := Aside0.mk (below_step HB.out hb); replace L3 := Aside0.mk (blk_below L3.out hb); replace HGR := Aside0.mk (HGR.out.below hb); replace HC4 := Aside0.mk (Kd.C_below (HC4.out) hb); (try clear t3c0 t3c1); obtain ⟨t3c0, t3c1⟩ := cs2 (L3.out); replace hS := below_step hS hb; refine ⟨_, rfl, hS, fun a_ ha_ => ?_⟩; (simp only [Act.put, List.setIfInBounds_toArray, List.set_cons_zero, List.set_cons_succ] at ha_); subst ha_; clear hb))
        refine p_fin ?_
        clear hS ZL3
        clear r0 r1
        go_wp2_with (fail)
        go_loopw [7] (fun s7 wr => ∃ k : Nat, k ≤ P.length ∧ s7 = .int .i64 (k : Int) ∧ Aside0 ((Kd.int .i64).C wr A6 D.length D) ∧ WpS w g3 (some a1) c1 ns B1 d1 es (some a4) P wr) (fun s7 _ => (P.length - intOf s7).toNat)
        case atStart => exact ⟨0, Nat.zero_le _, rfl, HC6, ⟨L3.out, HGR.out, HC4.out, HB.out⟩⟩
        case round =>
          clear L3 HGR HC4 HC6 HB
          obtain ⟨k, hk, rfl, HC6, l3_, gr_, c4_, hb_⟩ := hrel
          have HK := Aside0.mk hk
          clear hk
          have L3 := Aside0.mk l3_
          have HGR := Aside0.mk gr_
          have HC4 := Aside0.mk c4_
          have HB := Aside0.mk hb_
          obtain ⟨t3c0, t3c1⟩ := cs2 (L3.out)
          clear l3_ gr_ c4_ hb_
          by_cases hlt : k < P.length
          · have hkl : (k : Int) < (P.length : Int) := by omega
            have HKL := Aside0.mk hlt
            have HKN := Aside0.mk (show k < ns.length by have := HPN.out; omega)
            have HKD := Aside0.mk (show k < D.length by rw [← HDE.out, distL_length]; exact HKN.out)
            have hkd : (k : Int) < (D.length : Int) := by have := HKD.out; omega
            obtain ⟨x, hx⟩ : ∃ x, dist (adjI ns es) i k = x := ⟨_, rfl⟩
            have HRE := Aside0.mk (root_eq (adj := adjI ns es) adjI_sym i k)
            obtain ⟨a4_, e4_, k0⟩ := int_at HC4.out i (by rw [HPE.out, partL_length]; exact HIN.out)
            obtain rfl := Option.some.inj e4_
            rw [show P.getD i 0 = ((root (adjI ns es) i : Nat) : Int) by rw [HPE.out]; exact gt_partL HIN.out] at k0
            clear e4_
            obtain ⟨a4_, e4_, k1⟩ := int_at HC4.out k (by rw [HPE.out, partL_length]; exact HKN.out)
            obtain rfl := Option.some.inj e4_
            rw [show P.getD k 0 = ((root (adjI ns es) k : Nat) : Int) by rw [HPE.out]; exact gt_partL HKN.out] at k1
            clear e4_
            obtain ⟨a6, e6, k2⟩ := int_at HC6.out k HKD.out
            cases e6
            rw [show D.getD k 0 = x by rw [← hx, ← HDE.out]; exact gt_distL HKN.out] at k2
            rw [hx] at HRE
            clear hlt hx
            by_cases hx0 : 0 ≤ x
            · rw [← HRE.out.2 hx0] at k1
              have hxb : decide (0 ≤ x) = true := decide_eq_true hx0
              go_wp2_with (fail)
              have ZL3 := L3
              refine region_bp [] sWq16 (by kernel_rfl) sWq16_ok (by decide) (fun d _ _ _ _ h => by cases d <;> exact h) ?_
              intro u hb
              have hS := hb
              replace HB := Aside0.mk (below_step HB.out hb)
              replace L3 := Aside0.mk (blk_below L3.out hb)
              replace HGR := Aside0.mk (HGR.out.below hb)
              replace HC4 := Aside0.mk (Kd.C_below (HC4.out) hb)
              replace HC6 := Aside0.mk (Kd.C_below (HC6.out) hb)
              (try clear t3c0 t3c1)
              obtain ⟨t3c0, t3c1⟩ := cs2 (L3.out)
              clear hb
              repeat (first | (refine p_off hS gt_ (by rfl) ?_; intro a_ ha_; (simp only [Act.put, List.setIfInBounds_toArray, List.set_cons_zero, List.set_cons_succ] at ha_); subst ha_) | (refine p_on (v := ?_) hS gt_ (by rfl) ?_ ?_; rotate_left; (· rintro w_ hS_; obtain ⟨t3c0_, t3c1_⟩ := cs2 (blk_below ZL3.out hS_); have k0_ := pw_cell_below hS_ k0; have k1_ := pw_cell_below hS_ k1; have k2_ := pw_cell_below hS_ k2; go_simp; with_reducible rfl); intro a_ ha_; (simp only [Act.put, List.setIfInBounds_toArray, List.set_cons_zero, List.set_cons_succ] at ha_); subst ha_) | (refine p_poff gt_ (by rfl) ?_; intro a_ ha_; (simp only [Act.put, List.setIfInBounds_toArray, List.set_cons_zero, List.set_cons_succ] at ha_); subst ha_) | (refine p_pon (v := ?_) gt_ (by rfl) ?_ ?_; rotate_left; (· go_simp; with_reducible rfl); intro a_ ha_; (simp only [Act.put, List.setIfInBounds_toArray, List.set_cons_zero, List.set_cons_succ] at ha_); subst ha_) | (refine p_ooff hS gt_ (by rfl) ?_; intro a_ ha_; (simp only [Act.put, List.setIfInBounds_toArray, List.set_cons_zero, List.set_cons_succ] at ha_); subst ha_) | (refine p_loff gt_ (by rfl) ?_; intro a_ ha_; (simp only [Act.put, List.setIfInBounds_toArray, List.set_cons_zero, List.set_cons_succ] at ha_); subst ha_))
              refine p_fin ?_
              clear hS ZL3
              go_wp2_with (fail)
              go_roundw
              case rel => exact ⟨k + 1, HKL.out, by go_num, HC6, ⟨L3.out, HGR.out, HC4.out, HB.out⟩⟩
              case measure => have := HKL.out; simp [intOf]; omega
            · have hne : ¬ ((root (adjI ns es) k : Nat) : Int) = ((root (adjI ns es) i : Nat) : Int) := fun h => hx0 (HRE.out.1 (by omega))
              generalize ((root (adjI ns es) k : Nat) : Int) = pk at k1 hne
              generalize ((root (adjI ns es) i : Nat) : Int) = pi at k0 hne
              have hnb : (pk == pi) = false := beq_false_of_ne hne
              have hxb : decide (0 ≤ x) = false := decide_eq_false hx0
              go_wp2_with (fail)
              have ZL3 := L3
              refine region_bp [] sWq16 (by kernel_rfl) sWq16_ok (by decide) (fun d _ _ _ _ h => by cases d <;> exact h) ?_
              intro u hb
              have hS := hb
              replace HB := Aside0.mk (below_step HB.out hb)
              replace L3 := Aside0.mk (blk_below L3.out hb)
              replace HGR := Aside0.mk (HGR.out.below hb)
              replace HC4 := Aside0.mk (Kd.C_below (HC4.out) hb)
              replace HC6 := Aside0.mk (Kd.C_below (HC6.out) hb)
              (try clear t3c0 t3c1)
              obtain ⟨t3c0, t3c1⟩ := cs2 (L3.out)
              clear hb
              repeat (first | (refine p_off hS gt_ (by rfl) ?_; intro a_ ha_; (simp only [Act.put, List.setIfInBounds_toArray, List.set_cons_zero, List.set_cons_succ] at ha_); subst ha_) | (refine p_on (v := ?_) hS gt_ (by rfl) ?_ ?_; rotate_left; (· rintro w_ hS_; obtain ⟨t3c0_, t3c1_⟩ := cs2 (blk_below ZL3.out hS_); have k0_ := pw_cell_below hS_ k0; have k1_ := pw_cell_below hS_ k1; have k2_ := pw_cell_below hS_ k2; go_simp; with_reducible rfl); intro a_ ha_; (simp only [Act.put, List.setIfInBounds_toArray, List.set_cons_zero, List.set_cons_succ] at ha_); subst ha_) | (refine p_poff gt_ (by rfl) ?_; intro a_ ha_; (simp only [Act.put, List.setIfInBounds_toArray, List.set_cons_zero, List.set_cons_succ] at ha_); subst ha_) | (refine p_pon (v := ?_) gt_ (by rfl) ?_ ?_; rotate_left; (· go_simp; with_reducible rfl); intro a_ ha_; (simp only [Act.put, List.setIfInBounds_toArray, List.set_cons_zero, List.set_cons_succ] at ha_); subst ha_) | (refine p_ooff hS gt_ (by rfl) ?_; intro a_ ha_; (simp only [Act.put, List.setIfInBounds_toArray, List.set_cons_zero, List.set_cons_succ] at ha_); subst ha_) | (refine p_loff gt_ (by rfl) ?_; intro a_ ha_; (simp only [Act.put, List.setIfInBounds_toArray, List.set_cons_zero, List.set_cons_succ] at ha_); subst ha_))
              refine p_fin ?_
              clear hS ZL3
              go_wp2_with (fail)
              go_roundw
              case rel => exact ⟨k + 1, HKL.out, by go_num, HC6, ⟨L3.out, HGR.out, HC4.out, HB.out⟩⟩
              case measure => have := HKL.out; simp [intOf]; omega
          · have hkl : ¬ (k : Int) < (P.length : Int) := by omega
            have HRR := Aside0.mk (root_root (adj := adjI ns es) adjI_sym i)
            obtain ⟨r, hr⟩ : ∃ r, root (adjI ns es) i = r := ⟨_, rfl⟩
            have HRI := Aside0.mk (show r ≤ i by rw [← hr]; exact root_le i)
            have HRN := Aside0.mk (show r < ns.length by have := HRI.out; have := HIN.out; omega)
            have hri : decide (i < r) = false := decide_eq_false (by have := HRI.out; omega)
            have hr0 : decide ((r : Int) < 0) = false := decide_eq_false (by omega)
            have hrp : (r : Int) < (P.length : Int) := by have := HRI.out; have := HID.out; omega
            obtain ⟨a4_, e4_, k0⟩ := int_at HC4.out i (by rw [HPE.out, partL_length]; exact HIN.out)
            obtain rfl := Option.some.inj e4_
            rw [show P.getD i 0 = ((root (adjI ns es) i : Nat) : Int) by rw [HPE.out]; exact gt_partL HIN.out] at k0
            clear e4_
            rw [hr] at k0 HRR
            obtain ⟨a4_, e4_, k1⟩ := int_at HC4.out r (by rw [HPE.out, partL_length]; exact HRN.out)
            obtain rfl := Option.some.inj e4_
            rw [show P.getD r 0 = ((root (adjI ns es) r : Nat) : Int) by rw [HPE.out]; exact gt_partL HRN.out] at k1
            clear e4_
            rw [HRR.out] at k1
            clear hlt hr
            go_wp2_with (fail)
            have ZL3 := L3
            refine region_bp [] sWq18 (by kernel_rfl) sWq18_ok (by decide) (fun d _ _ _ _ h => by cases d <;> exact h) ?_
            intro u hb
            have hS := hb
            replace HB := Aside0.mk (below_step HB.out hb)
            replace L3 := Aside0.mk (blk_below L3.out hb)
            replace HGR := Aside0.mk (HGR.out.below hb)
            replace HC4 := Aside0.mk (Kd.C_below (HC4.out) hb)
            (try clear t3c0 t3c1)
            obtain ⟨t3c0, t3c1⟩ := cs2 (L3.out)
            clear hb
            repeat (first | (refine p_off hS gt_ (by rfl) ?_; intro a_ ha_; (simp only [Act.put, List.setIfInBounds_toArray, List.set_cons_zero, List.set_cons_succ] at ha_); subst ha_) | (refine p_on (v := ?_) hS gt_ (by rfl) ?_ ?_; rotate_left; (· rintro w_ hS_; obtain ⟨t3c0_, t3c1_⟩ := cs2 (blk_below ZL3.out hS_); have k0_ := pw_cell_below hS_ k0; have k1_ := pw_cell_below hS_ k1; go_simp; with_reducible rfl); intro a_ ha_; (simp only [Act.put, List.setIfInBounds_toArray, List.set_cons_zero, List.set_cons_succ] at ha_); subst ha_) | (refine p_poff gt_ (by rfl) ?_; intro a_ ha_; (simp only [Act.put, List.setIfInBounds_toArray, List.set_cons_zero, List.set_cons_succ] at ha_); subst ha_) | (refine p_pon (v := ?_) gt_ (by rfl) ?_ ?_; rotate_left; (· go_simp; with_reducible rfl); intro a_ ha_; (simp only [Act.put, List.setIfInBounds_toArray, List.set_cons_zero, List.set_cons_succ] at ha_); subst ha_) | (refine p_ooff hS gt_ (by rfl) ?_; intro a_ ha_; (simp only [Act.put, List.setIfInBounds_toArray, List.set_cons_zero, List.set_cons_succ] at ha_); subst ha_) | (refine p_loff gt_ (by rfl) ?_; intro a_ ha_; (simp only [Act.put, List.setIfInBounds_toArray, List.set_cons_zero, List.set_cons_succ] at ha_); subst ha_))
            refine p_fin ?_
            clear hS ZL3
            go_wp2_with (fail)
            go_roundw
            case rel => exact ⟨i + 1, HID.out, by go_num, ⟨L3.out, HGR.out, HC4.out, HB.out⟩⟩
            case measure => have := HID.out; simp [intOf]; omega
      · have hil : ¬ (i : Int) < (P.length : Int) := by omega
        have hdl : (P.length : Int) = (ns.length : Int) := by rw [HPE.out, partL_length]
        clear hlt
        go_wp2_with (fail)
        go_ret
        exact ⟨rfl, HB.out⟩
end Go.Proofs.Ytogmbeifbjgphaa.R
