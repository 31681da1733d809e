/- The law FnWalkTurn, walked. -/
import Derived.Test.YtogmbeifbjgphaaKHR
import Derived.Test.YtogmbeifbjgphaaKL10
namespace Go.Proofs.Ytogmbeifbjgphaa.R
open Go.RowKit Go.Proofs.YtogmbeifbjgphaaV.PrintWords Go.Proofs.YtogmbeifbjgphaaV.PrintLast Go.Proofs.YtogmbeifbjgphaaV.PrintMore Go.Proofs.Ytogmbeifbjgphaa.M
set_option linter.unusedVariables false
set_option linter.unusedSimpArgs false
attribute [local go_sem high] eqN eqE
abbrev sWr14 : Pl := (.tk 0 (.tk 1 (.tk 2 (.tk 3 (.tk 4 (.tk 5 (.tk 6 (.tk 7 (.tk 8 (.tk 9 (.tk 10 (.tk 11 (.tk 12 (.tk 13 (.tk 14 (.tk 15 (.tk 16 (.tk 17 (.tk 18 (.tk 19 (.tk 20 (.tk 21 (.tk 22 (.tk 23 (.tk 24 (.tk 25 (.tk 26 (.tk 27 (.tk 28 .fin)))))))))))))))))))))))))))))
theorem sWr14_ok : planB .any (opsOf Try.f14 14) [] sWr14 (Array.replicate (opsOf Try.f14 14).size false) = true := by kernel_rfl
set_option maxHeartbeats 25600000 in
set_option maxRecDepth 100000 in
theorem walkTurnLaw_calls (A : Option Addr) (c : Nat) (l : List Int) (w : World) (hl : (Kd.int .u8).C w A l.length l) (hc : l.length ≤ c) (hb : ∀ x ∈ l, 0 ≤ x ∧ x < 256) :
    Calls Try.prog 14 #[.slice A l.length c] w fun e w' => e = .returned (.bool true) ∧ Below w.heap.size w w' := by
  have HL := Aside0.mk hl
  have HC := Aside0.mk hc
  have HY := Aside0.mk hb
  have HB := Aside0.mk (Below.refl w.heap.size w)
  clear hl hc hb
  by_cases hlen : 1048576 < l.length
  · have hl1 : (1048576 : Int) < (l.length : Int) := by omega
    go_enter Try.func14, Try.ntmps14
    go_wp2_with (fail)
    go_ret
    exact ⟨rfl, HB.out⟩
  have hl1 : ¬ (1048576 : Int) < (l.length : Int) := by omega
  clear hlen
  go_enter Try.func14, Try.ntmps14
  go_upto_region 5 with (first | (go_at_call 57; go_must ((refine (drawWPa_calls A c l _ (Kd.C_below HL.out HB.out) HC.out HY.out).mono ?_); rintro e u_ ⟨⟨A1, c1, ns, B1, d1, es, n, m, rfl, hgr_, hn_, he_⟩, hb⟩; have HGR := Aside0.mk hgr_; have HLN := Aside0.mk (And.intro hn_ he_); clear hgr_ hn_ he_; obtain ⟨D, hD_⟩ : ∃ y, wDist ns es n = y := ⟨_, rfl⟩; have HD := Aside0.mk hD_; have HDL := Aside0.mk (wd_len hD_); clear hD_; replace HB := Aside0.mk (below_step HB.out hb); clear hb)) | ((with_reducible refine gate_dst (N := 3) rfl ?_); go_must ((refine w_new #[.slice none 0 0, .slice none 0 0] 26 rfl (by go_simp; (first | done | rfl)) ?_); intro g3 u_ hge_ hb0_ hb; have N3HGR := Aside0.mk (HGR.out.new hge_); have Hg3 := Aside0.mk (show w.heap.size + 0 ≤ g3 from by have hl0_ := HB.out.size; exact by omega); have L3 := Aside0.mk hb0_; replace HB := Aside0.mk (below_step HB.out hb); replace HGR := Aside0.mk (HGR.out.below hb); clear hge_ hb0_ hb; (try clear t3c0 t3c1); obtain ⟨t3c0, t3c1⟩ := cs2 (L3.out))) | ((with_reducible refine gate_dst (N := 4) rfl ?_); go_must ((refine w_new #[.int .i64 0, .int .i64 0] 28 rfl (by go_simp; (first | done | rfl)) ?_); intro g4 u_ hge_ hb0_ hb; have N4HGR := Aside0.mk (HGR.out.new hge_); have Hg4 := Aside0.mk (show w.heap.size + 0 ≤ g4 ∧ g3 < g4 from by have hl0_ := HB.out.size; have hl_g3 := blk_lt L3.out; exact ⟨by omega, by omega⟩); have L4 := Aside0.mk hb0_; replace HB := Aside0.mk (below_step HB.out hb); replace L3 := Aside0.mk (blk_below L3.out hb); replace HGR := Aside0.mk (HGR.out.below hb); clear hge_ hb0_ hb; (try clear t3c0 t3c1); obtain ⟨t3c0, t3c1⟩ := cs2 (L3.out); (try clear t4c0 t4c1); obtain ⟨t4c0, t4c1⟩ := cs2 (L4.out))) | ((with_reducible refine gate_dst (N := 5) rfl ?_); go_must ((refine w_new #[.int .i64 0, .int .i64 0] 28 rfl (by go_simp; (first | done | rfl)) ?_); intro g5 u_ hge_ hb0_ hb; have N5HGR := Aside0.mk (HGR.out.new hge_); have Hg5 := Aside0.mk (show w.heap.size + 0 ≤ g5 ∧ g3 < g5 ∧ g4 < g5 from by have hl0_ := HB.out.size; have hl_g3 := blk_lt L3.out; have hl_g4 := blk_lt L4.out; exact ⟨by omega, by omega, by omega⟩); have L5 := Aside0.mk hb0_; replace HB := Aside0.mk (below_step HB.out hb); replace L3 := Aside0.mk (blk_below L3.out hb); replace L4 := Aside0.mk (blk_below L4.out hb); replace HGR := Aside0.mk (HGR.out.below hb); clear hge_ hb0_ hb; (try clear t3c0 t3c1); obtain ⟨t3c0, t3c1⟩ := cs2 (L3.out); (try clear t4c0 t4c1); obtain ⟨t4c0, t4c1⟩ := cs2 (L4.out); (try clear t5c0 t5c1); obtain ⟨t5c0, t5c1⟩ := cs2 (L5.out))) | ((with_reducible refine gate_store (p := 3) rfl ?_); go_must ((refine wpList_plain rfl fun K_ hK_ => wp_store_row _ _ _ rfl (g3) #[.slice A1 ns.length c1, .slice B1 es.length d1] rfl rfl _ _ L3.out (by kernel_rfl) rfl (by simp [Value.oneCell']) (hK_ _ _ ?_)); refine named _ ?_; intro wz hwz; replace HB := Aside0.mk (sb_ hwz HB.out (by have := Hg3.out; have := Hg4.out; have := Hg5.out; omega)); replace L4 := Aside0.mk (so_ hwz L4.out (by have := Hg3.out; have := Hg4.out; have := Hg5.out; omega)); replace L5 := Aside0.mk (so_ hwz L5.out (by have := Hg3.out; have := Hg4.out; have := Hg5.out; omega)); replace L3 := Aside0.mk (sh_ hwz L3.out); replace HGR := Aside0.mk ((HGR.out).row hwz N3HGR.out.1 N3HGR.out.2); (try clear t3c0 t3c1); obtain ⟨t3c0, t3c1⟩ := cs2 (L3.out); (try clear t4c0 t4c1); obtain ⟨t4c0, t4c1⟩ := cs2 (L4.out); (try clear t5c0 t5c1); obtain ⟨t5c0, t5c1⟩ := cs2 (L5.out); clear hwz)) | ((with_reducible refine gate_store (p := 4) rfl ?_); go_must ((refine wpList_plain rfl fun K_ hK_ => wp_store_row _ _ _ rfl (g4) #[.int .i64 n.lab, .int .i64 n.num] rfl rfl _ _ L4.out (by kernel_rfl) rfl (by simp [Value.oneCell']) (hK_ _ _ ?_)); refine named _ ?_; intro wz hwz; replace HB := Aside0.mk (sb_ hwz HB.out (by have := Hg3.out; have := Hg4.out; have := Hg5.out; omega)); replace L3 := Aside0.mk (so_ hwz L3.out (by have := Hg3.out; have := Hg4.out; have := Hg5.out; omega)); replace L5 := Aside0.mk (so_ hwz L5.out (by have := Hg3.out; have := Hg4.out; have := Hg5.out; omega)); replace L4 := Aside0.mk (sh_ hwz L4.out); replace HGR := Aside0.mk ((HGR.out).row hwz N4HGR.out.1 N4HGR.out.2); (try clear t3c0 t3c1); obtain ⟨t3c0, t3c1⟩ := cs2 (L3.out); (try clear t4c0 t4c1); obtain ⟨t4c0, t4c1⟩ := cs2 (L4.out); (try clear t5c0 t5c1); obtain ⟨t5c0, t5c1⟩ := cs2 (L5.out); clear hwz)) | ((with_reducible refine gate_store (p := 5) rfl ?_); go_must ((refine wpList_plain rfl fun K_ hK_ => wp_store_row _ _ _ rfl (g5) #[.int .i64 m.lab, .int .i64 m.num] rfl rfl _ _ L5.out (by kernel_rfl) rfl (by simp [Value.oneCell']) (hK_ _ _ ?_)); refine named _ ?_; intro wz hwz; replace HB := Aside0.mk (sb_ hwz HB.out (by have := Hg3.out; have := Hg4.out; have := Hg5.out; omega)); replace L3 := Aside0.mk (so_ hwz L3.out (by have := Hg3.out; have := Hg4.out; have := Hg5.out; omega)); replace L4 := Aside0.mk (so_ hwz L4.out (by have := Hg3.out; have := Hg4.out; have := Hg5.out; omega)); replace L5 := Aside0.mk (sh_ hwz L5.out); replace HGR := Aside0.mk ((HGR.out).row hwz N5HGR.out.1 N5HGR.out.2); (try clear t3c0 t3c1); obtain ⟨t3c0, t3c1⟩ := cs2 (L3.out); (try clear t4c0 t4c1); obtain ⟨t4c0, t4c1⟩ := cs2 (L4.out); (try clear t5c0 t5c1); obtain ⟨t5c0, t5c1⟩ := cs2 (L5.out); clear hwz)) | (go_at_call 53; go_must ((refine (walkDist_as A1 c1 ns B1 d1 es n D _ HGR.out HD.out).mono ?_); rintro e u_ ⟨⟨A6, c6, rfl, hc_, hl_, hf_⟩, hb⟩; have HC6 := Aside0.mk hc_; clear hc_ hl_ hf_; replace HB := Aside0.mk (below_step HB.out hb); replace L3 := Aside0.mk (blk_below L3.out hb); replace L4 := Aside0.mk (blk_below L4.out hb); replace L5 := Aside0.mk (blk_below L5.out hb); replace HGR := Aside0.mk (HGR.out.below hb); (try clear t3c0 t3c1); obtain ⟨t3c0, t3c1⟩ := cs2 (L3.out); (try clear t4c0 t4c1); obtain ⟨t4c0, t4c1⟩ := cs2 (L4.out); (try clear t5c0 t5c1); obtain ⟨t5c0, t5c1⟩ := cs2 (L5.out); clear hb)))
  by_cases hin : okG ns es = true ∧ n ∈ ns
  · have HOG := Aside0.mk (okG_true.1 hin.1)
    have HAM := Aside0.mk hin.2
    have HDE0 := wd_at HD.out hin.1 hin.2
    obtain ⟨s, hs⟩ : ∃ s, idx ns n = s := ⟨_, rfl⟩
    have HSE := Aside0.mk hs
    have HPN := Aside0.mk (show placeI ns n = (s : Int) by rw [placeI_in hin.2, hs])
    have HSN := Aside0.mk (show s < ns.length by rw [← hs]; exact idx_lt hin.2)
    rw [hs] at HDE0
    have HDE := Aside0.mk HDE0
    clear HDE0
    have HDN := Aside0.mk (show D.length = ns.length by rw [HDE.out, distL_length])
    have hdz : ¬ (D.length : Int) = 0 := by have := HDN.out; have := HSN.out; omega
    have hdzb : ((D.length : Int) == 0) = false := beq_false_of_ne hdz
    have hdn : (D.length : Int) ≤ 100 := by have := HDN.out; have := HLN.out; omega
    by_cases hbn : m ∈ ns
    · have HBM := Aside0.mk hbn
      obtain ⟨t, ht⟩ : ∃ s, idx ns m = s := ⟨_, rfl⟩
      have HTE := Aside0.mk ht
      have HPM := Aside0.mk (show placeI ns m = (t : Int) by rw [placeI_in hbn, ht])
      have HTN := Aside0.mk (show t < ns.length by rw [← ht]; exact idx_lt hbn)
      obtain ⟨E, hE⟩ : ∃ y, wDist ns es m = y := ⟨_, rfl⟩
      have HE := Aside0.mk hE
      have HEE0 := wd_at hE hin.1 hbn
      rw [ht] at HEE0
      have HEE := Aside0.mk HEE0
      have HEN := Aside0.mk (show E.length = ns.length by rw [HEE.out, distL_length])
      obtain ⟨nv, hnv⟩ : ∃ v, dist (adjI ns es) s t = v := ⟨_, rfl⟩
      have HNV := Aside0.mk hnv
      have htd : (t : Int) < (D.length : Int) := by have := HDN.out; have := HTN.out; omega
      have hse : (s : Int) < (E.length : Int) := by have := HEN.out; have := HSN.out; omega
      have htn : ¬ ((t : Nat) : Int) < 0 := by omega
      have htnb : decide (((t : Nat) : Int) < 0) = false := decide_eq_false htn
      have HKT := Aside0.mk (show D.getD t 0 = nv by rw [← hnv, HDE.out]; exact gt_distL HTN.out)
      have HKS := Aside0.mk (show E.getD s 0 = nv by rw [← hnv, HEE.out, dist_symm adjI_sym s t]; exact gt_distL HSN.out)
      obtain ⟨a6, rfl⟩ : ∃ ad, A6 = some ad := by obtain ⟨ad, e, _⟩ := HC6.out.2.2 (by have := HDN.out; have := HSN.out; omega); exact ⟨ad, e⟩
      clear hin hs hbn ht hE HEE0 hnv
      go_upto_region 8 with (first | (go_at_call 55; go_must ((refine (sWalkDist_as A1 c1 ns B1 d1 es n D _ HGR.out HLN.out HD.out).mono ?_); rintro e u_ ⟨⟨A7, c7, rfl, hc_, hl_, hf_⟩, hb⟩; have HC7 := Aside0.mk hc_; clear hc_ hl_ hf_; replace HB := Aside0.mk (below_step HB.out hb); replace L3 := Aside0.mk (blk_below L3.out hb); replace L4 := Aside0.mk (blk_below L4.out hb); replace L5 := Aside0.mk (blk_below L5.out hb); replace HGR := Aside0.mk (HGR.out.below hb); replace HC6 := Aside0.mk (Kd.C_below (HC6.out) hb); (try clear t3c0 t3c1); obtain ⟨t3c0, t3c1⟩ := cs2 (L3.out); (try clear t4c0 t4c1); obtain ⟨t4c0, t4c1⟩ := cs2 (L4.out); (try clear t5c0 t5c1); obtain ⟨t5c0, t5c1⟩ := cs2 (L5.out); clear hb)) | (go_at_call 54; go_must ((refine (wpInts_calls (some a6) c6 A7 c7 D _ HC6.out HC7.out (by have := HDL.out; have := HLN.out; omega)).mono ?_); rintro e u_ ⟨rfl, hb⟩; replace HB := Aside0.mk (below_step HB.out hb); replace L3 := Aside0.mk (blk_below L3.out hb); replace L4 := Aside0.mk (blk_below L4.out hb); replace L5 := Aside0.mk (blk_below L5.out hb); replace HGR := Aside0.mk (HGR.out.below hb); replace HC6 := Aside0.mk (Kd.C_below (HC6.out) hb); replace HC7 := Aside0.mk (Kd.C_below (HC7.out) hb); (try clear t3c0 t3c1); obtain ⟨t3c0, t3c1⟩ := cs2 (L3.out); (try clear t4c0 t4c1); obtain ⟨t4c0, t4c1⟩ := cs2 (L4.out); (try clear t5c0 t5c1); obtain ⟨t5c0, t5c1⟩ := cs2 (L5.out); clear hb)) | (go_at_call 56; go_must ((refine (wpAt_as A1 c1 ns B1 d1 es m t _ HGR.out HLN.out HPM.out).mono ?_); rintro e u_ ⟨rfl, hb⟩; replace HB := Aside0.mk (below_step HB.out hb); replace L3 := Aside0.mk (blk_below L3.out hb); replace L4 := Aside0.mk (blk_below L4.out hb); replace L5 := Aside0.mk (blk_below L5.out hb); replace HGR := Aside0.mk (HGR.out.below hb); replace HC6 := Aside0.mk (Kd.C_below (HC6.out) hb); (try clear t3c0 t3c1); obtain ⟨t3c0, t3c1⟩ := cs2 (L3.out); (try clear t4c0 t4c1); obtain ⟨t4c0, t4c1⟩ := cs2 (L4.out); (try clear t5c0 t5c1); obtain ⟨t5c0, t5c1⟩ := cs2 (L5.out); clear hb)) | (go_at_call 53; go_must ((refine (walkDist_as A1 c1 ns B1 d1 es m E _ HGR.out HE.out).mono ?_); rintro e u_ ⟨⟨A8, c8, rfl, hc_, hl_, hf_⟩, hb⟩; have HC8 := Aside0.mk hc_; clear hc_ hl_ hf_; replace HB := Aside0.mk (below_step HB.out hb); replace L3 := Aside0.mk (blk_below L3.out hb); replace L4 := Aside0.mk (blk_below L4.out hb); replace L5 := Aside0.mk (blk_below L5.out hb); replace HGR := Aside0.mk (HGR.out.below hb); replace HC6 := Aside0.mk (Kd.C_below (HC6.out) hb); (try clear t3c0 t3c1); obtain ⟨t3c0, t3c1⟩ := cs2 (L3.out); (try clear t4c0 t4c1); obtain ⟨t4c0, t4c1⟩ := cs2 (L4.out); (try clear t5c0 t5c1); obtain ⟨t5c0, t5c1⟩ := cs2 (L5.out); clear hb)))
      obtain ⟨a8, rfl⟩ : ∃ ad, A8 = some ad := by obtain ⟨ad, e, _⟩ := HC8.out.2.2 (by have := HEN.out; have := HSN.out; omega); exact ⟨ad, e⟩
      clear HC7
      have HTD := Aside0.mk (show t < D.length by have := HDN.out; have := HTN.out; omega)
      have HSD := Aside0.mk (show s < E.length by have := HEN.out; have := HSN.out; omega)
      obtain ⟨a6_, e_a6, k0⟩ := int_at HC6.out t HTD.out
      obtain rfl := Option.some.inj e_a6
      rw [HKT.out] at k0
      clear e_a6
      go_upto_region 9 with (first | (go_at_call 56; go_must ((refine (wpAt_as A1 c1 ns B1 d1 es m t _ HGR.out HLN.out HPM.out).mono ?_); rintro e u_ ⟨rfl, hb⟩; replace HB := Aside0.mk (below_step HB.out hb); replace L3 := Aside0.mk (blk_below L3.out hb); replace L4 := Aside0.mk (blk_below L4.out hb); replace L5 := Aside0.mk (blk_below L5.out hb); replace HGR := Aside0.mk (HGR.out.below hb); replace HC6 := Aside0.mk (Kd.C_below (HC6.out) hb); replace HC8 := Aside0.mk (Kd.C_below (HC8.out) hb); (try clear t3c0 t3c1); obtain ⟨t3c0, t3c1⟩ := cs2 (L3.out); (try clear t4c0 t4c1); obtain ⟨t4c0, t4c1⟩ := cs2 (L4.out); (try clear t5c0 t5c1); obtain ⟨t5c0, t5c1⟩ := cs2 (L5.out); replace k0 := pw_cell_below hb k0; clear hb)))
      clear k0
      obtain ⟨a8_, e_a8, k1⟩ := int_at HC8.out s HSD.out
      obtain rfl := Option.some.inj e_a8
      rw [HKS.out] at k1
      clear e_a8
      go_wp2_with (first | (go_at_call 56; go_must ((refine (wpAt_as A1 c1 ns B1 d1 es n s _ HGR.out HLN.out HPN.out).mono ?_); rintro e u_ ⟨rfl, hb⟩; replace HB := Aside0.mk (below_step HB.out hb); replace L3 := Aside0.mk (blk_below L3.out hb); replace L4 := Aside0.mk (blk_below L4.out hb); replace L5 := Aside0.mk (blk_below L5.out hb); replace HGR := Aside0.mk (HGR.out.below hb); replace HC6 := Aside0.mk (Kd.C_below (HC6.out) hb); replace HC8 := Aside0.mk (Kd.C_below (HC8.out) hb); (try clear t3c0 t3c1); obtain ⟨t3c0, t3c1⟩ := cs2 (L3.out); (try clear t4c0 t4c1); obtain ⟨t4c0, t4c1⟩ := cs2 (L4.out); (try clear t5c0 t5c1); obtain ⟨t5c0, t5c1⟩ := cs2 (L5.out); replace k1 := pw_cell_below hb k1; clear hb)))
      clear k1
      go_loopw [9] (fun s9 wr => ∃ i : Nat, i ≤ D.length ∧ s9 = .int .i64 (i : Int) ∧ (Kd.int .i64).C wr (some a6) D.length D ∧ (Kd.int .i64).C wr (some a8) E.length E ∧ Below w.heap.size w wr) (fun s9 _ => (D.length - intOf s9).toNat)
      case atStart => exact ⟨0, Nat.zero_le _, rfl, HC6.out, HC8.out, HB.out⟩
      case round =>
        clear L3 L4 L5 HGR HC6 HC8 HB
        obtain ⟨i, hi, rfl, c6_, c8_, hb_⟩ := hrel
        have HI := Aside0.mk hi
        have HC6 := Aside0.mk c6_
        have HC8 := Aside0.mk c8_
        have HB := Aside0.mk hb_
        clear hi c6_ c8_ hb_
        by_cases hlt : i < D.length
        · have hil : (i : Int) < (D.length : Int) := by omega
          have HIL := Aside0.mk hlt
          have hiN : i < ns.length := by have := HDN.out; omega
          have HIE := Aside0.mk (show i < E.length by have := HEN.out; omega)
          have hie : (i : Int) < (E.length : Int) := by have := HIE.out; omega
          obtain ⟨x, hx⟩ : ∃ x, dist (adjI ns es) s i = x := ⟨_, rfl⟩
          obtain ⟨z, hz⟩ : ∃ x, dist (adjI ns es) t i = x := ⟨_, rfl⟩
          have HXA := Aside0.mk (show D.getD i 0 = x by rw [← hx, HDE.out]; exact gt_distL hiN)
          have HZA := Aside0.mk (show E.getD i 0 = z by rw [← hz, HEE.out]; exact gt_distL hiN)
          obtain ⟨a6_, e_a6, k0⟩ := int_at HC6.out i HIL.out
          obtain rfl := Option.some.inj e_a6
          rw [HXA.out] at k0
          clear e_a6
          obtain ⟨a8_, e_a8, k1⟩ := int_at HC8.out i HIE.out
          obtain rfl := Option.some.inj e_a8
          rw [HZA.out] at k1
          clear e_a8
          have hxu : x ≤ 100 := by rw [← hx, ← HSE.out]; have h1 := dist_ub HOG.out HAM.out hiN; have := HLN.out; omega
          have hzu : z ≤ 100 := by rw [← hz, ← HTE.out]; have h1 := dist_ub HOG.out HBM.out hiN; have := HLN.out; omega
          have HTR := Aside0.mk (show 0 ≤ x → 0 ≤ z → 0 ≤ nv ∧ nv ≤ x + z from fun h1 h2 => by
            have h3 := dist_tri (adj := adjI ns es) (a := s) (b := i) (c := t) (by rw [hx]; exact h1) (by rw [dist_symm adjI_sym, hz]; exact h2)
            rw [HNV.out, hx, dist_symm adjI_sym i t, hz] at h3
            exact h3)
          clear hlt hx hz hiN
          have hc : ¬ 0 ≤ x ∨ 0 ≤ x ∧ ¬ 0 ≤ z ∨ 0 ≤ x ∧ 0 ≤ z := by omega
          rcases hc with h1 | ⟨h1, h2⟩ | ⟨h1, h2⟩
          case' inl => have hxb : decide (0 ≤ x) = false := decide_eq_false h1
          case' inr.inl =>
            have hxb : decide (0 ≤ x) = true := decide_eq_true h1
            have hzb : decide (0 ≤ z) = false := decide_eq_false h2
          case' inr.inr =>
            have hxb : decide (0 ≤ x) = true := decide_eq_true h1
            have hzb : decide (0 ≤ z) = true := decide_eq_true h2
            have hnb : decide (nv < 0) = false := decide_eq_false (by have := HTR.out h1 h2; omega)
            have hw1 : IntKind.i64.wrap (x + z) = x + z := by rw [IntKind.wrap_i64]; omega
            have hnx : decide (x + z < nv) = false := decide_eq_false (by have := HTR.out h1 h2; omega)
          all_goals
            go_wp2_with (fail)
            refine region_bp [] sWr14 (by kernel_rfl) sWr14_ok (by decide) (fun d _ _ _ _ h => by cases d <;> exact h) ?_
            intro u hb
            have hS := hb
            replace HB := Aside0.mk (below_step HB.out hb)
            replace HC6 := Aside0.mk (Kd.C_below (HC6.out) hb)
            replace HC8 := Aside0.mk (Kd.C_below (HC8.out) hb)
            clear hb
            repeat (first | (refine p_off hS gt_ (by rfl) ?_; intro a_ ha_; (simp only [Act.put, List.setIfInBounds_toArray, List.set_cons_zero, List.set_cons_succ] at ha_); subst ha_) | (refine p_on (v := ?_) hS gt_ (by rfl) ?_ ?_; rotate_left; (· rintro w_ hS_; have k0_ := pw_cell_below hS_ k0; have k1_ := pw_cell_below hS_ k1; go_simp; with_reducible rfl); intro a_ ha_; (simp only [Act.put, List.setIfInBounds_toArray, List.set_cons_zero, List.set_cons_succ] at ha_); subst ha_) | (refine p_poff gt_ (by rfl) ?_; intro a_ ha_; (simp only [Act.put, List.setIfInBounds_toArray, List.set_cons_zero, List.set_cons_succ] at ha_); subst ha_) | (refine p_pon (v := ?_) gt_ (by rfl) ?_ ?_; rotate_left; (· go_simp; with_reducible rfl); intro a_ ha_; (simp only [Act.put, List.setIfInBounds_toArray, List.set_cons_zero, List.set_cons_succ] at ha_); subst ha_) | (refine p_ooff hS gt_ (by rfl) ?_; intro a_ ha_; (simp only [Act.put, List.setIfInBounds_toArray, List.set_cons_zero, List.set_cons_succ] at ha_); subst ha_) | (refine p_loff gt_ (by rfl) ?_; intro a_ ha_; (simp only [Act.put, List.setIfInBounds_toArray, List.set_cons_zero, List.set_cons_succ] at ha_); subst ha_))
            refine p_fin ?_
            clear hS 
            try clear hw1
            go_wp2_with (fail)
            go_roundw
            case rel => exact ⟨i + 1, HIL.out, by go_num, HC6.out, HC8.out, HB.out⟩
            case measure => have := HIL.out; simp [intOf]; omega
        · have hil : ¬ (i : Int) < (D.length : Int) := by omega
          clear hlt
          go_wp2_with (fail)
          go_ret
          exact ⟨rfl, HB.out⟩
    · have HPM := Aside0.mk (placeI_out hbn)
      clear hin hs hbn
      go_wp2_with (first | (go_at_call 55; go_must ((refine (sWalkDist_as A1 c1 ns B1 d1 es n D _ HGR.out HLN.out HD.out).mono ?_); rintro e u_ ⟨⟨A7, c7, rfl, hc_, hl_, hf_⟩, hb⟩; have HC7 := Aside0.mk hc_; clear hc_ hl_ hf_; replace HB := Aside0.mk (below_step HB.out hb); replace L3 := Aside0.mk (blk_below L3.out hb); replace L4 := Aside0.mk (blk_below L4.out hb); replace L5 := Aside0.mk (blk_below L5.out hb); replace HGR := Aside0.mk (HGR.out.below hb); replace HC6 := Aside0.mk (Kd.C_below (HC6.out) hb); (try clear t3c0 t3c1); obtain ⟨t3c0, t3c1⟩ := cs2 (L3.out); (try clear t4c0 t4c1); obtain ⟨t4c0, t4c1⟩ := cs2 (L4.out); (try clear t5c0 t5c1); obtain ⟨t5c0, t5c1⟩ := cs2 (L5.out); clear hb)) | (go_at_call 54; go_must ((refine (wpInts_calls A6 c6 A7 c7 D _ HC6.out HC7.out (by have := HDL.out; have := HLN.out; omega)).mono ?_); rintro e u_ ⟨rfl, hb⟩; replace HB := Aside0.mk (below_step HB.out hb); replace L3 := Aside0.mk (blk_below L3.out hb); replace L4 := Aside0.mk (blk_below L4.out hb); replace L5 := Aside0.mk (blk_below L5.out hb); replace HGR := Aside0.mk (HGR.out.below hb); replace HC6 := Aside0.mk (Kd.C_below (HC6.out) hb); replace HC7 := Aside0.mk (Kd.C_below (HC7.out) hb); (try clear t3c0 t3c1); obtain ⟨t3c0, t3c1⟩ := cs2 (L3.out); (try clear t4c0 t4c1); obtain ⟨t4c0, t4c1⟩ := cs2 (L4.out); (try clear t5c0 t5c1); obtain ⟨t5c0, t5c1⟩ := cs2 (L5.out); clear hb)) | (go_at_call 56; go_must ((refine (wpAt_out A1 c1 ns B1 d1 es m _ HGR.out HLN.out HPM.out).mono ?_); rintro e u_ ⟨rfl, hb⟩; replace HB := Aside0.mk (below_step HB.out hb); replace L3 := Aside0.mk (blk_below L3.out hb); replace L4 := Aside0.mk (blk_below L4.out hb); replace L5 := Aside0.mk (blk_below L5.out hb); replace HGR := Aside0.mk (HGR.out.below hb); replace HC6 := Aside0.mk (Kd.C_below (HC6.out) hb); replace HC7 := Aside0.mk (Kd.C_below (HC7.out) hb); (try clear t3c0 t3c1); obtain ⟨t3c0, t3c1⟩ := cs2 (L3.out); (try clear t4c0 t4c1); obtain ⟨t4c0, t4c1⟩ := cs2 (L4.out); (try clear t5c0 t5c1); obtain ⟨t5c0, t5c1⟩ := cs2 (L5.out); clear hb)))
      go_ret
      exact ⟨rfl, HB.out⟩
  · obtain rfl := wd_nil HD.out hin
    clear hin
    go_wp2_with (first | (go_at_call 55; go_must ((refine (sWalkDist_as A1 c1 ns B1 d1 es n ([] : List Int) _ HGR.out HLN.out HD.out).mono ?_); rintro e u_ ⟨⟨A7, c7, rfl, hc_, hl_, hf_⟩, hb⟩; have HC7 := Aside0.mk hc_; clear hc_ hl_ hf_; replace HB := Aside0.mk (below_step HB.out hb); replace L3 := Aside0.mk (blk_below L3.out hb); replace L4 := Aside0.mk (blk_below L4.out hb); replace L5 := Aside0.mk (blk_below L5.out hb); replace HGR := Aside0.mk (HGR.out.below hb); replace HC6 := Aside0.mk (Kd.C_below (HC6.out) hb); (try clear t3c0 t3c1); obtain ⟨t3c0, t3c1⟩ := cs2 (L3.out); (try clear t4c0 t4c1); obtain ⟨t4c0, t4c1⟩ := cs2 (L4.out); (try clear t5c0 t5c1); obtain ⟨t5c0, t5c1⟩ := cs2 (L5.out); clear hb)) | (go_at_call 54; go_must ((refine (wpInts_calls A6 c6 A7 c7 ([] : List Int) _ HC6.out HC7.out (by have := HDL.out; have := HLN.out; omega)).mono ?_); rintro e u_ ⟨rfl, hb⟩; replace HB := Aside0.mk (below_step HB.out hb); replace L3 := Aside0.mk (blk_below L3.out hb); replace L4 := Aside0.mk (blk_below L4.out hb); replace L5 := Aside0.mk (blk_below L5.out hb); replace HGR := Aside0.mk (HGR.out.below hb); replace HC6 := Aside0.mk (Kd.C_below (HC6.out) hb); replace HC7 := Aside0.mk (Kd.C_below (HC7.out) hb); (try clear t3c0 t3c1); obtain ⟨t3c0, t3c1⟩ := cs2 (L3.out); (try clear t4c0 t4c1); obtain ⟨t4c0, t4c1⟩ := cs2 (L4.out); (try clear t5c0 t5c1); obtain ⟨t5c0, t5c1⟩ := cs2 (L5.out); clear hb)))
    go_ret
    exact ⟨rfl, HB.out⟩
end Go.Proofs.Ytogmbeifbjgphaa.R
