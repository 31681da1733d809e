/- The law FnWalkVia, walked. -/
import Derived.Test.YtogmbeifbjgphaaKL16
namespace Go.Proofs.Ytogmbeifbjgphaa.R
open Go.RowKit Go.Proofs.YtogmbeifbjgphaaV.PrintWords Go.Proofs.YtogmbeifbjgphaaV.PrintLast Go.Proofs.YtogmbeifbjgphaaV.PrintMore Go.Proofs.Ytogmbeifbjgphaa.M
set_option linter.unusedVariables false
set_option linter.unusedSimpArgs false
attribute [local go_sem high] eqN eqE
abbrev sWv10 : Pl := (.tk 0 (.tk 1 (.tk 2 (.tk 3 (.tk 4 (.tk 5 (.nd .one 6 (.tk 7 (.tk 8 (.tk 9 (.tk 10 (.tk 11 .fin))))))))))))
theorem sWv10_ok : planB .any (opsOf Try.f21 10) [] sWv10 (Array.replicate (opsOf Try.f21 10).size false) = true := by kernel_rfl
abbrev sWv11 : Pl := (.tk 0 (.tk 1 (.tk 2 (.tk 3 (.tk 4 (.tk 5 (.tk 6 (.tk 7 (.tk 8 (.tk 12 (.nd .one 9 (.tk 10 (.tk 11 (.tk 13 (.tk 14 (.tk 15 (.tk 16 (.tk 17 (.tk 18 (.tk 19 (.tk 20 (.tk 21 (.tk 22 (.tk 23 .fin))))))))))))))))))))))))
theorem sWv11_ok : planB .any (opsOf Try.f21 11) [] sWv11 (Array.replicate (opsOf Try.f21 11).size false) = true := by kernel_rfl
abbrev sWv16 : Pl := (.tk 0 (.tk 1 (.tk 2 (.tk 3 (.tk 4 (.tk 5 (.tk 6 (.tk 7 (.tk 8 (.tk 9 (.tk 10 .fin)))))))))))
theorem sWv16_ok : planB .any (opsOf Try.f21 16) [] sWv16 (Array.replicate (opsOf Try.f21 16).size false) = true := by kernel_rfl
set_option maxHeartbeats 25600000 in
set_option maxRecDepth 100000 in
theorem walkViaLaw_calls (A : Option Addr) (c : Nat) (l : List Int) (A' : Option Addr) (c' : Nat) (l' : List Int) (w : World) (hl : (Kd.int .u8).C w A l.length l) (hc : l.length ≤ c) (hb : ∀ x ∈ l, 0 ≤ x ∧ x < 256) (hl' : (Kd.int .u8).C w A' l'.length l') (hc' : l'.length ≤ c') (hb' : ∀ x ∈ l', 0 ≤ x ∧ x < 256) :
    Calls Try.prog 21 #[.slice A l.length c, .slice A' l'.length c'] w fun e w' => e = .returned (.bool true) ∧ Below w.heap.size w w' := by
  have HL := Aside0.mk hl
  have HC := Aside0.mk hc
  have HY := Aside0.mk hb
  have HL' := Aside0.mk hl'
  have HC' := Aside0.mk hc'
  have HY' := Aside0.mk hb'
  have HB := Aside0.mk (Below.refl w.heap.size w)
  clear hl hc hb hl' hc' hb'
  by_cases hlen : 1048576 < l.length ∨ 1048576 < l'.length
  · have hl1 : (1048576 : Int) < (l.length : Int) ∨ ¬ (1048576 : Int) < (l.length : Int) ∧ (1048576 : Int) < (l'.length : Int) := by omega
    clear hlen
    rcases hl1 with hl1 | ⟨hl1, hl2⟩
    all_goals
      go_enter Try.func21, Try.ntmps21
      go_wp2_with (fail)
      go_ret
      exact ⟨rfl, HB.out⟩
  have hl1 : ¬ (1048576 : Int) < (l.length : Int) := by omega
  have hl2 : ¬ (1048576 : Int) < (l'.length : Int) := by omega
  clear hlen
  go_enter Try.func21, Try.ntmps21
  go_upto_region 4 with (first | (go_at_call 57; go_must ((refine (drawWPa_calls A c l _ (Kd.C_below HL.out HB.out) HC.out HY.out).mono ?_); rintro e u_ ⟨⟨A1, c1, ns, B1, d1, es, n, m, rfl, hgr_, hn_, he_⟩, hb⟩; have HGR := Aside0.mk hgr_; have HLN := Aside0.mk (And.intro hn_ he_); clear hgr_ hn_ he_; obtain ⟨P, hP_⟩ : ∃ y, wPath ns es n m = y := ⟨_, rfl⟩; obtain ⟨v, hv_⟩ : ∃ y, wHas ns es n m = y := ⟨_, rfl⟩; have HP := Aside0.mk hP_; have HV := Aside0.mk hv_; clear hP_ hv_; replace HB := Aside0.mk (below_step HB.out hb); clear hb)) | ((with_reducible refine gate_dst (N := 5) rfl ?_); go_must ((refine w_new #[.slice none 0 0, .slice none 0 0] 26 rfl (by go_simp; (first | done | rfl)) ?_); intro g3 u_ hge_ hb0_ hb; have N5HGR := Aside0.mk (HGR.out.new hge_); have Hg3 := Aside0.mk (show w.heap.size + 0 ≤ g3 from by have hl0_ := HB.out.size; exact by omega); have L3 := Aside0.mk hb0_; replace HB := Aside0.mk (below_step HB.out hb); replace HGR := Aside0.mk (HGR.out.below hb); clear hge_ hb0_ hb; (try clear t3c0 t3c1); obtain ⟨t3c0, t3c1⟩ := cs2 (L3.out))) | ((with_reducible refine gate_dst (N := 6) rfl ?_); go_must ((refine w_new #[.int .i64 0, .int .i64 0] 28 rfl (by go_simp; (first | done | rfl)) ?_); intro g4 u_ hge_ hb0_ hb; have N6HGR := Aside0.mk (HGR.out.new hge_); have Hg4 := Aside0.mk (show w.heap.size + 0 ≤ g4 ∧ g3 < g4 from by have hl0_ := HB.out.size; have hl_g3 := blk_lt L3.out; exact ⟨by omega, by omega⟩); have L4 := Aside0.mk hb0_; replace HB := Aside0.mk (below_step HB.out hb); replace L3 := Aside0.mk (blk_below L3.out hb); replace HGR := Aside0.mk (HGR.out.below hb); clear hge_ hb0_ hb; (try clear t3c0 t3c1); obtain ⟨t3c0, t3c1⟩ := cs2 (L3.out); (try clear t4c0 t4c1); obtain ⟨t4c0, t4c1⟩ := cs2 (L4.out))) | ((with_reducible refine gate_dst (N := 7) rfl ?_); go_must ((refine w_new #[.int .i64 0, .int .i64 0] 28 rfl (by go_simp; (first | done | rfl)) ?_); intro g5 u_ hge_ hb0_ hb; have N7HGR := Aside0.mk (HGR.out.new hge_); have Hg5 := Aside0.mk (show w.heap.size + 0 ≤ g5 ∧ g3 < g5 ∧ g4 < g5 from by have hl0_ := HB.out.size; have hl_g3 := blk_lt L3.out; have hl_g4 := blk_lt L4.out; exact ⟨by omega, by omega, by omega⟩); have L5 := Aside0.mk hb0_; replace HB := Aside0.mk (below_step HB.out hb); replace L3 := Aside0.mk (blk_below L3.out hb); replace L4 := Aside0.mk (blk_below L4.out hb); replace HGR := Aside0.mk (HGR.out.below hb); clear hge_ hb0_ hb; (try clear t3c0 t3c1); obtain ⟨t3c0, t3c1⟩ := cs2 (L3.out); (try clear t4c0 t4c1); obtain ⟨t4c0, t4c1⟩ := cs2 (L4.out); (try clear t5c0 t5c1); obtain ⟨t5c0, t5c1⟩ := cs2 (L5.out))) | ((with_reducible refine gate_store (p := 5) rfl ?_); go_must ((refine wpList_plain rfl fun K_ hK_ => wp_store_row _ _ _ rfl (g3) #[.slice A1 ns.length c1, .slice B1 es.length d1] rfl rfl _ _ L3.out (by kernel_rfl) rfl (by simp [Value.oneCell']) (hK_ _ _ ?_)); refine named _ ?_; intro wz hwz; replace HB := Aside0.mk (sb_ hwz HB.out (by have := Hg3.out; have := Hg4.out; have := Hg5.out; omega)); replace L4 := Aside0.mk (so_ hwz L4.out (by have := Hg3.out; have := Hg4.out; have := Hg5.out; omega)); replace L5 := Aside0.mk (so_ hwz L5.out (by have := Hg3.out; have := Hg4.out; have := Hg5.out; omega)); replace L3 := Aside0.mk (sh_ hwz L3.out); replace HGR := Aside0.mk ((HGR.out).row hwz N5HGR.out.1 N5HGR.out.2); (try clear t3c0 t3c1); obtain ⟨t3c0, t3c1⟩ := cs2 (L3.out); (try clear t4c0 t4c1); obtain ⟨t4c0, t4c1⟩ := cs2 (L4.out); (try clear t5c0 t5c1); obtain ⟨t5c0, t5c1⟩ := cs2 (L5.out); clear hwz)) | ((with_reducible refine gate_store (p := 6) rfl ?_); go_must ((refine wpList_plain rfl fun K_ hK_ => wp_store_row _ _ _ rfl (g4) #[.int .i64 n.lab, .int .i64 n.num] rfl rfl _ _ L4.out (by kernel_rfl) rfl (by simp [Value.oneCell']) (hK_ _ _ ?_)); refine named _ ?_; intro wz hwz; replace HB := Aside0.mk (sb_ hwz HB.out (by have := Hg3.out; have := Hg4.out; have := Hg5.out; omega)); replace L3 := Aside0.mk (so_ hwz L3.out (by have := Hg3.out; have := Hg4.out; have := Hg5.out; omega)); replace L5 := Aside0.mk (so_ hwz L5.out (by have := Hg3.out; have := Hg4.out; have := Hg5.out; omega)); replace L4 := Aside0.mk (sh_ hwz L4.out); replace HGR := Aside0.mk ((HGR.out).row hwz N6HGR.out.1 N6HGR.out.2); (try clear t3c0 t3c1); obtain ⟨t3c0, t3c1⟩ := cs2 (L3.out); (try clear t4c0 t4c1); obtain ⟨t4c0, t4c1⟩ := cs2 (L4.out); (try clear t5c0 t5c1); obtain ⟨t5c0, t5c1⟩ := cs2 (L5.out); clear hwz)) | ((with_reducible refine gate_store (p := 7) rfl ?_); go_must ((refine wpList_plain rfl fun K_ hK_ => wp_store_row _ _ _ rfl (g5) #[.int .i64 m.lab, .int .i64 m.num] rfl rfl _ _ L5.out (by kernel_rfl) rfl (by simp [Value.oneCell']) (hK_ _ _ ?_)); refine named _ ?_; intro wz hwz; replace HB := Aside0.mk (sb_ hwz HB.out (by have := Hg3.out; have := Hg4.out; have := Hg5.out; omega)); replace L3 := Aside0.mk (so_ hwz L3.out (by have := Hg3.out; have := Hg4.out; have := Hg5.out; omega)); replace L4 := Aside0.mk (so_ hwz L4.out (by have := Hg3.out; have := Hg4.out; have := Hg5.out; omega)); replace L5 := Aside0.mk (sh_ hwz L5.out); replace HGR := Aside0.mk ((HGR.out).row hwz N7HGR.out.1 N7HGR.out.2); (try clear t3c0 t3c1); obtain ⟨t3c0, t3c1⟩ := cs2 (L3.out); (try clear t4c0 t4c1); obtain ⟨t4c0, t4c1⟩ := cs2 (L4.out); (try clear t5c0 t5c1); obtain ⟨t5c0, t5c1⟩ := cs2 (L5.out); clear hwz)))
  go_upto_region 5 with (first | (go_at_call 61; go_must ((refine (walkPath_as A1 c1 ns B1 d1 es n m P _ _ HGR.out HP.out HV.out).mono ?_); rintro e u_ ⟨⟨A8, c8, rfl, hc_, hl_⟩, hb⟩; have HC8 := Aside0.mk hc_; clear hc_ hl_; replace HB := Aside0.mk (below_step HB.out hb); replace L3 := Aside0.mk (blk_below L3.out hb); replace L4 := Aside0.mk (blk_below L4.out hb); replace L5 := Aside0.mk (blk_below L5.out hb); replace HGR := Aside0.mk (HGR.out.below hb); (try clear t3c0 t3c1); obtain ⟨t3c0, t3c1⟩ := cs2 (L3.out); (try clear t4c0 t4c1); obtain ⟨t4c0, t4c1⟩ := cs2 (L4.out); (try clear t5c0 t5c1); obtain ⟨t5c0, t5c1⟩ := cs2 (L5.out); clear hb)))
  go_upto_region 6 with (first | (go_at_call 62; go_must ((refine (sWalkPath_as A1 c1 ns B1 d1 es n m P _ _ HGR.out HLN.out HP.out HV.out).mono ?_); rintro e u_ ⟨⟨A10, c10, rfl, hc_, hl_⟩, hb⟩; have HC10 := Aside0.mk hc_; clear hc_ hl_; replace HB := Aside0.mk (below_step HB.out hb); replace L3 := Aside0.mk (blk_below L3.out hb); replace L4 := Aside0.mk (blk_below L4.out hb); replace L5 := Aside0.mk (blk_below L5.out hb); replace HGR := Aside0.mk (HGR.out.below hb); replace HC8 := Aside0.mk (Kd.C_below (HC8.out) hb); (try clear t3c0 t3c1); obtain ⟨t3c0, t3c1⟩ := cs2 (L3.out); (try clear t4c0 t4c1); obtain ⟨t4c0, t4c1⟩ := cs2 (L4.out); (try clear t5c0 t5c1); obtain ⟨t5c0, t5c1⟩ := cs2 (L5.out); clear hb)))
  clear HC10
  cases v
  · go_wp2_with (fail)
    go_ret
    exact ⟨rfl, HB.out⟩
  · obtain ⟨hg, hn, hm, hd⟩ := wHas_iff.1 HV.out
    have HOG := Aside0.mk hg
    obtain ⟨s, hs⟩ : ∃ s, idx ns n = s := ⟨_, rfl⟩
    obtain ⟨t, ht⟩ : ∃ s, idx ns m = s := ⟨_, rfl⟩
    obtain ⟨dd, hdd⟩ : ∃ d : Nat, dist (adjI ns es) t s = (d : Int) := ⟨(dist (adjI ns es) t s).toNat, by rw [ht, hs] at hd; omega⟩
    have HPP := Aside0.mk (show P = tds ns (pathI (adjI ns es) ns.length t dd s) by rw [← HP.out, wPath_of HV.out, ht, hs, hdd, Int.toNat_natCast])
    have HPA := Aside0.mk (pathI_length (adj := adjI ns es) (n := ns.length) (b := t) dd s)
    have HPN := Aside0.mk (show P.length = dd + 1 by rw [HPP.out, tds_len, HPA.out])
    have HPC := Aside0.mk (show P.length ≤ ns.length by rw [← HP.out]; exact wPath_few HV.out)
    have HSN := Aside0.mk (show s < ns.length by rw [← hs]; exact idx_lt hn)
    obtain ⟨k, hk⟩ : ∃ k, l'.length % P.length = k := ⟨_, rfl⟩
    have HKP := Aside0.mk (show k < P.length by rw [← hk]; exact Nat.mod_lt _ (by have := HPN.out; omega))
    obtain ⟨vk, hvk, hdrop⟩ := pathI_drop (adj := adjI ns es) (n := ns.length) (b := t) dd s k (by have := HKP.out; have := HPN.out; omega)
    obtain ⟨hvn, hvd, -, -⟩ := pathI_at (b := t) adjI_sym (fun u v h => adjI_lt h) dd s k vk hdd HSN.out hvk
    have hfrom := pathI_from (b := t) adjI_sym (fun u v h => adjI_lt h) hdd HSN.out (by have := HKP.out; have := HPN.out; omega) hvk
    obtain ⟨z, hz⟩ : ∃ z, at_ ns vk = z := ⟨_, rfl⟩
    have hzn : z ∈ ns := hz ▸ at_mem hvn
    have hzi : idx ns z = vk := by rw [← hz]; exact idx_at hg hvn
    have HPZ := Aside0.mk (show placeI ns z = (vk : Int) by rw [placeI_in hzn, hzi])
    have HRV := Aside0.mk (show wHas ns es z m = true from wHas_iff.2 ⟨hg, hzn, hm, by rw [ht, hzi, hvd]; have := HKP.out; have := HPN.out; omega⟩)
    obtain ⟨R, hR⟩ : ∃ y, wPath ns es z m = y := ⟨_, rfl⟩
    have HR := Aside0.mk hR
    have hre : R = tds ns ((pathI (adjI ns es) ns.length t dd s).drop k) := by rw [← hR, wPath_of HRV.out, ht, hzi, hdrop, hvd]; congr 2; omega
    have HRL := Aside0.mk (show R.length = P.length - k by rw [hre, HPP.out, tds_len, tds_len, List.length_drop])
    have HRR := Aside0.mk (fun (i : Nat) (h : i < R.length) => show at_ R i = at_ P (k + i) by
      have h1 : i < ((pathI (adjI ns es) ns.length t dd s).drop k).length := by rw [← tds_len ns, ← hre]; exact h
      have h2 : k + i < (pathI (adjI ns es) ns.length t dd s).length := by rw [List.length_drop] at h1; omega
      rw [hre, HPP.out, tds_get ns h1, tds_get ns h2, List.getElem_drop])
    have HZP := Aside0.mk (show at_ P k = z by rw [HPP.out, tds_get ns (List.getElem?_eq_some_iff.1 hvk).1, (List.getElem?_eq_some_iff.1 hvk).2, hz])
    obtain ⟨D, hD⟩ : ∃ y, wDist ns es n = y := ⟨_, rfl⟩
    have HDQ := Aside0.mk hD
    have hde := wd_at hD (okG_true.2 hg) hn
    rw [hs] at hde
    have HDL := Aside0.mk (show D.length = ns.length by rw [hde, distL_length])
    have HVD := Aside0.mk (show vk < D.length by rw [HDL.out]; exact hvn)
    have HDK := Aside0.mk (show D.getD vk 0 = (k : Int) by rw [hde, ← hfrom]; exact gt_distL hvn)
    have hpz : ¬ (P.length : Int) = 0 := by have := HPN.out; omega
    have hk1 : (l'.length : Int) % (P.length : Int) = (k : Int) := by rw [← hk]; first | exact (Int.natCast_emod _ _).symm | exact (Int.ofNat_emod _ _).symm | rfl | (push_cast; rfl)
    have hk2 : (l'.length : Int).tmod (P.length : Int) = (k : Int) := by rw [Int.tmod_eq_emod_of_nonneg (Int.natCast_nonneg _)]; exact hk1
    have hp100 : (P.length : Int) ≤ 100 := by have := HPC.out; have := HLN.out; omega
    have hkl : (k : Int) < (P.length : Int) := by have := HKP.out; omega
    have hvd2 : (vk : Int) < (D.length : Int) := by have := HVD.out; omega
    clear hg hn hm hd hs ht hdd hD hde hvk hdrop hvn hvd hfrom hz hzn hzi hR hre
    go_upto_region 10 with (first | (go_at_call 53; go_must ((refine (walkDist_as A1 c1 ns B1 d1 es n D _ HGR.out HDQ.out).mono ?_); rintro e u_ ⟨⟨A13, c13, rfl, hc_, hl_, hf_⟩, hb⟩; have HC13 := Aside0.mk hc_; clear hc_ hl_ hf_; replace HB := Aside0.mk (below_step HB.out hb); replace L3 := Aside0.mk (blk_below L3.out hb); replace L4 := Aside0.mk (blk_below L4.out hb); replace L5 := Aside0.mk (blk_below L5.out hb); replace HGR := Aside0.mk (HGR.out.below hb); replace HC8 := Aside0.mk (Kd.C_below (HC8.out) hb); (try clear t3c0 t3c1); obtain ⟨t3c0, t3c1⟩ := cs2 (L3.out); (try clear t4c0 t4c1); obtain ⟨t4c0, t4c1⟩ := cs2 (L4.out); (try clear t5c0 t5c1); obtain ⟨t5c0, t5c1⟩ := cs2 (L5.out); clear hb)))
    clear hk hk1 hk2
    obtain ⟨a1, rfl⟩ : ∃ ad, A1 = some ad := by obtain ⟨ad, e, _⟩ := HGR.out.cn.2.2 (by have := HSN.out; omega); exact ⟨ad, e⟩
    obtain ⟨a8, rfl⟩ : ∃ ad, A8 = some ad := by obtain ⟨ad, e, _⟩ := HC8.out.2.2 (by have := HPN.out; omega); exact ⟨ad, e⟩
    obtain ⟨a13, rfl⟩ : ∃ ad, A13 = some ad := by obtain ⟨ad, e, _⟩ := HC13.out.2.2 (by have := HDL.out; have := HSN.out; omega); exact ⟨ad, e⟩
    obtain ⟨a8_, e_z, z0, z1⟩ := nd_at HC8.out k HKP.out
    obtain rfl := Option.some.inj e_z
    rw [HZP.out] at z0 z1
    clear e_z
    go_wp2_with (fail)
    have ZL3 := L3
    have ZL4 := L4
    have ZL5 := L5
    refine region_bp [] sWv10 (by kernel_rfl) sWv10_ok (by decide) (fun d _ _ _ _ h => by cases d <;> exact h) ?_
    intro u hb
    have hS := hb
    replace HB := Aside0.mk (below_step HB.out hb)
    replace L3 := Aside0.mk (blk_below L3.out hb)
    replace L4 := Aside0.mk (blk_below L4.out hb)
    replace L5 := Aside0.mk (blk_below L5.out hb)
    replace HGR := Aside0.mk (HGR.out.below hb)
    replace HC8 := Aside0.mk (Kd.C_below (HC8.out) hb)
    replace HC13 := Aside0.mk (Kd.C_below (HC13.out) hb)
    (try clear t3c0 t3c1)
    obtain ⟨t3c0, t3c1⟩ := cs2 (L3.out)
    (try clear t4c0 t4c1)
    obtain ⟨t4c0, t4c1⟩ := cs2 (L4.out)
    (try clear t5c0 t5c1)
    obtain ⟨t5c0, t5c1⟩ := cs2 (L5.out)
    clear hb
    repeat (first | (refine p_off hS gt_ (by rfl) ?_; intro a_ ha_; (simp only [Act.put, List.setIfInBounds_toArray, List.set_cons_zero, List.set_cons_succ] at ha_); subst ha_) | (refine p_on (v := ?_) hS gt_ (by rfl) ?_ ?_; rotate_left; (· rintro w_ hS_; obtain ⟨t3c0_, t3c1_⟩ := cs2 (blk_below ZL3.out hS_); obtain ⟨t4c0_, t4c1_⟩ := cs2 (blk_below ZL4.out hS_); obtain ⟨t5c0_, t5c1_⟩ := cs2 (blk_below ZL5.out hS_); have z0_ := pw_cell_below hS_ z0; have z1_ := pw_cell_below hS_ z1; go_simp; with_reducible rfl); intro a_ ha_; (simp only [Act.put, List.setIfInBounds_toArray, List.set_cons_zero, List.set_cons_succ] at ha_); subst ha_) | (refine p_poff gt_ (by rfl) ?_; intro a_ ha_; (simp only [Act.put, List.setIfInBounds_toArray, List.set_cons_zero, List.set_cons_succ] at ha_); subst ha_) | (refine p_pon (v := ?_) gt_ (by rfl) ?_ ?_; rotate_left; (· go_simp; with_reducible rfl); intro a_ ha_; (simp only [Act.put, List.setIfInBounds_toArray, List.set_cons_zero, List.set_cons_succ] at ha_); subst ha_) | (refine p_ooff hS gt_ (by rfl) ?_; intro a_ ha_; (simp only [Act.put, List.setIfInBounds_toArray, List.set_cons_zero, List.set_cons_succ] at ha_); subst ha_) | (refine p_loff gt_ (by rfl) ?_; intro a_ ha_; (simp only [Act.put, List.setIfInBounds_toArray, List.set_cons_zero, List.set_cons_succ] at ha_); subst ha_) | (refine p_call (f := 61) (args := #[.agg #[.slice (some a1) ns.length c1, .slice B1 es.length d1], .agg #[.int .i64 z.lab, .int .i64 z.num], .agg #[.int .i64 m.lab, .int .i64 m.num]]) Try.func61 (by kernel_rfl) rfl gt_ (by rfl) (by rfl) mp_ ?_; (refine (walkPath_as (some a1) c1 ns B1 d1 es z m R _ _ HGR.out HR.out HRV.out).mono ?_); rintro e_ u_ ⟨⟨A14, c14, rfl, hc_, hl_⟩, hb⟩; have HC14 := Aside0.mk hc_; clear hc_ hl_; replace HB := Aside0.mk (below_step HB.out hb); replace L3 := Aside0.mk (blk_below L3.out hb); replace L4 := Aside0.mk (blk_below L4.out hb); replace L5 := Aside0.mk (blk_below L5.out hb); replace HGR := Aside0.mk (HGR.out.below hb); replace HC8 := Aside0.mk (Kd.C_below (HC8.out) hb); replace HC13 := Aside0.mk (Kd.C_below (HC13.out) hb); (try clear t3c0 t3c1); obtain ⟨t3c0, t3c1⟩ := cs2 (L3.out); (try clear t4c0 t4c1); obtain ⟨t4c0, t4c1⟩ := cs2 (L4.out); (try clear t5c0 t5c1); obtain ⟨t5c0, t5c1⟩ := cs2 (L5.out); replace hS := below_step hS hb; refine ⟨_, rfl, hS, fun a_ ha_ => ?_⟩; (simp only [Act.put, List.setIfInBounds_toArray, List.set_cons_zero, List.set_cons_succ] at ha_); subst ha_; clear hb))
    refine p_fin ?_
    clear hS ZL3 ZL4 ZL5
    clear z0 z1
    obtain ⟨a8_, e_z, z0, z1⟩ := nd_at HC8.out k HKP.out
    obtain rfl := Option.some.inj e_z
    rw [HZP.out] at z0 z1
    clear e_z
    obtain ⟨a13_, e13_, k0⟩ := int_at HC13.out vk HVD.out
    obtain rfl := Option.some.inj e13_
    rw [HDK.out] at k0
    clear e13_
    have hw1 : IntKind.i64.wrap ((P.length : Int) - (k : Int)) = (R.length : Int) := by rw [IntKind.wrap_i64]; have := HRL.out; have := HKP.out; omega
    have hr100 : (R.length : Int) ≤ 100 := by have := HRL.out; omega
    go_wp2_with (fail)
    have ZL3 := L3
    have ZL4 := L4
    have ZL5 := L5
    refine region_bp [] sWv11 (by kernel_rfl) sWv11_ok (by decide) (fun d _ _ _ _ h => by cases d <;> exact h) ?_
    intro u hb
    have hS := hb
    replace HB := Aside0.mk (below_step HB.out hb)
    replace L3 := Aside0.mk (blk_below L3.out hb)
    replace L4 := Aside0.mk (blk_below L4.out hb)
    replace L5 := Aside0.mk (blk_below L5.out hb)
    replace HGR := Aside0.mk (HGR.out.below hb)
    replace HC8 := Aside0.mk (Kd.C_below (HC8.out) hb)
    replace HC13 := Aside0.mk (Kd.C_below (HC13.out) hb)
    replace HC14 := Aside0.mk (Kd.C_below (HC14.out) hb)
    (try clear t3c0 t3c1)
    obtain ⟨t3c0, t3c1⟩ := cs2 (L3.out)
    (try clear t4c0 t4c1)
    obtain ⟨t4c0, t4c1⟩ := cs2 (L4.out)
    (try clear t5c0 t5c1)
    obtain ⟨t5c0, t5c1⟩ := cs2 (L5.out)
    clear hb
    repeat (first | (refine p_off hS gt_ (by rfl) ?_; intro a_ ha_; (simp only [Act.put, List.setIfInBounds_toArray, List.set_cons_zero, List.set_cons_succ] at ha_); subst ha_) | (refine p_on (v := ?_) hS gt_ (by rfl) ?_ ?_; rotate_left; (· rintro w_ hS_; obtain ⟨t3c0_, t3c1_⟩ := cs2 (blk_below ZL3.out hS_); obtain ⟨t4c0_, t4c1_⟩ := cs2 (blk_below ZL4.out hS_); obtain ⟨t5c0_, t5c1_⟩ := cs2 (blk_below ZL5.out hS_); have z0_ := pw_cell_below hS_ z0; have z1_ := pw_cell_below hS_ z1; have k0_ := pw_cell_below hS_ k0; go_simp; with_reducible rfl); intro a_ ha_; (simp only [Act.put, List.setIfInBounds_toArray, List.set_cons_zero, List.set_cons_succ] at ha_); subst ha_) | (refine p_poff gt_ (by rfl) ?_; intro a_ ha_; (simp only [Act.put, List.setIfInBounds_toArray, List.set_cons_zero, List.set_cons_succ] at ha_); subst ha_) | (refine p_pon (v := ?_) gt_ (by rfl) ?_ ?_; rotate_left; (· go_simp; with_reducible rfl); intro a_ ha_; (simp only [Act.put, List.setIfInBounds_toArray, List.set_cons_zero, List.set_cons_succ] at ha_); subst ha_) | (refine p_ooff hS gt_ (by rfl) ?_; intro a_ ha_; (simp only [Act.put, List.setIfInBounds_toArray, List.set_cons_zero, List.set_cons_succ] at ha_); subst ha_) | (refine p_loff gt_ (by rfl) ?_; intro a_ ha_; (simp only [Act.put, List.setIfInBounds_toArray, List.set_cons_zero, List.set_cons_succ] at ha_); subst ha_) | (refine p_call (f := 56) (args := #[.agg #[.slice (some a1) ns.length c1, .slice B1 es.length d1], .agg #[.int .i64 z.lab, .int .i64 z.num]]) Try.func56 (by kernel_rfl) rfl gt_ (by rfl) (by rfl) mp_ ?_; (refine (wpAt_as (some a1) c1 ns B1 d1 es z vk _ HGR.out HLN.out HPZ.out).mono ?_); rintro e_ u_ ⟨rfl, hb⟩; replace HB := Aside0.mk (below_step HB.out hb); replace L3 := Aside0.mk (blk_below L3.out hb); replace L4 := Aside0.mk (blk_below L4.out hb); replace L5 := Aside0.mk (blk_below L5.out hb); replace HGR := Aside0.mk (HGR.out.below hb); replace HC8 := Aside0.mk (Kd.C_below (HC8.out) hb); replace HC13 := Aside0.mk (Kd.C_below (HC13.out) hb); replace HC14 := Aside0.mk (Kd.C_below (HC14.out) hb); (try clear t3c0 t3c1); obtain ⟨t3c0, t3c1⟩ := cs2 (L3.out); (try clear t4c0 t4c1); obtain ⟨t4c0, t4c1⟩ := cs2 (L4.out); (try clear t5c0 t5c1); obtain ⟨t5c0, t5c1⟩ := cs2 (L5.out); replace hS := below_step hS hb; refine ⟨_, rfl, hS, fun a_ ha_ => ?_⟩; (simp only [Act.put, List.setIfInBounds_toArray, List.set_cons_zero, List.set_cons_succ] at ha_); subst ha_; clear hb))
    refine p_fin ?_
    clear hS ZL3 ZL4 ZL5
    clear z0 z1 k0 hw1
    go_wp2_with (fail)
    go_loopw [16] (fun s16 wr => ∃ i : Nat, i ≤ R.length ∧ s16 = .int .i64 (i : Int) ∧ kN.C wr (some a8) P.length P ∧ kN.C wr A14 R.length R ∧ Below w.heap.size w wr) (fun s16 _ => (R.length - intOf s16).toNat)
    case atStart => exact ⟨0, Nat.zero_le _, rfl, HC8.out, HC14.out, HB.out⟩
    case round =>
      clear L3 L4 L5 HGR HC8 HC13 HC14 HB
      obtain ⟨i, hi, rfl, c8_, c14_, hb_⟩ := hrel
      have HI := Aside0.mk hi
      have HC8 := Aside0.mk c8_
      have HC14 := Aside0.mk c14_
      have HB := Aside0.mk hb_
      clear hi c8_ c14_ hb_
      by_cases hlt : i < R.length
      · have hil : (i : Int) < (R.length : Int) := by omega
        have HIL := Aside0.mk hlt
        obtain ⟨j, hj⟩ : ∃ j, k + i = j := ⟨_, rfl⟩
        have HKI := Aside0.mk (show j < P.length by have := HRL.out; omega)
        have hki : (j : Int) < (P.length : Int) := by have := HKI.out; omega
        have hsum : (k : Int) + (i : Int) = (j : Int) := by omega
        have hwj : IntKind.i64.wrap (j : Int) = (j : Int) := by rw [IntKind.wrap_i64]; have := HKI.out; omega
        obtain ⟨q, hq⟩ : ∃ q, at_ P j = q := ⟨_, rfl⟩
        have HQP := Aside0.mk hq
        have HQR := Aside0.mk (show at_ R i = q by rw [← hq, HRR.out i hlt, hj])
        obtain ⟨a14_, e_q, q0, q1⟩ := nd_at HC14.out i hlt
        cases e_q
        rw [HQR.out] at q0 q1
        obtain ⟨a8_, e_z, z0, z1⟩ := nd_at HC8.out j HKI.out
        obtain rfl := Option.some.inj e_z
        rw [HQP.out] at z0 z1
        clear e_z hlt hq hj
        go_wp2_with (fail)
        refine region_bp [] sWv16 (by kernel_rfl) sWv16_ok (by decide) (fun d _ _ _ _ h => by cases d <;> exact h) ?_
        intro u hb
        have hS := hb
        replace HB := Aside0.mk (below_step HB.out hb)
        replace HC8 := Aside0.mk (Kd.C_below (HC8.out) hb)
        replace HC14 := Aside0.mk (Kd.C_below (HC14.out) hb)
        clear hb
        repeat (first | (refine p_off hS gt_ (by rfl) ?_; intro a_ ha_; (simp only [Act.put, List.setIfInBounds_toArray, List.set_cons_zero, List.set_cons_succ] at ha_); subst ha_) | (refine p_on (v := ?_) hS gt_ (by rfl) ?_ ?_; rotate_left; (· rintro w_ hS_; have q0_ := pw_cell_below hS_ q0; have q1_ := pw_cell_below hS_ q1; have z0_ := pw_cell_below hS_ z0; have z1_ := pw_cell_below hS_ z1; go_simp; with_reducible rfl); intro a_ ha_; (simp only [Act.put, List.setIfInBounds_toArray, List.set_cons_zero, List.set_cons_succ] at ha_); subst ha_) | (refine p_poff gt_ (by rfl) ?_; intro a_ ha_; (simp only [Act.put, List.setIfInBounds_toArray, List.set_cons_zero, List.set_cons_succ] at ha_); subst ha_) | (refine p_pon (v := ?_) gt_ (by rfl) ?_ ?_; rotate_left; (· go_simp; with_reducible rfl); intro a_ ha_; (simp only [Act.put, List.setIfInBounds_toArray, List.set_cons_zero, List.set_cons_succ] at ha_); subst ha_) | (refine p_ooff hS gt_ (by rfl) ?_; intro a_ ha_; (simp only [Act.put, List.setIfInBounds_toArray, List.set_cons_zero, List.set_cons_succ] at ha_); subst ha_) | (refine p_loff gt_ (by rfl) ?_; intro a_ ha_; (simp only [Act.put, List.setIfInBounds_toArray, List.set_cons_zero, List.set_cons_succ] at ha_); subst ha_))
        refine p_fin ?_
        clear hS 
        clear hsum hki hwj
        go_wp2_with (fail)
        go_roundw
        case rel => exact ⟨i + 1, HIL.out, by go_num, HC8.out, HC14.out, HB.out⟩
        case measure => have := HIL.out; simp [intOf]; omega
      · have hil : ¬ (i : Int) < (R.length : Int) := by omega
        clear hlt
        go_wp2_with (fail)
        go_ret
        exact ⟨rfl, HB.out⟩
end Go.Proofs.Ytogmbeifbjgphaa.R
