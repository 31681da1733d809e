/- The law FnWalkThrees, walked. -/
import Derived.Test.YtogmbeifbjgphaaKHQ
import Derived.Test.YtogmbeifbjgphaaKL11
namespace Go.Proofs.Ytogmbeifbjgphaa.R
open Go.RowKit Go.Proofs.YtogmbeifbjgphaaV.PrintWords Go.Proofs.YtogmbeifbjgphaaV.PrintLast Go.Proofs.YtogmbeifbjgphaaV.PrintMore Go.Proofs.Ytogmbeifbjgphaa.M
set_option linter.unusedVariables false
set_option linter.unusedSimpArgs false
attribute [local go_sem high] eqN eqE
abbrev sWh13 : Pl := (.tk 0 (.tk 1 (.tk 2 (.tk 3 (.tk 4 (.tk 5 (.nd .one 6 (.tk 7 .fin))))))))
theorem sWh13_ok : planB .any (opsOf Try.f12 13) [] sWh13 (Array.replicate (opsOf Try.f12 13).size false) = true := by kernel_rfl
abbrev sWh17 : Pl := (.tk 0 (.tk 1 (.tk 2 (.tk 3 (.tk 5 (.tk 6 (.tk 7 (.tk 8 (.tk 9 (.nd .one 4 (.nd .one 10 (.tk 11 .fin))))))))))))
theorem sWh17_ok : planB .any (opsOf Try.f12 17) [] sWh17 (Array.replicate (opsOf Try.f12 17).size false) = true := by kernel_rfl
abbrev sWh18 : Pl := (.tk 0 (.tk 1 (.tk 2 (.tk 3 (.tk 4 (.nd .one 5 (.tk 6 .fin)))))))
theorem sWh18_ok : planB .any (opsOf Try.f12 18) [] sWh18 (Array.replicate (opsOf Try.f12 18).size false) = true := by kernel_rfl
abbrev sWh25 : Pl := (.tk 0 (.tk 1 (.tk 2 (.tk 3 (.tk 4 (.tk 5 (.tk 6 (.tk 7 (.tk 8 .fin)))))))))
theorem sWh25_ok : planB .any (opsOf Try.f12 25) [] sWh25 (Array.replicate (opsOf Try.f12 25).size false) = true := by kernel_rfl
theorem walkThrees_as (A : Option Addr) (c : Nat) (ns : List Nd) (B : Option Addr) (d : Nat) (es : List Eg) (T : Nat) (w : World) (hr : GR w A c ns B d es) (h : wThrees ns es = T) :
    Calls Try.prog 50 #[.agg #[.slice A ns.length c, .slice B es.length d]] w fun e w' => e = .returned (.int .i64 (T : Int)) ∧ Below w.heap.size w w' := by
  subst h
  exact walkThrees_calls A c ns B d es w hr
theorem sWalkThrees_as (A : Option Addr) (c : Nat) (ns : List Nd) (B : Option Addr) (d : Nat) (es : List Eg) (T : Nat) (w : World) (hr : GR w A c ns B d es) (hl : ns.length ≤ 100 ∧ es.length ≤ 100) (h : wThrees ns es = T) :
    Calls Try.prog 51 #[.agg #[.slice A ns.length c, .slice B es.length d]] w fun e w' => e = .returned (.int .i64 (T : Int)) ∧ Below w.heap.size w w' := by
  subst h
  exact sWalkThrees_calls A c ns B d es w hr hl
def CM (adj : Nat → Nat → Bool) (n i j : Nat) : Nat := sm n fun k => (adj i k && adj j k).toNat
def FJ (adj : Nat → Nat → Bool) (n i j : Nat) : Nat := if i < j then CM adj n i j else 0
def SI (adj : Nat → Nat → Bool) (n i : Nat) : Nat := sm n fun j => if (decide (i < j) && adj i j) = true then CM adj n i j else 0
theorem sum_j (adj : Nat → Nat → Bool) (n i : Nat) : ((nearI adj n i).map (FJ adj n i)).sum = SI adj n i := by
  unfold nearI
  rw [sm_list]
  refine sm_congr fun j _ => ?_
  unfold FJ
  by_cases h1 : adj i j = true
  · by_cases h2 : i < j
    · simp [h1, h2]
    · simp [h2]
  · simp [h1]
theorem sum_q (adj : Nat → Nat → Bool) (n i j : Nat) : ((nearI adj n i).map fun q => (adj j q).toNat).sum = CM adj n i j := by
  unfold nearI CM
  rw [sm_list]
  refine sm_congr fun q _ => ?_
  cases adj i q <;> simp
theorem cnt_q {adj : Nat → Nat → Bool} {n j q : Nat} (hq : q < n) : ((nearI adj n j).countP fun r => decide (r = q)) = (adj j q).toNat := by
  unfold nearI
  rw [List.countP_filter, sm_count]
  have h1 : sm n (fun r => (decide (r = q) && adj j r).toNat) = sm n (fun r => if r = q then (adj j q).toNat else 0) := sm_congr fun r _ => by
    by_cases e : r = q
    · subst e
      simp
    · simp [e]
  rw [h1, sm_one, if_pos hq]
def WtS (w : World) (g3 : Nat) (A1 : Option Addr) (c1 : Nat) (ns : List Nd) (B1 : Option Addr) (d1 : Nat) (es : List Eg) (wr : World) : Prop :=
  wr.heap[g3]? = some (.cells #[.slice A1 ns.length c1, .slice B1 es.length d1] 26 (0, 0)) ∧ GR wr A1 c1 ns B1 d1 es ∧ Below w.heap.size w wr
theorem codeI_as (x : Nd) (h : okN x = true) (w : World) : Calls Try.prog 34 #[.agg #[.int .i64 x.lab, .int .i64 x.num]] w fun e w' => e = .returned (.int .i64 (code x)) ∧ Below w.heap.size w w' := by
  have h1 := nodeCode_calls x w
  rwa [codeI_ok h] at h1
set_option maxHeartbeats 25600000 in
set_option maxRecDepth 100000 in
theorem walkThreesLaw_calls (A : Option Addr) (c : Nat) (l : List Int) (w : World) (hl : (Kd.int .u8).C w A l.length l) (hc : l.length ≤ c) (hb : ∀ x ∈ l, 0 ≤ x ∧ x < 256) :
    Calls Try.prog 12 #[.slice A l.length c] w fun e w' => e = .returned (.bool true) ∧ Below w.heap.size w w' := by
  have HL := Aside0.mk hl
  have HC := Aside0.mk hc
  have HY := Aside0.mk hb
  have HB := Aside0.mk (Below.refl w.heap.size w)
  clear hl hc hb
  by_cases hlen : 1048576 < l.length
  · have hl1 : (1048576 : Int) < (l.length : Int) := by omega
    go_enter Try.func12, Try.ntmps12
    go_wp2_with (fail)
    go_ret
    exact ⟨rfl, HB.out⟩
  have hl1 : ¬ (1048576 : Int) < (l.length : Int) := by omega
  clear hlen
  go_enter Try.func12, Try.ntmps12
  go_upto_region 7 with (first | (go_at_call 49; go_must ((refine (drawWT_calls A c l _ (Kd.C_below HL.out HB.out) HC.out HY.out).mono ?_); rintro e u_ ⟨⟨A1, c1, ns, B1, d1, es, rfl, hgr_, -, -, hn_, he_⟩, hb⟩; have HGR := Aside0.mk hgr_; have HLN := Aside0.mk (And.intro hn_ he_); clear hgr_ hn_ he_; obtain ⟨T, hT_⟩ : ∃ y, wThrees ns es = y := ⟨_, rfl⟩; have HT := Aside0.mk hT_; clear hT_; replace HB := Aside0.mk (below_step HB.out hb); clear hb)) | ((with_reducible refine gate_dst (N := 3) rfl ?_); go_must ((refine w_new #[.slice none 0 0, .slice none 0 0] 26 rfl (by go_simp; (first | done | rfl)) ?_); intro g3 u_ hge_ hb0_ hb; have N3HGR := Aside0.mk (HGR.out.new hge_); have Hg3 := Aside0.mk (show w.heap.size + 0 ≤ g3 from by have hl0_ := HB.out.size; exact by omega); have L3 := Aside0.mk hb0_; replace HB := Aside0.mk (below_step HB.out hb); replace HGR := Aside0.mk (HGR.out.below hb); clear hge_ hb0_ hb; (try clear t3c0 t3c1); obtain ⟨t3c0, t3c1⟩ := cs2 (L3.out))) | ((with_reducible refine gate_store (p := 3) rfl ?_); go_must ((refine wpList_plain rfl fun K_ hK_ => wp_store_row _ _ _ rfl (g3) #[.slice A1 ns.length c1, .slice B1 es.length d1] rfl rfl _ _ L3.out (by kernel_rfl) rfl (by simp [Value.oneCell']) (hK_ _ _ ?_)); refine named _ ?_; intro wz hwz; replace HB := Aside0.mk (sb_ hwz HB.out (by have := Hg3.out; omega)); replace L3 := Aside0.mk (sh_ hwz L3.out); replace HGR := Aside0.mk ((HGR.out).row hwz N3HGR.out.1 N3HGR.out.2); (try clear t3c0 t3c1); obtain ⟨t3c0, t3c1⟩ := cs2 (L3.out); clear hwz)) | (go_at_call 50; go_must ((refine (walkThrees_as A1 c1 ns B1 d1 es T _ HGR.out HT.out).mono ?_); rintro e u_ ⟨rfl, hb⟩; replace HB := Aside0.mk (below_step HB.out hb); replace L3 := Aside0.mk (blk_below L3.out hb); replace HGR := Aside0.mk (HGR.out.below hb); (try clear t3c0 t3c1); obtain ⟨t3c0, t3c1⟩ := cs2 (L3.out); clear hb)) | (go_at_call 51; go_must ((refine (sWalkThrees_as A1 c1 ns B1 d1 es T _ HGR.out HLN.out HT.out).mono ?_); rintro e u_ ⟨rfl, hb⟩; replace HB := Aside0.mk (below_step HB.out hb); replace L3 := Aside0.mk (blk_below L3.out hb); replace HGR := Aside0.mk (HGR.out.below hb); (try clear t3c0 t3c1); obtain ⟨t3c0, t3c1⟩ := cs2 (L3.out); clear hb)))
  obtain ⟨v, hv⟩ : ∃ v, okG ns es = v := ⟨_, rfl⟩
  have HOK := Aside0.mk hv
  clear hv
  cases v
  · obtain rfl : T = 0 := HT.out.symm.trans (if_neg fun h => by rw [HOK.out] at h; cases h)
    go_wp2_with (first | (go_at_call 33; go_must ((refine (sGraphOk_as A1 c1 ns B1 d1 es _ _ HGR.out HLN.out HOK.out).mono ?_); rintro e u_ ⟨rfl, hb⟩; replace HB := Aside0.mk (below_step HB.out hb); replace L3 := Aside0.mk (blk_below L3.out hb); replace HGR := Aside0.mk (HGR.out.below hb); (try clear t3c0 t3c1); obtain ⟨t3c0, t3c1⟩ := cs2 (L3.out); clear hb)))
    go_ret
    exact ⟨rfl, HB.out⟩
  · have HOG := Aside0.mk (okG_true.1 HOK.out)
    have HLM := Aside0.mk (NsOk.mk HOG.out.nok HOG.out.nasc HOG.out.nfew).len
    have HW := Aside0.mk (show wThrees ns es = tris (adjI ns es) ns.length from if_pos HOK.out)
    have hnn : (ns.length : Int) ≤ 40 := by have := HLM.out; omega
    go_wp2_with (first | (go_at_call 33; go_must ((refine (sGraphOk_as A1 c1 ns B1 d1 es _ _ HGR.out HLN.out HOK.out).mono ?_); rintro e u_ ⟨rfl, hb⟩; replace HB := Aside0.mk (below_step HB.out hb); replace L3 := Aside0.mk (blk_below L3.out hb); replace HGR := Aside0.mk (HGR.out.below hb); (try clear t3c0 t3c1); obtain ⟨t3c0, t3c1⟩ := cs2 (L3.out); clear hb)))
    go_loopw [5, 6, 7, 8, 9, 10, 11] (fun s5 s6 _ _ _ _ _ wr => ∃ i s1 : Nat, i ≤ ns.length ∧ s6 = .int .i64 (i : Int) ∧ s5 = .int .i64 (s1 : Int) ∧ s1 = sm i (SI (adjI ns es) ns.length) ∧ s1 ≤ 64000 * i ∧ WtS w g3 A1 c1 ns B1 d1 es wr) (fun _ s6 _ _ _ _ _ _ => (ns.length - intOf s6).toNat)
    case atStart => exact ⟨0, 0, Nat.zero_le _, rfl, rfl, rfl, Nat.le_refl _, ⟨L3.out, HGR.out, HB.out⟩⟩
    case round =>
      clear L3 HGR HB
      obtain ⟨i, s1, hi, rfl, rfl, hs1, hsb1, l3_, gr_, hb_⟩ := hrel
      have HI := Aside0.mk hi
      have HS1 := Aside0.mk hs1
      have HSB1 := Aside0.mk hsb1
      clear hi hs1 hsb1
      have L3 := Aside0.mk l3_
      have HGR := Aside0.mk gr_
      have HB := Aside0.mk hb_
      obtain ⟨t3c0, t3c1⟩ := cs2 (L3.out)
      clear l3_ gr_ hb_
      by_cases hlt : i < ns.length
      · have hin : (i : Int) < (ns.length : Int) := by omega
        have HIN := Aside0.mk hlt
        obtain ⟨a1, rfl⟩ : ∃ ad, A1 = some ad := by obtain ⟨ad, e, _⟩ := HGR.out.cn.2.2 (by omega); exact ⟨ad, e⟩
        obtain ⟨y, hy⟩ : ∃ y, at_ ns i = y := ⟨_, rfl⟩
        have HYA := Aside0.mk hy
        have HOKy := Aside0.mk (show okN y = true from HOG.out.nok y (hy ▸ at_mem hlt))
        obtain ⟨M, hM⟩ : ∃ m, nearG ns es y = m := ⟨_, rfl⟩
        have HM := Aside0.mk hM
        have HMA := Aside0.mk (show M = tds ns (nearI (adjI ns es) ns.length i) by rw [← hM, ← hy]; exact near_at HOG.out hlt)
        have HMK := Aside0.mk (show M.length = (nearI (adjI ns es) ns.length i).length by rw [HMA.out, tds_len])
        have HMF := Aside0.mk (show M.length ≤ 40 by have := nearI_few (adjI ns es) ns.length i; have := HMK.out; have := HLM.out; omega)
        clear hlt hy hM
        obtain ⟨a1_, e1_, r0, r1⟩ := nd_at HGR.out.cn i HIN.out
        obtain rfl := Option.some.inj e1_
        clear e1_
        rw [HYA.out] at r0 r1
        go_wp2_with (fail)
        have ZL3 := L3
        refine region_bp [] sWh13 (by kernel_rfl) sWh13_ok (by decide) (fun d _ _ _ _ h => by cases d <;> exact h) ?_
        intro u hb
        have hS := hb
        replace HB := Aside0.mk (below_step HB.out hb)
        replace L3 := Aside0.mk (blk_below L3.out hb)
        replace HGR := Aside0.mk (HGR.out.below hb)
        (try clear t3c0 t3c1)
        obtain ⟨t3c0, t3c1⟩ := cs2 (L3.out)
        clear hb
        repeat (first | (refine p_off hS gt_ (by rfl) ?_; intro a_ ha_; (simp only [Act.put, List.setIfInBounds_toArray, List.set_cons_zero, List.set_cons_succ] at ha_); subst ha_) | (refine p_on (v := ?_) hS gt_ (by rfl) ?_ ?_; rotate_left; (· rintro w_ hS_; obtain ⟨t3c0_, t3c1_⟩ := cs2 (blk_below ZL3.out hS_); have r0_ := pw_cell_below hS_ r0; have r1_ := pw_cell_below hS_ r1; go_simp; with_reducible rfl); intro a_ ha_; (simp only [Act.put, List.setIfInBounds_toArray, List.set_cons_zero, List.set_cons_succ] at ha_); subst ha_) | (refine p_poff gt_ (by rfl) ?_; intro a_ ha_; (simp only [Act.put, List.setIfInBounds_toArray, List.set_cons_zero, List.set_cons_succ] at ha_); subst ha_) | (refine p_pon (v := ?_) gt_ (by rfl) ?_ ?_; rotate_left; (· go_simp; with_reducible rfl); intro a_ ha_; (simp only [Act.put, List.setIfInBounds_toArray, List.set_cons_zero, List.set_cons_succ] at ha_); subst ha_) | (refine p_ooff hS gt_ (by rfl) ?_; intro a_ ha_; (simp only [Act.put, List.setIfInBounds_toArray, List.set_cons_zero, List.set_cons_succ] at ha_); subst ha_) | (refine p_loff gt_ (by rfl) ?_; intro a_ ha_; (simp only [Act.put, List.setIfInBounds_toArray, List.set_cons_zero, List.set_cons_succ] at ha_); subst ha_) | (refine p_call (f := 42) (args := #[.agg #[.slice (some a1) ns.length c1, .slice B1 es.length d1], .agg #[.int .i64 y.lab, .int .i64 y.num]]) Try.func42 (by kernel_rfl) rfl gt_ (by rfl) (by rfl) mp_ ?_; (refine (near_as (some a1) c1 ns B1 d1 es y M _ HGR.out HM.out).mono ?_); rintro e_ u_ ⟨A7, cA7, rfl, hc_, hl_, hb⟩; have HC7 := Aside0.mk hc_; clear hc_ hl_; replace HB := Aside0.mk (below_step HB.out hb); replace L3 := Aside0.mk (blk_below L3.out hb); replace HGR := Aside0.mk (HGR.out.below hb); (try clear t3c0 t3c1); obtain ⟨t3c0, t3c1⟩ := cs2 (L3.out); replace hS := below_step hS hb; refine ⟨_, rfl, hS, fun a_ ha_ => ?_⟩; (simp only [Act.put, List.setIfInBounds_toArray, List.set_cons_zero, List.set_cons_succ] at ha_); subst ha_; clear hb))
        refine p_fin ?_
        clear hS ZL3
        clear r0 r1
        go_wp2_with (fail)
        go_loopw [5, 8, 9, 10, 11] (fun s5 s8 _ _ _ wr => ∃ a s2 : Nat, a ≤ M.length ∧ s8 = .int .i64 (a : Int) ∧ s5 = .int .i64 (s2 : Int) ∧ s2 = s1 + (((nearI (adjI ns es) ns.length i).take a).map (FJ (adjI ns es) ns.length i)).sum ∧ s2 ≤ 64000 * i + 1600 * a ∧ Aside0 (kN.C wr A7 M.length M) ∧ WtS w g3 (some a1) c1 ns B1 d1 es wr) (fun _ s8 _ _ _ _ => (M.length - intOf s8).toNat)
        case atStart => exact ⟨0, s1, Nat.zero_le _, rfl, rfl, by simp, HSB1.out, HC7, ⟨L3.out, HGR.out, HB.out⟩⟩
        case round =>
          clear L3 HGR HC7 HB
          obtain ⟨a, s2, ha, rfl, rfl, hs2, hsb2, HC7, l3_, gr_, hb_⟩ := hrel
          have HA := Aside0.mk ha
          have HS2 := Aside0.mk hs2
          have HSB2 := Aside0.mk hsb2
          clear ha hs2 hsb2
          have L3 := Aside0.mk l3_
          have HGR := Aside0.mk gr_
          have HB := Aside0.mk hb_
          obtain ⟨t3c0, t3c1⟩ := cs2 (L3.out)
          clear l3_ gr_ hb_
          have hm4 : (M.length : Int) ≤ 40 := by have := HMF.out; omega
          by_cases hlt : a < M.length
          · have hal : (a : Int) < (M.length : Int) := by omega
            have HAL := Aside0.mk hlt
            obtain ⟨a7, rfl⟩ : ∃ ad, A7 = some ad := by obtain ⟨ad, e, _⟩ := HC7.out.2.2 (by omega); exact ⟨ad, e⟩
            have hak : a < (nearI (adjI ns es) ns.length i).length := by have := HMK.out; omega
            obtain ⟨j, hj⟩ : ∃ j, (nearI (adjI ns es) ns.length i)[a] = j := ⟨_, rfl⟩
            have HJV := Aside0.mk (show j < ns.length ∧ adjI ns es i j = true from nearI_mem.1 (hj ▸ List.getElem_mem hak))
            have HTS := Aside0.mk (take_sum (f := (FJ (adjI ns es) ns.length i)) hak hj)
            obtain ⟨z, hz⟩ : ∃ z, at_ ns j = z := ⟨_, rfl⟩
            have HZA := Aside0.mk (show at_ M a = z by rw [HMA.out, tds_get ns hak, hj, hz])
            have HOKz := Aside0.mk (show okN z = true from HOG.out.nok z (hz ▸ at_mem HJV.out.1))
            have HKP := Aside0.mk (show code z < code y ↔ j < i by rw [← HYA.out, ← hz]; exact at_code HOG.out HJV.out.1 HIN.out)
            obtain ⟨N, hN⟩ : ∃ m, nearG ns es z = m := ⟨_, rfl⟩
            have HN := Aside0.mk hN
            have HNA := Aside0.mk (show N = tds ns (nearI (adjI ns es) ns.length j) by rw [← hN, ← hz]; exact near_at HOG.out HJV.out.1)
            have HNK := Aside0.mk (show N.length = (nearI (adjI ns es) ns.length j).length by rw [HNA.out, tds_len])
            have HNF := Aside0.mk (show N.length ≤ 40 by have := nearI_few (adjI ns es) ns.length j; have := HNK.out; have := HLM.out; omega)
            have hn4 : (N.length : Int) ≤ 40 := by have := HNF.out; omega
            clear hlt hak hj hz hN
            obtain ⟨a1_, e1_, r0, r1⟩ := nd_at HGR.out.cn i HIN.out
            obtain rfl := Option.some.inj e1_
            clear e1_
            rw [HYA.out] at r0 r1
            obtain ⟨a_z, e_z, z0, z1⟩ := nd_at HC7.out a HAL.out
            obtain rfl := Option.some.inj e_z
            clear e_z
            rw [HZA.out] at z0 z1
            by_cases hji : j < i
            · have hcp : decide (code z < code y) = true := decide_eq_true (HKP.out.2 hji)
              have HF0 := Aside0.mk (show FJ (adjI ns es) ns.length i j = 0 from if_neg (by omega))
              clear hji
              go_wp2_with (fail)
              have ZL3 := L3
              refine region_bp [] sWh17 (by kernel_rfl) sWh17_ok (by decide) (fun d _ _ _ _ h => by cases d <;> exact h) ?_
              intro u hb
              have hS := hb
              replace HB := Aside0.mk (below_step HB.out hb)
              replace L3 := Aside0.mk (blk_below L3.out hb)
              replace HGR := Aside0.mk (HGR.out.below hb)
              replace HC7 := Aside0.mk (Kd.C_below (HC7.out) hb)
              (try clear t3c0 t3c1)
              obtain ⟨t3c0, t3c1⟩ := cs2 (L3.out)
              clear hb
              repeat (first | (refine p_off hS gt_ (by rfl) ?_; intro a_ ha_; (simp only [Act.put, List.setIfInBounds_toArray, List.set_cons_zero, List.set_cons_succ] at ha_); subst ha_) | (refine p_on (v := ?_) hS gt_ (by rfl) ?_ ?_; rotate_left; (· rintro w_ hS_; obtain ⟨t3c0_, t3c1_⟩ := cs2 (blk_below ZL3.out hS_); have z0_ := pw_cell_below hS_ z0; have z1_ := pw_cell_below hS_ z1; have r0_ := pw_cell_below hS_ r0; have r1_ := pw_cell_below hS_ r1; go_simp; with_reducible rfl); intro a_ ha_; (simp only [Act.put, List.setIfInBounds_toArray, List.set_cons_zero, List.set_cons_succ] at ha_); subst ha_) | (refine p_poff gt_ (by rfl) ?_; intro a_ ha_; (simp only [Act.put, List.setIfInBounds_toArray, List.set_cons_zero, List.set_cons_succ] at ha_); subst ha_) | (refine p_pon (v := ?_) gt_ (by rfl) ?_ ?_; rotate_left; (· go_simp; with_reducible rfl); intro a_ ha_; (simp only [Act.put, List.setIfInBounds_toArray, List.set_cons_zero, List.set_cons_succ] at ha_); subst ha_) | (refine p_ooff hS gt_ (by rfl) ?_; intro a_ ha_; (simp only [Act.put, List.setIfInBounds_toArray, List.set_cons_zero, List.set_cons_succ] at ha_); subst ha_) | (refine p_loff gt_ (by rfl) ?_; intro a_ ha_; (simp only [Act.put, List.setIfInBounds_toArray, List.set_cons_zero, List.set_cons_succ] at ha_); subst ha_) | (refine p_call (f := 34) (args := #[.agg #[.int .i64 z.lab, .int .i64 z.num]]) Try.func34 (by kernel_rfl) rfl gt_ (by rfl) (by rfl) mp_ ?_; (refine (codeI_as z HOKz.out _).mono ?_); rintro e_ u_ ⟨rfl, hb⟩; replace HB := Aside0.mk (below_step HB.out hb); replace L3 := Aside0.mk (blk_below L3.out hb); replace HGR := Aside0.mk (HGR.out.below hb); replace HC7 := Aside0.mk (Kd.C_below (HC7.out) hb); (try clear t3c0 t3c1); obtain ⟨t3c0, t3c1⟩ := cs2 (L3.out); replace hS := below_step hS hb; refine ⟨_, rfl, hS, fun a_ ha_ => ?_⟩; (simp only [Act.put, List.setIfInBounds_toArray, List.set_cons_zero, List.set_cons_succ] at ha_); subst ha_; clear hb) | (refine p_call (f := 34) (args := #[.agg #[.int .i64 y.lab, .int .i64 y.num]]) Try.func34 (by kernel_rfl) rfl gt_ (by rfl) (by rfl) mp_ ?_; (refine (codeI_as y HOKy.out _).mono ?_); rintro e_ u_ ⟨rfl, hb⟩; replace HB := Aside0.mk (below_step HB.out hb); replace L3 := Aside0.mk (blk_below L3.out hb); replace HGR := Aside0.mk (HGR.out.below hb); replace HC7 := Aside0.mk (Kd.C_below (HC7.out) hb); (try clear t3c0 t3c1); obtain ⟨t3c0, t3c1⟩ := cs2 (L3.out); replace hS := below_step hS hb; refine ⟨_, rfl, hS, fun a_ ha_ => ?_⟩; (simp only [Act.put, List.setIfInBounds_toArray, List.set_cons_zero, List.set_cons_succ] at ha_); subst ha_; clear hb))
              refine p_fin ?_
              clear hS ZL3
              go_wp2_with (fail)
              go_roundw
              case rel => exact ⟨a + 1, s2, HAL.out, by go_num, rfl, by rw [HTS.out, HF0.out, HS2.out]; rfl, by have := HSB2.out; omega, HC7, ⟨L3.out, HGR.out, HB.out⟩⟩
              case measure => have := HAL.out; simp [intOf]; omega
            · have hcp : decide (code z < code y) = false := decide_eq_false fun h => hji (HKP.out.1 h)
              have hij : i < j := by
                rcases Nat.lt_or_eq_of_le (show i ≤ j by omega) with h | h
                · exact h
                · have h1 := HJV.out.2
                  rw [h, adjI_irr HOG.out] at h1
                  cases h1
              have HF1 := Aside0.mk (show FJ (adjI ns es) ns.length i j = CM (adjI ns es) ns.length i j from if_pos hij)
              clear hji hij
              go_wp2_with (fail)
              have ZL3 := L3
              refine region_bp [] sWh17 (by kernel_rfl) sWh17_ok (by decide) (fun d _ _ _ _ h => by cases d <;> exact h) ?_
              intro u hb
              have hS := hb
              replace HB := Aside0.mk (below_step HB.out hb)
              replace L3 := Aside0.mk (blk_below L3.out hb)
              replace HGR := Aside0.mk (HGR.out.below hb)
              replace HC7 := Aside0.mk (Kd.C_below (HC7.out) hb)
              (try clear t3c0 t3c1)
              obtain ⟨t3c0, t3c1⟩ := cs2 (L3.out)
              clear hb
              repeat (first | (refine p_off hS gt_ (by rfl) ?_; intro a_ ha_; (simp only [Act.put, List.setIfInBounds_toArray, List.set_cons_zero, List.set_cons_succ] at ha_); subst ha_) | (refine p_on (v := ?_) hS gt_ (by rfl) ?_ ?_; rotate_left; (· rintro w_ hS_; obtain ⟨t3c0_, t3c1_⟩ := cs2 (blk_below ZL3.out hS_); have z0_ := pw_cell_below hS_ z0; have z1_ := pw_cell_below hS_ z1; have r0_ := pw_cell_below hS_ r0; have r1_ := pw_cell_below hS_ r1; go_simp; with_reducible rfl); intro a_ ha_; (simp only [Act.put, List.setIfInBounds_toArray, List.set_cons_zero, List.set_cons_succ] at ha_); subst ha_) | (refine p_poff gt_ (by rfl) ?_; intro a_ ha_; (simp only [Act.put, List.setIfInBounds_toArray, List.set_cons_zero, List.set_cons_succ] at ha_); subst ha_) | (refine p_pon (v := ?_) gt_ (by rfl) ?_ ?_; rotate_left; (· go_simp; with_reducible rfl); intro a_ ha_; (simp only [Act.put, List.setIfInBounds_toArray, List.set_cons_zero, List.set_cons_succ] at ha_); subst ha_) | (refine p_ooff hS gt_ (by rfl) ?_; intro a_ ha_; (simp only [Act.put, List.setIfInBounds_toArray, List.set_cons_zero, List.set_cons_succ] at ha_); subst ha_) | (refine p_loff gt_ (by rfl) ?_; intro a_ ha_; (simp only [Act.put, List.setIfInBounds_toArray, List.set_cons_zero, List.set_cons_succ] at ha_); subst ha_) | (refine p_call (f := 34) (args := #[.agg #[.int .i64 z.lab, .int .i64 z.num]]) Try.func34 (by kernel_rfl) rfl gt_ (by rfl) (by rfl) mp_ ?_; (refine (codeI_as z HOKz.out _).mono ?_); rintro e_ u_ ⟨rfl, hb⟩; replace HB := Aside0.mk (below_step HB.out hb); replace L3 := Aside0.mk (blk_below L3.out hb); replace HGR := Aside0.mk (HGR.out.below hb); replace HC7 := Aside0.mk (Kd.C_below (HC7.out) hb); (try clear t3c0 t3c1); obtain ⟨t3c0, t3c1⟩ := cs2 (L3.out); replace hS := below_step hS hb; refine ⟨_, rfl, hS, fun a_ ha_ => ?_⟩; (simp only [Act.put, List.setIfInBounds_toArray, List.set_cons_zero, List.set_cons_succ] at ha_); subst ha_; clear hb) | (refine p_call (f := 34) (args := #[.agg #[.int .i64 y.lab, .int .i64 y.num]]) Try.func34 (by kernel_rfl) rfl gt_ (by rfl) (by rfl) mp_ ?_; (refine (codeI_as y HOKy.out _).mono ?_); rintro e_ u_ ⟨rfl, hb⟩; replace HB := Aside0.mk (below_step HB.out hb); replace L3 := Aside0.mk (blk_below L3.out hb); replace HGR := Aside0.mk (HGR.out.below hb); replace HC7 := Aside0.mk (Kd.C_below (HC7.out) hb); (try clear t3c0 t3c1); obtain ⟨t3c0, t3c1⟩ := cs2 (L3.out); replace hS := below_step hS hb; refine ⟨_, rfl, hS, fun a_ ha_ => ?_⟩; (simp only [Act.put, List.setIfInBounds_toArray, List.set_cons_zero, List.set_cons_succ] at ha_); subst ha_; clear hb))
              refine p_fin ?_
              clear hS ZL3
              go_wp2_with (fail)
              clear z0 z1 r0 r1
              obtain ⟨a_z, e_z, z0, z1⟩ := nd_at HC7.out a HAL.out
              obtain rfl := Option.some.inj e_z
              clear e_z
              rw [HZA.out] at z0 z1
              have ZL3 := L3
              refine region_bp [] sWh18 (by kernel_rfl) sWh18_ok (by decide) (fun d _ _ _ _ h => by cases d <;> exact h) ?_
              intro u hb
              have hS := hb
              replace HB := Aside0.mk (below_step HB.out hb)
              replace L3 := Aside0.mk (blk_below L3.out hb)
              replace HGR := Aside0.mk (HGR.out.below hb)
              replace HC7 := Aside0.mk (Kd.C_below (HC7.out) hb)
              (try clear t3c0 t3c1)
              obtain ⟨t3c0, t3c1⟩ := cs2 (L3.out)
              clear hb
              repeat (first | (refine p_off hS gt_ (by rfl) ?_; intro a_ ha_; (simp only [Act.put, List.setIfInBounds_toArray, List.set_cons_zero, List.set_cons_succ] at ha_); subst ha_) | (refine p_on (v := ?_) hS gt_ (by rfl) ?_ ?_; rotate_left; (· rintro w_ hS_; obtain ⟨t3c0_, t3c1_⟩ := cs2 (blk_below ZL3.out hS_); have z0_ := pw_cell_below hS_ z0; have z1_ := pw_cell_below hS_ z1; go_simp; with_reducible rfl); intro a_ ha_; (simp only [Act.put, List.setIfInBounds_toArray, List.set_cons_zero, List.set_cons_succ] at ha_); subst ha_) | (refine p_poff gt_ (by rfl) ?_; intro a_ ha_; (simp only [Act.put, List.setIfInBounds_toArray, List.set_cons_zero, List.set_cons_succ] at ha_); subst ha_) | (refine p_pon (v := ?_) gt_ (by rfl) ?_ ?_; rotate_left; (· go_simp; with_reducible rfl); intro a_ ha_; (simp only [Act.put, List.setIfInBounds_toArray, List.set_cons_zero, List.set_cons_succ] at ha_); subst ha_) | (refine p_ooff hS gt_ (by rfl) ?_; intro a_ ha_; (simp only [Act.put, List.setIfInBounds_toArray, List.set_cons_zero, List.set_cons_succ] at ha_); subst ha_) | (refine p_loff gt_ (by rfl) ?_; intro a_ ha_; (simp only [Act.put, List.setIfInBounds_toArray, List.set_cons_zero, List.set_cons_succ] at ha_); subst ha_) | (refine p_call (f := 42) (args := #[.agg #[.slice (some a1) ns.length c1, .slice B1 es.length d1], .agg #[.int .i64 z.lab, .int .i64 z.num]]) Try.func42 (by kernel_rfl) rfl gt_ (by rfl) (by rfl) mp_ ?_; (refine (near_as (some a1) c1 ns B1 d1 es z N _ HGR.out HN.out).mono ?_); rintro e_ u_ ⟨A9, cA9, rfl, hc_, hl_, hb⟩; have HC9 := Aside0.mk hc_; clear hc_ hl_; replace HB := Aside0.mk (below_step HB.out hb); replace L3 := Aside0.mk (blk_below L3.out hb); replace HGR := Aside0.mk (HGR.out.below hb); replace HC7 := Aside0.mk (Kd.C_below (HC7.out) hb); (try clear t3c0 t3c1); obtain ⟨t3c0, t3c1⟩ := cs2 (L3.out); replace hS := below_step hS hb; refine ⟨_, rfl, hS, fun a_ ha_ => ?_⟩; (simp only [Act.put, List.setIfInBounds_toArray, List.set_cons_zero, List.set_cons_succ] at ha_); subst ha_; clear hb))
              refine p_fin ?_
              clear hS ZL3
              go_wp2_with (fail)
              clear z0 z1
              go_loopw [5, 10, 11] (fun s5 s10 _ wr => ∃ b s3 : Nat, b ≤ M.length ∧ s10 = .int .i64 (b : Int) ∧ s5 = .int .i64 (s3 : Int) ∧ s3 = s2 + (((nearI (adjI ns es) ns.length i).take b).map (fun q => (adjI ns es j q).toNat)).sum ∧ s3 ≤ 64000 * i + 1600 * a + 40 * b ∧ Aside0 (kN.C wr (some a7) M.length M) ∧ Aside0 (kN.C wr A9 N.length N) ∧ WtS w g3 (some a1) c1 ns B1 d1 es wr) (fun _ s10 _ _ => (M.length - intOf s10).toNat)
              case atStart => exact ⟨0, s2, Nat.zero_le _, rfl, rfl, by simp, HSB2.out, HC7, HC9, ⟨L3.out, HGR.out, HB.out⟩⟩
              case round =>
                clear L3 HGR HC7 HC9 HB
                obtain ⟨b, s3, hb3, rfl, rfl, hs3, hsb3, HC7, HC9, l3_, gr_, hb_⟩ := hrel
                have HBI := Aside0.mk hb3
                have HS3 := Aside0.mk hs3
                have HSB3 := Aside0.mk hsb3
                clear hb3 hs3 hsb3
                have L3 := Aside0.mk l3_
                have HGR := Aside0.mk gr_
                have HB := Aside0.mk hb_
                obtain ⟨t3c0, t3c1⟩ := cs2 (L3.out)
                clear l3_ gr_ hb_
                by_cases hlt : b < M.length
                · have hbl : (b : Int) < (M.length : Int) := by omega
                  have HBL := Aside0.mk hlt
                  have hbk : b < (nearI (adjI ns es) ns.length i).length := by have := HMK.out; omega
                  obtain ⟨q, hq⟩ : ∃ q, (nearI (adjI ns es) ns.length i)[b] = q := ⟨_, rfl⟩
                  have HQV := Aside0.mk (show q < ns.length from (nearI_mem.1 (hq ▸ List.getElem_mem hbk)).1)
                  have HTB := Aside0.mk (take_sum (f := (fun q => (adjI ns es j q).toNat)) hbk hq)
                  obtain ⟨x, hx⟩ : ∃ u, at_ ns q = u := ⟨_, rfl⟩
                  have HXQ := Aside0.mk hx
                  have HXB := Aside0.mk (show at_ M b = x by rw [HMA.out, tds_get ns hbk, hq, hx])
                  clear hlt hbk hq hx
                  go_wp2_with (fail)
                  go_loopw [5, 11] (fun s5 s11 wr => ∃ k s4 : Nat, k ≤ N.length ∧ s11 = .int .i64 (k : Int) ∧ s5 = .int .i64 (s4 : Int) ∧ s4 = s3 + ((nearI (adjI ns es) ns.length j).take k).countP (fun r => decide (r = q)) ∧ s4 ≤ 64000 * i + 1600 * a + 40 * b + k ∧ Aside0 (kN.C wr (some a7) M.length M) ∧ Aside0 (kN.C wr A9 N.length N) ∧ WtS w g3 (some a1) c1 ns B1 d1 es wr) (fun _ s11 _ => (N.length - intOf s11).toNat)
                  case atStart => exact ⟨0, s3, Nat.zero_le _, rfl, rfl, by simp, HSB3.out, HC7, HC9, ⟨L3.out, HGR.out, HB.out⟩⟩
                  case round =>
                    clear L3 HGR HC7 HC9 HB
                    obtain ⟨k, s4, hk, rfl, rfl, hs4, hsb4, HC7, HC9, l3_, gr_, hb_⟩ := hrel
                    have HK := Aside0.mk hk
                    have HS4 := Aside0.mk hs4
                    have HSB4 := Aside0.mk hsb4
                    clear hk hs4 hsb4
                    have L3 := Aside0.mk l3_
                    have HGR := Aside0.mk gr_
                    have HB := Aside0.mk hb_
                    obtain ⟨t3c0, t3c1⟩ := cs2 (L3.out)
                    clear l3_ gr_ hb_
                    by_cases hlt : k < N.length
                    · have hkl : (k : Int) < (N.length : Int) := by omega
                      have HKL := Aside0.mk hlt
                      have hkj : k < (nearI (adjI ns es) ns.length j).length := by have := HNK.out; omega
                      have hs4b : (s4 : Int) ≤ 3000000 := by have := HSB4.out; have := HIN.out; have := HLM.out; have := HAL.out; have := HMK.out; have := HMF.out; have := HBL.out; have := HNF.out; omega
                      obtain ⟨r, hr⟩ : ∃ r, (nearI (adjI ns es) ns.length j)[k] = r := ⟨_, rfl⟩
                      have HRV := Aside0.mk (show r < ns.length from (nearI_mem.1 (hr ▸ List.getElem_mem hkj)).1)
                      have HTC := Aside0.mk (take_cnt (p := (fun r => decide (r = q))) hkj hr)
                      obtain ⟨u, hu⟩ : ∃ u, at_ ns r = u := ⟨_, rfl⟩
                      have HUK := Aside0.mk (show at_ N k = u by rw [HNA.out, tds_get ns hkj, hr, hu])
                      have HXU := Aside0.mk (show (x.lab == u.lab && (x.num == u.num)) = decide (r = q) by rw [nd_eq, ← HXQ.out, ← hu]; exact decide_eq_decide.2 ⟨fun h => (at_inj HOG.out HQV.out HRV.out h).symm, fun h => by rw [h]⟩)
                      obtain ⟨a_p, e_p, p0, p1⟩ := nd_at HC7.out b HBL.out
                      obtain rfl := Option.some.inj e_p
                      clear e_p
                      rw [HXB.out] at p0 p1
                      obtain ⟨a_q, e_q, q0, q1⟩ := nd_at HC9.out k hlt
                      cases e_q
                      rw [HUK.out] at q0 q1
                      clear hlt hkj hr hu
                      obtain ⟨va, hva⟩ : ∃ v, decide (r = q) = v := ⟨_, rfl⟩
                      have hxu := HXU.out
                      rw [hva] at hxu
                      have HVA := Aside0.mk hva
                      clear hva
                      cases va
                      all_goals
                        go_wp2_with (fail)
                        have ZL3 := L3
                        refine region_bp [] sWh25 (by kernel_rfl) sWh25_ok (by decide) (fun d _ _ _ _ h => by cases d <;> exact h) ?_
                        intro u hb
                        have hS := hb
                        replace HB := Aside0.mk (below_step HB.out hb)
                        replace L3 := Aside0.mk (blk_below L3.out hb)
                        replace HGR := Aside0.mk (HGR.out.below hb)
                        replace HC7 := Aside0.mk (Kd.C_below (HC7.out) hb)
                        replace HC9 := Aside0.mk (Kd.C_below (HC9.out) hb)
                        (try clear t3c0 t3c1)
                        obtain ⟨t3c0, t3c1⟩ := cs2 (L3.out)
                        clear hb
                        repeat (first | (refine p_off hS gt_ (by rfl) ?_; intro a_ ha_; (simp only [Act.put, List.setIfInBounds_toArray, List.set_cons_zero, List.set_cons_succ] at ha_); subst ha_) | (refine p_on (v := ?_) hS gt_ (by rfl) ?_ ?_; rotate_left; (· rintro w_ hS_; obtain ⟨t3c0_, t3c1_⟩ := cs2 (blk_below ZL3.out hS_); have p0_ := pw_cell_below hS_ p0; have p1_ := pw_cell_below hS_ p1; have q0_ := pw_cell_below hS_ q0; have q1_ := pw_cell_below hS_ q1; go_simp; with_reducible rfl); intro a_ ha_; (simp only [Act.put, List.setIfInBounds_toArray, List.set_cons_zero, List.set_cons_succ] at ha_); subst ha_) | (refine p_poff gt_ (by rfl) ?_; intro a_ ha_; (simp only [Act.put, List.setIfInBounds_toArray, List.set_cons_zero, List.set_cons_succ] at ha_); subst ha_) | (refine p_pon (v := ?_) gt_ (by rfl) ?_ ?_; rotate_left; (· go_simp; with_reducible rfl); intro a_ ha_; (simp only [Act.put, List.setIfInBounds_toArray, List.set_cons_zero, List.set_cons_succ] at ha_); subst ha_) | (refine p_ooff hS gt_ (by rfl) ?_; intro a_ ha_; (simp only [Act.put, List.setIfInBounds_toArray, List.set_cons_zero, List.set_cons_succ] at ha_); subst ha_) | (refine p_loff gt_ (by rfl) ?_; intro a_ ha_; (simp only [Act.put, List.setIfInBounds_toArray, List.set_cons_zero, List.set_cons_succ] at ha_); subst ha_))
                        refine p_fin ?_
                        clear hS ZL3
                        go_wp2_with (fail)
                        go_roundw
                        case rel => first | exact ⟨k + 1, s4 + 1, HKL.out, by go_num, by go_num, by rw [HTC.out, HVA.out, HS4.out]; rfl, by have := HSB4.out; omega, HC7, HC9, ⟨L3.out, HGR.out, HB.out⟩⟩ | exact ⟨k + 1, s4, HKL.out, by go_num, rfl, by rw [HTC.out, HVA.out, HS4.out]; rfl, by have := HSB4.out; omega, HC7, HC9, ⟨L3.out, HGR.out, HB.out⟩⟩
                        case measure => have := HKL.out; simp [intOf]; omega
                    · have hkl : ¬ (k : Int) < (N.length : Int) := by omega
                      have HTF := Aside0.mk (show s4 = s3 + (adjI ns es j q).toNat by rw [HS4.out, List.take_of_length_le (by have := HNK.out; omega), cnt_q HQV.out])
                      clear hlt
                      go_wp2_with (fail)
                      go_roundw
                      case rel => exact ⟨b + 1, s4, HBL.out, by go_num, rfl, by rw [HTB.out, HTF.out, HS3.out]; omega, by have := HSB4.out; have := HK.out; have := HNF.out; omega, HC7, HC9, ⟨L3.out, HGR.out, HB.out⟩⟩
                      case measure => have := HBL.out; simp [intOf]; omega
                · have hbl : ¬ (b : Int) < (M.length : Int) := by omega
                  have HTF := Aside0.mk (show s3 = s2 + FJ (adjI ns es) ns.length i j by rw [HS3.out, List.take_of_length_le (by have := HMK.out; omega), sum_q, HF1.out])
                  clear hlt
                  go_wp2_with (fail)
                  go_roundw
                  case rel => exact ⟨a + 1, s3, HAL.out, by go_num, rfl, by rw [HTS.out, HTF.out, HS2.out]; omega, by have := HSB3.out; have := HBI.out; have := HMF.out; omega, HC7, ⟨L3.out, HGR.out, HB.out⟩⟩
                  case measure => have := HAL.out; simp [intOf]; omega
          · have hal : ¬ (a : Int) < (M.length : Int) := by omega
            have HTF := Aside0.mk (show s2 = s1 + SI (adjI ns es) ns.length i by rw [HS2.out, List.take_of_length_le (by have := HMK.out; omega), sum_j])
            clear hlt
            go_wp2_with (fail)
            go_roundw
            case rel => exact ⟨i + 1, s2, HIN.out, by go_num, rfl, by rw [sm_succ, HTF.out, HS1.out], by have := HSB2.out; have := HA.out; have := HMF.out; omega, ⟨L3.out, HGR.out, HB.out⟩⟩
            case measure => have := HIN.out; simp [intOf]; omega
      · have hin : ¬ (i : Int) < (ns.length : Int) := by omega
        obtain rfl : i = ns.length := by have := HI.out; omega
        obtain rfl : s1 = 3 * T := by rw [HS1.out, ← HT.out, HW.out]; exact tris_three adjI_sym (adjI_irr HOG.out) ns.length
        have htb : (T : Int) ≤ 3000000 := by have := HSB1.out; have := HLM.out; omega
        clear hlt
        go_wp2_with (fail)
        go_ret
        exact ⟨by first | rfl | (congr 2; simp; done) | (congr 2; simp; omega), HB.out⟩
end Go.Proofs.Ytogmbeifbjgphaa.R
