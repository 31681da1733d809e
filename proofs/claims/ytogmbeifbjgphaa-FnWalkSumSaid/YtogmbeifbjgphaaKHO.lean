/- The reference: WalkParts. -/
import Derived.Test.YtogmbeifbjgphaaKHM
import Derived.Test.YtogmbeifbjgphaaKHN
namespace Go.Proofs.Ytogmbeifbjgphaa.R
open Go.RowKit Go.Proofs.YtogmbeifbjgphaaV.PrintWords Go.Proofs.YtogmbeifbjgphaaV.PrintLast Go.Proofs.YtogmbeifbjgphaaV.PrintMore Go.Proofs.Ytogmbeifbjgphaa.M
set_option linter.unusedVariables false
set_option linter.unusedSimpArgs false
attribute [local go_sem high] eqN eqE
abbrev sWp7 : Pl := (.tk 0 (.tk 1 (.tk 2 (.tk 3 (.tk 4 (.tk 5 (.nd .one 6 (.tk 7 .fin))))))))
theorem sWp7_ok : planB .any (opsOf Try.f60 7) [] sWp7 (Array.replicate (opsOf Try.f60 7).size false) = true := by kernel_rfl
noncomputable def pt (adj : Nat → Nat → Bool) (n k : Nat) : List Int := (partL adj n).take k
theorem pt_len {adj : Nat → Nat → Bool} {n k : Nat} (h : k ≤ n) : (pt adj n k).length = k := by unfold pt; rw [List.length_take, partL_length]; omega
theorem pt_all {adj : Nat → Nat → Bool} {n : Nat} : pt adj n n = partL adj n := List.take_of_length_le (by rw [partL_length]; exact Nat.le_refl _)
theorem l3Dist_as (A : Option Addr) (c : Nat) {ns : List Nd} (B : Option Addr) (d : Nat) {es : List Eg} (k : Nat) (x : Nd) (D : List Int) (w : World) (hr : GR w A c ns B d es) (hg : OkG ns es) (hx : at_ ns k = x) (hk : k < ns.length) (h : distL (adjI ns es) ns.length k = D) :
    Calls Try.prog 135 #[.agg #[.slice A ns.length c, .slice B es.length d], .agg #[.int .i64 x.lab, .int .i64 x.num]] w fun e w' => RetI w.heap.size D e w' ∧ Below w.heap.size w w' := by
  subst hx h
  have h1 := l3Dist_calls A c ns B d es (at_ ns k) w hr hg (at_mem hk)
  rwa [idx_at hg hk] at h1
def SpO (w : World) (A : Option Addr) (c : Nat) (ns : List Nd) (B : Option Addr) (d : Nat) (es : List Eg) (k : Nat) (A3 : Option Addr) (c3 : Nat) (wr : World) : Prop :=
  k ≤ ns.length ∧ (Kd.int .i64).R 3 wr (w.heap.size + 1) (fun _ => True) (.slice A3 (pt (adjI ns es) ns.length k).length c3) (pt (adjI ns es) ns.length k) ∧ wr.heap[w.heap.size]? = some (.cells #[.slice A ns.length c, .slice B es.length d] 26 (0, 0)) ∧ Below w.heap.size w wr
set_option maxHeartbeats 12800000 in
set_option maxRecDepth 100000 in
theorem sWalkParts_calls (A : Option Addr) (c : Nat) (ns : List Nd) (B : Option Addr) (d : Nat) (es : List Eg) (w : World) (hr : GR w A c ns B d es) (hl : ns.length ≤ 100 ∧ es.length ≤ 100) :
    Calls Try.prog 60 #[.agg #[.slice A ns.length c, .slice B es.length d]] w fun e w' => RetI w.heap.size (wParts ns es) e w' ∧ Below w.heap.size w w' := by
  have HR := Aside0.mk hr
  have HLN := Aside0.mk hl
  clear hr hl
  obtain ⟨v, hv⟩ : ∃ v, okG ns es = v := ⟨_, rfl⟩
  have HOK := Aside0.mk hv
  clear hv
  obtain ⟨L0, HB⟩ := al1 w #[.slice A ns.length c, .slice B es.length d] 26
  cases v
  · have HW := Aside0.mk (show wParts ns es = [] from if_neg fun h => by rw [HOK.out] at h; cases h)
    go_enter Try.func60, Try.ntmps60
    go_wp2_with (first | ((with_reducible refine gate_dst (N := 7) rfl ?_); go_must ((refine w_lit #[] 3 0 rfl (by go_simp; (first | done | rfl)) ?_); intro g5 u_ hge_ hb0_ hb; have H5 := Aside0.mk (show w.heap.size + 1 ≤ g5 from Nat.le_trans (blk_lt L0.out) hge_); have HL5 := Aside0.mk (show Rw (Value.int .i64) 3 u_ g5 [] from hb0_); replace HB := Aside0.mk (below_step HB.out hb); replace L0 := Aside0.mk (blk_below L0.out hb); (try clear c0 c1); obtain ⟨c0, c1⟩ := cs2 (L0.out); clear hge_ hb0_ hb)) | (go_at_call 33; go_must ((refine (sGraphOk_calls A c ns B d es _ (HR.out.below HB.out) (by have := HLN.out; omega) (by have := HLN.out; omega)).mono ?_); rintro e u_ ⟨rfl, hb⟩; rw [HOK.out]; replace HB := Aside0.mk (below_step HB.out hb); replace L0 := Aside0.mk (blk_below L0.out hb); replace HL5 := Aside0.mk ((HL5.out).below hb); (try clear c0 c1); obtain ⟨c0, c1⟩ := cs2 (L0.out); clear hb)))
    go_ret
    exact ⟨by rw [HW.out]; exact RetI.row HL5.out rfl (by omega) (by have := H5.out; omega), HB.out⟩
  · have HOG := Aside0.mk (okG_true.1 HOK.out)
    have HLM := Aside0.mk (NsOk.mk HOG.out.nok HOG.out.nasc HOG.out.nfew).len
    have HW := Aside0.mk (show wParts ns es = partL (adjI ns es) ns.length from if_pos HOK.out)
    have hnn : (ns.length : Int) ≤ 40 := by have := HLM.out; omega
    go_enter Try.func60, Try.ntmps60
    go_wp2_with (first | ((with_reducible refine gate_dst (N := 7) rfl ?_); go_must ((refine w_lit #[] 3 0 rfl (by go_simp; (first | done | rfl)) ?_); intro g5 u_ hge_ hb0_ hb; have H5 := Aside0.mk (show w.heap.size + 1 ≤ g5 from Nat.le_trans (blk_lt L0.out) hge_); have HL5 := Aside0.mk (show Rw (Value.int .i64) 3 u_ g5 [] from hb0_); replace HB := Aside0.mk (below_step HB.out hb); replace L0 := Aside0.mk (blk_below L0.out hb); (try clear c0 c1); obtain ⟨c0, c1⟩ := cs2 (L0.out); clear hge_ hb0_ hb)) | (go_at_call 33; go_must ((refine (sGraphOk_calls A c ns B d es _ (HR.out.below HB.out) (by have := HLN.out; omega) (by have := HLN.out; omega)).mono ?_); rintro e u_ ⟨rfl, hb⟩; rw [HOK.out]; replace HB := Aside0.mk (below_step HB.out hb); replace L0 := Aside0.mk (blk_below L0.out hb); replace HL5 := Aside0.mk ((HL5.out).below hb); (try clear c0 c1); obtain ⟨c0, c1⟩ := cs2 (L0.out); clear hb)))
    go_loopw [3, 4, 5, 6] (fun s3 s4 _ _ wr => ∃ (k : Nat) (A3 : Option Addr) (c3 : Nat), s3 = .slice A3 (pt (adjI ns es) ns.length k).length c3 ∧ s4 = .int .i64 (k : Int) ∧ SpO w A c ns B d es k A3 c3 wr) (fun _ s4 _ _ _ => (ns.length - intOf s4).toNat)
    case atStart => exact ⟨0, some ⟨g5, 0, none⟩, 0, rfl, rfl, Nat.zero_le _, HL5.out.own (fun _ => rfl) H5.out (by simp), L0.out, HB.out⟩
    case round =>
      clear HB L0 HL5 H5
      obtain ⟨k, A3, c3, rfl, rfl, h9⟩ := hrel
      obtain ⟨hk_, hr3_, l0_, hb_⟩ := h9
      have HK := Aside0.mk hk_
      have HR3 := Aside0.mk hr3_
      have L0 := Aside0.mk l0_
      have HB := Aside0.mk hb_
      obtain ⟨c0, c1⟩ := cs2 (L0.out)
      clear hk_ hr3_ l0_ hb_
      by_cases hlt : k < ns.length
      · have hkl : (k : Int) < (ns.length : Int) := by omega
        have HKN := Aside0.mk hlt
        obtain ⟨a1, rfl⟩ : ∃ ad, A = some ad := by obtain ⟨ad, e, _⟩ := HR.out.cn.2.2 (by omega); exact ⟨ad, e⟩
        obtain ⟨y, hy⟩ : ∃ y, at_ ns k = y := ⟨_, rfl⟩
        have HYA := Aside0.mk hy
        obtain ⟨a1_, e1, r0, r1⟩ := nd_at (HR.out.below HB.out).cn k hlt
        obtain rfl := Option.some.inj e1
        rw [hy] at r0 r1
        obtain ⟨D, hD⟩ : ∃ D, distL (adjI ns es) ns.length k = D := ⟨_, rfl⟩
        have HDE := Aside0.mk hD
        have HDL := Aside0.mk (show D.length = ns.length by rw [← hD, distL_length])
        clear hlt hy e1 hD
        go_wp2_with (fail)
        have ZL0 := L0
        refine region_bp [] sWp7 (by kernel_rfl) sWp7_ok (by decide) (fun d _ _ _ _ h => by cases d <;> exact h) ?_
        intro u hb
        have hS := hb
        replace HB := Aside0.mk (below_step HB.out hb)
        replace L0 := Aside0.mk (blk_below L0.out hb)
        replace HR3 := Aside0.mk (Kd.R_below (HR3.out) hb)
        (try clear c0 c1)
        obtain ⟨c0, c1⟩ := cs2 (L0.out)
        clear hb
        repeat (first | (refine p_off hS gt_ (by rfl) ?_; intro a_ ha_; (simp only [Act.put, List.setIfInBounds_toArray, List.set_cons_zero, List.set_cons_succ] at ha_); subst ha_) | (refine p_on (v := ?_) hS gt_ (by rfl) ?_ ?_; rotate_left; (· rintro w_ hS_; obtain ⟨c0_, c1_⟩ := cs2 (blk_below ZL0.out hS_); have r0_ := pw_cell_below hS_ r0; have r1_ := pw_cell_below hS_ r1; go_simp; with_reducible rfl); intro a_ ha_; (simp only [Act.put, List.setIfInBounds_toArray, List.set_cons_zero, List.set_cons_succ] at ha_); subst ha_) | (refine p_poff gt_ (by rfl) ?_; intro a_ ha_; (simp only [Act.put, List.setIfInBounds_toArray, List.set_cons_zero, List.set_cons_succ] at ha_); subst ha_) | (refine p_pon (v := ?_) gt_ (by rfl) ?_ ?_; rotate_left; (· go_simp; with_reducible rfl); intro a_ ha_; (simp only [Act.put, List.setIfInBounds_toArray, List.set_cons_zero, List.set_cons_succ] at ha_); subst ha_) | (refine p_ooff hS gt_ (by rfl) ?_; intro a_ ha_; (simp only [Act.put, List.setIfInBounds_toArray, List.set_cons_zero, List.set_cons_succ] at ha_); subst ha_) | (refine p_loff gt_ (by rfl) ?_; intro a_ ha_; (simp only [Act.put, List.setIfInBounds_toArray, List.set_cons_zero, List.set_cons_succ] at ha_); subst ha_) | (refine p_call (f := 135) (args := #[.agg #[.slice (some a1) ns.length c, .slice B es.length d], .agg #[.int .i64 y.lab, .int .i64 y.num]]) Try.func135 (by kernel_rfl) rfl gt_ (by rfl) (by rfl) mp_ ?_; (refine (l3Dist_as (some a1) c B d k y D _ (HR.out.below HB.out) HOG.out HYA.out HKN.out HDE.out).mono ?_); rintro e_ u_ ⟨⟨A5, c5, rfl, hc_, -, -⟩, hb⟩; have HC5 := Aside0.mk hc_; clear hc_; replace HB := Aside0.mk (below_step HB.out hb); replace L0 := Aside0.mk (blk_below L0.out hb); replace HR3 := Aside0.mk (Kd.R_below (HR3.out) hb); (try clear c0 c1); obtain ⟨c0, c1⟩ := cs2 (L0.out); replace hS := below_step hS hb; refine ⟨_, rfl, hS, fun a_ ha_ => ?_⟩; (simp only [Act.put, List.setIfInBounds_toArray, List.set_cons_zero, List.set_cons_succ] at ha_); subst ha_; clear hb))
        refine p_fin ?_
        clear hS ZL0
        go_wp2_with (fail)
        clear r0 r1
        go_loopw [6] (fun s6 wr => ∃ j : Nat, j ≤ root (adjI ns es) k ∧ s6 = .int .i64 (j : Int) ∧ (Kd.int .i64).C wr A5 D.length D ∧ SpO w (some a1) c ns B d es k A3 c3 wr) (fun s6 _ => (root (adjI ns es) k - intOf s6).toNat)
        case atStart => exact ⟨0, Nat.zero_le _, rfl, HC5.out, HK.out, HR3.out, L0.out, HB.out⟩
        case round =>
          clear HB L0 HR3 HC5
          obtain ⟨j, hj, rfl, hc5_, h9⟩ := hrel
          have HJ := Aside0.mk hj
          have HC5 := Aside0.mk hc5_
          clear hj hc5_
          obtain ⟨hk_, hr3_, l0_, hb_⟩ := h9
          have HK := Aside0.mk hk_
          have HR3 := Aside0.mk hr3_
          have L0 := Aside0.mk l0_
          have HB := Aside0.mk hb_
          obtain ⟨c0, c1⟩ := cs2 (L0.out)
          clear hk_ hr3_ l0_ hb_
          have HRK := Aside0.mk (show root (adjI ns es) k ≤ k from root_le _)
          have HJD := Aside0.mk (show j < D.length by have := HDL.out; have := HJ.out; have := HRK.out; have := HKN.out; omega)
          have hjd : (j : Int) < (D.length : Int) := by have := HJD.out; omega
          have hjn : (j : Int) < 40 := by have := HJD.out; have := HDL.out; have := HLM.out; omega
          obtain ⟨x, hx⟩ : ∃ x, dist (adjI ns es) k j = x := ⟨_, rfl⟩
          have HXA := Aside0.mk (show D.getD j 0 = x by rw [← hx, ← HDE.out]; exact gt_distL (by have := HJD.out; have := HDL.out; omega))
          obtain ⟨a5, e5, k0⟩ := int_at HC5.out j HJD.out
          cases e5
          rw [HXA.out] at k0
          by_cases hlt : j < root (adjI ns es) k
          · have hneg : x < 0 := by
              refine Int.not_le.1 fun h => ?_
              have := (root_is (adj := adjI ns es) k).2 j (by rw [hx]; exact h)
              omega
            have HJL := Aside0.mk hlt
            clear hlt hx
            go_wp2_with (fail)
            go_roundw
            case rel => exact ⟨j + 1, HJL.out, by go_num, HC5.out, HK.out, HR3.out, L0.out, HB.out⟩
            case measure => have := HJL.out; simp [intOf]; omega
          · have hje : root (adjI ns es) k = j := by have := HJ.out; omega
            have HTK := Aside0.mk (show pt (adjI ns es) ns.length (k + 1) = pt (adjI ns es) ns.length k ++ [(j : Int)] from (partL_take HKN.out).trans (by rw [hje]; rfl))
            have hneg : ¬ x < 0 := by
              have := (root_is (adj := adjI ns es) k).1
              rw [hje, hx] at this
              omega
            clear hlt hx hje
            go_wp2_with (first | ((with_reducible refine gate_dst (N := 35) rfl ?_); go_must ((refine w_lit #[.int .i64 (j : Int)] 3 1 rfl (by go_simp; (first | done | rfl)) ?_); intro gl u_ hge_ hb0_ hb; have LT := Aside0.mk hb0_; replace HB := Aside0.mk (below_step HB.out hb); replace L0 := Aside0.mk (blk_below L0.out hb); replace HR3 := Aside0.mk (Kd.R_below (HR3.out) hb); replace HC5 := Aside0.mk (Kd.C_below (HC5.out) hb); (try clear c0 c1); obtain ⟨c0, c1⟩ := cs2 (L0.out); clear hge_ hb0_ hb)) | ((with_reducible refine gate_builtin (b := .append) rfl ?_); go_must ((refine w_append (flatI .i64) (base := w.heap.size + 1) (e := 3) (.int .i64 0) 8 (.slice A3 (pt (adjI ns es) ns.length k).length c3) (pt (adjI ns es) ns.length k) [(j : Int)] rfl rfl Try.underlying58 (by kernel_rfl) rfl (by decide) HR3.out (C_lit [(j : Int)] LT.out rfl (by simp)) rfl rfl (blk_lt L0.out) (by have := HLM.out; have := HKN.out; have := pt_len (adj := adjI ns es) HK.out; simp only [List.length_singleton]; omega) ?_); intro B9 n9 p9 wt hn9_ hp9_ hr_ hg_ ho_; obtain rfl : n9 = (pt (adjI ns es) ns.length k ++ [(j : Int)]).length := hn9_; have HR9 := Aside0.mk hr_; replace L0 := Aside0.mk (gw_blk hg_ L0.out (fun e => by have := Kd.R_base HR3.out _ e.symm; omega)); (try clear c0 c1); obtain ⟨c0, c1⟩ := cs2 (L0.out); replace HB := Aside0.mk (HB.out.grown hg_ HB.out.size (fun k hk => by have := Kd.R_base HR3.out k hk; omega)); clear hp9_ hr_ hg_ ho_ HR3)))
            go_roundw
            case rel => exact ⟨k + 1, B9, p9, by rw [HTK.out, List.length_append]; rfl, by go_num, HKN.out, by rw [HTK.out]; exact HR9.out, L0.out, HB.out⟩
            case measure => have := HKN.out; simp [intOf]; omega
      · have hkl : ¬ (k : Int) < (ns.length : Int) := by omega
        obtain rfl : k = ns.length := by have := HK.out; omega
        have HC9 := Aside0.mk (Kd.R_reads' HR3.out).2.2
        have HN9 := Aside0.mk (Kd.R_reads' HR3.out).2.1
        rw [pt_all] at HC9 HN9
        clear hlt
        go_wp2_with (fail)
        go_ret
        exact ⟨by rw [HW.out]; exact ⟨A3, c3, by rw [← pt_all (adj := adjI ns es)]; rfl, HC9.out, HN9.out, fun ad e => by have := Kd.R_base HR3.out ad.block (by rw [e]; rfl); omega⟩, HB.out⟩
end Go.Proofs.Ytogmbeifbjgphaa.R
