/- Lists of numbers are one; where a node stands; the reference's WalkDist. -/
import Derived.Test.YtogmbeifbjgphaaJB28
import Derived.Test.YtogmbeifbjgphaaJB29
namespace Go.Proofs.Ytogmbeifbjgphaa.R
open Go.RowKit Go.Proofs.YtogmbeifbjgphaaV.PrintWords Go.Proofs.YtogmbeifbjgphaaV.PrintLast Go.Proofs.YtogmbeifbjgphaaV.PrintMore Go.Proofs.Ytogmbeifbjgphaa.M
set_option linter.unusedVariables false
set_option linter.unusedSimpArgs false
attribute [local go_sem high] eqN eqE
abbrev sWi6 : Pl := (.tk 0 (.tk 1 (.tk 2 (.tk 3 (.tk 4 (.tk 5 (.tk 6 (.tk 7 (.tk 8 .fin)))))))))
theorem sWi6_ok : planB .any (opsOf Try.f54 6) [] sWi6 (Array.replicate (opsOf Try.f54 6).size false) = true := by kernel_rfl
abbrev sWa4 : List (Nat × Bool) := [(0, true), (1, true), (2, true), (3, true), (4, true), (5, true), (6, true)]
theorem sWa4_ok : schedB .any (opsOf Try.f56 4) sWa4 (Array.replicate (opsOf Try.f56 4).size false) = true := by kernel_rfl
theorem place_first {ns : List Nd} {x : Nd} {j : Nat} (hj : j < ns.length) (h : at_ ns j = x) (hf : ∀ t, t < j → at_ ns t ≠ x) : placeI ns x = (j : Int) := by
  have hm : x ∈ ns := h ▸ at_mem hj
  have h1 := idx_lt hm
  have h2 := at_idx hm
  rw [placeI_in hm]
  rcases Nat.lt_trichotomy (idx ns x) j with e | e | e
  · exact absurd h2 (hf _ e)
  · rw [e]
  · exfalso
    have h3 := List.not_of_lt_findIdx (p := fun y => y == x) (xs := ns) (i := j) e
    rw [at_lt hj] at h
    simp [h] at h3
set_option maxHeartbeats 3200000 in
set_option maxRecDepth 100000 in
theorem wpInts_calls (A : Option Addr) (c : Nat) (B : Option Addr) (d : Nat) (xs : List Int) (w : World) (hx : (Kd.int .i64).C w A xs.length xs) (hy : (Kd.int .i64).C w B xs.length xs) (hl : xs.length ≤ 1000000) :
    Calls Try.prog 54 #[.slice A xs.length c, .slice B xs.length d] w fun e w' => e = .returned (.bool true) ∧ Below w.heap.size w w' := by
  have HX := Aside0.mk hx
  have HY := Aside0.mk hy
  have HL := Aside0.mk hl
  have HB := Aside0.mk (Below.refl w.heap.size w)
  clear hx hy hl
  go_enter Try.func54, Try.ntmps54
  go_wp2_with (fail)
  go_loopw [5] (fun s5 wr => ∃ k : Nat, k ≤ xs.length ∧ s5 = .int .i64 (k : Int) ∧ Below w.heap.size w wr) (fun s5 _ => (xs.length - intOf s5).toNat)
  case atStart => exact ⟨0, Nat.zero_le _, rfl, HB.out⟩
  case round =>
    clear HB
    obtain ⟨k, hk_, rfl, hb_⟩ := hrel
    have HK := Aside0.mk hk_
    have HB := Aside0.mk hb_
    clear hk_ hb_
    by_cases hlt : k < xs.length
    · have hkl : (k : Int) < (xs.length : Int) := by omega
      have hk1 : (k : Int) < 1000000 := by have := HL.out; omega
      have HKT := Aside0.mk hlt
      obtain ⟨a1, e1, r0⟩ := int_at (Kd.C_below HX.out HB.out) k hlt
      cases e1
      obtain ⟨a2, e2, s0⟩ := int_at (Kd.C_below HY.out HB.out) k hlt
      cases e2
      generalize xs.getD k 0 = x at r0 s0
      clear hlt
      go_wp2_with (fail)
      refine region_bp [] sWi6 (by kernel_rfl) sWi6_ok (by decide) (fun d _ _ _ _ h => by cases d <;> exact h) ?_
      intro u hb
      have hS := hb
      replace HB := Aside0.mk (below_step HB.out hb)
      clear hb
      repeat (first | (refine p_off hS gt_ (by rfl) ?_; intro a_ ha_; (simp only [Act.put, List.setIfInBounds_toArray, List.set_cons_zero, List.set_cons_succ] at ha_); subst ha_) | (refine p_on (v := ?_) hS gt_ (by rfl) ?_ ?_; rotate_left; (· rintro w_ hS_; have r0_ := pw_cell_below hS_ r0; have s0_ := pw_cell_below hS_ s0; go_simp; with_reducible rfl); intro a_ ha_; (simp only [Act.put, List.setIfInBounds_toArray, List.set_cons_zero, List.set_cons_succ] at ha_); subst ha_) | (refine p_poff gt_ (by rfl) ?_; intro a_ ha_; (simp only [Act.put, List.setIfInBounds_toArray, List.set_cons_zero, List.set_cons_succ] at ha_); subst ha_) | (refine p_pon (v := ?_) gt_ (by rfl) ?_ ?_; rotate_left; (· go_simp; with_reducible rfl); intro a_ ha_; (simp only [Act.put, List.setIfInBounds_toArray, List.set_cons_zero, List.set_cons_succ] at ha_); subst ha_) | (refine p_ooff hS gt_ (by rfl) ?_; intro a_ ha_; (simp only [Act.put, List.setIfInBounds_toArray, List.set_cons_zero, List.set_cons_succ] at ha_); subst ha_) | (refine p_loff gt_ (by rfl) ?_; intro a_ ha_; (simp only [Act.put, List.setIfInBounds_toArray, List.set_cons_zero, List.set_cons_succ] at ha_); subst ha_))
      refine p_fin ?_
      clear hS 
      go_wp2_with (fail)
      go_roundw
      case rel => exact ⟨k + 1, HKT.out, by go_num, HB.out⟩
      case measure => have := HKT.out; simp [intOf]; omega
    · have hkl : ¬ (k : Int) < (xs.length : Int) := by omega
      clear hlt
      go_wp2_with (fail)
      go_ret
      exact ⟨rfl, HB.out⟩
set_option maxHeartbeats 3200000 in
set_option maxRecDepth 100000 in
theorem wpAt_calls (A : Option Addr) (c : Nat) (ns : List Nd) (B : Option Addr) (d : Nat) (es : List Eg) (x : Nd) (w : World) (hr : kN.C w A ns.length ns) (hl : ns.length ≤ 1000000) :
    Calls Try.prog 56 #[.agg #[.slice A ns.length c, .slice B es.length d], .agg #[.int .i64 x.lab, .int .i64 x.num]] w fun e w' => e = .returned (.int .i64 (placeI ns x)) ∧ Below w.heap.size w w' := by
  have HR := Aside0.mk hr
  have HL := Aside0.mk hl
  clear hr hl
  go_enter Try.func56, Try.ntmps56
  go_wp2_with (fail)
  go_loopw [5] (fun s5 wr => ∃ j : Nat, j ≤ ns.length ∧ s5 = .int .i64 (j : Int) ∧ Aside0 (∀ t, t < j → at_ ns t ≠ x) ∧ Aside0 (wr.cell? ⟨w.heap.size, 0, none⟩ = some (.slice A ns.length c)) ∧ Aside0 (wr.cell? ⟨w.heap.size + 1, 0, none⟩ = some (.int .i64 x.lab)) ∧ Aside0 (wr.cell? ⟨w.heap.size + 1, 1, none⟩ = some (.int .i64 x.num)) ∧ Aside0 (Below w.heap.size w wr)) (fun s5 _ => (ns.length - intOf s5).toNat)
  case atStart => exact ⟨0, Nat.zero_le _, rfl, ⟨fun t ht => absurd ht (Nat.not_lt_zero _)⟩, ⟨by simp⟩, ⟨by simp⟩, ⟨by simp⟩, ⟨below_alloc (below_alloc (Below.refl _ _) _) _⟩⟩
  case round =>
    obtain ⟨j, hj, rfl, H1, Q0, X0, X1, HB⟩ := hrel
    have hl := HL.out
    have g0 := Q0.out
    by_cases hlt : j < ns.length
    · obtain ⟨ad, e1, r0, r1⟩ := nd_at (Kd.C_below HR.out HB.out) j hlt
      cases e1
      generalize hy : at_ ns j = y at r0 r1
      have HY := Aside0.mk hy
      clear hy
      have x0 := X0.out
      have x1 := X1.out
      by_cases hxy : y = x
      · have hne : (y.lab == x.lab && (y.num == x.num)) = true := (nd_eq y x).trans (decide_eq_true hxy)
        have HM := Aside0.mk (show placeI ns x = (j : Int) from place_first hlt (HY.out.trans hxy) H1.out)
        clear hxy
        go_wp2_with (fail)
        have HK_ := Aside0.mk (show Reg (fun u_ => Below w.heap.size w u_ ∧ u_.cell? ⟨w.heap.size, 0, none⟩ = some (.slice (some ad) ns.length c) ∧ u_.cell? (ad.add (j * 2)) = some (.int .i64 y.lab) ∧ u_.cell? ⟨(ad.add (j * 2)).block, (ad.add (j * 2)).off + 1, none⟩ = some (.int .i64 y.num) ∧ u_.cell? ⟨w.heap.size + 1, 0, none⟩ = some (.int .i64 x.lab) ∧ u_.cell? ⟨w.heap.size + 1, 1, none⟩ = some (.int .i64 x.num) ∧ True) from ⟨fun _ _ hb_ ⟨q_, s0_, s1_, s2_, s3_, s4_, _⟩ => ⟨below_step q_ hb_, pw_cell_below hb_ s0_, pw_cell_below hb_ s1_, pw_cell_below hb_ s2_, pw_cell_below hb_ s3_, pw_cell_below hb_ s4_, trivial⟩⟩)
        refine region_by _ sWa4 (by kernel_rfl) sWa4_ok rfl (fun d _ _ _ _ h => by cases d <;> exact h) HK_.out ⟨HB.out, g0, r0, r1, x0, x1, trivial⟩ ?_
        intro u hS
        clear g0 r0 r1 x0 x1
        repeat (first | (refine h_off gt_ (by rfl) ?_; intro a_ ha_; (simp only [Act.put, List.setIfInBounds_toArray, List.set_cons_zero, List.set_cons_succ] at ha_); subst ha_) | (refine h_on (v := ?_) gt_ (by rfl) ?_ ?_; rotate_left; (· rintro w_ ⟨-, s0_, s1_, s2_, s3_, s4_, -⟩; go_simp; with_reducible rfl); intro a_ ha_; (simp only [Act.put, List.setIfInBounds_toArray, List.set_cons_zero, List.set_cons_succ] at ha_); subst ha_) | (refine h_offc hS gt_ (by rfl) ?_; intro a_ ha_; (simp only [Act.put, List.setIfInBounds_toArray, List.set_cons_zero, List.set_cons_succ] at ha_); subst ha_))
        refine h_end ?_
        clear HK_ HB
        obtain ⟨hB_, g0, r0, r1, x0, x1, -⟩ := hS
        have HB := Aside0.mk hB_
        clear hB_
        go_wp2
        go_ret
        exact ⟨retI HM.out.symm, HB.out⟩
      · have hne : (y.lab == x.lab && (y.num == x.num)) = false := (nd_eq y x).trans (decide_eq_false hxy)
        have HNE := Aside0.mk hxy
        clear hxy
        go_wp2_with (fail)
        have HK_ := Aside0.mk (show Reg (fun u_ => Below w.heap.size w u_ ∧ u_.cell? ⟨w.heap.size, 0, none⟩ = some (.slice (some ad) ns.length c) ∧ u_.cell? (ad.add (j * 2)) = some (.int .i64 y.lab) ∧ u_.cell? ⟨(ad.add (j * 2)).block, (ad.add (j * 2)).off + 1, none⟩ = some (.int .i64 y.num) ∧ u_.cell? ⟨w.heap.size + 1, 0, none⟩ = some (.int .i64 x.lab) ∧ u_.cell? ⟨w.heap.size + 1, 1, none⟩ = some (.int .i64 x.num) ∧ True) from ⟨fun _ _ hb_ ⟨q_, s0_, s1_, s2_, s3_, s4_, _⟩ => ⟨below_step q_ hb_, pw_cell_below hb_ s0_, pw_cell_below hb_ s1_, pw_cell_below hb_ s2_, pw_cell_below hb_ s3_, pw_cell_below hb_ s4_, trivial⟩⟩)
        refine region_by _ sWa4 (by kernel_rfl) sWa4_ok rfl (fun d _ _ _ _ h => by cases d <;> exact h) HK_.out ⟨HB.out, g0, r0, r1, x0, x1, trivial⟩ ?_
        intro u hS
        clear g0 r0 r1 x0 x1
        repeat (first | (refine h_off gt_ (by rfl) ?_; intro a_ ha_; (simp only [Act.put, List.setIfInBounds_toArray, List.set_cons_zero, List.set_cons_succ] at ha_); subst ha_) | (refine h_on (v := ?_) gt_ (by rfl) ?_ ?_; rotate_left; (· rintro w_ ⟨-, s0_, s1_, s2_, s3_, s4_, -⟩; go_simp; with_reducible rfl); intro a_ ha_; (simp only [Act.put, List.setIfInBounds_toArray, List.set_cons_zero, List.set_cons_succ] at ha_); subst ha_) | (refine h_offc hS gt_ (by rfl) ?_; intro a_ ha_; (simp only [Act.put, List.setIfInBounds_toArray, List.set_cons_zero, List.set_cons_succ] at ha_); subst ha_))
        refine h_end ?_
        clear HK_ HB
        obtain ⟨hB_, g0, r0, r1, x0, x1, -⟩ := hS
        have HB := Aside0.mk hB_
        clear hB_
        go_wp2
        go_roundw
        case rel => exact ⟨j + 1, by omega, by go_num, ⟨fun t ht => by
          rcases Nat.lt_succ_iff_lt_or_eq.1 ht with h | rfl
          · exact H1.out t h
          · rw [HY.out]; exact HNE.out⟩, ⟨g0⟩, ⟨x0⟩, ⟨x1⟩, HB⟩
        case measure => simp [intOf]; omega
    · have HM := Aside0.mk (show ¬ x ∈ ns by
        intro hm
        obtain ⟨t, ht, rfl⟩ := List.getElem_of_mem hm
        exact H1.out t (by omega) (at__lt' ht))
      go_wp2_with (fail)
      go_ret
      exact ⟨retI (placeI_out HM.out).symm, HB.out⟩
set_option maxHeartbeats 3200000 in
set_option maxRecDepth 100000 in
theorem sWalkDist_calls (A : Option Addr) (c : Nat) (ns : List Nd) (B : Option Addr) (d : Nat) (es : List Eg) (n : Nd) (w : World) (hr : GR w A c ns B d es) (hl : ns.length ≤ 100 ∧ es.length ≤ 100) :
    Calls Try.prog 55 #[.agg #[.slice A ns.length c, .slice B es.length d], .agg #[.int .i64 n.lab, .int .i64 n.num]] w fun e w' => RetI w.heap.size (wDist ns es n) e w' ∧ Below w.heap.size w w' := by
  have HR := Aside0.mk hr
  have HLN := Aside0.mk hl
  clear hr hl
  obtain ⟨v, hv⟩ : ∃ v, okG ns es = v := ⟨_, rfl⟩
  have HOK := Aside0.mk hv
  clear hv
  obtain ⟨L0, L1, HB⟩ := al2 w #[.slice A ns.length c, .slice B es.length d] #[.int .i64 n.lab, .int .i64 n.num] 26 28
  cases v
  · have HW := Aside0.mk (show wDist ns es n = [] by unfold wDist; rw [HOK.out]; exact if_neg fun h => by cases h.1)
    go_enter Try.func55, Try.ntmps55
    go_wp2_with (first | (go_at_call 33; go_must ((refine (sGraphOk_calls A c ns B d es _ (HR.out.below HB.out) (by have := HLN.out; omega) (by have := HLN.out; omega)).mono ?_); rintro e u_ ⟨rfl, hb⟩; rw [HOK.out]; replace HB := Aside0.mk (below_step HB.out hb); replace L0 := Aside0.mk (blk_below L0.out hb); replace L1 := Aside0.mk (blk_below L1.out hb); (try clear c0 c1); obtain ⟨c0, c1⟩ := cs2 (L0.out); (try clear e0 e1); obtain ⟨e0, e1⟩ := cs2 (L1.out); clear hb)) | ((with_reducible refine gate_dst (N := 14) rfl ?_); go_must ((refine w_lit #[] 3 0 rfl (by go_simp; (first | done | rfl)) ?_); intro g5 u_ hge_ hb0_ hb; have H5 := Aside0.mk (show w.heap.size ≤ g5 by have := HB.out.size; omega); have HL5 := Aside0.mk (show Rw (Value.int .i64) 3 u_ g5 [] from hb0_); replace HB := Aside0.mk (below_step HB.out hb); replace L0 := Aside0.mk (blk_below L0.out hb); replace L1 := Aside0.mk (blk_below L1.out hb); (try clear c0 c1); obtain ⟨c0, c1⟩ := cs2 (L0.out); (try clear e0 e1); obtain ⟨e0, e1⟩ := cs2 (L1.out); clear hge_ hb0_ hb)))
    go_ret
    exact ⟨by rw [HW.out]; exact RetI.row HL5.out rfl (by omega) H5.out, HB.out⟩
  · have HOG := Aside0.mk (okG_true.1 HOK.out)
    by_cases hin : n ∈ ns
    · have HPL := Aside0.mk (placeI_in hin)
      have HIN := Aside0.mk hin
      have HW := Aside0.mk (show wDist ns es n = distL (adjI ns es) ns.length (idx ns n) from if_pos ⟨HOK.out, hin⟩)
      have hnn : ¬ ((idx ns n : Nat) : Int) < 0 := by omega
      clear hin
      go_enter Try.func55, Try.ntmps55
      go_wp2_with (first | (go_at_call 33; go_must ((refine (sGraphOk_calls A c ns B d es _ (HR.out.below HB.out) (by have := HLN.out; omega) (by have := HLN.out; omega)).mono ?_); rintro e u_ ⟨rfl, hb⟩; rw [HOK.out]; replace HB := Aside0.mk (below_step HB.out hb); replace L0 := Aside0.mk (blk_below L0.out hb); replace L1 := Aside0.mk (blk_below L1.out hb); (try clear c0 c1); obtain ⟨c0, c1⟩ := cs2 (L0.out); (try clear e0 e1); obtain ⟨e0, e1⟩ := cs2 (L1.out); clear hb)) | (go_at_call 101; go_must ((refine (atP_calls A c ns B d es n _ (HR.out.below HB.out).cn HOG.out).mono ?_); rintro e u_ ⟨rfl, hb⟩; rw [HPL.out]; replace HB := Aside0.mk (below_step HB.out hb); replace L0 := Aside0.mk (blk_below L0.out hb); replace L1 := Aside0.mk (blk_below L1.out hb); (try clear c0 c1); obtain ⟨c0, c1⟩ := cs2 (L0.out); (try clear e0 e1); obtain ⟨e0, e1⟩ := cs2 (L1.out); clear hb)) | (go_at_call 135; go_must ((refine (l3Dist_calls A c ns B d es n _ (HR.out.below HB.out) HOG.out HIN.out).mono ?_); rintro e u_ ⟨⟨A5, c5, rfl, hc_, hl_, hf_⟩, hb⟩; have HRC := Aside0.mk hc_; have HRL := Aside0.mk hl_; have HRF := Aside0.mk (show ∀ ad, A5 = some ad → w.heap.size ≤ ad.block from fun ad e => by have := hf_ ad e; have := HB.out.size; omega); clear hc_ hl_ hf_; replace HB := Aside0.mk (below_step HB.out hb); replace L0 := Aside0.mk (blk_below L0.out hb); replace L1 := Aside0.mk (blk_below L1.out hb); (try clear c0 c1); obtain ⟨c0, c1⟩ := cs2 (L0.out); (try clear e0 e1); obtain ⟨e0, e1⟩ := cs2 (L1.out); clear hb)))
      go_ret
      exact ⟨by rw [HW.out]; exact ⟨A5, c5, rfl, HRC.out, HRL.out, HRF.out⟩, HB.out⟩
    · have HPL := Aside0.mk (placeI_out hin)
      have HW := Aside0.mk (show wDist ns es n = [] from if_neg fun h => hin h.2)
      clear hin
      go_enter Try.func55, Try.ntmps55
      go_wp2_with (first | (go_at_call 33; go_must ((refine (sGraphOk_calls A c ns B d es _ (HR.out.below HB.out) (by have := HLN.out; omega) (by have := HLN.out; omega)).mono ?_); rintro e u_ ⟨rfl, hb⟩; rw [HOK.out]; replace HB := Aside0.mk (below_step HB.out hb); replace L0 := Aside0.mk (blk_below L0.out hb); replace L1 := Aside0.mk (blk_below L1.out hb); (try clear c0 c1); obtain ⟨c0, c1⟩ := cs2 (L0.out); (try clear e0 e1); obtain ⟨e0, e1⟩ := cs2 (L1.out); clear hb)) | (go_at_call 101; go_must ((refine (atP_calls A c ns B d es n _ (HR.out.below HB.out).cn HOG.out).mono ?_); rintro e u_ ⟨rfl, hb⟩; rw [HPL.out]; replace HB := Aside0.mk (below_step HB.out hb); replace L0 := Aside0.mk (blk_below L0.out hb); replace L1 := Aside0.mk (blk_below L1.out hb); (try clear c0 c1); obtain ⟨c0, c1⟩ := cs2 (L0.out); (try clear e0 e1); obtain ⟨e0, e1⟩ := cs2 (L1.out); clear hb)) | ((with_reducible refine gate_dst (N := 14) rfl ?_); go_must ((refine w_lit #[] 3 0 rfl (by go_simp; (first | done | rfl)) ?_); intro g5 u_ hge_ hb0_ hb; have H5 := Aside0.mk (show w.heap.size ≤ g5 by have := HB.out.size; omega); have HL5 := Aside0.mk (show Rw (Value.int .i64) 3 u_ g5 [] from hb0_); replace HB := Aside0.mk (below_step HB.out hb); replace L0 := Aside0.mk (blk_below L0.out hb); replace L1 := Aside0.mk (blk_below L1.out hb); (try clear c0 c1); obtain ⟨c0, c1⟩ := cs2 (L0.out); (try clear e0 e1); obtain ⟨e0, e1⟩ := cs2 (L1.out); clear hge_ hb0_ hb)))
      go_ret
      exact ⟨by rw [HW.out]; exact RetI.row HL5.out rfl (by omega) H5.out, HB.out⟩
end Go.Proofs.Ytogmbeifbjgphaa.R
