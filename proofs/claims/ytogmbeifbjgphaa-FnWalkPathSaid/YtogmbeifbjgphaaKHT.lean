/- The reference: WalkPath. -/
import Derived.Test.YtogmbeifbjgphaaKHM
import Derived.Test.YtogmbeifbjgphaaKHO
import Derived.Test.YtogmbeifbjgphaaKHS
namespace Go.Proofs.Ytogmbeifbjgphaa.R
open Go.RowKit Go.Proofs.YtogmbeifbjgphaaV.PrintWords Go.Proofs.YtogmbeifbjgphaaV.PrintLast Go.Proofs.YtogmbeifbjgphaaV.PrintMore Go.Proofs.Ytogmbeifbjgphaa.M
set_option linter.unusedVariables false
set_option linter.unusedSimpArgs false
attribute [local go_sem high] eqN eqE
abbrev sPb9 : Pl := (.tk 0 (.tk 1 (.tk 2 (.tk 3 (.tk 4 (.tk 5 (.tk 6 (.nd .one 7 (.tk 8 .fin)))))))))
theorem sPb9_ok : planB .any (opsOf Try.f62 9) [] sPb9 (Array.replicate (opsOf Try.f62 9).size false) = true := by kernel_rfl
abbrev sPb11 : Pl := (.tk 0 (.tk 1 (.tk 2 (.tk 3 (.tk 4 (.tk 5 (.tk 9 (.tk 10 (.nd .one 6 (.tk 7 (.tk 8 (.tk 11 .fin))))))))))))
theorem sPb11_ok : planB .any (opsOf Try.f62 11) [] sPb11 (Array.replicate (opsOf Try.f62 11).size false) = true := by kernel_rfl
theorem C_zero {α : Type} {d : Kd α} (w : World) (A : Option Addr) : d.C w A 0 [] := ⟨(Kd.C_nil (d := d) w).1, (Kd.C_nil (d := d) w).2.1, fun h => absurd h (Nat.lt_irrefl 0)⟩
theorem placeA_as (A : Option Addr) (c : Nat) (ns : List Nd) (B : Option Addr) (d : Nat) (es : List Eg) (x : Nd) (p : Int) (w : World) (hr : GR w A c ns B d es) (hg : OkG ns es) (h : placeI ns x = p) :
    Calls Try.prog 101 #[.agg #[.slice A ns.length c, .slice B es.length d], .agg #[.int .i64 x.lab, .int .i64 x.num]] w fun e w' => e = .returned (.int .i64 p) ∧ Below w.heap.size w w' := by
  subst h
  exact atP_calls A c ns B d es x w hr.cn hg
def SpP (U2 : World) (ns : List Nd) (A10 : Option Addr) (c10 : Nat) (q : List Nat) (wr : World) : Prop := kN.R 28 wr U2.heap.size (fun _ => True) (.slice A10 (tds ns q).length c10) (tds ns q) ∧ U2.heap.size ≤ wr.heap.size ∧ Below U2.heap.size U2 wr
theorem pk_get {p : List Nat} {k v : Nat} (h : p[k]? = some v) {h1 : k < (pk p k).length} : (pk p k)[k] = v := by
  have h2 : (pk p k)[k]? = some v := by
    unfold pk
    rw [List.getElem?_take, if_pos (Nat.lt_succ_self k)]
    exact h
  obtain ⟨_, h3⟩ := List.getElem?_eq_some_iff.1 h2
  exact h3
set_option maxHeartbeats 25600000 in
set_option maxRecDepth 100000 in
theorem sWalkPath_calls (A : Option Addr) (c : Nat) (ns : List Nd) (B : Option Addr) (d : Nat) (es : List Eg) (x y : Nd) (w : World) (hr : GR w A c ns B d es) (hl : ns.length ≤ 100 ∧ es.length ≤ 100) :
    Calls Try.prog 62 #[.agg #[.slice A ns.length c, .slice B es.length d], .agg #[.int .i64 x.lab, .int .i64 x.num], .agg #[.int .i64 y.lab, .int .i64 y.num]] w fun e w' => RetP (wPath ns es x y) (wHas ns es x y) e w' ∧ Below w.heap.size w w' := by
  have HR := Aside0.mk hr
  have HLK := Aside0.mk hl
  clear hr hl
  obtain ⟨v, hv⟩ : ∃ v, okG ns es = v := ⟨_, rfl⟩
  have HOK := Aside0.mk hv
  clear hv
  obtain ⟨L0, L1, L2, HB⟩ := al3 w #[.slice A ns.length c, .slice B es.length d] #[.int .i64 x.lab, .int .i64 x.num] #[.int .i64 y.lab, .int .i64 y.num] 26 28 28
  cases v
  · have HW := Aside0.mk (show wHas ns es x y = false from wHas_false fun h => okG_false.1 HOK.out h.1)
    go_enter Try.func62, Try.ntmps62
    go_wp2_with (first | (go_at_call 33; go_must ((refine (sGraphOk_calls A c ns B d es _ (HR.out.below HB.out) (by have := HLK.out; omega) (by have := HLK.out; omega)).mono ?_); rintro e u_ ⟨rfl, hb⟩; rw [HOK.out]; replace HB := Aside0.mk (below_step HB.out hb); replace L0 := Aside0.mk (blk_below L0.out hb); replace L1 := Aside0.mk (blk_below L1.out hb); replace L2 := Aside0.mk (blk_below L2.out hb); (try clear c0 c1); obtain ⟨c0, c1⟩ := cs2 (L0.out); (try clear e0 e1); obtain ⟨e0, e1⟩ := cs2 (L1.out); (try clear f0 f1); obtain ⟨f0, f1⟩ := cs2 (L2.out); clear hb)) | ((with_reducible refine gate_dst (N := 28) rfl ?_); go_must ((refine w_lit #[] 28 0 rfl (by go_simp; (first | done | rfl)) ?_); intro g5 u_ hge_ hb0_ hb; replace HB := Aside0.mk (below_step HB.out hb); replace L0 := Aside0.mk (blk_below L0.out hb); replace L1 := Aside0.mk (blk_below L1.out hb); replace L2 := Aside0.mk (blk_below L2.out hb); (try clear c0 c1); obtain ⟨c0, c1⟩ := cs2 (L0.out); (try clear e0 e1); obtain ⟨e0, e1⟩ := cs2 (L1.out); (try clear f0 f1); obtain ⟨f0, f1⟩ := cs2 (L2.out); clear hge_ hb0_ hb)))
    exact bodyPost_ret (results_tmp2 rfl _ _ _) rfl ⟨RetP.no _ HW.out _ _ (C_zero _ _) rfl, HB.out⟩
  · have HOG := Aside0.mk (okG_true.1 HOK.out)
    have HLN := Aside0.mk (NsOk.mk HOG.out.nok HOG.out.nasc HOG.out.nfew).len
    by_cases hin : x ∈ ns ∧ y ∈ ns
    · obtain ⟨s, hs⟩ : ∃ s, idx ns x = s := ⟨_, rfl⟩
      obtain ⟨t, ht⟩ : ∃ s, idx ns y = s := ⟨_, rfl⟩
      have HPx := Aside0.mk (show placeI ns x = (s : Int) by rw [placeI_in hin.1, hs])
      have HPy := Aside0.mk (show placeI ns y = (t : Int) by rw [placeI_in hin.2, ht])
      have HSN := Aside0.mk (show s < ns.length by rw [← hs]; exact idx_lt hin.1)
      have HTN := Aside0.mk (show t < ns.length by rw [← ht]; exact idx_lt hin.2)
      have HXA := Aside0.mk (show at_ ns s = x by rw [← hs]; exact at_idx hin.1)
      have HYA := Aside0.mk (show at_ ns t = y by rw [← ht]; exact at_idx hin.2)
      have hs0 : ¬ ((s : Nat) : Int) < 0 := by omega
      have ht0 : ¬ ((t : Nat) : Int) < 0 := by omega
      obtain ⟨D, hD⟩ : ∃ D, distL (adjI ns es) ns.length t = D := ⟨_, rfl⟩
      have HDE := Aside0.mk hD
      have HDL := Aside0.mk (show D.length = ns.length by rw [← hD, distL_length])
      have HDG := Aside0.mk (fun (v : Nat) (h : v < ns.length) => show D.getD v 0 = dist (adjI ns es) t v by rw [← hD]; exact gt_distL h)
      have hsd : (s : Int) < (D.length : Int) := by have := HSN.out; have := HDL.out; omega
      obtain ⟨x0, hx0⟩ : ∃ v, dist (adjI ns es) t s = v := ⟨_, rfl⟩
      have HX0 := Aside0.mk hx0
      have HHS := Aside0.mk (show 0 ≤ x0 → wHas ns es x y = true ∧ wPath ns es x y = tds ns (pathI (adjI ns es) ns.length t x0.toNat s) from fun h => by
        have h1 := wHas_true HOG.out hin.1 hin.2 (by rw [ht, hs, hx0]; exact h)
        exact ⟨h1, by rw [wPath_of h1, ht, hs, hx0]⟩)
      have HHN := Aside0.mk (show x0 < 0 → wHas ns es x y = false from fun h => wHas_false fun h1 => by
        have h2 := h1.2.2.2
        rw [ht, hs, hx0] at h2
        omega)
      clear hin hs ht hx0 hD
      go_enter Try.func62, Try.ntmps62
      go_upto_region 4 with (first | (go_at_call 33; go_must ((refine (sGraphOk_calls A c ns B d es _ (HR.out.below HB.out) (by have := HLK.out; omega) (by have := HLK.out; omega)).mono ?_); rintro e u_ ⟨rfl, hb⟩; rw [HOK.out]; replace HB := Aside0.mk (below_step HB.out hb); replace L0 := Aside0.mk (blk_below L0.out hb); replace L1 := Aside0.mk (blk_below L1.out hb); replace L2 := Aside0.mk (blk_below L2.out hb); (try clear c0 c1); obtain ⟨c0, c1⟩ := cs2 (L0.out); (try clear e0 e1); obtain ⟨e0, e1⟩ := cs2 (L1.out); (try clear f0 f1); obtain ⟨f0, f1⟩ := cs2 (L2.out); clear hb)) | (go_at_call 101; ((with_reducible refine (placeA_as A c ns B d es x _ _ (HR.out.below HB.out) HOG.out HPx.out).mono ?_); rintro e u_ ⟨rfl, hb⟩; replace HB := Aside0.mk (below_step HB.out hb); replace L0 := Aside0.mk (blk_below L0.out hb); replace L1 := Aside0.mk (blk_below L1.out hb); replace L2 := Aside0.mk (blk_below L2.out hb); (try clear c0 c1); obtain ⟨c0, c1⟩ := cs2 (L0.out); (try clear e0 e1); obtain ⟨e0, e1⟩ := cs2 (L1.out); (try clear f0 f1); obtain ⟨f0, f1⟩ := cs2 (L2.out); clear hb)) | (go_at_call 101; ((with_reducible refine (placeA_as A c ns B d es y _ _ (HR.out.below HB.out) HOG.out HPy.out).mono ?_); rintro e u_ ⟨rfl, hb⟩; replace HB := Aside0.mk (below_step HB.out hb); replace L0 := Aside0.mk (blk_below L0.out hb); replace L1 := Aside0.mk (blk_below L1.out hb); replace L2 := Aside0.mk (blk_below L2.out hb); (try clear c0 c1); obtain ⟨c0, c1⟩ := cs2 (L0.out); (try clear e0 e1); obtain ⟨e0, e1⟩ := cs2 (L1.out); (try clear f0 f1); obtain ⟨f0, f1⟩ := cs2 (L2.out); clear hb)) | (go_at_call 135; go_must ((refine (l3Dist_as A c B d t y D _ (HR.out.below HB.out) HOG.out HYA.out HTN.out HDE.out).mono ?_); rintro e u_ ⟨⟨A8, c8, rfl, hc_, -, -⟩, hb⟩; have HC8 := Aside0.mk hc_; clear hc_; replace HB := Aside0.mk (below_step HB.out hb); replace L0 := Aside0.mk (blk_below L0.out hb); replace L1 := Aside0.mk (blk_below L1.out hb); replace L2 := Aside0.mk (blk_below L2.out hb); (try clear c0 c1); obtain ⟨c0, c1⟩ := cs2 (L0.out); (try clear e0 e1); obtain ⟨e0, e1⟩ := cs2 (L1.out); (try clear f0 f1); obtain ⟨f0, f1⟩ := cs2 (L2.out); clear hb)))
      obtain ⟨a8, rfl⟩ : ∃ ad, A8 = some ad := by obtain ⟨ad, e, _⟩ := HC8.out.2.2 (by have := HSN.out; have := HDL.out; omega); exact ⟨ad, e⟩
      obtain ⟨a8_, e8_, k0⟩ := int_at HC8.out s (by have := HSN.out; have := HDL.out; omega)
      obtain rfl := Option.some.inj e8_
      rw [HDG.out s HSN.out, HX0.out] at k0
      clear e8_
      go_upto_region 5 with (first | (go_at_call 101; go_must ((refine (placeA_as A c ns B d es x _ _ (HR.out.below HB.out) HOG.out HPx.out).mono ?_); rintro e U2 ⟨rfl, hb⟩; replace HB := Aside0.mk (below_step HB.out hb); replace L0 := Aside0.mk (blk_below L0.out hb); replace L1 := Aside0.mk (blk_below L1.out hb); replace L2 := Aside0.mk (blk_below L2.out hb); replace HC8 := Aside0.mk (Kd.C_below (HC8.out) hb); (try clear c0 c1); obtain ⟨c0, c1⟩ := cs2 (L0.out); (try clear e0 e1); obtain ⟨e0, e1⟩ := cs2 (L1.out); (try clear f0 f1); obtain ⟨f0, f1⟩ := cs2 (L2.out); replace k0 := pw_cell_below hb k0; clear hb)))
      clear k0
      have HB2 := HB
      by_cases hneg : x0 < 0
      · have HNG := Aside0.mk hneg
        go_wp2_with (first | ((with_reducible refine gate_dst (N := 40) rfl ?_); go_must ((refine w_lit #[] 28 0 rfl (by go_simp; (first | done | rfl)) ?_); intro g5 u_ hge_ hb0_ hb; replace HB := Aside0.mk (below_step HB.out hb); replace L0 := Aside0.mk (blk_below L0.out hb); replace L1 := Aside0.mk (blk_below L1.out hb); replace L2 := Aside0.mk (blk_below L2.out hb); (try clear c0 c1); obtain ⟨c0, c1⟩ := cs2 (L0.out); (try clear e0 e1); obtain ⟨e0, e1⟩ := cs2 (L1.out); (try clear f0 f1); obtain ⟨f0, f1⟩ := cs2 (L2.out); clear hge_ hb0_ hb)))
        exact bodyPost_ret (results_tmp2 rfl _ _ _) rfl ⟨RetP.no _ (HHN.out HNG.out) _ _ (C_zero _ _) rfl, HB.out⟩
      · clear HB
        obtain ⟨dd, rfl⟩ : ∃ dd : Nat, x0 = (dd : Int) := ⟨x0.toNat, by omega⟩
        obtain ⟨hw1, hw2⟩ := HHS.out (by omega)
        have HW1 := Aside0.mk hw1
        have HW2 := Aside0.mk hw2
        rw [Int.toNat_natCast] at HW2
        have HDU := Aside0.mk (show dd ≤ ns.length by
          have h1 := far_lt (adj := adjI ns es) (n := ns.length) adjI_sym (fun u v h => adjI_lt h) HTN.out (k := dd) HSN.out HX0.out
          have h2 : sm ns.length (fun u => (decide (0 ≤ dist (adjI ns es) t u)).toNat) ≤ ns.length := sm_lim fun _ _ => toNat_le _
          omega)
        have hdn : (ns.length : Int) ≤ 40 := by have := HLN.out; omega
        obtain ⟨a1, rfl⟩ : ∃ ad, A = some ad := by obtain ⟨ad, e, _⟩ := HR.out.cn.2.2 (by have := HSN.out; omega); exact ⟨ad, e⟩
        have HR2 := Aside0.mk (HR.out.below HB2.out)
        have HPL := Aside0.mk (pathI_length (adj := adjI ns es) (n := ns.length) (b := t) dd s)
        have HPA := Aside0.mk (fun (k v : Nat) (h : (pathI (adjI ns es) ns.length t dd s)[k]? = some v) => pathI_at (b := t) adjI_sym (fun u v h => adjI_lt h) dd s k v HX0.out HSN.out h)
        clear hw1 hw2
        go_wp2_with (first | ((with_reducible refine gate_dst (N := 42) rfl ?_); go_must ((refine w_lit #[.int .i64 x.lab, .int .i64 x.num] 28 1 rfl (by go_simp; (first | done | rfl)) ?_); intro g7 u_ hge_ hb0_ hb; have HRT := Aside0.mk (one_R (base := U2.heap.size) hb0_ hge_); have HZ := Aside0.mk hb.size; have H2 := Aside0.mk hb; clear hge_ hb0_ hb)))
        clear L1 L2 e0 e1 f0 f1 c0 c1 hneg
        go_loopw [9, 10, 11, 12] (fun s9 s10 _ _ wr => ∃ (k v : Nat) (A10 : Option Addr) (c10 : Nat), (pathI (adjI ns es) ns.length t dd s)[k]? = some v ∧ s9 = .int .i64 (dist (adjI ns es) t v) ∧ s10 = .slice A10 (tds ns (pk (pathI (adjI ns es) ns.length t dd s) k)).length c10 ∧ SpP U2 ns A10 c10 (pk (pathI (adjI ns es) ns.length t dd s) k) wr) (fun s9 _ _ _ _ => (intOf s9).toNat)
        case atStart => exact ⟨0, s, some ⟨g7, 0, none⟩, 1, pathI_head dd s, by rw [HX0.out], by rw [pk_zero (pathI_head dd s)]; rfl, by rw [pk_zero (pathI_head dd s)]; exact (show tds ns [s] = [x] by simp [tds, HXA.out]) ▸ HRT.out, HZ.out, H2.out⟩
        case round =>
          clear HRT HZ H2
          obtain ⟨k, v, A10, c10, hkv, rfl, rfl, hrt_, hz_, h2_⟩ := hrel
          have HKV := Aside0.mk hkv
          have HRT := Aside0.mk hrt_
          have HZ := Aside0.mk hz_
          have H2 := Aside0.mk h2_
          have HKP := Aside0.mk (show k < (pathI (adjI ns es) ns.length t dd s).length from (List.getElem?_eq_some_iff.1 hkv).1)
          have HKL := Aside0.mk (show (tds ns (pk (pathI (adjI ns es) ns.length t dd s) k)).length = k + 1 by rw [tds_len, pk_len HKP.out])
          obtain ⟨hvn, hvd, -, hnx⟩ := HPA.out k v hkv
          have HVN := Aside0.mk hvn
          have HVD := Aside0.mk hvd
          have HNX := Aside0.mk hnx
          obtain ⟨xv, hxv⟩ : ∃ x, dist (adjI ns es) t v = x := ⟨_, rfl⟩
          have HXV := Aside0.mk hxv
          rw [hxv]
          have hxb : 0 ≤ xv ∧ xv ≤ 40 := by have h2 := hvd; rw [hxv] at h2; have := HDU.out; have := HLN.out; have := HKP.out; have := HPL.out; omega
          clear hkv hrt_ hz_ h2_ hvn hvd hnx hxv
          by_cases hpos : 0 < xv
          · obtain ⟨a10, rfl⟩ : ∃ ad, A10 = some ad := by obtain ⟨ad, e, _⟩ := (Kd.R_reads' HRT.out).2.2.2.2 (by have := HKL.out; omega); exact ⟨ad, e⟩
            have HPOS := Aside0.mk (show 0 < dist (adjI ns es) t v by rw [HXV.out]; exact hpos)
            obtain ⟨a10_, e10_, r0, r1⟩ := nd_at (Kd.R_reads' HRT.out).2.2 k (by have := HKL.out; omega)
            obtain rfl := Option.some.inj e10_
            obtain ⟨y1, hy1⟩ : ∃ y, at_ ns v = y := ⟨_, rfl⟩
            have HY1 := Aside0.mk hy1
            rw [show at_ (tds ns (pk (pathI (adjI ns es) ns.length t dd s) k)) k = y1 by rw [tds_get ns (by rw [pk_len HKP.out]; omega), pk_get HKV.out, hy1]] at r0 r1
            obtain ⟨M, hM⟩ : ∃ m, nearG ns es y1 = m := ⟨_, rfl⟩
            have HM := Aside0.mk hM
            have HMA := Aside0.mk (show M = tds ns (nearI (adjI ns es) ns.length v) by rw [← hM, ← hy1]; exact near_at HOG.out HVN.out)
            have HMK := Aside0.mk (show M.length = (nearI (adjI ns es) ns.length v).length by rw [HMA.out, tds_len])
            have HFB := Aside0.mk (nearI_few (adjI ns es) ns.length v)
            have hw1 : IntKind.i64.wrap (((tds ns (pk (pathI (adjI ns es) ns.length t dd s) k)).length : Int) - 1) = (k : Int) := by rw [IntKind.wrap_i64, HKL.out]; have := HKP.out; have := HPL.out; have := HDU.out; have := HLN.out; omega
            have hkl : (k : Int) < ((tds ns (pk (pathI (adjI ns es) ns.length t dd s) k)).length : Int) := by have := HKL.out; omega
            have l0 := blk_below L0.out H2.out
            (try clear c0 c1)
            obtain ⟨c0, c1⟩ := cs2 l0
            have L9 := Aside0.mk l0
            clear l0
            clear e10_ hy1 hM
            go_wp2_with (fail)
            have ZL9 := L9
            refine region_bp [] sPb9 (by kernel_rfl) sPb9_ok (by decide) (fun d _ _ _ _ h => by cases d <;> exact h) ?_
            intro u hb
            have hS := hb
            replace H2 := Aside0.mk (below_step H2.out hb); replace HRT := Aside0.mk (Kd.R_below HRT.out hb); replace HZ := Aside0.mk (Nat.le_trans HZ.out hb.size)
            replace L9 := Aside0.mk (blk_below L9.out hb)
            (try clear c0 c1)
            obtain ⟨c0, c1⟩ := cs2 (L9.out)
            clear hb
            repeat (first | (refine p_off hS gt_ (by rfl) ?_; intro a_ ha_; (simp only [Act.put, List.setIfInBounds_toArray, List.set_cons_zero, List.set_cons_succ] at ha_); subst ha_) | (refine p_on (v := ?_) hS gt_ (by rfl) ?_ ?_; rotate_left; (· rintro w_ hS_; obtain ⟨c0_, c1_⟩ := cs2 (blk_below ZL9.out hS_); have r0_ := pw_cell_below hS_ r0; have r1_ := pw_cell_below hS_ r1; go_simp; with_reducible rfl); intro a_ ha_; (simp only [Act.put, List.setIfInBounds_toArray, List.set_cons_zero, List.set_cons_succ] at ha_); subst ha_) | (refine p_poff gt_ (by rfl) ?_; intro a_ ha_; (simp only [Act.put, List.setIfInBounds_toArray, List.set_cons_zero, List.set_cons_succ] at ha_); subst ha_) | (refine p_pon (v := ?_) gt_ (by rfl) ?_ ?_; rotate_left; (· go_simp; with_reducible rfl); intro a_ ha_; (simp only [Act.put, List.setIfInBounds_toArray, List.set_cons_zero, List.set_cons_succ] at ha_); subst ha_) | (refine p_ooff hS gt_ (by rfl) ?_; intro a_ ha_; (simp only [Act.put, List.setIfInBounds_toArray, List.set_cons_zero, List.set_cons_succ] at ha_); subst ha_) | (refine p_loff gt_ (by rfl) ?_; intro a_ ha_; (simp only [Act.put, List.setIfInBounds_toArray, List.set_cons_zero, List.set_cons_succ] at ha_); subst ha_) | (refine p_call (f := 116) (args := #[.agg #[.slice (some a1) ns.length c, .slice B es.length d], .agg #[.int .i64 y1.lab, .int .i64 y1.num]]) Try.func116 (by kernel_rfl) rfl gt_ (by rfl) (by rfl) mp_ ?_; (refine (near_asG HM.out (some a1) c B d _ (HR2.out.below H2.out) HOG.out).mono ?_); rintro e_ u_ ⟨A11, c11, rfl, hm_, -, -, hb⟩; have HC11 := Aside0.mk hm_; clear hm_; replace H2 := Aside0.mk (below_step H2.out hb); replace HRT := Aside0.mk (Kd.R_below HRT.out hb); replace HZ := Aside0.mk (Nat.le_trans HZ.out hb.size); replace L9 := Aside0.mk (blk_below L9.out hb); (try clear c0 c1); obtain ⟨c0, c1⟩ := cs2 (L9.out); replace hS := below_step hS hb; refine ⟨_, rfl, hS, fun a_ ha_ => ?_⟩; (simp only [Act.put, List.setIfInBounds_toArray, List.set_cons_zero, List.set_cons_succ] at ha_); subst ha_; clear hb))
            refine p_fin ?_
            clear hS ZL9
            clear r0 r1 hw1 hkl
            go_wp2_with (fail)
            go_loopw [12] (fun s12 wr => ∃ j : Nat, j ≤ M.length ∧ s12 = .int .i64 (j : Int) ∧ (∀ i (hi : i < (nearI (adjI ns es) ns.length v).length), i < j → dist (adjI ns es) t (nearI (adjI ns es) ns.length v)[i] ≠ xv - 1) ∧ kN.C wr A11 M.length M ∧ SpP U2 ns (some a10) c10 (pk (pathI (adjI ns es) ns.length t dd s) k) wr) (fun s12 _ => (M.length - intOf s12).toNat)
            case atStart => exact ⟨0, Nat.zero_le _, rfl, fun i _ hi => absurd hi (Nat.not_lt_zero _), HC11.out, HRT.out, HZ.out, H2.out⟩
            case round =>
              clear HRT HZ H2 HC11 L9 c0 c1
              obtain ⟨j, hj, rfl, hno, hc11_, hrt_, hz_, h2_⟩ := hrel
              have HJ := Aside0.mk hj
              have HNO := Aside0.mk hno
              have HC11 := Aside0.mk hc11_
              have HRT := Aside0.mk hrt_
              have HZ := Aside0.mk hz_
              have H2 := Aside0.mk h2_
              clear hj hno hc11_ hrt_ hz_ h2_
              have HJL := Aside0.mk (show j < (nearI (adjI ns es) ns.length v).length by
                refine Nat.lt_of_not_le fun hle => ?_
                obtain ⟨i, hi, h1⟩ := step_ex (b := t) adjI_sym (fun u v h => adjI_lt h) HPOS.out
                exact HNO.out i hi (by omega) (by rw [h1, HXV.out]))
              have HJM := Aside0.mk (show j < M.length by have := HJL.out; have := HMK.out; omega)
              have hjl : (j : Int) < (M.length : Int) := by have := HJM.out; omega
              have hj4 : (j : Int) < 40 := by have := HJL.out; have := HFB.out; omega
              obtain ⟨uu, hu⟩ : ∃ uu, (nearI (adjI ns es) ns.length v)[j]'HJL.out = uu := ⟨_, rfl⟩
              have HUN := Aside0.mk (show uu < ns.length from (nearI_mem.1 (hu ▸ List.getElem_mem HJL.out)).1)
              have hud : (uu : Int) < (D.length : Int) := by have := HUN.out; have := HDL.out; omega
              obtain ⟨xu, hxu⟩ : ∃ x, dist (adjI ns es) t uu = x := ⟨_, rfl⟩
              obtain ⟨z, hz⟩ : ∃ z, at_ ns uu = z := ⟨_, rfl⟩
              have HZU := Aside0.mk hz
              have HPZ := Aside0.mk (show placeI ns z = (uu : Int) by rw [← hz, placeI_in (at_mem HUN.out), idx_at HOG.out HUN.out])
              have HZM := Aside0.mk (show at_ M j = z by rw [HMA.out, tds_get ns HJL.out, hu, hz])
              obtain ⟨a11, e11, m0, m1⟩ := nd_at HC11.out j HJM.out
              cases e11
              rw [HZM.out] at m0 m1
              obtain ⟨a8_, e8_, k0⟩ := int_at (Kd.C_below HC8.out H2.out) uu (by have := HUN.out; have := HDL.out; omega)
              obtain rfl := Option.some.inj e8_
              rw [HDG.out uu HUN.out, hxu] at k0
              have hw1 : IntKind.i64.wrap (xv - 1) = xv - 1 := by rw [IntKind.wrap_i64]; omega
              have l0 := blk_below L0.out H2.out
              (try clear c0 c1)
              obtain ⟨c0, c1⟩ := cs2 l0
              have L9 := Aside0.mk l0
              clear l0
              have HUJ := Aside0.mk hu
              have HXU := Aside0.mk hxu
              clear e8_ hu hxu hz
              by_cases heq : xu = xv - 1
              · subst heq
                have HST := Aside0.mk (show (pathI (adjI ns es) ns.length t dd s)[k + 1]? = some uu by
                  rw [← HUJ.out, ← step_hit (b := t) adjI_sym (fun u v h => adjI_lt h) HPOS.out HJL.out (by rw [HUJ.out, HXU.out, HXV.out]) (fun i hi => by rw [HXV.out]; exact HNO.out i (by have := HJL.out; omega) hi)]
                  exact HNX.out (by have h1 := HVD.out; rw [HXV.out] at h1; omega))
                go_wp2_with (fail)
                have ZL9 := L9
                refine region_bp [] sPb11 (by kernel_rfl) sPb11_ok (by decide) (fun d _ _ _ _ h => by cases d <;> exact h) ?_
                intro u hb
                have hS := hb
                replace H2 := Aside0.mk (below_step H2.out hb); replace HRT := Aside0.mk (Kd.R_below HRT.out hb); replace HZ := Aside0.mk (Nat.le_trans HZ.out hb.size)
                replace L9 := Aside0.mk (blk_below L9.out hb)
                replace HC11 := Aside0.mk (Kd.C_below (HC11.out) hb)
                (try clear c0 c1)
                obtain ⟨c0, c1⟩ := cs2 (L9.out)
                clear hb
                repeat (first | (refine p_off hS gt_ (by rfl) ?_; intro a_ ha_; (simp only [Act.put, List.setIfInBounds_toArray, List.set_cons_zero, List.set_cons_succ] at ha_); subst ha_) | (refine p_on (v := ?_) hS gt_ (by rfl) ?_ ?_; rotate_left; (· rintro w_ hS_; obtain ⟨c0_, c1_⟩ := cs2 (blk_below ZL9.out hS_); have m0_ := pw_cell_below hS_ m0; have m1_ := pw_cell_below hS_ m1; have k0_ := pw_cell_below hS_ k0; go_simp; with_reducible rfl); intro a_ ha_; (simp only [Act.put, List.setIfInBounds_toArray, List.set_cons_zero, List.set_cons_succ] at ha_); subst ha_) | (refine p_poff gt_ (by rfl) ?_; intro a_ ha_; (simp only [Act.put, List.setIfInBounds_toArray, List.set_cons_zero, List.set_cons_succ] at ha_); subst ha_) | (refine p_pon (v := ?_) gt_ (by rfl) ?_ ?_; rotate_left; (· go_simp; with_reducible rfl); intro a_ ha_; (simp only [Act.put, List.setIfInBounds_toArray, List.set_cons_zero, List.set_cons_succ] at ha_); subst ha_) | (refine p_ooff hS gt_ (by rfl) ?_; intro a_ ha_; (simp only [Act.put, List.setIfInBounds_toArray, List.set_cons_zero, List.set_cons_succ] at ha_); subst ha_) | (refine p_loff gt_ (by rfl) ?_; intro a_ ha_; (simp only [Act.put, List.setIfInBounds_toArray, List.set_cons_zero, List.set_cons_succ] at ha_); subst ha_) | (refine p_call (f := 101) (args := #[.agg #[.slice (some a1) ns.length c, .slice B es.length d], .agg #[.int .i64 z.lab, .int .i64 z.num]]) Try.func101 (by kernel_rfl) rfl gt_ (by rfl) (by rfl) mp_ ?_; (refine (place_as HPZ.out (some a1) c B d _ (HR2.out.below H2.out) HOG.out).mono ?_); rintro e_ u_ ⟨rfl, hb⟩; replace H2 := Aside0.mk (below_step H2.out hb); replace HRT := Aside0.mk (Kd.R_below HRT.out hb); replace HZ := Aside0.mk (Nat.le_trans HZ.out hb.size); replace L9 := Aside0.mk (blk_below L9.out hb); replace HC11 := Aside0.mk (Kd.C_below (HC11.out) hb); (try clear c0 c1); obtain ⟨c0, c1⟩ := cs2 (L9.out); replace hS := below_step hS hb; refine ⟨_, rfl, hS, fun a_ ha_ => ?_⟩; (simp only [Act.put, List.setIfInBounds_toArray, List.set_cons_zero, List.set_cons_succ] at ha_); subst ha_; clear hb))
                refine p_fin ?_
                clear hS ZL9
                clear m0 m1 k0 hw1
                obtain ⟨a11_, e11, m0, m1⟩ := nd_at HC11.out j HJM.out
                obtain rfl := Option.some.inj e11
                rw [HZM.out] at m0 m1
                clear e11
                go_wp2_with (first | ((with_reducible refine gate_dst (N := 72) rfl ?_); go_must ((refine w_lit #[.int .i64 z.lab, .int .i64 z.num] 28 1 rfl (by go_simp; (first | done | rfl)) ?_); intro gl u_ hge_ hb0_ hb; have LT := Aside0.mk hb0_; replace H2 := Aside0.mk (below_step H2.out hb); replace HRT := Aside0.mk (Kd.R_below HRT.out hb); replace HZ := Aside0.mk (Nat.le_trans HZ.out hb.size); clear hge_ hb0_ hb)) | ((with_reducible refine gate_builtin (b := .append) rfl ?_); go_must ((refine w_append flatN (base := U2.heap.size) (e := 28) (.agg #[(.int .i64 0), (.int .i64 0)]) 16 (.slice (some a10) (tds ns (pk (pathI (adjI ns es) ns.length t dd s) k)).length c10) (tds ns (pk (pathI (adjI ns es) ns.length t dd s) k)) [z] rfl rfl Try.underlying23 infoN rfl (by decide) HRT.out (one_rowN LT.out) rfl rfl HZ.out (by have := HKL.out; have := HKP.out; have := HPL.out; have := HDU.out; have := HLN.out; rw [HKL.out]; omega) ?_); intro B9 n9 p9 wt hn9_ hp9_ hr_ hg_ ho_; obtain rfl : n9 = ((tds ns (pk (pathI (adjI ns es) ns.length t dd s) k)) ++ [z]).length := hn9_; have HR9 := Aside0.mk hr_; replace H2 := Aside0.mk (H2.out.grown hg_ H2.out.size (fun k hk => Kd.R_base HRT.out k hk)); replace HZ := Aside0.mk (Nat.le_trans HZ.out hg_.size); clear hp9_ hr_ hg_ ho_ HRT)))
                go_roundw
                case rel => exact ⟨k + 1, uu, B9, p9, HST.out, by rw [HXU.out], by rw [pk_next HST.out, tds_snoc, List.length_append]; rfl, by rw [pk_next HST.out, tds_snoc, HZU.out]; exact HR9.out, HZ.out, H2.out⟩
                case measure => simp [intOf]; omega
              · have hnb : (xu == xv - 1) = false := beq_false_of_ne heq
                have HNE := Aside0.mk heq
                clear heq
                go_wp2_with (fail)
                have ZL9 := L9
                refine region_bp [] sPb11 (by kernel_rfl) sPb11_ok (by decide) (fun d _ _ _ _ h => by cases d <;> exact h) ?_
                intro u hb
                have hS := hb
                replace H2 := Aside0.mk (below_step H2.out hb); replace HRT := Aside0.mk (Kd.R_below HRT.out hb); replace HZ := Aside0.mk (Nat.le_trans HZ.out hb.size)
                replace L9 := Aside0.mk (blk_below L9.out hb)
                replace HC11 := Aside0.mk (Kd.C_below (HC11.out) hb)
                (try clear c0 c1)
                obtain ⟨c0, c1⟩ := cs2 (L9.out)
                clear hb
                repeat (first | (refine p_off hS gt_ (by rfl) ?_; intro a_ ha_; (simp only [Act.put, List.setIfInBounds_toArray, List.set_cons_zero, List.set_cons_succ] at ha_); subst ha_) | (refine p_on (v := ?_) hS gt_ (by rfl) ?_ ?_; rotate_left; (· rintro w_ hS_; obtain ⟨c0_, c1_⟩ := cs2 (blk_below ZL9.out hS_); have m0_ := pw_cell_below hS_ m0; have m1_ := pw_cell_below hS_ m1; have k0_ := pw_cell_below hS_ k0; go_simp; with_reducible rfl); intro a_ ha_; (simp only [Act.put, List.setIfInBounds_toArray, List.set_cons_zero, List.set_cons_succ] at ha_); subst ha_) | (refine p_poff gt_ (by rfl) ?_; intro a_ ha_; (simp only [Act.put, List.setIfInBounds_toArray, List.set_cons_zero, List.set_cons_succ] at ha_); subst ha_) | (refine p_pon (v := ?_) gt_ (by rfl) ?_ ?_; rotate_left; (· go_simp; with_reducible rfl); intro a_ ha_; (simp only [Act.put, List.setIfInBounds_toArray, List.set_cons_zero, List.set_cons_succ] at ha_); subst ha_) | (refine p_ooff hS gt_ (by rfl) ?_; intro a_ ha_; (simp only [Act.put, List.setIfInBounds_toArray, List.set_cons_zero, List.set_cons_succ] at ha_); subst ha_) | (refine p_loff gt_ (by rfl) ?_; intro a_ ha_; (simp only [Act.put, List.setIfInBounds_toArray, List.set_cons_zero, List.set_cons_succ] at ha_); subst ha_) | (refine p_call (f := 101) (args := #[.agg #[.slice (some a1) ns.length c, .slice B es.length d], .agg #[.int .i64 z.lab, .int .i64 z.num]]) Try.func101 (by kernel_rfl) rfl gt_ (by rfl) (by rfl) mp_ ?_; (refine (place_as HPZ.out (some a1) c B d _ (HR2.out.below H2.out) HOG.out).mono ?_); rintro e_ u_ ⟨rfl, hb⟩; replace H2 := Aside0.mk (below_step H2.out hb); replace HRT := Aside0.mk (Kd.R_below HRT.out hb); replace HZ := Aside0.mk (Nat.le_trans HZ.out hb.size); replace L9 := Aside0.mk (blk_below L9.out hb); replace HC11 := Aside0.mk (Kd.C_below (HC11.out) hb); (try clear c0 c1); obtain ⟨c0, c1⟩ := cs2 (L9.out); replace hS := below_step hS hb; refine ⟨_, rfl, hS, fun a_ ha_ => ?_⟩; (simp only [Act.put, List.setIfInBounds_toArray, List.set_cons_zero, List.set_cons_succ] at ha_); subst ha_; clear hb))
                refine p_fin ?_
                clear hS ZL9
                clear m0 m1 k0 hw1
                go_wp2_with (fail)
                go_roundw
                case rel => exact ⟨j + 1, HJM.out, by go_num, fun i hi hij => by
                  rcases Nat.lt_succ_iff_lt_or_eq.1 hij with h | rfl
                  · exact HNO.out i hi h
                  · rw [HUJ.out, HXU.out]; exact HNE.out, HC11.out, HRT.out, HZ.out, H2.out⟩
                case measure => have := HJM.out; simp [intOf]; omega
          · have HKD := Aside0.mk (show k = dd by have h1 := HVD.out; rw [HXV.out] at h1; have := HKP.out; have := HPL.out; omega)
            have HPK := Aside0.mk (show pk (pathI (adjI ns es) ns.length t dd s) k = (pathI (adjI ns es) ns.length t dd s) from pk_all (by rw [HPL.out, HKD.out]; exact Nat.le_refl _))
            have HLQ := Aside0.mk (show (tds ns (pk (pathI (adjI ns es) ns.length t dd s) k)).length = (wPath ns es x y).length by rw [HPK.out, HW2.out])
            have HRC := Aside0.mk (Kd.R_reads' HRT.out).2.2
            have HRL := Aside0.mk (Kd.R_reads' HRT.out).2.1
            rw [HPK.out, ← HW2.out] at HRC HRL
            go_wp2_with (fail)
            exact bodyPost_ret (results_tmp2 rfl _ _ _) rfl ⟨by rw [HW1.out]; exact ⟨A10, c10, by rw [← HLQ.out]; rfl, HRC.out, HRL.out⟩, below_step HB2.out H2.out⟩
    · have HW := Aside0.mk (show wHas ns es x y = false from wHas_false fun h => hin ⟨h.2.1, h.2.2.1⟩)
      obtain ⟨px, hpx⟩ : ∃ p, placeI ns x = p := ⟨_, rfl⟩
      obtain ⟨py, hpy⟩ : ∃ p, placeI ns y = p := ⟨_, rfl⟩
      have HPx := Aside0.mk hpx
      have HPy := Aside0.mk hpy
      have hor : px < 0 ∨ ¬ px < 0 ∧ py < 0 := by
        by_cases hx : x ∈ ns
        · refine .inr ⟨by rw [← hpx, placeI_in hx]; omega, ?_⟩
          rw [← hpy, placeI_out fun h => hin ⟨hx, h⟩]
          decide
        · exact .inl (by rw [← hpx, placeI_out hx]; decide)
      clear hin hpx hpy
      rcases hor with h1 | ⟨h1, h2⟩
      all_goals
        go_enter Try.func62, Try.ntmps62
        go_wp2_with (first | (go_at_call 33; go_must ((refine (sGraphOk_calls A c ns B d es _ (HR.out.below HB.out) (by have := HLK.out; omega) (by have := HLK.out; omega)).mono ?_); rintro e u_ ⟨rfl, hb⟩; rw [HOK.out]; replace HB := Aside0.mk (below_step HB.out hb); replace L0 := Aside0.mk (blk_below L0.out hb); replace L1 := Aside0.mk (blk_below L1.out hb); replace L2 := Aside0.mk (blk_below L2.out hb); (try clear c0 c1); obtain ⟨c0, c1⟩ := cs2 (L0.out); (try clear e0 e1); obtain ⟨e0, e1⟩ := cs2 (L1.out); (try clear f0 f1); obtain ⟨f0, f1⟩ := cs2 (L2.out); clear hb)) | (go_at_call 101; ((with_reducible refine (placeA_as A c ns B d es x _ _ (HR.out.below HB.out) HOG.out HPx.out).mono ?_); rintro e u_ ⟨rfl, hb⟩; replace HB := Aside0.mk (below_step HB.out hb); replace L0 := Aside0.mk (blk_below L0.out hb); replace L1 := Aside0.mk (blk_below L1.out hb); replace L2 := Aside0.mk (blk_below L2.out hb); (try clear c0 c1); obtain ⟨c0, c1⟩ := cs2 (L0.out); (try clear e0 e1); obtain ⟨e0, e1⟩ := cs2 (L1.out); (try clear f0 f1); obtain ⟨f0, f1⟩ := cs2 (L2.out); clear hb)) | (go_at_call 101; ((with_reducible refine (placeA_as A c ns B d es y _ _ (HR.out.below HB.out) HOG.out HPy.out).mono ?_); rintro e u_ ⟨rfl, hb⟩; replace HB := Aside0.mk (below_step HB.out hb); replace L0 := Aside0.mk (blk_below L0.out hb); replace L1 := Aside0.mk (blk_below L1.out hb); replace L2 := Aside0.mk (blk_below L2.out hb); (try clear c0 c1); obtain ⟨c0, c1⟩ := cs2 (L0.out); (try clear e0 e1); obtain ⟨e0, e1⟩ := cs2 (L1.out); (try clear f0 f1); obtain ⟨f0, f1⟩ := cs2 (L2.out); clear hb)) | ((with_reducible refine gate_dst (N := 28) rfl ?_); go_must ((refine w_lit #[] 28 0 rfl (by go_simp; (first | done | rfl)) ?_); intro g5 u_ hge_ hb0_ hb; replace HB := Aside0.mk (below_step HB.out hb); replace L0 := Aside0.mk (blk_below L0.out hb); replace L1 := Aside0.mk (blk_below L1.out hb); replace L2 := Aside0.mk (blk_below L2.out hb); (try clear c0 c1); obtain ⟨c0, c1⟩ := cs2 (L0.out); (try clear e0 e1); obtain ⟨e0, e1⟩ := cs2 (L1.out); (try clear f0 f1); obtain ⟨f0, f1⟩ := cs2 (L2.out); clear hge_ hb0_ hb)))
        exact bodyPost_ret (results_tmp2 rfl _ _ _) rfl ⟨RetP.no _ HW.out _ _ (C_zero _ _) rfl, HB.out⟩
end Go.Proofs.Ytogmbeifbjgphaa.R
