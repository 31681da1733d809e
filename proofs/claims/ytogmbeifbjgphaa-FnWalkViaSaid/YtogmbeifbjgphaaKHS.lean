/- impl.WalkPath. -/
import Derived.Test.YtogmbeifbjgphaaKHL
import Derived.Test.YtogmbeifbjgphaaKHP
namespace Go.Proofs.Ytogmbeifbjgphaa.R
open Go.RowKit Go.Proofs.YtogmbeifbjgphaaV.PrintWords Go.Proofs.YtogmbeifbjgphaaV.PrintLast Go.Proofs.YtogmbeifbjgphaaV.PrintMore Go.Proofs.Ytogmbeifbjgphaa.M
set_option linter.unusedVariables false
set_option linter.unusedSimpArgs false
attribute [local go_sem high] eqN eqE
abbrev sPa3 : Pl := (.tk 0 (.tk 1 (.tk 3 (.tk 4 (.nd .one 2 (.nd .one 5 (.tk 6 (.tk 7 .fin))))))))
theorem sPa3_ok : planB .any (opsOf Try.f61 3) [] sPa3 (Array.replicate (opsOf Try.f61 3).size false) = true := by kernel_rfl
abbrev sPa15 : Pl := (.tk 0 (.tk 1 (.tk 2 (.tk 3 (.tk 4 (.tk 5 (.tk 6 (.tk 7 (.tk 8 (.tk 9 .fin))))))))))
theorem sPa15_ok : planB .any (opsOf Try.f61 15) [] sPa15 (Array.replicate (opsOf Try.f61 15).size false) = true := by kernel_rfl
/-- What comes back of a way: nodes, and whether there is one. -/
def RetP (xs : List Nd) (v : Bool) (e : Ending) (w' : World) : Prop := ∃ A' c', e = .returned (.tuple #[.slice A' xs.length c', .bool v]) ∧ kN.C w' A' xs.length xs ∧ xs.length ≤ c'
theorem nodePlace_as (A : Option Addr) (c : Nat) (ns : List Nd) (B : Option Addr) (d : Nat) (es : List Eg) (n : Nd) (p : Int) (w : World) (hr : GR w A c ns B d es) (hns : NsOk ns) (h : placeI ns n = p) :
    Calls Try.prog 133 #[.agg #[.slice A ns.length c, .slice B es.length d], .agg #[.int .i64 n.lab, .int .i64 n.num]] w fun e w' => e = .returned (.int .i64 p) ∧ Below w.heap.size w w' := by
  subst h
  exact nodePlace_calls A c ns B d es n w hr hns
theorem stepsFrom_C (adj : Nat → Nat → Bool) (n s : Nat) (A : Option Addr) (c : Nat) (w : World) (hL : (Kd.slice 3 (Kd.int .i64)).C w A n ((List.range n).map (nearZ adj n))) (hn : n ≤ 1000) (hs : s < n) (ha : ∀ u v, adj u v = true → u < n ∧ v < n) :
    Calls Try.prog 134 #[.slice A n c, .int .i64 (s : Int)] w fun e w' => ∃ ad B d m, e = .returned (.tuple #[.slice (some ad) n n, .slice B m d]) ∧ (Kd.int .i64).C w' (some ad) n (distL adj n s) ∧ Below w.heap.size w w' :=
  (stepsFrom_calls adj n s A c w hL hn hs ha).mono fun e w' ⟨g, B, d, q, h1, h2, _, _, _, _, _, _, hb⟩ => ⟨_, B, d, _, h1, by
    have h3 := h2.C (fun _ => rfl) (by rw [distL_length]; omega)
    rwa [distL_length] at h3, hb⟩
theorem wHas_false {ns : List Nd} {es : List Eg} {x y : Nd} (h : ¬ (OkG ns es ∧ x ∈ ns ∧ y ∈ ns ∧ 0 ≤ dist (adjI ns es) (idx ns y) (idx ns x))) : wHas ns es x y = false := by
  rw [Bool.eq_false_iff]
  intro h1
  unfold wHas at h1
  simp only [Bool.and_eq_true, decide_eq_true_eq] at h1
  exact h ⟨okG_true.1 h1.1, h1.2.1, h1.2.2.1, h1.2.2.2⟩
theorem wHas_true {ns : List Nd} {es : List Eg} {x y : Nd} (h1 : OkG ns es) (h2 : x ∈ ns) (h3 : y ∈ ns) (h4 : 0 ≤ dist (adjI ns es) (idx ns y) (idx ns x)) : wHas ns es x y = true := by
  unfold wHas
  simp only [Bool.and_eq_true, decide_eq_true_eq]
  exact ⟨okG_true.2 h1, h2, h3, h4⟩
theorem wPath_nil {ns : List Nd} {es : List Eg} {x y : Nd} (h : wHas ns es x y = false) : wPath ns es x y = [] := if_neg (by rw [h]; exact Bool.false_ne_true)
theorem wPath_of {ns : List Nd} {es : List Eg} {x y : Nd} (h : wHas ns es x y = true) : wPath ns es x y = tds ns (pathI (adjI ns es) ns.length (idx ns y) (dist (adjI ns es) (idx ns y) (idx ns x)).toNat (idx ns x)) := if_pos h
theorem RetP.no {ns : List Nd} {es : List Eg} {x y : Nd} (w' : World) (h : wHas ns es x y = false) {e : Ending} (A' : Option Addr) (c' : Nat) (hc : kN.C w' A' 0 []) (he : e = .returned (.tuple #[.slice A' 0 c', .bool false])) : RetP (wPath ns es x y) (wHas ns es x y) e w' := by
  rw [wPath_nil h, h]
  exact ⟨A', c', he, hc, Nat.zero_le _⟩
/-- A way, its first k + 1 places. -/
def pk (p : List Nat) (k : Nat) : List Nat := p.take (k + 1)
theorem pk_len {p : List Nat} {k : Nat} (h : k < p.length) : (pk p k).length = k + 1 := by
  unfold pk
  rw [List.length_take]
  omega
theorem pk_next {p : List Nat} {k v : Nat} (h : p[k + 1]? = some v) : pk p (k + 1) = pk p k ++ [v] := by
  obtain ⟨h1, h2⟩ := List.getElem?_eq_some_iff.1 h
  unfold pk
  rw [List.take_succ_eq_append_getElem h1, h2]
theorem pk_all {p : List Nat} {k : Nat} (h : p.length ≤ k + 1) : pk p k = p := List.take_of_length_le h
theorem pk_zero {p : List Nat} {s : Nat} (h : p[0]? = some s) : pk p 0 = [s] := by
  obtain ⟨h1, h2⟩ := List.getElem?_eq_some_iff.1 h
  unfold pk
  rw [List.take_succ_eq_append_getElem h1, h2]
  rfl
set_option maxHeartbeats 25600000 in
set_option maxRecDepth 100000 in
theorem walkPath_calls (A : Option Addr) (c : Nat) (ns : List Nd) (B : Option Addr) (d : Nat) (es : List Eg) (x y : Nd) (w : World) (hr : GR w A c ns B d es) :
    Calls Try.prog 61 #[.agg #[.slice A ns.length c, .slice B es.length d], .agg #[.int .i64 x.lab, .int .i64 x.num], .agg #[.int .i64 y.lab, .int .i64 y.num]] w fun e w' => RetP (wPath ns es x y) (wHas ns es x y) e w' ∧ Below w.heap.size w w' := by
  have HR := Aside0.mk hr
  clear hr
  obtain ⟨v, hv⟩ : ∃ v, okG ns es = v := ⟨_, rfl⟩
  have HOK := Aside0.mk hv
  clear hv
  obtain ⟨L0, L1, L2, HB⟩ := al3 w #[.slice A ns.length c, .slice B es.length d] #[.int .i64 x.lab, .int .i64 x.num] #[.int .i64 y.lab, .int .i64 y.num] 26 28 28
  cases v
  · have HW := Aside0.mk (show wHas ns es x y = false from wHas_false fun h => okG_false.1 HOK.out h.1)
    go_enter Try.func61, Try.ntmps61
    go_wp2_with (first | (go_at_call 36; go_must ((refine (graphOk_calls A c ns B d es _ (Kd.C_below HR.out.cn HB.out) (Kd.C_below HR.out.ce HB.out)).mono ?_); rintro e u_ ⟨rfl, hb⟩; rw [HOK.out]; replace HB := Aside0.mk (below_step HB.out hb); replace L0 := Aside0.mk (blk_below L0.out hb); replace L1 := Aside0.mk (blk_below L1.out hb); replace L2 := Aside0.mk (blk_below L2.out hb); (try clear c0 c1); obtain ⟨c0, c1⟩ := cs2 (L0.out); (try clear e0 e1); obtain ⟨e0, e1⟩ := cs2 (L1.out); (try clear f0 f1); obtain ⟨f0, f1⟩ := cs2 (L2.out); clear hb)))
    exact bodyPost_ret (results_tmp2 rfl _ _ _) rfl ⟨RetP.no _ HW.out none 0 (Kd.C_nil _ _) rfl, HB.out⟩
  · have HOG := Aside0.mk (okG_true.1 HOK.out)
    have HNS := Aside0.mk (NsOk.mk HOG.out.nok HOG.out.nasc HOG.out.nfew)
    have HLN := Aside0.mk HNS.out.len
    by_cases hin : x ∈ ns ∧ y ∈ ns
    · obtain ⟨s, hs⟩ : ∃ s, idx ns x = s := ⟨_, rfl⟩
      obtain ⟨t, ht⟩ : ∃ s, idx ns y = s := ⟨_, rfl⟩
      have HPx := Aside0.mk (show placeI ns x = (s : Int) by rw [placeI_in hin.1, hs])
      have HPy := Aside0.mk (show placeI ns y = (t : Int) by rw [placeI_in hin.2, ht])
      have HSN := Aside0.mk (show s < ns.length by rw [← hs]; exact idx_lt hin.1)
      have HTN := Aside0.mk (show t < ns.length by rw [← ht]; exact idx_lt hin.2)
      have HXA := Aside0.mk (show at_ ns s = x by rw [← hs]; exact at_idx hin.1)
      have hs0 : ¬ ((s : Nat) : Int) < 0 := by omega
      have ht0 : ¬ ((t : Nat) : Int) < 0 := by omega
      have hsn : (s : Int) < (ns.length : Int) := by have := HSN.out; omega
      obtain ⟨x0, hx0⟩ : ∃ v, dist (adjI ns es) t s = v := ⟨_, rfl⟩
      have HX0 := Aside0.mk hx0
      have HHS := Aside0.mk (show 0 ≤ x0 → wHas ns es x y = true ∧ wPath ns es x y = tds ns (pathI (adjI ns es) ns.length t x0.toNat s) from fun h => by
        have h1 := wHas_true HOG.out hin.1 hin.2 (by rw [ht, hs, hx0]; exact h)
        exact ⟨h1, by rw [wPath_of h1, ht, hs, hx0]⟩)
      have HHN := Aside0.mk (show x0 < 0 → wHas ns es x y = false from fun h => wHas_false fun h1 => by
        have h2 := h1.2.2.2
        rw [ht, hs, hx0] at h2
        omega)
      clear hin hs ht hx0
      go_enter Try.func61, Try.ntmps61
      go_wp2_with (first | (go_at_call 36; go_must ((refine (graphOk_calls A c ns B d es _ (Kd.C_below HR.out.cn HB.out) (Kd.C_below HR.out.ce HB.out)).mono ?_); rintro e u_ ⟨rfl, hb⟩; rw [HOK.out]; replace HB := Aside0.mk (below_step HB.out hb); replace L0 := Aside0.mk (blk_below L0.out hb); replace L1 := Aside0.mk (blk_below L1.out hb); replace L2 := Aside0.mk (blk_below L2.out hb); (try clear c0 c1); obtain ⟨c0, c1⟩ := cs2 (L0.out); (try clear e0 e1); obtain ⟨e0, e1⟩ := cs2 (L1.out); (try clear f0 f1); obtain ⟨f0, f1⟩ := cs2 (L2.out); clear hb)))
      have ZL0 := L0
      have ZL1 := L1
      have ZL2 := L2
      refine region_bp [] sPa3 (by kernel_rfl) sPa3_ok (by decide) (fun d _ _ _ _ h => by cases d <;> exact h) ?_
      intro u hb
      have hS := hb
      replace HB := Aside0.mk (below_step HB.out hb)
      replace L0 := Aside0.mk (blk_below L0.out hb)
      replace L1 := Aside0.mk (blk_below L1.out hb)
      replace L2 := Aside0.mk (blk_below L2.out hb)
      (try clear c0 c1)
      obtain ⟨c0, c1⟩ := cs2 (L0.out)
      (try clear e0 e1)
      obtain ⟨e0, e1⟩ := cs2 (L1.out)
      (try clear f0 f1)
      obtain ⟨f0, f1⟩ := cs2 (L2.out)
      clear hb
      repeat (first | (refine p_off hS gt_ (by rfl) ?_; intro a_ ha_; (simp only [Act.put, List.setIfInBounds_toArray, List.set_cons_zero, List.set_cons_succ] at ha_); subst ha_) | (refine p_on (v := ?_) hS gt_ (by rfl) ?_ ?_; rotate_left; (· rintro w_ hS_; obtain ⟨c0_, c1_⟩ := cs2 (blk_below ZL0.out hS_); obtain ⟨e0_, e1_⟩ := cs2 (blk_below ZL1.out hS_); obtain ⟨f0_, f1_⟩ := cs2 (blk_below ZL2.out hS_); go_simp; with_reducible rfl); intro a_ ha_; (simp only [Act.put, List.setIfInBounds_toArray, List.set_cons_zero, List.set_cons_succ] at ha_); subst ha_) | (refine p_poff gt_ (by rfl) ?_; intro a_ ha_; (simp only [Act.put, List.setIfInBounds_toArray, List.set_cons_zero, List.set_cons_succ] at ha_); subst ha_) | (refine p_pon (v := ?_) gt_ (by rfl) ?_ ?_; rotate_left; (· go_simp; with_reducible rfl); intro a_ ha_; (simp only [Act.put, List.setIfInBounds_toArray, List.set_cons_zero, List.set_cons_succ] at ha_); subst ha_) | (refine p_ooff hS gt_ (by rfl) ?_; intro a_ ha_; (simp only [Act.put, List.setIfInBounds_toArray, List.set_cons_zero, List.set_cons_succ] at ha_); subst ha_) | (refine p_loff gt_ (by rfl) ?_; intro a_ ha_; (simp only [Act.put, List.setIfInBounds_toArray, List.set_cons_zero, List.set_cons_succ] at ha_); subst ha_) | (refine p_call (f := 133) (args := #[.agg #[.slice A ns.length c, .slice B es.length d], .agg #[.int .i64 x.lab, .int .i64 x.num]]) Try.func133 (by kernel_rfl) rfl gt_ (by rfl) (by rfl) mp_ ?_; (refine (nodePlace_as A c ns B d es x (s : Int) _ (HR.out.below HB.out) HNS.out HPx.out).mono ?_); rintro e_ u_ ⟨rfl, hb⟩; replace HB := Aside0.mk (below_step HB.out hb); replace L0 := Aside0.mk (blk_below L0.out hb); replace L1 := Aside0.mk (blk_below L1.out hb); replace L2 := Aside0.mk (blk_below L2.out hb); (try clear c0 c1); obtain ⟨c0, c1⟩ := cs2 (L0.out); (try clear e0 e1); obtain ⟨e0, e1⟩ := cs2 (L1.out); (try clear f0 f1); obtain ⟨f0, f1⟩ := cs2 (L2.out); replace hS := below_step hS hb; refine ⟨_, rfl, hS, fun a_ ha_ => ?_⟩; (simp only [Act.put, List.setIfInBounds_toArray, List.set_cons_zero, List.set_cons_succ] at ha_); subst ha_; clear hb) | (refine p_call (f := 133) (args := #[.agg #[.slice A ns.length c, .slice B es.length d], .agg #[.int .i64 y.lab, .int .i64 y.num]]) Try.func133 (by kernel_rfl) rfl gt_ (by rfl) (by rfl) mp_ ?_; (refine (nodePlace_as A c ns B d es y (t : Int) _ (HR.out.below HB.out) HNS.out HPy.out).mono ?_); rintro e_ u_ ⟨rfl, hb⟩; replace HB := Aside0.mk (below_step HB.out hb); replace L0 := Aside0.mk (blk_below L0.out hb); replace L1 := Aside0.mk (blk_below L1.out hb); replace L2 := Aside0.mk (blk_below L2.out hb); (try clear c0 c1); obtain ⟨c0, c1⟩ := cs2 (L0.out); (try clear e0 e1); obtain ⟨e0, e1⟩ := cs2 (L1.out); (try clear f0 f1); obtain ⟨f0, f1⟩ := cs2 (L2.out); replace hS := below_step hS hb; refine ⟨_, rfl, hS, fun a_ ha_ => ?_⟩; (simp only [Act.put, List.setIfInBounds_toArray, List.set_cons_zero, List.set_cons_succ] at ha_); subst ha_; clear hb))
      refine p_fin ?_
      clear hS ZL0 ZL1 ZL2
      go_upto_region 8 with (first | (go_at_call 129; go_must ((refine (nearPlaces_ad A c ns B d es _ (HR.out.below HB.out) HOG.out).mono ?_); rintro e u_ ⟨adN, rfl, hcn_, hb⟩; have HNP := Aside0.mk hcn_; clear hcn_; replace HB := Aside0.mk (below_step HB.out hb); replace L0 := Aside0.mk (blk_below L0.out hb); replace L1 := Aside0.mk (blk_below L1.out hb); replace L2 := Aside0.mk (blk_below L2.out hb); (try clear c0 c1); obtain ⟨c0, c1⟩ := cs2 (L0.out); (try clear e0 e1); obtain ⟨e0, e1⟩ := cs2 (L1.out); (try clear f0 f1); obtain ⟨f0, f1⟩ := cs2 (L2.out); clear hb)) | (go_at_call 134; go_must ((refine (stepsFrom_C (adjI ns es) ns.length t _ _ _ HNP.out (by have := HLN.out; omega) HTN.out (fun u v h => adjI_lt h)).mono ?_); rintro e U2 ⟨adL, Bq, dq, mq, rfl, hcl_, hb⟩; have HLF := Aside0.mk hcl_; clear hcl_; replace HB := Aside0.mk (below_step HB.out hb); replace L0 := Aside0.mk (blk_below L0.out hb); replace L1 := Aside0.mk (blk_below L1.out hb); replace L2 := Aside0.mk (blk_below L2.out hb); replace HNP := Aside0.mk (Kd.C_below (HNP.out) hb); (try clear c0 c1); obtain ⟨c0, c1⟩ := cs2 (L0.out); (try clear e0 e1); obtain ⟨e0, e1⟩ := cs2 (L1.out); (try clear f0 f1); obtain ⟨f0, f1⟩ := cs2 (L2.out); clear hb)))
      have HB2 := HB
      clear HB
      obtain ⟨aL_, eL_, k0⟩ := int_at HLF.out s HSN.out
      obtain rfl := Option.some.inj eL_
      rw [show (distL (adjI ns es) ns.length t).getD s 0 = x0 by rw [← HX0.out]; exact gt_distL HSN.out] at k0
      clear eL_
      by_cases hneg : x0 < 0
      · have HNG := Aside0.mk hneg
        go_wp2_with (fail)
        exact bodyPost_ret (results_tmp2 rfl _ _ _) rfl ⟨RetP.no _ (HHN.out HNG.out) none 0 (Kd.C_nil _ _) rfl, HB2.out⟩
      · obtain ⟨dd, rfl⟩ : ∃ dd : Nat, x0 = (dd : Int) := ⟨x0.toNat, by omega⟩
        obtain ⟨hw1, hw2⟩ := HHS.out (by omega)
        have HW1 := Aside0.mk hw1
        have HW2 := Aside0.mk hw2
        rw [Int.toNat_natCast] at HW2
        have HDU := Aside0.mk (show dd ≤ ns.length by
          have h1 := far_lt (adj := adjI ns es) (n := ns.length) adjI_sym (fun u v h => adjI_lt h) HTN.out (k := dd) HSN.out HX0.out
          have h2 : sm ns.length (fun u => (decide (0 ≤ dist (adjI ns es) t u)).toNat) ≤ ns.length := sm_lim fun _ _ => toNat_le _
          omega)
        have hdn : (ns.length : Int) ≤ 40 := by have := HLN.out; omega
        obtain ⟨a1, rfl⟩ : ∃ ad, A = some ad := by obtain ⟨ad, e, _⟩ := HR.out.cn.2.2 (by have := HSN.out; omega); exact ⟨ad, e⟩
        have HR2 := Aside0.mk (HR.out.below HB2.out)
        have HPL := Aside0.mk (pathI_length (adj := adjI ns es) (n := ns.length) (b := t) dd s)
        have HPA := Aside0.mk (fun (k v : Nat) (h : (pathI (adjI ns es) ns.length t dd s)[k]? = some v) => pathI_at (b := t) adjI_sym (fun u v h => adjI_lt h) dd s k v HX0.out HSN.out h)
        clear hw1 hw2 hneg
        go_wp2_with (first | ((with_reducible refine gate_dst (N := 45) rfl ?_); go_must ((refine w_lit #[.int .i64 x.lab, .int .i64 x.num] 28 1 rfl (by go_simp; (first | done | rfl)) ?_); intro g7 u_ hge_ hb0_ hb; have HRT := Aside0.mk (one_R (base := U2.heap.size) hb0_ hge_); have HZ := Aside0.mk hb.size; have H2 := Aside0.mk hb; clear k0; clear hge_ hb0_ hb)))
        go_loopw [8, 13, 15, 54] (fun s8 s13 _ _ wr => ∃ (k v : Nat) (A13 : Option Addr) (c13 : Nat), (pathI (adjI ns es) ns.length t dd s)[k]? = some v ∧ s8 = .int .i64 (v : Int) ∧ s13 = .slice A13 (tds ns (pk (pathI (adjI ns es) ns.length t dd s) k)).length c13 ∧ kN.R 28 wr U2.heap.size (fun _ => True) (.slice A13 (tds ns (pk (pathI (adjI ns es) ns.length t dd s) k)).length c13) (tds ns (pk (pathI (adjI ns es) ns.length t dd s) k)) ∧ U2.heap.size ≤ wr.heap.size ∧ Below U2.heap.size U2 wr) (fun s8 _ _ _ _ => (gt (distL (adjI ns es) ns.length t) (intOf s8).toNat).toNat)
        case atStart => exact ⟨0, s, some ⟨g7, 0, none⟩, 1, pathI_head dd s, rfl, by rw [pk_zero (pathI_head dd s)]; rfl, by rw [pk_zero (pathI_head dd s)]; exact (show tds ns [s] = [x] by simp [tds, HXA.out]) ▸ HRT.out, HZ.out, H2.out⟩
        case round =>
          clear HRT HZ H2
          obtain ⟨k, v, A13, c13, hkv, rfl, rfl, hrt_, hz_, h2_⟩ := hrel
          have HKV := Aside0.mk hkv
          have HRT := Aside0.mk hrt_
          have HZ := Aside0.mk hz_
          have H2 := Aside0.mk h2_
          have HKP := Aside0.mk (show k < (pathI (adjI ns es) ns.length t dd s).length from (List.getElem?_eq_some_iff.1 hkv).1)
          obtain ⟨hvn, hvd, -, hnx⟩ := HPA.out k v hkv
          have HVN := Aside0.mk hvn
          have HVD := Aside0.mk hvd
          have HNX := Aside0.mk hnx
          clear hkv hrt_ hz_ h2_ hvn hvd hnx
          by_cases hvt : v = t
          · have hvt2 := hvt.symm
            subst hvt2
            have HKD := Aside0.mk (show k = dd by have h1 := HVD.out; rw [dist_self] at h1; omega)
            have HPK := Aside0.mk (show pk (pathI (adjI ns es) ns.length t dd s) k = (pathI (adjI ns es) ns.length t dd s) from pk_all (by rw [HPL.out, HKD.out]; exact Nat.le_refl _))
            have HLQ := Aside0.mk (show (tds ns (pk (pathI (adjI ns es) ns.length t dd s) k)).length = (wPath ns es x y).length by rw [HPK.out, HW2.out])
            have HRC := Aside0.mk (Kd.R_reads' HRT.out).2.2
            have HRL := Aside0.mk (Kd.R_reads' HRT.out).2.1
            rw [HPK.out, ← HW2.out] at HRC HRL
            go_wp2_with (fail)
            exact bodyPost_ret (results_tmp2 rfl _ _ _) rfl ⟨by rw [HW1.out]; exact ⟨A13, c13, by rw [← HLQ.out]; rfl, HRC.out, HRL.out⟩, below_step HB2.out H2.out⟩
          · have hvt1 : ¬ (v : Int) = (t : Int) := by omega
            have HPOS := Aside0.mk (show 0 < dist (adjI ns es) t v by
              rcases Int.lt_or_eq_of_le (show 0 ≤ dist (adjI ns es) t v by have := HVD.out; have := HKP.out; have := HPL.out; omega) with h | h
              · exact h
              · exact absurd (dist_zero h.symm).symm hvt)
            have hvn1 : (v : Int) < (ns.length : Int) := by have := HVN.out; omega
            obtain ⟨adM_, Ab, cb, eM, rb, hRl, hRC⟩ := row_at (Kd.C_below HNP.out H2.out) v HVN.out
            obtain rfl := Option.some.inj eM
            rw [rows_get HVN.out, nearZ_zs] at rb hRl hRC
            have HRB := Aside0.mk hRC
            have HFB := Aside0.mk (nearI_few (adjI ns es) ns.length v)
            obtain ⟨xv, hxv⟩ : ∃ x, dist (adjI ns es) t v = x := ⟨_, rfl⟩
            have HXV := Aside0.mk hxv
            have hxb : 0 < xv ∧ xv ≤ 40 := by have h1 := HPOS.out; have h2 := HVD.out; rw [hxv] at h1 h2; have := HDU.out; have := HLN.out; omega
            clear hvt hRl hRC eM hxv
            go_wp2_with (fail)
            clear rb
            go_loopw [8, 15, 54] (fun s8 _ s54 wr => ∃ j : Nat, j ≤ (nearI (adjI ns es) ns.length v).length ∧ s8 = .int .i64 (v : Int) ∧ s54 = .int .i64 (j : Int) ∧ (∀ i (hi : i < (nearI (adjI ns es) ns.length v).length), i < j → dist (adjI ns es) t (nearI (adjI ns es) ns.length v)[i] ≠ xv - 1) ∧ (Kd.int .i64).C wr Ab (zs (nearI (adjI ns es) ns.length v)).length (zs (nearI (adjI ns es) ns.length v)) ∧ kN.R 28 wr U2.heap.size (fun _ => True) (.slice A13 (tds ns (pk (pathI (adjI ns es) ns.length t dd s) k)).length c13) (tds ns (pk (pathI (adjI ns es) ns.length t dd s) k)) ∧ U2.heap.size ≤ wr.heap.size ∧ Below U2.heap.size U2 wr) (fun _ _ s54 _ => ((nearI (adjI ns es) ns.length v).length - intOf s54).toNat)
            case atStart => exact ⟨0, Nat.zero_le _, rfl, rfl, fun i _ hi => absurd hi (Nat.not_lt_zero _), HRB.out, HRT.out, HZ.out, H2.out⟩
            case round =>
              clear HRT HZ H2 HRB
              obtain ⟨j, hj, rfl, rfl, hno, hrb_, hrt_, hz_, h2_⟩ := hrel
              have HJ := Aside0.mk hj
              have HNO := Aside0.mk hno
              have HRB := Aside0.mk hrb_
              have HRT := Aside0.mk hrt_
              have HZ := Aside0.mk hz_
              have H2 := Aside0.mk h2_
              clear hj hno hrb_ hrt_ hz_ h2_
              have HZL := Aside0.mk (zs_len (nearI (adjI ns es) ns.length v))
              have HJL := Aside0.mk (show j < (nearI (adjI ns es) ns.length v).length by
                refine Nat.lt_of_not_le fun hle => ?_
                obtain ⟨i, hi, h1⟩ := step_ex (b := t) adjI_sym (fun u v h => adjI_lt h) HPOS.out
                exact HNO.out i hi (by omega) (by rw [h1, HXV.out]))
              have hjl : (j : Int) < ((zs (nearI (adjI ns es) ns.length v)).length : Int) := by have := HZL.out; have := HJL.out; omega
              have hj4 : (j : Int) < 40 := by have := HJL.out; have := HFB.out; omega
              obtain ⟨uu, hu⟩ : ∃ uu, (nearI (adjI ns es) ns.length v)[j]'HJL.out = uu := ⟨_, rfl⟩
              have HUN := Aside0.mk (show uu < ns.length from (nearI_mem.1 (hu ▸ List.getElem_mem HJL.out)).1)
              have hun : (uu : Int) < (ns.length : Int) := by have := HUN.out; omega
              obtain ⟨xu, hxu⟩ : ∃ x, dist (adjI ns es) t uu = x := ⟨_, rfl⟩
              obtain ⟨adR, eR, rR⟩ := int_at HRB.out j (by rw [zs_len]; exact HJL.out)
              cases eR
              rw [zs_get HJL.out, hu] at rR
              obtain ⟨aL_, eL_, k0⟩ := int_at (Kd.C_below HLF.out H2.out) uu HUN.out
              obtain rfl := Option.some.inj eL_
              rw [show (distL (adjI ns es) ns.length t).getD uu 0 = xu by rw [← hxu]; exact gt_distL HUN.out] at k0
              obtain ⟨aL_, eL2_, k1⟩ := int_at (Kd.C_below HLF.out H2.out) v HVN.out
              obtain rfl := Option.some.inj eL2_
              rw [show (distL (adjI ns es) ns.length t).getD v 0 = xv by rw [← HXV.out]; exact gt_distL HVN.out] at k1
              have hw1 : IntKind.i64.wrap (xv - 1) = xv - 1 := by rw [IntKind.wrap_i64]; omega
              have HUJ := Aside0.mk hu
              have HXU := Aside0.mk hxu
              clear eL_ eL2_ hu hxu
              by_cases heq : xu = xv - 1
              · subst heq
                have HST := Aside0.mk (show (pathI (adjI ns es) ns.length t dd s)[k + 1]? = some uu by
                  rw [← HUJ.out, ← step_hit (b := t) adjI_sym (fun u v h => adjI_lt h) HPOS.out HJL.out (by rw [HUJ.out, HXU.out, HXV.out]) (fun i hi => by rw [HXV.out]; exact HNO.out i (by have := HJL.out; omega) hi)]
                  exact HNX.out (by have h1 := HVD.out; rw [HXV.out] at h1; omega))
                obtain ⟨z, hz⟩ : ∃ z, at_ ns uu = z := ⟨_, rfl⟩
                have HZU := Aside0.mk hz
                go_wp2_with (fail)
                refine region_bp [] sPa15 (by kernel_rfl) sPa15_ok (by decide) (fun d _ _ _ _ h => by cases d <;> exact h) ?_
                intro u hb
                have hS := hb
                replace H2 := Aside0.mk (below_step H2.out hb)
                replace HRB := Aside0.mk (Kd.C_below HRB.out hb)
                replace HRT := Aside0.mk (Kd.R_below HRT.out hb)
                replace HZ := Aside0.mk (Nat.le_trans HZ.out hb.size)
                clear hb
                repeat (first | (refine p_off hS gt_ (by rfl) ?_; intro a_ ha_; (simp only [Act.put, List.setIfInBounds_toArray, List.set_cons_zero, List.set_cons_succ] at ha_); subst ha_) | (refine p_on (v := ?_) hS gt_ (by rfl) ?_ ?_; rotate_left; (· rintro w_ hS_; have k0_ := pw_cell_below hS_ k0; have k1_ := pw_cell_below hS_ k1; go_simp; with_reducible rfl); intro a_ ha_; (simp only [Act.put, List.setIfInBounds_toArray, List.set_cons_zero, List.set_cons_succ] at ha_); subst ha_) | (refine p_poff gt_ (by rfl) ?_; intro a_ ha_; (simp only [Act.put, List.setIfInBounds_toArray, List.set_cons_zero, List.set_cons_succ] at ha_); subst ha_) | (refine p_pon (v := ?_) gt_ (by rfl) ?_ ?_; rotate_left; (· go_simp; with_reducible rfl); intro a_ ha_; (simp only [Act.put, List.setIfInBounds_toArray, List.set_cons_zero, List.set_cons_succ] at ha_); subst ha_) | (refine p_ooff hS gt_ (by rfl) ?_; intro a_ ha_; (simp only [Act.put, List.setIfInBounds_toArray, List.set_cons_zero, List.set_cons_succ] at ha_); subst ha_) | (refine p_loff gt_ (by rfl) ?_; intro a_ ha_; (simp only [Act.put, List.setIfInBounds_toArray, List.set_cons_zero, List.set_cons_succ] at ha_); subst ha_))
                refine p_fin ?_
                clear hS 
                clear k0 k1 rR hw1
                have l0 := blk_below (blk_below L0.out (Below.refl _ _)) H2.out
                obtain ⟨c0, c1⟩ := cs2 (l0)
                obtain ⟨a1_, e1_, r0, r1⟩ := nd_at (HR2.out.below H2.out).cn uu HUN.out
                obtain rfl := Option.some.inj e1_
                rw [HZU.out] at r0 r1
                clear e1_ hz
                go_wp2_with (first | ((with_reducible refine gate_dst (N := 76) rfl ?_); go_must ((refine w_lit #[.int .i64 z.lab, .int .i64 z.num] 28 1 rfl (by go_simp; (first | done | rfl)) ?_); intro gl u_ hge_ hb0_ hb; have LT := Aside0.mk hb0_; replace H2 := Aside0.mk (below_step H2.out hb); replace HRT := Aside0.mk (Kd.R_below HRT.out hb); replace HZ := Aside0.mk (Nat.le_trans HZ.out hb.size); clear hge_ hb0_ hb)) | ((with_reducible refine gate_builtin (b := .append) rfl ?_); go_must ((refine w_append flatN (base := U2.heap.size) (e := 28) (.agg #[(.int .i64 0), (.int .i64 0)]) 16 (.slice A13 (tds ns (pk (pathI (adjI ns es) ns.length t dd s) k)).length c13) (tds ns (pk (pathI (adjI ns es) ns.length t dd s) k)) [z] rfl rfl Try.underlying23 infoN rfl (by decide) HRT.out (one_rowN LT.out) rfl rfl HZ.out (by have h_ := pk_len HKP.out; have := HDU.out; have := HKP.out; have := pathI_length (adj := adjI ns es) (n := ns.length) (b := t) dd s; rw [tds_len, h_]; omega) ?_); intro B9 n9 p9 wt hn9_ hp9_ hr_ hg_ ho_; obtain rfl : n9 = (tds ns (pk (pathI (adjI ns es) ns.length t dd s) k) ++ [z]).length := hn9_; have HR9 := Aside0.mk hr_; replace H2 := Aside0.mk (H2.out.grown hg_ H2.out.size (fun k hk => Kd.R_base HRT.out k hk)); replace HZ := Aside0.mk (Nat.le_trans HZ.out hg_.size); clear hp9_ hr_ hg_ ho_ HRT)))
                go_roundw
                case rel => exact ⟨k + 1, uu, B9, p9, HST.out, rfl, by rw [pk_next HST.out, tds_snoc, List.length_append]; rfl, by rw [pk_next HST.out, tds_snoc, HZU.out]; exact HR9.out, HZ.out, H2.out⟩
                case measure =>
                  simp only [intOf, Int.toNat_natCast]
                  rw [gt_distL HUN.out, gt_distL HVN.out, HXU.out, HXV.out]
                  have := HPOS.out
                  rw [HXV.out] at this
                  omega
              · have hnb : (xu == xv - 1) = false := beq_false_of_ne heq
                have HNE := Aside0.mk heq
                clear heq
                go_wp2_with (fail)
                refine region_bp [] sPa15 (by kernel_rfl) sPa15_ok (by decide) (fun d _ _ _ _ h => by cases d <;> exact h) ?_
                intro u hb
                have hS := hb
                replace H2 := Aside0.mk (below_step H2.out hb)
                replace HRB := Aside0.mk (Kd.C_below HRB.out hb)
                replace HRT := Aside0.mk (Kd.R_below HRT.out hb)
                replace HZ := Aside0.mk (Nat.le_trans HZ.out hb.size)
                clear hb
                repeat (first | (refine p_off hS gt_ (by rfl) ?_; intro a_ ha_; (simp only [Act.put, List.setIfInBounds_toArray, List.set_cons_zero, List.set_cons_succ] at ha_); subst ha_) | (refine p_on (v := ?_) hS gt_ (by rfl) ?_ ?_; rotate_left; (· rintro w_ hS_; have k0_ := pw_cell_below hS_ k0; have k1_ := pw_cell_below hS_ k1; go_simp; with_reducible rfl); intro a_ ha_; (simp only [Act.put, List.setIfInBounds_toArray, List.set_cons_zero, List.set_cons_succ] at ha_); subst ha_) | (refine p_poff gt_ (by rfl) ?_; intro a_ ha_; (simp only [Act.put, List.setIfInBounds_toArray, List.set_cons_zero, List.set_cons_succ] at ha_); subst ha_) | (refine p_pon (v := ?_) gt_ (by rfl) ?_ ?_; rotate_left; (· go_simp; with_reducible rfl); intro a_ ha_; (simp only [Act.put, List.setIfInBounds_toArray, List.set_cons_zero, List.set_cons_succ] at ha_); subst ha_) | (refine p_ooff hS gt_ (by rfl) ?_; intro a_ ha_; (simp only [Act.put, List.setIfInBounds_toArray, List.set_cons_zero, List.set_cons_succ] at ha_); subst ha_) | (refine p_loff gt_ (by rfl) ?_; intro a_ ha_; (simp only [Act.put, List.setIfInBounds_toArray, List.set_cons_zero, List.set_cons_succ] at ha_); subst ha_))
                refine p_fin ?_
                clear hS 
                clear k0 k1 hw1
                go_wp2_with (fail)
                go_roundw
                case rel => exact ⟨j + 1, HJL.out, rfl, by go_num, fun i hi hij => by
                  rcases Nat.lt_succ_iff_lt_or_eq.1 hij with h | rfl
                  · exact HNO.out i hi h
                  · rw [HUJ.out, HXU.out]; exact HNE.out, HRB.out, HRT.out, HZ.out, H2.out⟩
                case measure => have := HJL.out; simp [intOf]; omega
    · have HW := Aside0.mk (show wHas ns es x y = false from wHas_false fun h => hin ⟨h.2.1, h.2.2.1⟩)
      obtain ⟨px, hpx⟩ : ∃ p, placeI ns x = p := ⟨_, rfl⟩
      obtain ⟨py, hpy⟩ : ∃ p, placeI ns y = p := ⟨_, rfl⟩
      have HPx := Aside0.mk hpx
      have HPy := Aside0.mk hpy
      have hor : px < 0 ∨ ¬ px < 0 ∧ py < 0 := by
        by_cases hx : x ∈ ns
        · refine .inr ⟨by rw [← hpx, placeI_in hx]; omega, ?_⟩
          rw [← hpy, placeI_out fun h => hin ⟨hx, h⟩]
          decide
        · exact .inl (by rw [← hpx, placeI_out hx]; decide)
      clear hin hpx hpy
      rcases hor with h1 | ⟨h1, h2⟩
      all_goals
        go_enter Try.func61, Try.ntmps61
        go_wp2_with (first | (go_at_call 36; go_must ((refine (graphOk_calls A c ns B d es _ (Kd.C_below HR.out.cn HB.out) (Kd.C_below HR.out.ce HB.out)).mono ?_); rintro e u_ ⟨rfl, hb⟩; rw [HOK.out]; replace HB := Aside0.mk (below_step HB.out hb); replace L0 := Aside0.mk (blk_below L0.out hb); replace L1 := Aside0.mk (blk_below L1.out hb); replace L2 := Aside0.mk (blk_below L2.out hb); (try clear c0 c1); obtain ⟨c0, c1⟩ := cs2 (L0.out); (try clear e0 e1); obtain ⟨e0, e1⟩ := cs2 (L1.out); (try clear f0 f1); obtain ⟨f0, f1⟩ := cs2 (L2.out); clear hb)))
        have ZL0 := L0
        have ZL1 := L1
        have ZL2 := L2
        refine region_bp [] sPa3 (by kernel_rfl) sPa3_ok (by decide) (fun d _ _ _ _ h => by cases d <;> exact h) ?_
        intro u hb
        have hS := hb
        replace HB := Aside0.mk (below_step HB.out hb)
        replace L0 := Aside0.mk (blk_below L0.out hb)
        replace L1 := Aside0.mk (blk_below L1.out hb)
        replace L2 := Aside0.mk (blk_below L2.out hb)
        (try clear c0 c1)
        obtain ⟨c0, c1⟩ := cs2 (L0.out)
        (try clear e0 e1)
        obtain ⟨e0, e1⟩ := cs2 (L1.out)
        (try clear f0 f1)
        obtain ⟨f0, f1⟩ := cs2 (L2.out)
        clear hb
        repeat (first | (refine p_off hS gt_ (by rfl) ?_; intro a_ ha_; (simp only [Act.put, List.setIfInBounds_toArray, List.set_cons_zero, List.set_cons_succ] at ha_); subst ha_) | (refine p_on (v := ?_) hS gt_ (by rfl) ?_ ?_; rotate_left; (· rintro w_ hS_; obtain ⟨c0_, c1_⟩ := cs2 (blk_below ZL0.out hS_); obtain ⟨e0_, e1_⟩ := cs2 (blk_below ZL1.out hS_); obtain ⟨f0_, f1_⟩ := cs2 (blk_below ZL2.out hS_); go_simp; with_reducible rfl); intro a_ ha_; (simp only [Act.put, List.setIfInBounds_toArray, List.set_cons_zero, List.set_cons_succ] at ha_); subst ha_) | (refine p_poff gt_ (by rfl) ?_; intro a_ ha_; (simp only [Act.put, List.setIfInBounds_toArray, List.set_cons_zero, List.set_cons_succ] at ha_); subst ha_) | (refine p_pon (v := ?_) gt_ (by rfl) ?_ ?_; rotate_left; (· go_simp; with_reducible rfl); intro a_ ha_; (simp only [Act.put, List.setIfInBounds_toArray, List.set_cons_zero, List.set_cons_succ] at ha_); subst ha_) | (refine p_ooff hS gt_ (by rfl) ?_; intro a_ ha_; (simp only [Act.put, List.setIfInBounds_toArray, List.set_cons_zero, List.set_cons_succ] at ha_); subst ha_) | (refine p_loff gt_ (by rfl) ?_; intro a_ ha_; (simp only [Act.put, List.setIfInBounds_toArray, List.set_cons_zero, List.set_cons_succ] at ha_); subst ha_) | (refine p_call (f := 133) (args := #[.agg #[.slice A ns.length c, .slice B es.length d], .agg #[.int .i64 x.lab, .int .i64 x.num]]) Try.func133 (by kernel_rfl) rfl gt_ (by rfl) (by rfl) mp_ ?_; (refine (nodePlace_as A c ns B d es x px _ (HR.out.below HB.out) HNS.out HPx.out).mono ?_); rintro e_ u_ ⟨rfl, hb⟩; replace HB := Aside0.mk (below_step HB.out hb); replace L0 := Aside0.mk (blk_below L0.out hb); replace L1 := Aside0.mk (blk_below L1.out hb); replace L2 := Aside0.mk (blk_below L2.out hb); (try clear c0 c1); obtain ⟨c0, c1⟩ := cs2 (L0.out); (try clear e0 e1); obtain ⟨e0, e1⟩ := cs2 (L1.out); (try clear f0 f1); obtain ⟨f0, f1⟩ := cs2 (L2.out); replace hS := below_step hS hb; refine ⟨_, rfl, hS, fun a_ ha_ => ?_⟩; (simp only [Act.put, List.setIfInBounds_toArray, List.set_cons_zero, List.set_cons_succ] at ha_); subst ha_; clear hb) | (refine p_call (f := 133) (args := #[.agg #[.slice A ns.length c, .slice B es.length d], .agg #[.int .i64 y.lab, .int .i64 y.num]]) Try.func133 (by kernel_rfl) rfl gt_ (by rfl) (by rfl) mp_ ?_; (refine (nodePlace_as A c ns B d es y py _ (HR.out.below HB.out) HNS.out HPy.out).mono ?_); rintro e_ u_ ⟨rfl, hb⟩; replace HB := Aside0.mk (below_step HB.out hb); replace L0 := Aside0.mk (blk_below L0.out hb); replace L1 := Aside0.mk (blk_below L1.out hb); replace L2 := Aside0.mk (blk_below L2.out hb); (try clear c0 c1); obtain ⟨c0, c1⟩ := cs2 (L0.out); (try clear e0 e1); obtain ⟨e0, e1⟩ := cs2 (L1.out); (try clear f0 f1); obtain ⟨f0, f1⟩ := cs2 (L2.out); replace hS := below_step hS hb; refine ⟨_, rfl, hS, fun a_ ha_ => ?_⟩; (simp only [Act.put, List.setIfInBounds_toArray, List.set_cons_zero, List.set_cons_succ] at ha_); subst ha_; clear hb))
        refine p_fin ?_
        clear hS ZL0 ZL1 ZL2
        go_wp2_with (fail)
        exact bodyPost_ret (results_tmp2 rfl _ _ _) rfl ⟨RetP.no _ HW.out none 0 (Kd.C_nil _ _) rfl, HB.out⟩
end Go.Proofs.Ytogmbeifbjgphaa.R
