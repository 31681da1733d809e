/- The reference: WalkThrees; impl.countStays, slices.Index and Contains of bools. -/
import Derived.Test.YtogmbeifbjgphaaJB30
import Derived.Test.YtogmbeifbjgphaaJB32
namespace Go.Proofs.Ytogmbeifbjgphaa.R
open Go.RowKit Go.Proofs.YtogmbeifbjgphaaV.PrintWords Go.Proofs.YtogmbeifbjgphaaV.PrintLast Go.Proofs.YtogmbeifbjgphaaV.PrintMore Go.Proofs.Ytogmbeifbjgphaa.M
set_option linter.unusedVariables false
set_option linter.unusedSimpArgs false
attribute [local go_sem high] eqN eqE
abbrev sLj5 : Pl := (.tk 0 (.tk 1 (.tk 2 (.tk 3 (.tk 4 (.tk 5 .fin))))))
theorem sLj5_ok : planB .any (opsOf Try.f131 5) [] sLj5 (Array.replicate (opsOf Try.f131 5).size false) = true := by kernel_rfl
abbrev sWt7 : Pl := (.tk 0 (.tk 1 (.tk 2 (.tk 3 (.tk 4 (.tk 5 (.nd .one 6 (.tk 7 .fin))))))))
theorem sWt7_ok : planB .any (opsOf Try.f51 7) [] sWt7 (Array.replicate (opsOf Try.f51 7).size false) = true := by kernel_rfl
abbrev sWt14 : Pl := (.tk 0 (.tk 1 (.tk 2 (.tk 3 (.tk 4 (.tk 6 (.tk 7 (.tk 8 (.tk 9 (.nd .one 5 (.nd .one 10 (.tk 11 (.tk 12 (.tk 13 (.tk 14 (.tk 15 (.tk 16 (.tk 17 (.tk 18 (.tk 19 (.tk 20 (.tk 21 (.nd .one 22 (.tk 23 .fin))))))))))))))))))))))))
theorem sWt14_ok : planB .any (opsOf Try.f51 14) [] sWt14 (Array.replicate (opsOf Try.f51 14).size false) = true := by kernel_rfl
theorem take_sn3 {l : List Nd} {k : Nat} (h : k < l.length) : l.take (k + 1) = l.take k ++ [at_ l k] := by rw [List.take_succ_eq_append_getElem h, at_lt h]
def StS (w : World) (A : Option Addr) (c : Nat) (ns : List Nd) (B : Option Addr) (d : Nat) (es : List Eg) (A7 : Option Addr) (m : List Nd) (wr : World) : Prop :=
  kN.C wr A7 m.length m ∧ wr.heap[w.heap.size]? = some (.cells #[.slice A ns.length c, .slice B es.length d] 26 (0, 0)) ∧ Below w.heap.size w wr
set_option maxHeartbeats 3200000 in
set_option maxRecDepth 100000 in
theorem joined_calls (A : Option Addr) (c : Nat) (ns : List Nd) (B : Option Addr) (d : Nat) (es : List Eg) (x y : Nd) (v : Bool) (w : World) (hr : GR w A c ns B d es) (hg : OkG ns es) (hv : adjE es x y = v) :
    Calls Try.prog 131 #[.agg #[.slice A ns.length c, .slice B es.length d], .agg #[.int .i64 x.lab, .int .i64 x.num], .agg #[.int .i64 y.lab, .int .i64 y.num]] w fun e w' => e = .returned (.bool v) ∧ Below w.heap.size w w' := by
  have HR := Aside0.mk hr
  have HOG := Aside0.mk hg
  obtain ⟨m, hm⟩ : ∃ m, nearG ns es x = m := ⟨_, rfl⟩
  have HM := Aside0.mk hm
  have HV := Aside0.mk (show y ∈ m ↔ v = true by rw [← hm, mem_near hg, hv])
  have HML := Aside0.mk (show m.length ≤ 40 by rw [← hm]; have := near_len2 hg x; have := (NsOk.mk hg.nok hg.nasc hg.nfew).len; omega)
  clear hr hg hv hm
  obtain ⟨L0, L1, L2, HB⟩ := al3 w #[.slice A ns.length c, .slice B es.length d] #[.int .i64 x.lab, .int .i64 x.num] #[.int .i64 y.lab, .int .i64 y.num] 26 28 28
  go_enter Try.func131, Try.ntmps131
  go_wp2_with (first | (go_at_call 116; go_must ((refine (near_asG HM.out A c B d _ (HR.out.below HB.out) HOG.out).mono ?_); rintro e u_ ⟨A7, c7, rfl, hm_, hl_, hf_, hb⟩; have HC7 := Aside0.mk hm_; clear hm_ hl_ hf_; replace HB := Aside0.mk (below_step HB.out hb); replace L0 := Aside0.mk (blk_below L0.out hb); replace L1 := Aside0.mk (blk_below L1.out hb); replace L2 := Aside0.mk (blk_below L2.out hb); (try clear c0 c1); obtain ⟨c0, c1⟩ := cs2 (L0.out); (try clear e0 e1); obtain ⟨e0, e1⟩ := cs2 (L1.out); (try clear f0 f1); obtain ⟨f0, f1⟩ := cs2 (L2.out); clear hb)))
  go_loopw [8] (fun s8 wr => ∃ k : Nat, k ≤ m.length ∧ s8 = .int .i64 (k : Int) ∧ y ∉ m.take k ∧ kN.C wr A7 m.length m ∧ wr.heap[w.heap.size + 2]? = some (.cells #[.int .i64 y.lab, .int .i64 y.num] 28 (0, 0)) ∧ Below w.heap.size w wr) (fun s8 _ => (m.length - intOf s8).toNat)
  case atStart => exact ⟨0, Nat.zero_le _, rfl, by simp, HC7.out, L2.out, HB.out⟩
  case round =>
    clear HB L0 L1 L2 HC7
    obtain ⟨k, hk_, rfl, hn_, hc7_, l2_, hb_⟩ := hrel
    have HK := Aside0.mk hk_
    have HN := Aside0.mk hn_
    have HC7 := Aside0.mk hc7_
    have L2 := Aside0.mk l2_
    have HB := Aside0.mk hb_
    obtain ⟨f0, f1⟩ := cs2 (L2.out)
    clear hk_ hn_ hc7_ l2_ hb_
    have hm4 : (m.length : Int) ≤ 40 := by have := HML.out; omega
    by_cases hlt : k < m.length
    · have hkl : (k : Int) < (m.length : Int) := by omega
      have HKT := Aside0.mk hlt
      have HTK := Aside0.mk (take_sn3 hlt)
      have HIN := Aside0.mk (at_mem hlt)
      obtain ⟨a7, e7, z0, z1⟩ := nd_at HC7.out k hlt
      cases e7
      obtain ⟨z, hz⟩ : ∃ z, at_ m k = z := ⟨_, rfl⟩
      rw [hz] at z0 z1 HTK HIN
      clear hlt hz
      by_cases hzy : z = y
      · have hne : (z.lab == y.lab && (z.num == y.num)) = true := (nd_eq z y).trans (decide_eq_true hzy)
        have HVT := Aside0.mk (show v = true from HV.out.1 (hzy ▸ HIN.out))
        clear hzy
        go_wp2_with (fail)
        have ZL2 := L2
        refine region_bp [] sLj5 (by kernel_rfl) sLj5_ok (by decide) (fun d _ _ _ _ h => by cases d <;> exact h) ?_
        intro u hb
        have hS := hb
        replace HB := Aside0.mk (below_step HB.out hb)
        replace L2 := Aside0.mk (blk_below L2.out hb)
        replace HC7 := Aside0.mk (Kd.C_below (HC7.out) hb)
        (try clear f0 f1)
        obtain ⟨f0, f1⟩ := cs2 (L2.out)
        clear hb
        repeat (first | (refine p_off hS gt_ (by rfl) ?_; intro a_ ha_; (simp only [Act.put, List.setIfInBounds_toArray, List.set_cons_zero, List.set_cons_succ] at ha_); subst ha_) | (refine p_on (v := ?_) hS gt_ (by rfl) ?_ ?_; rotate_left; (· rintro w_ hS_; obtain ⟨f0_, f1_⟩ := cs2 (blk_below ZL2.out hS_); have z0_ := pw_cell_below hS_ z0; have z1_ := pw_cell_below hS_ z1; go_simp; with_reducible rfl); intro a_ ha_; (simp only [Act.put, List.setIfInBounds_toArray, List.set_cons_zero, List.set_cons_succ] at ha_); subst ha_) | (refine p_poff gt_ (by rfl) ?_; intro a_ ha_; (simp only [Act.put, List.setIfInBounds_toArray, List.set_cons_zero, List.set_cons_succ] at ha_); subst ha_) | (refine p_pon (v := ?_) gt_ (by rfl) ?_ ?_; rotate_left; (· go_simp; with_reducible rfl); intro a_ ha_; (simp only [Act.put, List.setIfInBounds_toArray, List.set_cons_zero, List.set_cons_succ] at ha_); subst ha_) | (refine p_ooff hS gt_ (by rfl) ?_; intro a_ ha_; (simp only [Act.put, List.setIfInBounds_toArray, List.set_cons_zero, List.set_cons_succ] at ha_); subst ha_) | (refine p_loff gt_ (by rfl) ?_; intro a_ ha_; (simp only [Act.put, List.setIfInBounds_toArray, List.set_cons_zero, List.set_cons_succ] at ha_); subst ha_))
        refine p_fin ?_
        clear hS ZL2
        go_wp2_with (fail)
        go_ret
        exact ⟨by rw [HVT.out]; rfl, HB.out⟩
      · have hne : (z.lab == y.lab && (z.num == y.num)) = false := (nd_eq z y).trans (decide_eq_false hzy)
        have HNE := Aside0.mk hzy
        clear hzy
        go_wp2_with (fail)
        have ZL2 := L2
        refine region_bp [] sLj5 (by kernel_rfl) sLj5_ok (by decide) (fun d _ _ _ _ h => by cases d <;> exact h) ?_
        intro u hb
        have hS := hb
        replace HB := Aside0.mk (below_step HB.out hb)
        replace L2 := Aside0.mk (blk_below L2.out hb)
        replace HC7 := Aside0.mk (Kd.C_below (HC7.out) hb)
        (try clear f0 f1)
        obtain ⟨f0, f1⟩ := cs2 (L2.out)
        clear hb
        repeat (first | (refine p_off hS gt_ (by rfl) ?_; intro a_ ha_; (simp only [Act.put, List.setIfInBounds_toArray, List.set_cons_zero, List.set_cons_succ] at ha_); subst ha_) | (refine p_on (v := ?_) hS gt_ (by rfl) ?_ ?_; rotate_left; (· rintro w_ hS_; obtain ⟨f0_, f1_⟩ := cs2 (blk_below ZL2.out hS_); have z0_ := pw_cell_below hS_ z0; have z1_ := pw_cell_below hS_ z1; go_simp; with_reducible rfl); intro a_ ha_; (simp only [Act.put, List.setIfInBounds_toArray, List.set_cons_zero, List.set_cons_succ] at ha_); subst ha_) | (refine p_poff gt_ (by rfl) ?_; intro a_ ha_; (simp only [Act.put, List.setIfInBounds_toArray, List.set_cons_zero, List.set_cons_succ] at ha_); subst ha_) | (refine p_pon (v := ?_) gt_ (by rfl) ?_ ?_; rotate_left; (· go_simp; with_reducible rfl); intro a_ ha_; (simp only [Act.put, List.setIfInBounds_toArray, List.set_cons_zero, List.set_cons_succ] at ha_); subst ha_) | (refine p_ooff hS gt_ (by rfl) ?_; intro a_ ha_; (simp only [Act.put, List.setIfInBounds_toArray, List.set_cons_zero, List.set_cons_succ] at ha_); subst ha_) | (refine p_loff gt_ (by rfl) ?_; intro a_ ha_; (simp only [Act.put, List.setIfInBounds_toArray, List.set_cons_zero, List.set_cons_succ] at ha_); subst ha_))
        refine p_fin ?_
        clear hS ZL2
        go_wp2_with (fail)
        go_roundw
        case rel => exact ⟨k + 1, HKT.out, by go_num, by rw [HTK.out, List.mem_append, List.mem_singleton]; exact fun h => h.elim HN.out (fun e => HNE.out e.symm), HC7.out, L2.out, HB.out⟩
        case measure => have := HKT.out; simp [intOf]; omega
    · have hkl : ¬ (k : Int) < (m.length : Int) := by omega
      have HVF := Aside0.mk (show v = false by
        rw [Bool.eq_false_iff]
        intro h
        have h1 := HV.out.2 h
        rw [← List.take_of_length_le (show m.length ≤ k by omega)] at h1
        exact HN.out h1)
      clear hlt
      go_wp2_with (fail)
      go_ret
      exact ⟨by rw [HVF.out]; rfl, HB.out⟩
set_option maxHeartbeats 25600000 in
set_option maxRecDepth 100000 in
theorem sWalkThrees_calls (A : Option Addr) (c : Nat) (ns : List Nd) (B : Option Addr) (d : Nat) (es : List Eg) (w : World) (hr : GR w A c ns B d es) (hl : ns.length ≤ 100 ∧ es.length ≤ 100) :
    Calls Try.prog 51 #[.agg #[.slice A ns.length c, .slice B es.length d]] w fun e w' => e = .returned (.int .i64 (wThrees ns es : Int)) ∧ Below w.heap.size w w' := by
  have HR := Aside0.mk hr
  have HLN := Aside0.mk hl
  clear hr hl
  obtain ⟨v, hv⟩ : ∃ v, okG ns es = v := ⟨_, rfl⟩
  have HOK := Aside0.mk hv
  clear hv
  obtain ⟨L0, HB⟩ := al1 w #[.slice A ns.length c, .slice B es.length d] 26
  cases v
  · have HW := Aside0.mk (show wThrees ns es = 0 from if_neg fun h => by rw [HOK.out] at h; cases h)
    go_enter Try.func51, Try.ntmps51
    go_wp2_with (first | (go_at_call 33; go_must ((refine (sGraphOk_calls A c ns B d es _ (HR.out.below HB.out) (by have := HLN.out; omega) (by have := HLN.out; omega)).mono ?_); rintro e u_ ⟨rfl, hb⟩; rw [HOK.out]; replace HB := Aside0.mk (below_step HB.out hb); replace L0 := Aside0.mk (blk_below L0.out hb); (try clear c0 c1); obtain ⟨c0, c1⟩ := cs2 (L0.out); clear hb)))
    go_ret
    exact ⟨by rw [HW.out]; rfl, HB.out⟩
  · have HOG := Aside0.mk (okG_true.1 HOK.out)
    have HLM := Aside0.mk (NsOk.mk HOG.out.nok HOG.out.nasc HOG.out.nfew).len
    have HW := Aside0.mk (show wThrees ns es = tris (adjI ns es) ns.length from if_pos HOK.out)
    have hnn : (ns.length : Int) ≤ 40 := by have := HLM.out; omega
    go_enter Try.func51, Try.ntmps51
    go_wp2_with (first | (go_at_call 33; go_must ((refine (sGraphOk_calls A c ns B d es _ (HR.out.below HB.out) (by have := HLN.out; omega) (by have := HLN.out; omega)).mono ?_); rintro e u_ ⟨rfl, hb⟩; rw [HOK.out]; replace HB := Aside0.mk (below_step HB.out hb); replace L0 := Aside0.mk (blk_below L0.out hb); (try clear c0 c1); obtain ⟨c0, c1⟩ := cs2 (L0.out); clear hb)))
    go_loopw [3, 4, 5, 6, 7] (fun s3 s4 _ _ _ wr => ∃ k cnt : Nat, k ≤ ns.length ∧ s4 = .int .i64 (k : Int) ∧ s3 = .int .i64 (cnt : Int) ∧ cnt = sm k (G3 (adjI ns es) ns.length) ∧ cnt ≤ 1600 * k ∧ StS w A c ns B d es none [] wr) (fun _ s4 _ _ _ _ => (ns.length - intOf s4).toNat)
    case atStart => exact ⟨0, 0, Nat.zero_le _, rfl, rfl, rfl, Nat.le_refl _, Kd.C_nil _ _, L0.out, HB.out⟩
    case round =>
      clear HB L0
      obtain ⟨k, cnt, hk, rfl, rfl, hcn, hcb, -, l0_, hb_⟩ := hrel
      have HK := Aside0.mk hk
      have HCN := Aside0.mk hcn
      have HCB := Aside0.mk hcb
      have L0 := Aside0.mk l0_
      have HB := Aside0.mk hb_
      obtain ⟨c0, c1⟩ := cs2 (L0.out)
      clear hk hcn hcb l0_ hb_
      by_cases hlt : k < ns.length
      · have hkl : (k : Int) < (ns.length : Int) := by omega
        have HKN := Aside0.mk hlt
        obtain ⟨a1, rfl⟩ : ∃ ad, A = some ad := by obtain ⟨ad, e, _⟩ := HR.out.cn.2.2 (by omega); exact ⟨ad, e⟩
        obtain ⟨y, hy⟩ : ∃ y, at_ ns k = y := ⟨_, rfl⟩
        have HYA := Aside0.mk hy
        have HOKy := Aside0.mk (show okN y = true from HOG.out.nok y (hy ▸ at_mem hlt))
        obtain ⟨m, hm⟩ : ∃ m, nearG ns es y = m := ⟨_, rfl⟩
        have HM := Aside0.mk hm
        have HMA := Aside0.mk (show m = tds ns (nearI (adjI ns es) ns.length k) by rw [← hm, ← hy]; exact near_at HOG.out hlt)
        have HMK := Aside0.mk (show m.length = (nearI (adjI ns es) ns.length k).length by rw [HMA.out, tds_len])
        have HFA := Aside0.mk (nearI_few (adjI ns es) ns.length k)
        have hm4 : (m.length : Int) ≤ 40 := by have := HMK.out; have := HFA.out; have := HLM.out; omega
        clear hlt hy hm
        obtain ⟨a1_, e1, r0, r1⟩ := nd_at (HR.out.below HB.out).cn k HKN.out
        obtain rfl := Option.some.inj e1
        rw [HYA.out] at r0 r1
        clear e1
        go_wp2_with (fail)
        have ZL0 := L0
        refine region_bp [] sWt7 (by kernel_rfl) sWt7_ok (by decide) (fun d _ _ _ _ h => by cases d <;> exact h) ?_
        intro u hb
        have hS := hb
        replace HB := Aside0.mk (below_step HB.out hb)
        replace L0 := Aside0.mk (blk_below L0.out hb)
        (try clear c0 c1)
        obtain ⟨c0, c1⟩ := cs2 (L0.out)
        clear hb
        repeat (first | (refine p_off hS gt_ (by rfl) ?_; intro a_ ha_; (simp only [Act.put, List.setIfInBounds_toArray, List.set_cons_zero, List.set_cons_succ] at ha_); subst ha_) | (refine p_on (v := ?_) hS gt_ (by rfl) ?_ ?_; rotate_left; (· rintro w_ hS_; obtain ⟨c0_, c1_⟩ := cs2 (blk_below ZL0.out hS_); have r0_ := pw_cell_below hS_ r0; have r1_ := pw_cell_below hS_ r1; go_simp; with_reducible rfl); intro a_ ha_; (simp only [Act.put, List.setIfInBounds_toArray, List.set_cons_zero, List.set_cons_succ] at ha_); subst ha_) | (refine p_poff gt_ (by rfl) ?_; intro a_ ha_; (simp only [Act.put, List.setIfInBounds_toArray, List.set_cons_zero, List.set_cons_succ] at ha_); subst ha_) | (refine p_pon (v := ?_) gt_ (by rfl) ?_ ?_; rotate_left; (· go_simp; with_reducible rfl); intro a_ ha_; (simp only [Act.put, List.setIfInBounds_toArray, List.set_cons_zero, List.set_cons_succ] at ha_); subst ha_) | (refine p_ooff hS gt_ (by rfl) ?_; intro a_ ha_; (simp only [Act.put, List.setIfInBounds_toArray, List.set_cons_zero, List.set_cons_succ] at ha_); subst ha_) | (refine p_loff gt_ (by rfl) ?_; intro a_ ha_; (simp only [Act.put, List.setIfInBounds_toArray, List.set_cons_zero, List.set_cons_succ] at ha_); subst ha_) | (refine p_call (f := 116) (args := #[.agg #[.slice (some a1) ns.length c, .slice B es.length d], .agg #[.int .i64 y.lab, .int .i64 y.num]]) Try.func116 (by kernel_rfl) rfl gt_ (by rfl) (by rfl) mp_ ?_; (refine (near_asG HM.out (some a1) c B d _ (HR.out.below HB.out) HOG.out).mono ?_); rintro e_ u_ ⟨A7, c7, rfl, hm_, hl_, hf_, hb⟩; have HC7 := Aside0.mk hm_; clear hm_ hl_ hf_; replace HB := Aside0.mk (below_step HB.out hb); replace L0 := Aside0.mk (blk_below L0.out hb); (try clear c0 c1); obtain ⟨c0, c1⟩ := cs2 (L0.out); replace hS := below_step hS hb; refine ⟨_, rfl, hS, fun a_ ha_ => ?_⟩; (simp only [Act.put, List.setIfInBounds_toArray, List.set_cons_zero, List.set_cons_succ] at ha_); subst ha_; clear hb))
        refine p_fin ?_
        clear hS ZL0
        go_wp2_with (fail)
        clear r0 r1
        go_loopw [3, 6, 7] (fun s3 s6 _ wr => ∃ j cnt' : Nat, j ≤ m.length ∧ s6 = .int .i64 (j : Int) ∧ s3 = .int .i64 (cnt' : Int) ∧ cnt' = cnt + (((nearI (adjI ns es) ns.length k).take j).map (fun b => if k < b then F3 (adjI ns es) ns.length k b else 0)).sum ∧ cnt' ≤ 1600 * k + 40 * j ∧ StS w (some a1) c ns B d es A7 m wr) (fun _ s6 _ _ => (m.length - intOf s6).toNat)
        case atStart => exact ⟨0, cnt, Nat.zero_le _, rfl, rfl, by simp, HCB.out, HC7.out, L0.out, HB.out⟩
        case round =>
          clear HB L0 HC7
          obtain ⟨j, cn2, hj, rfl, rfl, hcn2, hcb2, hc7_, l0_, hb_⟩ := hrel
          have HJ := Aside0.mk hj
          have HCN2 := Aside0.mk hcn2
          have HCB2 := Aside0.mk hcb2
          clear hj hcn2 hcb2
          have HC7 := Aside0.mk hc7_
          have L0 := Aside0.mk l0_
          have HB := Aside0.mk hb_
          obtain ⟨c0, c1⟩ := cs2 (L0.out)
          clear hc7_ l0_ hb_
          by_cases hlt : j < m.length
          · have hjl : (j : Int) < (m.length : Int) := by omega
            have HJL := Aside0.mk hlt
            have hjk : j < (nearI (adjI ns es) ns.length k).length := by have := HMK.out; omega
            obtain ⟨p, hp⟩ : ∃ b, (nearI (adjI ns es) ns.length k)[j] = b := ⟨_, rfl⟩
            have HPV := Aside0.mk (show p < ns.length ∧ adjI ns es k p = true from nearI_mem.1 (hp ▸ List.getElem_mem hjk))
            have HTS := Aside0.mk (take_sum (f := (fun b => if k < b then F3 (adjI ns es) ns.length k b else 0)) hjk hp)
            have HCD := Aside0.mk (show (((nearI (adjI ns es) ns.length k).drop (j + 1)).countP fun q => adjI ns es p q) = F3 (adjI ns es) ns.length k p by rw [← hp]; exact cnt3d hjk)
            have HDL := Aside0.mk (show ((nearI (adjI ns es) ns.length k).drop (j + 1)).length = m.length - (j + 1) by rw [List.length_drop]; have := HMK.out; omega)
            obtain ⟨z, hz⟩ : ∃ z, at_ ns p = z := ⟨_, rfl⟩
            have HZA := Aside0.mk hz
            have HZM := Aside0.mk (show at_ m j = z by rw [HMA.out, tds_get ns hjk, hp, hz])
            have HOKz := Aside0.mk (show okN z = true from HOG.out.nok z (hz ▸ at_mem HPV.out.1))
            have HKP := Aside0.mk (show code y < code z ↔ k < p by rw [← HYA.out, ← hz]; exact at_code HOG.out HKN.out HPV.out.1)
            clear hlt hjk hp hz
            go_wp2_with (fail)
            go_loopw [3, 7] (fun s3 s7 wr => ∃ t cnt' : Nat, t ≤ m.length - (j + 1) ∧ s7 = .int .i64 ((j + 1 + t : Nat) : Int) ∧ s3 = .int .i64 (cnt' : Int) ∧ cnt' = cn2 + (if k < p then (((nearI (adjI ns es) ns.length k).drop (j + 1)).take t).countP (fun q => adjI ns es p q) else 0) ∧ cnt' ≤ 1600 * k + 40 * j + t ∧ StS w (some a1) c ns B d es A7 m wr) (fun _ s7 _ => (m.length - intOf s7).toNat)
            case atStart => exact ⟨0, cn2, Nat.zero_le _, by go_num, rfl, by simp, HCB2.out, HC7.out, L0.out, HB.out⟩
            case round =>
              clear HB L0 HC7
              obtain ⟨t, cn3, ht, rfl, rfl, hcn3, hcb3, hc7_, l0_, hb_⟩ := hrel
              have HT := Aside0.mk ht
              have HCN3 := Aside0.mk hcn3
              have HCB3 := Aside0.mk hcb3
              clear ht hcn3 hcb3
              have HC7 := Aside0.mk hc7_
              have L0 := Aside0.mk l0_
              have HB := Aside0.mk hb_
              obtain ⟨c0, c1⟩ := cs2 (L0.out)
              clear hc7_ l0_ hb_
              have hc3 : (cn3 : Int) ≤ 70000 := by have := HCB3.out; have := HT.out; have := HJL.out; omega
              obtain ⟨i, hi⟩ : ∃ i, j + 1 + t = i := ⟨_, rfl⟩
              have HI := Aside0.mk hi
              rw [hi]
              clear hi
              by_cases hlt : i < m.length
              · have hil : (i : Int) < (m.length : Int) := by omega
                have HIL := Aside0.mk hlt
                have hik : i < (nearI (adjI ns es) ns.length k).length := by have := HMK.out; omega
                have htd : t < ((nearI (adjI ns es) ns.length k).drop (j + 1)).length := by have := HDL.out; have := HI.out; omega
                obtain ⟨q, hq⟩ : ∃ b, (nearI (adjI ns es) ns.length k)[i] = b := ⟨_, rfl⟩
                have HQV := Aside0.mk (show q < ns.length ∧ adjI ns es k q = true from nearI_mem.1 (hq ▸ List.getElem_mem hik))
                have HTC := Aside0.mk (take_cnt (p := fun q => adjI ns es p q) htd (show ((nearI (adjI ns es) ns.length k).drop (j + 1))[t] = q by rw [List.getElem_drop, ← hq]; congr 1; exact HI.out))
                obtain ⟨u1, hu⟩ : ∃ z, at_ ns q = z := ⟨_, rfl⟩
                have hum : at_ m i = u1 := by rw [HMA.out, tds_get ns hik, hq, hu]
                obtain ⟨va, hva⟩ : ∃ v, adjE es z u1 = v := ⟨_, rfl⟩
                have HVA := Aside0.mk hva
                have HVI := Aside0.mk (show adjI ns es p q = va by rw [adjI_at HPV.out.1 HQV.out.1, HZA.out, hu, hva])
                obtain ⟨a1_, e1, r0, r1⟩ := nd_at (HR.out.below HB.out).cn k HKN.out
                obtain rfl := Option.some.inj e1
                rw [HYA.out] at r0 r1
                clear e1
                obtain ⟨a7, e7, z0, z1⟩ := nd_at HC7.out j HJL.out
                cases e7
                rw [HZM.out] at z0 z1
                obtain ⟨a7_, e7, u0, u1y⟩ := nd_at HC7.out i hlt
                obtain rfl := Option.some.inj e7
                rw [hum] at u0 u1y
                have u1x := u1y
                clear hlt hik htd hq hu hum hva e7 u1y
                by_cases hkp : k < p
                · have hcp : code y < code z := HKP.out.2 hkp
                  have HKP1 := Aside0.mk hkp
                  clear hkp
                  cases va
                  all_goals
                    go_wp2_with (fail)
                    have ZL0 := L0
                    refine region_bp [] sWt14 (by kernel_rfl) sWt14_ok (by decide) (fun d _ _ _ _ h => by cases d <;> exact h) ?_
                    intro u hb
                    have hS := hb
                    replace HB := Aside0.mk (below_step HB.out hb)
                    replace L0 := Aside0.mk (blk_below L0.out hb)
                    replace HC7 := Aside0.mk (Kd.C_below (HC7.out) hb)
                    (try clear c0 c1)
                    obtain ⟨c0, c1⟩ := cs2 (L0.out)
                    clear hb
                    repeat (first | (refine p_off hS gt_ (by rfl) ?_; intro a_ ha_; (simp only [Act.put, List.setIfInBounds_toArray, List.set_cons_zero, List.set_cons_succ] at ha_); subst ha_) | (refine p_on (v := ?_) hS gt_ (by rfl) ?_ ?_; rotate_left; (· rintro w_ hS_; obtain ⟨c0_, c1_⟩ := cs2 (blk_below ZL0.out hS_); have r0_ := pw_cell_below hS_ r0; have r1_ := pw_cell_below hS_ r1; have z0_ := pw_cell_below hS_ z0; have z1_ := pw_cell_below hS_ z1; have u0_ := pw_cell_below hS_ u0; have u1_ := pw_cell_below hS_ u1x; go_simp; with_reducible rfl); intro a_ ha_; (simp only [Act.put, List.setIfInBounds_toArray, List.set_cons_zero, List.set_cons_succ] at ha_); subst ha_) | (refine p_poff gt_ (by rfl) ?_; intro a_ ha_; (simp only [Act.put, List.setIfInBounds_toArray, List.set_cons_zero, List.set_cons_succ] at ha_); subst ha_) | (refine p_pon (v := ?_) gt_ (by rfl) ?_ ?_; rotate_left; (· go_simp; with_reducible rfl); intro a_ ha_; (simp only [Act.put, List.setIfInBounds_toArray, List.set_cons_zero, List.set_cons_succ] at ha_); subst ha_) | (refine p_ooff hS gt_ (by rfl) ?_; intro a_ ha_; (simp only [Act.put, List.setIfInBounds_toArray, List.set_cons_zero, List.set_cons_succ] at ha_); subst ha_) | (refine p_loff gt_ (by rfl) ?_; intro a_ ha_; (simp only [Act.put, List.setIfInBounds_toArray, List.set_cons_zero, List.set_cons_succ] at ha_); subst ha_) | (refine p_call (f := 98) (args := #[.agg #[.int .i64 y.lab, .int .i64 y.num]]) Try.func98 (by kernel_rfl) rfl gt_ (by rfl) (by rfl) mp_ ?_; (refine (sCode_calls y HOKy.out _).mono ?_); rintro e_ u_ ⟨rfl, hb⟩; replace HB := Aside0.mk (below_step HB.out hb); replace L0 := Aside0.mk (blk_below L0.out hb); replace HC7 := Aside0.mk (Kd.C_below (HC7.out) hb); (try clear c0 c1); obtain ⟨c0, c1⟩ := cs2 (L0.out); replace hS := below_step hS hb; refine ⟨_, rfl, hS, fun a_ ha_ => ?_⟩; (simp only [Act.put, List.setIfInBounds_toArray, List.set_cons_zero, List.set_cons_succ] at ha_); subst ha_; clear hb) | (refine p_call (f := 98) (args := #[.agg #[.int .i64 z.lab, .int .i64 z.num]]) Try.func98 (by kernel_rfl) rfl gt_ (by rfl) (by rfl) mp_ ?_; (refine (sCode_calls z HOKz.out _).mono ?_); rintro e_ u_ ⟨rfl, hb⟩; replace HB := Aside0.mk (below_step HB.out hb); replace L0 := Aside0.mk (blk_below L0.out hb); replace HC7 := Aside0.mk (Kd.C_below (HC7.out) hb); (try clear c0 c1); obtain ⟨c0, c1⟩ := cs2 (L0.out); replace hS := below_step hS hb; refine ⟨_, rfl, hS, fun a_ ha_ => ?_⟩; (simp only [Act.put, List.setIfInBounds_toArray, List.set_cons_zero, List.set_cons_succ] at ha_); subst ha_; clear hb) | (refine p_call (f := 131) (args := #[.agg #[.slice (some a1) ns.length c, .slice B es.length d], .agg #[.int .i64 z.lab, .int .i64 z.num], .agg #[.int .i64 u1.lab, .int .i64 u1.num]]) Try.func131 (by kernel_rfl) rfl gt_ (by rfl) (by rfl) mp_ ?_; (refine (joined_calls (some a1) c ns B d es z u1 _ _ (HR.out.below HB.out) HOG.out HVA.out).mono ?_); rintro e_ u_ ⟨rfl, hb⟩; replace HB := Aside0.mk (below_step HB.out hb); replace L0 := Aside0.mk (blk_below L0.out hb); replace HC7 := Aside0.mk (Kd.C_below (HC7.out) hb); (try clear c0 c1); obtain ⟨c0, c1⟩ := cs2 (L0.out); replace hS := below_step hS hb; refine ⟨_, rfl, hS, fun a_ ha_ => ?_⟩; (simp only [Act.put, List.setIfInBounds_toArray, List.set_cons_zero, List.set_cons_succ] at ha_); subst ha_; clear hb))
                    refine p_fin ?_
                    clear hS ZL0
                    go_wp2_with (fail)
                    go_roundw
                    case rel => first | exact ⟨t + 1, cn3 + 1, by have := HI.out; have := HIL.out; omega, by have := HI.out; go_num, by go_num, by rw [if_pos HKP1.out, HTC.out, HVI.out, HCN3.out, if_pos HKP1.out]; rfl, by have := HCB3.out; omega, HC7.out, L0.out, HB.out⟩ | exact ⟨t + 1, cn3, by have := HI.out; have := HIL.out; omega, by have := HI.out; go_num, rfl, by rw [if_pos HKP1.out, HTC.out, HVI.out, HCN3.out, if_pos HKP1.out]; rfl, by have := HCB3.out; omega, HC7.out, L0.out, HB.out⟩
                    case measure => have := HIL.out; simp [intOf]; omega
                · have hcp : decide (code y < code z) = false := decide_eq_false fun h => hkp (HKP.out.1 h)
                  have HKP1 := Aside0.mk hkp
                  clear hkp
                  go_wp2_with (fail)
                  have ZL0 := L0
                  refine region_bp [] sWt14 (by kernel_rfl) sWt14_ok (by decide) (fun d _ _ _ _ h => by cases d <;> exact h) ?_
                  intro u hb
                  have hS := hb
                  replace HB := Aside0.mk (below_step HB.out hb)
                  replace L0 := Aside0.mk (blk_below L0.out hb)
                  replace HC7 := Aside0.mk (Kd.C_below (HC7.out) hb)
                  (try clear c0 c1)
                  obtain ⟨c0, c1⟩ := cs2 (L0.out)
                  clear hb
                  repeat (first | (refine p_off hS gt_ (by rfl) ?_; intro a_ ha_; (simp only [Act.put, List.setIfInBounds_toArray, List.set_cons_zero, List.set_cons_succ] at ha_); subst ha_) | (refine p_on (v := ?_) hS gt_ (by rfl) ?_ ?_; rotate_left; (· rintro w_ hS_; obtain ⟨c0_, c1_⟩ := cs2 (blk_below ZL0.out hS_); have r0_ := pw_cell_below hS_ r0; have r1_ := pw_cell_below hS_ r1; have z0_ := pw_cell_below hS_ z0; have z1_ := pw_cell_below hS_ z1; have u0_ := pw_cell_below hS_ u0; have u1_ := pw_cell_below hS_ u1x; go_simp; with_reducible rfl); intro a_ ha_; (simp only [Act.put, List.setIfInBounds_toArray, List.set_cons_zero, List.set_cons_succ] at ha_); subst ha_) | (refine p_poff gt_ (by rfl) ?_; intro a_ ha_; (simp only [Act.put, List.setIfInBounds_toArray, List.set_cons_zero, List.set_cons_succ] at ha_); subst ha_) | (refine p_pon (v := ?_) gt_ (by rfl) ?_ ?_; rotate_left; (· go_simp; with_reducible rfl); intro a_ ha_; (simp only [Act.put, List.setIfInBounds_toArray, List.set_cons_zero, List.set_cons_succ] at ha_); subst ha_) | (refine p_ooff hS gt_ (by rfl) ?_; intro a_ ha_; (simp only [Act.put, List.setIfInBounds_toArray, List.set_cons_zero, List.set_cons_succ] at ha_); subst ha_) | (refine p_loff gt_ (by rfl) ?_; intro a_ ha_; (simp only [Act.put, List.setIfInBounds_toArray, List.set_cons_zero, List.set_cons_succ] at ha_); subst ha_) | (refine p_call (f := 98) (args := #[.agg #[.int .i64 y.lab, .int .i64 y.num]]) Try.func98 (by kernel_rfl) rfl gt_ (by rfl) (by rfl) mp_ ?_; (refine (sCode_calls y HOKy.out _).mono ?_); rintro e_ u_ ⟨rfl, hb⟩; replace HB := Aside0.mk (below_step HB.out hb); replace L0 := Aside0.mk (blk_below L0.out hb); replace HC7 := Aside0.mk (Kd.C_below (HC7.out) hb); (try clear c0 c1); obtain ⟨c0, c1⟩ := cs2 (L0.out); replace hS := below_step hS hb; refine ⟨_, rfl, hS, fun a_ ha_ => ?_⟩; (simp only [Act.put, List.setIfInBounds_toArray, List.set_cons_zero, List.set_cons_succ] at ha_); subst ha_; clear hb) | (refine p_call (f := 98) (args := #[.agg #[.int .i64 z.lab, .int .i64 z.num]]) Try.func98 (by kernel_rfl) rfl gt_ (by rfl) (by rfl) mp_ ?_; (refine (sCode_calls z HOKz.out _).mono ?_); rintro e_ u_ ⟨rfl, hb⟩; replace HB := Aside0.mk (below_step HB.out hb); replace L0 := Aside0.mk (blk_below L0.out hb); replace HC7 := Aside0.mk (Kd.C_below (HC7.out) hb); (try clear c0 c1); obtain ⟨c0, c1⟩ := cs2 (L0.out); replace hS := below_step hS hb; refine ⟨_, rfl, hS, fun a_ ha_ => ?_⟩; (simp only [Act.put, List.setIfInBounds_toArray, List.set_cons_zero, List.set_cons_succ] at ha_); subst ha_; clear hb) | (refine p_call (f := 131) (args := #[.agg #[.slice (some a1) ns.length c, .slice B es.length d], .agg #[.int .i64 z.lab, .int .i64 z.num], .agg #[.int .i64 u1.lab, .int .i64 u1.num]]) Try.func131 (by kernel_rfl) rfl gt_ (by rfl) (by rfl) mp_ ?_; (refine (joined_calls (some a1) c ns B d es z u1 _ _ (HR.out.below HB.out) HOG.out HVA.out).mono ?_); rintro e_ u_ ⟨rfl, hb⟩; replace HB := Aside0.mk (below_step HB.out hb); replace L0 := Aside0.mk (blk_below L0.out hb); replace HC7 := Aside0.mk (Kd.C_below (HC7.out) hb); (try clear c0 c1); obtain ⟨c0, c1⟩ := cs2 (L0.out); replace hS := below_step hS hb; refine ⟨_, rfl, hS, fun a_ ha_ => ?_⟩; (simp only [Act.put, List.setIfInBounds_toArray, List.set_cons_zero, List.set_cons_succ] at ha_); subst ha_; clear hb))
                  refine p_fin ?_
                  clear hS ZL0
                  go_wp2_with (fail)
                  go_roundw
                  case rel => exact ⟨t + 1, cn3, by have := HI.out; have := HIL.out; omega, by have := HI.out; go_num, rfl, by rw [if_neg HKP1.out, HCN3.out, if_neg HKP1.out], by have := HCB3.out; omega, HC7.out, L0.out, HB.out⟩
                  case measure => have := HIL.out; simp [intOf]; omega
              · have hil : ¬ (i : Int) < (m.length : Int) := by omega
                have HTF := Aside0.mk (show cn3 = cn2 + (if k < p then F3 (adjI ns es) ns.length k p else 0) by rw [HCN3.out, List.take_of_length_le (by have := HDL.out; have := HI.out; omega), HCD.out])
                clear hlt
                go_wp2_with (fail)
                go_roundw
                case rel => exact ⟨j + 1, cn3, HJL.out, by go_num, rfl, by rw [HTS.out, HTF.out, HCN2.out]; omega, by have := HCB3.out; have := HT.out; have := HJL.out; have := HMK.out; have := HFA.out; have := HLM.out; omega, HC7.out, L0.out, HB.out⟩
                case measure => have := HJL.out; simp [intOf]; omega
          · have hjl : ¬ (j : Int) < (m.length : Int) := by omega
            have HTF := Aside0.mk (show (((nearI (adjI ns es) ns.length k).take j).map (fun b => if k < b then F3 (adjI ns es) ns.length k b else 0)).sum = G3 (adjI ns es) ns.length k by rw [List.take_of_length_le (by have := HMK.out; omega)]; exact sum3 k)
            clear hlt
            go_wp2_with (fail)
            go_roundw
            case rel => exact ⟨k + 1, cn2, HKN.out, by go_num, rfl, by rw [sm_succ, HCN2.out, HTF.out, HCN.out], by have := HCB2.out; have := HJ.out; have := HMK.out; have := HFA.out; have := HLM.out; omega, Kd.C_nil _ _, L0.out, HB.out⟩
            case measure => have := HKN.out; simp [intOf]; omega
      · have hkl : ¬ (k : Int) < (ns.length : Int) := by omega
        obtain rfl : k = ns.length := by have := HK.out; omega
        clear hlt
        go_wp2_with (fail)
        go_ret
        exact ⟨by rw [HW.out, tris_G3, ← HCN.out]; rfl, HB.out⟩
end Go.Proofs.Ytogmbeifbjgphaa.R
namespace Go.Proofs.Ytogmbeifbjgphaa.R
open Go.RowKit Go.Proofs.YtogmbeifbjgphaaV.PrintWords Go.Proofs.YtogmbeifbjgphaaV.PrintLast Go.Proofs.YtogmbeifbjgphaaV.PrintMore Go.Proofs.Ytogmbeifbjgphaa.M
set_option linter.unusedVariables false
set_option linter.unusedSimpArgs false
attribute [local go_sem high] eqN eqE
theorem gb_at {l : List Bool} {w : World} {g v : Nat} (h : Rw Value.bool 4 w g l) (hv : v < l.length) : w.cell? ⟨g, v, none⟩ = some (.bool (gb l v)) := h.at false v hv
set_option maxHeartbeats 3200000 in
set_option maxRecDepth 100000 in
theorem countStays_calls (q : List Nat) (n g : Nat) (l : List Bool) (A : Option Addr) (c : Nat) (w : World) (hq : (Kd.int .i64).C w A (zs q).length (zs q)) (hr : Rw Value.bool 4 w g l) (hl : l.length = n) (hn : ∀ v ∈ q, v < n) (h1 : q.length ≤ 1000) :
    Calls Try.prog 190 #[.slice A (zs q).length c, .slice (some ⟨g, 0, none⟩) n n] w fun e w' => e = .returned (.int .i64 ((q.countP (gb l) : Nat) : Int)) ∧ Below w.heap.size w w' := by
  have HQ := Aside0.mk hq
  have HR := Aside0.mk hr
  have HL := Aside0.mk hl
  have HN := Aside0.mk hn
  have H1 := Aside0.mk h1
  have HZ := Aside0.mk (zs_len q)
  have hq1 : (q.length : Int) ≤ 1000 := by omega
  have HB := Aside0.mk (Below.refl w.heap.size w)
  clear hq hr hl hn h1
  go_enter Try.func190, Try.ntmps190
  go_wp2_with (fail)
  go_loopw [5, 7, 10] (fun s5 _ s10 wr => ∃ j cnt : Nat, j ≤ q.length ∧ s10 = .int .i64 (j : Int) ∧ s5 = .int .i64 (cnt : Int) ∧ cnt = (q.take j).countP (gb l) ∧ cnt ≤ j ∧ Below w.heap.size w wr) (fun _ _ s10 _ => (q.length - intOf s10).toNat)
  case atStart => exact ⟨0, 0, Nat.zero_le _, rfl, rfl, rfl, Nat.le_refl _, HB.out⟩
  case round =>
    clear HB
    obtain ⟨j, cnt, hj, rfl, rfl, hc, hcb, hb_⟩ := hrel
    have HJ := Aside0.mk hj
    have HC := Aside0.mk hc
    have HCB := Aside0.mk hcb
    have HB := Aside0.mk hb_
    clear hj hc hcb hb_
    by_cases hlt : j < q.length
    · have hjl : (j : Int) < ((zs q).length : Int) := by have := HZ.out; omega
      have hj1 : (j : Int) < 1000 := by omega
      have HJL := Aside0.mk hlt
      obtain ⟨v, hv⟩ : ∃ v, q[j] = v := ⟨_, rfl⟩
      have HV := Aside0.mk (show v < n from HN.out v (hv ▸ List.getElem_mem hlt))
      have hvn : (v : Int) < (n : Int) := by have := HV.out; omega
      have HTC := Aside0.mk (take_cnt (p := gb l) hlt hv)
      obtain ⟨adR, eR, rR⟩ := int_at (Kd.C_below HQ.out HB.out) j (by rw [zs_len]; exact hlt)
      cases eR
      rw [zs_get hlt, hv] at rR
      obtain ⟨bv, hbv⟩ : ∃ b, gb l v = b := ⟨_, rfl⟩
      have k0 := pw_cell_below HB.out (gb_at HR.out (v := v) (by rw [HL.out]; exact HV.out))
      rw [hbv] at k0
      have HBV := Aside0.mk hbv
      have hcn : (cnt : Int) ≤ 1000 := by have := HCB.out; have := HJ.out; omega
      clear hlt hv hbv
      cases bv
      all_goals
        go_wp2_with (fail)
        go_roundw
        case rel => first | exact ⟨j + 1, cnt + 1, HJL.out, by go_num, by go_num, by rw [HTC.out, HBV.out, HC.out]; rfl, by have := HCB.out; omega, HB.out⟩ | exact ⟨j + 1, cnt, HJL.out, by go_num, rfl, by rw [HTC.out, HBV.out, HC.out]; rfl, by have := HCB.out; omega, HB.out⟩
        case measure => have := HJL.out; simp [intOf]; omega
    · have hjl : ¬ (j : Int) < ((zs q).length : Int) := by have := HZ.out; omega
      have HE := Aside0.mk (show cnt = q.countP (gb l) by rw [HC.out, List.take_of_length_le (by omega)])
      clear hlt
      go_wp2_with (fail)
      go_ret
      exact ⟨by rw [← HE.out]; rfl, HB.out⟩
end Go.Proofs.Ytogmbeifbjgphaa.R
