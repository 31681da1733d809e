/- The law FnWalkDist, walked. -/
import Derived.Test.YtogmbeifbjgphaaKHG
import Derived.Test.YtogmbeifbjgphaaKHM
import Derived.Test.YtogmbeifbjgphaaKL9
namespace Go.Proofs.Ytogmbeifbjgphaa.R
open Go.RowKit Go.Proofs.YtogmbeifbjgphaaV.PrintWords Go.Proofs.YtogmbeifbjgphaaV.PrintLast Go.Proofs.YtogmbeifbjgphaaV.PrintMore Go.Proofs.Ytogmbeifbjgphaa.M
set_option linter.unusedVariables false
set_option linter.unusedSimpArgs false
attribute [local go_sem high] eqN eqE
abbrev sWd12 : Pl := (.tk 0 (.tk 1 (.tk 2 (.tk 3 (.tk 4 (.tk 5 (.nd .one 6 (.tk 7 .fin))))))))
theorem sWd12_ok : planB .any (opsOf Try.f13 12) [] sWd12 (Array.replicate (opsOf Try.f13 12).size false) = true := by kernel_rfl
abbrev sWd17 : Pl := (.tk 0 (.tk 1 (.tk 2 (.tk 3 (.tk 4 (.tk 5 (.nd .one 6 (.tk 7 (.tk 8 (.tk 9 .fin))))))))))
theorem sWd17_ok : planB .any (opsOf Try.f13 17) [] sWd17 (Array.replicate (opsOf Try.f13 17).size false) = true := by kernel_rfl
abbrev sWd21 : Pl := (.tk 0 (.tk 1 (.tk 2 (.tk 3 (.tk 4 (.tk 5 (.tk 6 (.tk 7 (.tk 8 (.tk 9 (.tk 10 (.tk 11 (.tk 12 (.tk 13 (.tk 14 (.tk 15 (.tk 16 (.tk 17 (.tk 18 (.tk 19 (.tk 20 (.tk 21 (.tk 22 (.tk 23 .fin))))))))))))))))))))))))
theorem sWd21_ok : planB .any (opsOf Try.f13 21) [] sWd21 (Array.replicate (opsOf Try.f13 21).size false) = true := by kernel_rfl
theorem walkDist_as (A : Option Addr) (c : Nat) (ns : List Nd) (B : Option Addr) (d : Nat) (es : List Eg) (n : Nd) (D : List Int) (w : World) (hr : GR w A c ns B d es) (h : wDist ns es n = D) :
    Calls Try.prog 53 #[.agg #[.slice A ns.length c, .slice B es.length d], .agg #[.int .i64 n.lab, .int .i64 n.num]] w fun e w' => RetI w.heap.size D e w' ∧ Below w.heap.size w w' := by
  subst h
  exact walkDist_calls A c ns B d es n w hr
theorem sWalkDist_as (A : Option Addr) (c : Nat) (ns : List Nd) (B : Option Addr) (d : Nat) (es : List Eg) (n : Nd) (D : List Int) (w : World) (hr : GR w A c ns B d es) (hl : ns.length ≤ 100 ∧ es.length ≤ 100) (h : wDist ns es n = D) :
    Calls Try.prog 55 #[.agg #[.slice A ns.length c, .slice B es.length d], .agg #[.int .i64 n.lab, .int .i64 n.num]] w fun e w' => RetI w.heap.size D e w' ∧ Below w.heap.size w w' := by
  subst h
  exact sWalkDist_calls A c ns B d es n w hr hl
theorem wpAt_as (A : Option Addr) (c : Nat) (ns : List Nd) (B : Option Addr) (d : Nat) (es : List Eg) (n : Nd) (k : Nat) (w : World) (hr : GR w A c ns B d es) (hl : ns.length ≤ 100 ∧ es.length ≤ 100) (h : placeI ns n = (k : Int)) :
    Calls Try.prog 56 #[.agg #[.slice A ns.length c, .slice B es.length d], .agg #[.int .i64 n.lab, .int .i64 n.num]] w fun e w' => e = .returned (.int .i64 (k : Int)) ∧ Below w.heap.size w w' := by
  rw [← h]
  exact wpAt_calls A c ns B d es n w hr.cn (by omega)
theorem wpAt_out (A : Option Addr) (c : Nat) (ns : List Nd) (B : Option Addr) (d : Nat) (es : List Eg) (n : Nd) (w : World) (hr : GR w A c ns B d es) (hl : ns.length ≤ 100 ∧ es.length ≤ 100) (h : placeI ns n = -1) :
    Calls Try.prog 56 #[.agg #[.slice A ns.length c, .slice B es.length d], .agg #[.int .i64 n.lab, .int .i64 n.num]] w fun e w' => e = .returned (.int .i64 (-1)) ∧ Below w.heap.size w w' := by
  rw [← h]
  exact wpAt_calls A c ns B d es n w hr.cn (by omega)
section
variable {ns : List Nd} {es : List Eg} {n : Nd} {D : List Int}
theorem wd_len (h : wDist ns es n = D) : D.length ≤ ns.length := by
  rw [← h]
  unfold wDist
  split
  · rw [distL_length]
    exact Nat.le_refl _
  · exact Nat.zero_le _
theorem wd_nil (h : wDist ns es n = D) (h1 : ¬ (okG ns es = true ∧ n ∈ ns)) : D = [] := h.symm.trans (if_neg h1)
theorem wd_at (h : wDist ns es n = D) (h1 : okG ns es = true) (h2 : n ∈ ns) : D = distL (adjI ns es) ns.length (idx ns n) := h.symm.trans (if_pos ⟨h1, h2⟩)
theorem step_ok {s i v : Nat} (ha : adjI ns es i v = true) : (dist (adjI ns es) s v < 0 ↔ dist (adjI ns es) s i < 0) ∧ dist (adjI ns es) s v ≤ dist (adjI ns es) s i + 1 := by
  have l1 := dist_low (adj := adjI ns es) s v
  have l2 := dist_low (adj := adjI ns es) s i
  have h1 : 0 ≤ dist (adjI ns es) s i → _ := fun h => dist_adj h ha
  have h2 : 0 ≤ dist (adjI ns es) s v → _ := fun h => dist_adj h (by rw [adjI_sym]; exact ha)
  by_cases h : 0 ≤ dist (adjI ns es) s i
  · have := h1 h
    omega
  · by_cases h' : 0 ≤ dist (adjI ns es) s v
    · have := h2 h'
      omega
    · omega
theorem less_ok {s i : Nat} (h : 0 < dist (adjI ns es) s i) : ((nearI (adjI ns es) ns.length i).any fun v => decide (dist (adjI ns es) s v = dist (adjI ns es) s i - 1)) = true := by
  obtain ⟨u, hu, hd⟩ := dist_pred h
  rw [adjI_sym] at hu
  exact List.any_eq_true.2 ⟨u, nearI_mem.2 ⟨(adjI_lt hu).2, hu⟩, decide_eq_true hd⟩
theorem take_any {L : List Nat} {p : Nat → Bool} {k : Nat} (h : k < L.length) : (L.take (k + 1)).any p = ((L.take k).any p || p L[k]) := by
  rw [List.take_succ_eq_append_getElem h, List.any_append]
  simp
end
def WdS (w : World) (g3 g4 : Nat) (A1 : Option Addr) (c1 : Nat) (ns : List Nd) (B1 : Option Addr) (d1 : Nat) (es : List Eg) (n : Nd) (A5 : Option Addr) (D : List Int) (wr : World) : Prop :=
  wr.heap[g3]? = some (.cells #[.slice A1 ns.length c1, .slice B1 es.length d1] 26 (0, 0)) ∧ wr.heap[g4]? = some (.cells #[.int .i64 n.lab, .int .i64 n.num] 28 (0, 0)) ∧ GR wr A1 c1 ns B1 d1 es ∧ (Kd.int .i64).C wr A5 D.length D ∧ Below w.heap.size w wr
theorem dist_ub {ns : List Nd} {es : List Eg} {n : Nd} {i : Nat} (hg : OkG ns es) (hn : n ∈ ns) (hi : i < ns.length) : dist (adjI ns es) (idx ns n) i ≤ ns.length := by
  by_cases h : 0 ≤ dist (adjI ns es) (idx ns n) i
  · have h1 := far_lt (adj := adjI ns es) (n := ns.length) adjI_sym (fun u v h => adjI_lt h) (idx_lt hn) (k := (dist (adjI ns es) (idx ns n) i).toNat) hi (by omega)
    have h2 : sm ns.length (fun u => (decide (0 ≤ dist (adjI ns es) (idx ns n) u)).toNat) ≤ ns.length := sm_lim fun _ _ => toNat_le _
    omega
  · omega
set_option maxHeartbeats 25600000 in
set_option maxRecDepth 100000 in
theorem walkDistLaw_calls (A : Option Addr) (c : Nat) (l : List Int) (w : World) (hl : (Kd.int .u8).C w A l.length l) (hc : l.length ≤ c) (hb : ∀ x ∈ l, 0 ≤ x ∧ x < 256) :
    Calls Try.prog 13 #[.slice A l.length c] w fun e w' => e = .returned (.bool true) ∧ Below w.heap.size w w' := by
  have HL := Aside0.mk hl
  have HC := Aside0.mk hc
  have HY := Aside0.mk hb
  have HB := Aside0.mk (Below.refl w.heap.size w)
  clear hl hc hb
  by_cases hlen : 1048576 < l.length
  · have hl1 : (1048576 : Int) < (l.length : Int) := by omega
    go_enter Try.func13, Try.ntmps13
    go_wp2_with (fail)
    go_ret
    exact ⟨rfl, HB.out⟩
  have hl1 : ¬ (1048576 : Int) < (l.length : Int) := by omega
  clear hlen
  go_enter Try.func13, Try.ntmps13
  go_upto_region 7 with (first | (go_at_call 52; go_must ((refine (drawWD_calls A c l _ (Kd.C_below HL.out HB.out) HC.out HY.out).mono ?_); rintro e u_ ⟨⟨A1, c1, ns, B1, d1, es, n, rfl, hgr_, -, -, hn_, he_⟩, hb⟩; have HGR := Aside0.mk hgr_; have HLN := Aside0.mk (And.intro hn_ he_); clear hgr_ hn_ he_; obtain ⟨D, hD_⟩ : ∃ y, wDist ns es n = y := ⟨_, rfl⟩; have HD := Aside0.mk hD_; have HDL := Aside0.mk (wd_len hD_); clear hD_; replace HB := Aside0.mk (below_step HB.out hb); clear hb)) | ((with_reducible refine gate_dst (N := 3) rfl ?_); go_must ((refine w_new #[.slice none 0 0, .slice none 0 0] 26 rfl (by go_simp; (first | done | rfl)) ?_); intro g3 u_ hge_ hb0_ hb; have N3HGR := Aside0.mk (HGR.out.new hge_); have Hg3 := Aside0.mk (show w.heap.size + 0 ≤ g3 from by have hl0_ := HB.out.size; exact by omega); have L3 := Aside0.mk hb0_; replace HB := Aside0.mk (below_step HB.out hb); replace HGR := Aside0.mk (HGR.out.below hb); clear hge_ hb0_ hb; (try clear t3c0 t3c1); obtain ⟨t3c0, t3c1⟩ := cs2 (L3.out))) | ((with_reducible refine gate_dst (N := 4) rfl ?_); go_must ((refine w_new #[.int .i64 0, .int .i64 0] 28 rfl (by go_simp; (first | done | rfl)) ?_); intro g4 u_ hge_ hb0_ hb; have N4HGR := Aside0.mk (HGR.out.new hge_); have Hg4 := Aside0.mk (show w.heap.size + 0 ≤ g4 ∧ g3 < g4 from by have hl0_ := HB.out.size; have hl_g3 := blk_lt L3.out; exact ⟨by omega, by omega⟩); have L4 := Aside0.mk hb0_; replace HB := Aside0.mk (below_step HB.out hb); replace L3 := Aside0.mk (blk_below L3.out hb); replace HGR := Aside0.mk (HGR.out.below hb); clear hge_ hb0_ hb; (try clear t3c0 t3c1); obtain ⟨t3c0, t3c1⟩ := cs2 (L3.out); (try clear t4c0 t4c1); obtain ⟨t4c0, t4c1⟩ := cs2 (L4.out))) | ((with_reducible refine gate_store (p := 3) rfl ?_); go_must ((refine wpList_plain rfl fun K_ hK_ => wp_store_row _ _ _ rfl (g3) #[.slice A1 ns.length c1, .slice B1 es.length d1] rfl rfl _ _ L3.out (by kernel_rfl) rfl (by simp [Value.oneCell']) (hK_ _ _ ?_)); refine named _ ?_; intro wz hwz; replace HB := Aside0.mk (sb_ hwz HB.out (by have := Hg3.out; have := Hg4.out; omega)); replace L4 := Aside0.mk (so_ hwz L4.out (by have := Hg3.out; have := Hg4.out; omega)); replace L3 := Aside0.mk (sh_ hwz L3.out); replace HGR := Aside0.mk ((HGR.out).row hwz N3HGR.out.1 N3HGR.out.2); (try clear t3c0 t3c1); obtain ⟨t3c0, t3c1⟩ := cs2 (L3.out); (try clear t4c0 t4c1); obtain ⟨t4c0, t4c1⟩ := cs2 (L4.out); clear hwz)) | ((with_reducible refine gate_store (p := 4) rfl ?_); go_must ((refine wpList_plain rfl fun K_ hK_ => wp_store_row _ _ _ rfl (g4) #[.int .i64 n.lab, .int .i64 n.num] rfl rfl _ _ L4.out (by kernel_rfl) rfl (by simp [Value.oneCell']) (hK_ _ _ ?_)); refine named _ ?_; intro wz hwz; replace HB := Aside0.mk (sb_ hwz HB.out (by have := Hg3.out; have := Hg4.out; omega)); replace L3 := Aside0.mk (so_ hwz L3.out (by have := Hg3.out; have := Hg4.out; omega)); replace L4 := Aside0.mk (sh_ hwz L4.out); replace HGR := Aside0.mk ((HGR.out).row hwz N4HGR.out.1 N4HGR.out.2); (try clear t3c0 t3c1); obtain ⟨t3c0, t3c1⟩ := cs2 (L3.out); (try clear t4c0 t4c1); obtain ⟨t4c0, t4c1⟩ := cs2 (L4.out); clear hwz)) | (go_at_call 53; go_must ((refine (walkDist_as A1 c1 ns B1 d1 es n D _ HGR.out HD.out).mono ?_); rintro e u_ ⟨⟨A5, c5, rfl, hc_, hl_, hf_⟩, hb⟩; have HC5 := Aside0.mk hc_; clear hc_ hl_ hf_; replace HB := Aside0.mk (below_step HB.out hb); replace L3 := Aside0.mk (blk_below L3.out hb); replace L4 := Aside0.mk (blk_below L4.out hb); replace HGR := Aside0.mk (HGR.out.below hb); (try clear t3c0 t3c1); obtain ⟨t3c0, t3c1⟩ := cs2 (L3.out); (try clear t4c0 t4c1); obtain ⟨t4c0, t4c1⟩ := cs2 (L4.out); clear hb)) | (go_at_call 55; go_must ((refine (sWalkDist_as A1 c1 ns B1 d1 es n D _ HGR.out HLN.out HD.out).mono ?_); rintro e u_ ⟨⟨A6, c6, rfl, hc_, hl_, hf_⟩, hb⟩; have HC6 := Aside0.mk hc_; clear hc_ hl_ hf_; replace HB := Aside0.mk (below_step HB.out hb); replace L3 := Aside0.mk (blk_below L3.out hb); replace L4 := Aside0.mk (blk_below L4.out hb); replace HGR := Aside0.mk (HGR.out.below hb); replace HC5 := Aside0.mk (Kd.C_below (HC5.out) hb); (try clear t3c0 t3c1); obtain ⟨t3c0, t3c1⟩ := cs2 (L3.out); (try clear t4c0 t4c1); obtain ⟨t4c0, t4c1⟩ := cs2 (L4.out); clear hb)) | (go_at_call 54; go_must ((refine (wpInts_calls A5 c5 A6 c6 D _ HC5.out HC6.out (by have := HDL.out; have := HLN.out; omega)).mono ?_); rintro e u_ ⟨rfl, hb⟩; replace HB := Aside0.mk (below_step HB.out hb); replace L3 := Aside0.mk (blk_below L3.out hb); replace L4 := Aside0.mk (blk_below L4.out hb); replace HGR := Aside0.mk (HGR.out.below hb); replace HC5 := Aside0.mk (Kd.C_below (HC5.out) hb); replace HC6 := Aside0.mk (Kd.C_below (HC6.out) hb); (try clear t3c0 t3c1); obtain ⟨t3c0, t3c1⟩ := cs2 (L3.out); (try clear t4c0 t4c1); obtain ⟨t4c0, t4c1⟩ := cs2 (L4.out); clear hb)))
  obtain ⟨v, hv⟩ : ∃ v, okG ns es = v := ⟨_, rfl⟩
  have HOK := Aside0.mk hv
  clear hv HC6
  cases v
  · obtain rfl := wd_nil HD.out (fun h => by rw [HOK.out] at h; cases h.1)
    go_wp2_with (first | (go_at_call 33; go_must ((refine (sGraphOk_as A1 c1 ns B1 d1 es _ _ HGR.out HLN.out HOK.out).mono ?_); rintro e u_ ⟨rfl, hb⟩; replace HB := Aside0.mk (below_step HB.out hb); replace L3 := Aside0.mk (blk_below L3.out hb); replace L4 := Aside0.mk (blk_below L4.out hb); replace HGR := Aside0.mk (HGR.out.below hb); replace HC5 := Aside0.mk (Kd.C_below (HC5.out) hb); (try clear t3c0 t3c1); obtain ⟨t3c0, t3c1⟩ := cs2 (L3.out); (try clear t4c0 t4c1); obtain ⟨t4c0, t4c1⟩ := cs2 (L4.out); clear hb)))
    go_ret
    exact ⟨rfl, HB.out⟩
  · by_cases hin : n ∈ ns
    · have HPL := Aside0.mk (placeI_in hin)
      have HMEM := Aside0.mk hin
      have HOG := Aside0.mk (okG_true.1 HOK.out)
      have HDE := Aside0.mk (wd_at HD.out HOK.out hin)
      have hnn : ¬ ((idx ns n : Nat) : Int) < 0 := by omega
      have hpos := idx_lt hin
      obtain ⟨a1, rfl⟩ : ∃ ad, A1 = some ad := by obtain ⟨ad, e, _⟩ := HGR.out.cn.2.2 (by omega); exact ⟨ad, e⟩
      obtain ⟨a5, rfl⟩ : ∃ ad, A5 = some ad := by obtain ⟨ad, e, _⟩ := HC5.out.2.2 (by rw [HDE.out, distL_length]; omega); exact ⟨ad, e⟩
      clear hin hpos
      go_wp2_with (first | (go_at_call 33; go_must ((refine (sGraphOk_as (some a1) c1 ns B1 d1 es true _ HGR.out HLN.out HOK.out).mono ?_); rintro e u_ ⟨rfl, hb⟩; replace HB := Aside0.mk (below_step HB.out hb); replace L3 := Aside0.mk (blk_below L3.out hb); replace L4 := Aside0.mk (blk_below L4.out hb); replace HGR := Aside0.mk (HGR.out.below hb); replace HC5 := Aside0.mk (Kd.C_below (HC5.out) hb); (try clear t3c0 t3c1); obtain ⟨t3c0, t3c1⟩ := cs2 (L3.out); (try clear t4c0 t4c1); obtain ⟨t4c0, t4c1⟩ := cs2 (L4.out); clear hb)) | (go_at_call 56; go_must ((refine (wpAt_as (some a1) c1 ns B1 d1 es n _ _ HGR.out HLN.out HPL.out).mono ?_); rintro e u_ ⟨rfl, hb⟩; replace HB := Aside0.mk (below_step HB.out hb); replace L3 := Aside0.mk (blk_below L3.out hb); replace L4 := Aside0.mk (blk_below L4.out hb); replace HGR := Aside0.mk (HGR.out.below hb); replace HC5 := Aside0.mk (Kd.C_below (HC5.out) hb); (try clear t3c0 t3c1); obtain ⟨t3c0, t3c1⟩ := cs2 (L3.out); (try clear t4c0 t4c1); obtain ⟨t4c0, t4c1⟩ := cs2 (L4.out); clear hb)))
      go_loopw [6, 7, 8, 9, 10] (fun s6 _ _ _ _ wr => ∃ i : Nat, i ≤ D.length ∧ s6 = .int .i64 (i : Int) ∧ WdS w g3 g4 (some a1) c1 ns B1 d1 es n (some a5) D wr) (fun s6 _ _ _ _ _ => (D.length - intOf s6).toNat)
      case atStart => exact ⟨0, Nat.zero_le _, rfl, ⟨L3.out, L4.out, HGR.out, HC5.out, HB.out⟩⟩
      case round =>
        clear L3 L4 HGR HC5 HB
        obtain ⟨i, hi, rfl, l3_, l4_, gr_, c5_, hb_⟩ := hrel
        have HI := Aside0.mk hi
        clear hi
        have L3 := Aside0.mk l3_
        have L4 := Aside0.mk l4_
        have HGR := Aside0.mk gr_
        have HC5 := Aside0.mk c5_
        have HB := Aside0.mk hb_
        obtain ⟨t3c0, t3c1⟩ := cs2 (L3.out)
        obtain ⟨t4c0, t4c1⟩ := cs2 (L4.out)
        clear l3_ l4_ gr_ c5_ hb_
        have hdn : (D.length : Int) ≤ 100 := by have := HDL.out; have := HLN.out; omega
        by_cases hlt : i < D.length
        · have hil : (i : Int) < (D.length : Int) := by omega
          have HID := Aside0.mk hlt
          have HIN := Aside0.mk (show i < ns.length by have := HDL.out; omega)
          have hin : (i : Int) < (ns.length : Int) := by have := HIN.out; omega
          obtain ⟨y, hy⟩ : ∃ y, at_ ns i = y := ⟨_, rfl⟩
          have HYA := Aside0.mk hy
          obtain ⟨x, hx⟩ : ∃ x, dist (adjI ns es) (idx ns n) i = x := ⟨_, rfl⟩
          have HXD := Aside0.mk hx
          have HXA := Aside0.mk (show D.getD i 0 = x by rw [← hx, HDE.out]; exact gt_distL HIN.out)
          have hxl : -1 ≤ x := by rw [← hx]; exact dist_low _ _
          have HXB := Aside0.mk (show x ≤ 100 by have h1 := dist_ub HOG.out HMEM.out HIN.out; rw [hx] at h1; have := HLN.out; omega)
          have hxu : x ≤ 100 := HXB.out
          have HYN := Aside0.mk (show x = 0 ↔ y = n from ⟨fun h => by rw [← hy, ← dist_zero (hx.trans h)]; exact at_idx HMEM.out, fun h => by rw [← hx, show i = idx ns n from (idx_at HOG.out HIN.out).symm.trans (congrArg (idx ns) (hy.trans h))]; exact dist_self _⟩)
          obtain ⟨M, hM⟩ : ∃ m, nearG ns es y = m := ⟨_, rfl⟩
          have HM := Aside0.mk hM
          have HMA := Aside0.mk (show M = tds ns (nearI (adjI ns es) ns.length i) by rw [← hM, ← hy]; exact near_at HOG.out HIN.out)
          have HML := Aside0.mk (show M.length ≤ ns.length by rw [← hM]; exact near_len2 HOG.out _)
          clear hlt hy hx hM
          obtain ⟨a1_, e1_, r0, r1⟩ := nd_at HGR.out.cn i HIN.out
          obtain rfl := Option.some.inj e1_
          clear e1_
          rw [HYA.out] at r0 r1
          go_wp2_with (fail)
          have ZL3 := L3
          have ZL4 := L4
          refine region_bp [] sWd12 (by kernel_rfl) sWd12_ok (by decide) (fun d _ _ _ _ h => by cases d <;> exact h) ?_
          intro u hb
          have hS := hb
          replace HB := Aside0.mk (below_step HB.out hb)
          replace L3 := Aside0.mk (blk_below L3.out hb)
          replace L4 := Aside0.mk (blk_below L4.out hb)
          replace HGR := Aside0.mk (HGR.out.below hb)
          replace HC5 := Aside0.mk (Kd.C_below (HC5.out) hb)
          (try clear t3c0 t3c1)
          obtain ⟨t3c0, t3c1⟩ := cs2 (L3.out)
          (try clear t4c0 t4c1)
          obtain ⟨t4c0, t4c1⟩ := cs2 (L4.out)
          clear hb
          repeat (first | (refine p_off hS gt_ (by rfl) ?_; intro a_ ha_; (simp only [Act.put, List.setIfInBounds_toArray, List.set_cons_zero, List.set_cons_succ] at ha_); subst ha_) | (refine p_on (v := ?_) hS gt_ (by rfl) ?_ ?_; rotate_left; (· rintro w_ hS_; obtain ⟨t3c0_, t3c1_⟩ := cs2 (blk_below ZL3.out hS_); obtain ⟨t4c0_, t4c1_⟩ := cs2 (blk_below ZL4.out hS_); have r0_ := pw_cell_below hS_ r0; have r1_ := pw_cell_below hS_ r1; go_simp; with_reducible rfl); intro a_ ha_; (simp only [Act.put, List.setIfInBounds_toArray, List.set_cons_zero, List.set_cons_succ] at ha_); subst ha_) | (refine p_poff gt_ (by rfl) ?_; intro a_ ha_; (simp only [Act.put, List.setIfInBounds_toArray, List.set_cons_zero, List.set_cons_succ] at ha_); subst ha_) | (refine p_pon (v := ?_) gt_ (by rfl) ?_ ?_; rotate_left; (· go_simp; with_reducible rfl); intro a_ ha_; (simp only [Act.put, List.setIfInBounds_toArray, List.set_cons_zero, List.set_cons_succ] at ha_); subst ha_) | (refine p_ooff hS gt_ (by rfl) ?_; intro a_ ha_; (simp only [Act.put, List.setIfInBounds_toArray, List.set_cons_zero, List.set_cons_succ] at ha_); subst ha_) | (refine p_loff gt_ (by rfl) ?_; intro a_ ha_; (simp only [Act.put, List.setIfInBounds_toArray, List.set_cons_zero, List.set_cons_succ] at ha_); subst ha_) | (refine p_call (f := 42) (args := #[.agg #[.slice (some a1) ns.length c1, .slice B1 es.length d1], .agg #[.int .i64 y.lab, .int .i64 y.num]]) Try.func42 (by kernel_rfl) rfl gt_ (by rfl) (by rfl) mp_ ?_; (refine (near_as (some a1) c1 ns B1 d1 es y M _ HGR.out HM.out).mono ?_); rintro e_ u_ ⟨A7, c7, rfl, hc_, hl_, hb⟩; have HC7 := Aside0.mk hc_; clear hc_ hl_; replace HB := Aside0.mk (below_step HB.out hb); replace L3 := Aside0.mk (blk_below L3.out hb); replace L4 := Aside0.mk (blk_below L4.out hb); replace HGR := Aside0.mk (HGR.out.below hb); replace HC5 := Aside0.mk (Kd.C_below (HC5.out) hb); (try clear t3c0 t3c1); obtain ⟨t3c0, t3c1⟩ := cs2 (L3.out); (try clear t4c0 t4c1); obtain ⟨t4c0, t4c1⟩ := cs2 (L4.out); replace hS := below_step hS hb; refine ⟨_, rfl, hS, fun a_ ha_ => ?_⟩; (simp only [Act.put, List.setIfInBounds_toArray, List.set_cons_zero, List.set_cons_succ] at ha_); subst ha_; clear hb))
          refine p_fin ?_
          clear hS ZL3 ZL4
          clear r0 r1
          go_wp2_with (fail)
          go_loopw [8, 9, 10] (fun s8 s9 _ wr => ∃ (k : Nat) (b : Bool), k ≤ M.length ∧ s8 = .bool b ∧ s9 = .int .i64 (k : Int) ∧ Aside0 ((((nearI (adjI ns es) ns.length i).take k).any fun v => decide (dist (adjI ns es) (idx ns n) v = x - 1)) = b) ∧ Aside0 (kN.C wr A7 M.length M) ∧ WdS w g3 g4 (some a1) c1 ns B1 d1 es n (some a5) D wr) (fun _ s9 _ _ => (M.length - intOf s9).toNat)
          case atStart => exact ⟨0, false, Nat.zero_le _, rfl, rfl, ⟨by simp⟩, HC7, ⟨L3.out, L4.out, HGR.out, HC5.out, HB.out⟩⟩
          case round =>
            clear L3 L4 HGR HC5 HC7 HB
            obtain ⟨k, b, hk, rfl, rfl, HBK, HC7, l3_, l4_, gr_, c5_, hb_⟩ := hrel
            have HK := Aside0.mk hk
            clear hk
            have L3 := Aside0.mk l3_
            have L4 := Aside0.mk l4_
            have HGR := Aside0.mk gr_
            have HC5 := Aside0.mk c5_
            have HB := Aside0.mk hb_
            obtain ⟨t3c0, t3c1⟩ := cs2 (L3.out)
            obtain ⟨t4c0, t4c1⟩ := cs2 (L4.out)
            clear l3_ l4_ gr_ c5_ hb_
            have hmk : (M.length : Int) ≤ 100 := by have := HML.out; have := HLN.out; omega
            by_cases hlt : k < M.length
            · have hkl : (k : Int) < (M.length : Int) := by omega
              have hkn : k < (nearI (adjI ns es) ns.length i).length := by have h1 := congrArg List.length HMA.out; rw [tds_len] at h1; omega
              obtain ⟨v, hv⟩ : ∃ v, (nearI (adjI ns es) ns.length i)[k] = v := ⟨_, rfl⟩
              have HV := Aside0.mk (show v < ns.length ∧ adjI ns es i v = true from nearI_mem.1 (hv ▸ List.getElem_mem hkn))
              obtain ⟨e, he⟩ : ∃ e, dist (adjI ns es) (idx ns n) v = e := ⟨_, rfl⟩
              have HTK := Aside0.mk (show (((nearI (adjI ns es) ns.length i).take (k + 1)).any fun v => decide (dist (adjI ns es) (idx ns n) v = x - 1)) = (b || decide (e = x - 1)) by rw [take_any hkn, HBK.out, hv, he])
              have HKT := Aside0.mk hlt
              have HVD := Aside0.mk (show v < D.length by rw [HDE.out, distL_length]; exact HV.out.1)
              have hvd : (v : Int) < (D.length : Int) := by have := HVD.out; omega
              have HEA := Aside0.mk (show D.getD v 0 = e by rw [← he, HDE.out]; exact gt_distL HV.out.1)
              have hso := step_ok (s := idx ns n) HV.out.2
              rw [he, HXD.out] at hso
              have hel : -1 ≤ e := by rw [← he]; exact dist_low _ _
              have heu : e ≤ 101 := by have := HXB.out; omega
              have HSO := Aside0.mk hso
              obtain ⟨a7, e7, z0, z1⟩ := nd_at HC7.out k hlt
              cases e7
              obtain ⟨z, hz⟩ : ∃ z, at_ ns v = z := ⟨_, rfl⟩
              have hzk : at_ M k = z := by rw [HMA.out, tds_get ns hkn, hv, hz]
              rw [hzk] at z0 z1
              have HPZ := Aside0.mk (show placeI ns z = (v : Int) by rw [← hz, placeI_in (at_mem HV.out.1), idx_at HOG.out HV.out.1])
              obtain ⟨a5_, e5_, k0⟩ := int_at HC5.out v HVD.out
              obtain rfl := Option.some.inj e5_
              rw [HEA.out] at k0
              clear e5_ hlt hkn hv he hso hz hzk
              go_wp2_with (fail)
              have ZL3 := L3
              have ZL4 := L4
              refine region_bp [] sWd17 (by kernel_rfl) sWd17_ok (by decide) (fun d _ _ _ _ h => by cases d <;> exact h) ?_
              intro u hb
              have hS := hb
              replace HB := Aside0.mk (below_step HB.out hb)
              replace L3 := Aside0.mk (blk_below L3.out hb)
              replace L4 := Aside0.mk (blk_below L4.out hb)
              replace HGR := Aside0.mk (HGR.out.below hb)
              replace HC5 := Aside0.mk (Kd.C_below (HC5.out) hb)
              replace HC7 := Aside0.mk (Kd.C_below (HC7.out) hb)
              (try clear t3c0 t3c1)
              obtain ⟨t3c0, t3c1⟩ := cs2 (L3.out)
              (try clear t4c0 t4c1)
              obtain ⟨t4c0, t4c1⟩ := cs2 (L4.out)
              clear hb
              repeat (first | (refine p_off hS gt_ (by rfl) ?_; intro a_ ha_; (simp only [Act.put, List.setIfInBounds_toArray, List.set_cons_zero, List.set_cons_succ] at ha_); subst ha_) | (refine p_on (v := ?_) hS gt_ (by rfl) ?_ ?_; rotate_left; (· rintro w_ hS_; obtain ⟨t3c0_, t3c1_⟩ := cs2 (blk_below ZL3.out hS_); obtain ⟨t4c0_, t4c1_⟩ := cs2 (blk_below ZL4.out hS_); have z0_ := pw_cell_below hS_ z0; have z1_ := pw_cell_below hS_ z1; have k0_ := pw_cell_below hS_ k0; go_simp; with_reducible rfl); intro a_ ha_; (simp only [Act.put, List.setIfInBounds_toArray, List.set_cons_zero, List.set_cons_succ] at ha_); subst ha_) | (refine p_poff gt_ (by rfl) ?_; intro a_ ha_; (simp only [Act.put, List.setIfInBounds_toArray, List.set_cons_zero, List.set_cons_succ] at ha_); subst ha_) | (refine p_pon (v := ?_) gt_ (by rfl) ?_ ?_; rotate_left; (· go_simp; with_reducible rfl); intro a_ ha_; (simp only [Act.put, List.setIfInBounds_toArray, List.set_cons_zero, List.set_cons_succ] at ha_); subst ha_) | (refine p_ooff hS gt_ (by rfl) ?_; intro a_ ha_; (simp only [Act.put, List.setIfInBounds_toArray, List.set_cons_zero, List.set_cons_succ] at ha_); subst ha_) | (refine p_loff gt_ (by rfl) ?_; intro a_ ha_; (simp only [Act.put, List.setIfInBounds_toArray, List.set_cons_zero, List.set_cons_succ] at ha_); subst ha_) | (refine p_call (f := 56) (args := #[.agg #[.slice (some a1) ns.length c1, .slice B1 es.length d1], .agg #[.int .i64 z.lab, .int .i64 z.num]]) Try.func56 (by kernel_rfl) rfl gt_ (by rfl) (by rfl) mp_ ?_; (refine (wpAt_as (some a1) c1 ns B1 d1 es z v _ HGR.out HLN.out HPZ.out).mono ?_); rintro e_ u_ ⟨rfl, hb⟩; replace HB := Aside0.mk (below_step HB.out hb); replace L3 := Aside0.mk (blk_below L3.out hb); replace L4 := Aside0.mk (blk_below L4.out hb); replace HGR := Aside0.mk (HGR.out.below hb); replace HC5 := Aside0.mk (Kd.C_below (HC5.out) hb); replace HC7 := Aside0.mk (Kd.C_below (HC7.out) hb); (try clear t3c0 t3c1); obtain ⟨t3c0, t3c1⟩ := cs2 (L3.out); (try clear t4c0 t4c1); obtain ⟨t4c0, t4c1⟩ := cs2 (L4.out); replace hS := below_step hS hb; refine ⟨_, rfl, hS, fun a_ ha_ => ?_⟩; (simp only [Act.put, List.setIfInBounds_toArray, List.set_cons_zero, List.set_cons_succ] at ha_); subst ha_; clear hb))
              refine p_fin ?_
              clear hS ZL3 ZL4
              clear z0 z1 k0
              obtain ⟨a5_, e5_, k0⟩ := int_at HC5.out i HID.out
              obtain rfl := Option.some.inj e5_
              clear e5_
              rw [HXA.out] at k0
              have he1 : ¬ x + 1 < e := by have := HSO.out.2; omega
              by_cases hx0 : x < 0
              case' pos => have hx1 : e < 0 := HSO.out.1.2 hx0
              case' neg => have hx1 : ¬ e < 0 := fun h => hx0 (HSO.out.1.1 h)
              all_goals
                cases b
                all_goals
                  by_cases hex : e = x - 1
                  all_goals (try (exfalso; omega))
                  all_goals
                    go_wp2_with (fail)
                    go_roundw
                    case rel => exact ⟨k + 1, _, HKT.out, rfl, by go_num, ⟨HTK.out.trans (by first | rfl | (rw [decide_eq_true hex]; rfl) | (rw [decide_eq_false hex]; rfl))⟩, HC7, ⟨L3.out, L4.out, HGR.out, HC5.out, HB.out⟩⟩
                    case measure => have := HKT.out; simp [intOf]; omega
            · have hkl : ¬ (k : Int) < (M.length : Int) := by omega
              have hb : 0 < x → b = true := fun h => by
                rw [← HBK.out, List.take_of_length_le (by have h1 := congrArg List.length HMA.out; rw [tds_len] at h1; omega), ← HXD.out]
                exact less_ok (by rw [HXD.out]; exact h)
              obtain ⟨a1_, e1_, r0, r1⟩ := nd_at HGR.out.cn i HIN.out
              obtain rfl := Option.some.inj e1_
              clear e1_
              rw [HYA.out] at r0 r1
              obtain ⟨a5_, e5_, k0⟩ := int_at HC5.out i HID.out
              obtain rfl := Option.some.inj e5_
              clear e5_
              rw [HXA.out] at k0
              clear hlt
              by_cases hxz : x = 0
              · subst hxz
                have hne : (y.lab == n.lab && (y.num == n.num)) = true := (nd_eq y n).trans (decide_eq_true (HYN.out.1 rfl))
                clear hb
                go_wp2_with (fail)
                have ZL3 := L3
                have ZL4 := L4
                refine region_bp [] sWd21 (by kernel_rfl) sWd21_ok (by decide) (fun d _ _ _ _ h => by cases d <;> exact h) ?_
                intro u hb
                have hS := hb
                replace HB := Aside0.mk (below_step HB.out hb)
                replace L3 := Aside0.mk (blk_below L3.out hb)
                replace L4 := Aside0.mk (blk_below L4.out hb)
                replace HGR := Aside0.mk (HGR.out.below hb)
                replace HC5 := Aside0.mk (Kd.C_below (HC5.out) hb)
                (try clear t3c0 t3c1)
                obtain ⟨t3c0, t3c1⟩ := cs2 (L3.out)
                (try clear t4c0 t4c1)
                obtain ⟨t4c0, t4c1⟩ := cs2 (L4.out)
                clear hb
                repeat (first | (refine p_off hS gt_ (by rfl) ?_; intro a_ ha_; (simp only [Act.put, List.setIfInBounds_toArray, List.set_cons_zero, List.set_cons_succ] at ha_); subst ha_) | (refine p_on (v := ?_) hS gt_ (by rfl) ?_ ?_; rotate_left; (· rintro w_ hS_; obtain ⟨t3c0_, t3c1_⟩ := cs2 (blk_below ZL3.out hS_); obtain ⟨t4c0_, t4c1_⟩ := cs2 (blk_below ZL4.out hS_); have r0_ := pw_cell_below hS_ r0; have r1_ := pw_cell_below hS_ r1; have k0_ := pw_cell_below hS_ k0; go_simp; with_reducible rfl); intro a_ ha_; (simp only [Act.put, List.setIfInBounds_toArray, List.set_cons_zero, List.set_cons_succ] at ha_); subst ha_) | (refine p_poff gt_ (by rfl) ?_; intro a_ ha_; (simp only [Act.put, List.setIfInBounds_toArray, List.set_cons_zero, List.set_cons_succ] at ha_); subst ha_) | (refine p_pon (v := ?_) gt_ (by rfl) ?_ ?_; rotate_left; (· go_simp; with_reducible rfl); intro a_ ha_; (simp only [Act.put, List.setIfInBounds_toArray, List.set_cons_zero, List.set_cons_succ] at ha_); subst ha_) | (refine p_ooff hS gt_ (by rfl) ?_; intro a_ ha_; (simp only [Act.put, List.setIfInBounds_toArray, List.set_cons_zero, List.set_cons_succ] at ha_); subst ha_) | (refine p_loff gt_ (by rfl) ?_; intro a_ ha_; (simp only [Act.put, List.setIfInBounds_toArray, List.set_cons_zero, List.set_cons_succ] at ha_); subst ha_))
                refine p_fin ?_
                clear hS ZL3 ZL4
                go_wp2_with (fail)
                go_roundw
                case rel => exact ⟨i + 1, HID.out, by go_num, ⟨L3.out, L4.out, HGR.out, HC5.out, HB.out⟩⟩
                case measure => have := HID.out; simp [intOf]; omega
              · have hne : (y.lab == n.lab && (y.num == n.num)) = false := (nd_eq y n).trans (decide_eq_false fun h => hxz (HYN.out.2 h))
                have hxb : (x == 0) = false := beq_false_of_ne hxz
                by_cases hpos : 0 < x
                case' pos =>
                  obtain rfl := hb hpos
                  have hpb : decide (0 < x) = true := decide_eq_true hpos
                case' neg => have hpb : decide (0 < x) = false := decide_eq_false hpos
                all_goals
                  clear hb
                  go_wp2_with (fail)
                  have ZL3 := L3
                  have ZL4 := L4
                  refine region_bp [] sWd21 (by kernel_rfl) sWd21_ok (by decide) (fun d _ _ _ _ h => by cases d <;> exact h) ?_
                  intro u hb
                  have hS := hb
                  replace HB := Aside0.mk (below_step HB.out hb)
                  replace L3 := Aside0.mk (blk_below L3.out hb)
                  replace L4 := Aside0.mk (blk_below L4.out hb)
                  replace HGR := Aside0.mk (HGR.out.below hb)
                  replace HC5 := Aside0.mk (Kd.C_below (HC5.out) hb)
                  (try clear t3c0 t3c1)
                  obtain ⟨t3c0, t3c1⟩ := cs2 (L3.out)
                  (try clear t4c0 t4c1)
                  obtain ⟨t4c0, t4c1⟩ := cs2 (L4.out)
                  clear hb
                  repeat (first | (refine p_off hS gt_ (by rfl) ?_; intro a_ ha_; (simp only [Act.put, List.setIfInBounds_toArray, List.set_cons_zero, List.set_cons_succ] at ha_); subst ha_) | (refine p_on (v := ?_) hS gt_ (by rfl) ?_ ?_; rotate_left; (· rintro w_ hS_; obtain ⟨t3c0_, t3c1_⟩ := cs2 (blk_below ZL3.out hS_); obtain ⟨t4c0_, t4c1_⟩ := cs2 (blk_below ZL4.out hS_); have r0_ := pw_cell_below hS_ r0; have r1_ := pw_cell_below hS_ r1; have k0_ := pw_cell_below hS_ k0; go_simp; with_reducible rfl); intro a_ ha_; (simp only [Act.put, List.setIfInBounds_toArray, List.set_cons_zero, List.set_cons_succ] at ha_); subst ha_) | (refine p_poff gt_ (by rfl) ?_; intro a_ ha_; (simp only [Act.put, List.setIfInBounds_toArray, List.set_cons_zero, List.set_cons_succ] at ha_); subst ha_) | (refine p_pon (v := ?_) gt_ (by rfl) ?_ ?_; rotate_left; (· go_simp; with_reducible rfl); intro a_ ha_; (simp only [Act.put, List.setIfInBounds_toArray, List.set_cons_zero, List.set_cons_succ] at ha_); subst ha_) | (refine p_ooff hS gt_ (by rfl) ?_; intro a_ ha_; (simp only [Act.put, List.setIfInBounds_toArray, List.set_cons_zero, List.set_cons_succ] at ha_); subst ha_) | (refine p_loff gt_ (by rfl) ?_; intro a_ ha_; (simp only [Act.put, List.setIfInBounds_toArray, List.set_cons_zero, List.set_cons_succ] at ha_); subst ha_))
                  refine p_fin ?_
                  clear hS ZL3 ZL4
                  go_wp2_with (fail)
                  go_roundw
                  case rel => exact ⟨i + 1, HID.out, by go_num, ⟨L3.out, L4.out, HGR.out, HC5.out, HB.out⟩⟩
                  case measure => have := HID.out; simp [intOf]; omega
        · have hil : ¬ (i : Int) < (D.length : Int) := by omega
          have hdl : (D.length : Int) = (ns.length : Int) := by rw [HDE.out, distL_length]
          clear hlt
          go_wp2_with (fail)
          go_ret
          exact ⟨rfl, HB.out⟩
    · have HPL := Aside0.mk (placeI_out hin)
      obtain rfl := wd_nil HD.out (fun h => hin h.2)
      clear hin
      go_wp2_with (first | (go_at_call 33; go_must ((refine (sGraphOk_as A1 c1 ns B1 d1 es _ _ HGR.out HLN.out HOK.out).mono ?_); rintro e u_ ⟨rfl, hb⟩; replace HB := Aside0.mk (below_step HB.out hb); replace L3 := Aside0.mk (blk_below L3.out hb); replace L4 := Aside0.mk (blk_below L4.out hb); replace HGR := Aside0.mk (HGR.out.below hb); replace HC5 := Aside0.mk (Kd.C_below (HC5.out) hb); (try clear t3c0 t3c1); obtain ⟨t3c0, t3c1⟩ := cs2 (L3.out); (try clear t4c0 t4c1); obtain ⟨t4c0, t4c1⟩ := cs2 (L4.out); clear hb)) | (go_at_call 56; go_must ((refine (wpAt_out A1 c1 ns B1 d1 es n _ HGR.out HLN.out HPL.out).mono ?_); rintro e u_ ⟨rfl, hb⟩; replace HB := Aside0.mk (below_step HB.out hb); replace L3 := Aside0.mk (blk_below L3.out hb); replace L4 := Aside0.mk (blk_below L4.out hb); replace HGR := Aside0.mk (HGR.out.below hb); replace HC5 := Aside0.mk (Kd.C_below (HC5.out) hb); (try clear t3c0 t3c1); obtain ⟨t3c0, t3c1⟩ := cs2 (L3.out); (try clear t4c0 t4c1); obtain ⟨t4c0, t4c1⟩ := cs2 (L4.out); clear hb)))
      go_ret
      exact ⟨rfl, HB.out⟩
end Go.Proofs.Ytogmbeifbjgphaa.R
