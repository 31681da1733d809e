/- The law FnWalkSelf, walked. -/
import Derived.Test.YtogmbeifbjgphaaKHT
import Derived.Test.YtogmbeifbjgphaaKL15
namespace Go.Proofs.Ytogmbeifbjgphaa.R
open Go.RowKit Go.Proofs.YtogmbeifbjgphaaV.PrintWords Go.Proofs.YtogmbeifbjgphaaV.PrintLast Go.Proofs.YtogmbeifbjgphaaV.PrintMore Go.Proofs.Ytogmbeifbjgphaa.M
set_option linter.unusedVariables false
set_option linter.unusedSimpArgs false
attribute [local go_sem high] eqN eqE
abbrev sWe12 : Pl := (.tk 0 (.tk 1 (.tk 2 (.tk 3 (.tk 4 (.tk 5 (.tk 6 (.tk 7 (.tk 8 (.tk 9 (.tk 10 (.tk 11 (.tk 12 (.tk 13 (.tk 14 (.tk 15 (.tk 16 (.tk 17 (.tk 18 (.tk 19 (.tk 20 (.tk 21 (.tk 22 (.tk 23 (.tk 24 (.tk 25 .fin))))))))))))))))))))))))))
theorem sWe12_ok : planB .any (opsOf Try.f18 12) [] sWe12 (Array.replicate (opsOf Try.f18 12).size false) = true := by kernel_rfl
theorem add0 (a : Addr) : a.add (0 * 2) = a := by
  first | (simp [Addr.add]; done) | (cases a; simp [Addr.add]; done) | (go_simp; done)
theorem walkPath_as (A : Option Addr) (c : Nat) (ns : List Nd) (B : Option Addr) (d : Nat) (es : List Eg) (x y : Nd) (P : List Nd) (v : Bool) (w : World) (hr : GR w A c ns B d es) (h : wPath ns es x y = P) (h2 : wHas ns es x y = v) :
    Calls Try.prog 61 #[.agg #[.slice A ns.length c, .slice B es.length d], .agg #[.int .i64 x.lab, .int .i64 x.num], .agg #[.int .i64 y.lab, .int .i64 y.num]] w fun e w' => RetP P v e w' ∧ Below w.heap.size w w' := by
  subst h h2
  exact walkPath_calls A c ns B d es x y w hr
theorem sWalkPath_as (A : Option Addr) (c : Nat) (ns : List Nd) (B : Option Addr) (d : Nat) (es : List Eg) (x y : Nd) (P : List Nd) (v : Bool) (w : World) (hr : GR w A c ns B d es) (hl : ns.length ≤ 100 ∧ es.length ≤ 100) (h : wPath ns es x y = P) (h2 : wHas ns es x y = v) :
    Calls Try.prog 62 #[.agg #[.slice A ns.length c, .slice B es.length d], .agg #[.int .i64 x.lab, .int .i64 x.num], .agg #[.int .i64 y.lab, .int .i64 y.num]] w fun e w' => RetP P v e w' ∧ Below w.heap.size w w' := by
  subst h h2
  exact sWalkPath_calls A c ns B d es x y w hr hl
theorem wHas_iff {ns : List Nd} {es : List Eg} {x y : Nd} : wHas ns es x y = true ↔ OkG ns es ∧ x ∈ ns ∧ y ∈ ns ∧ 0 ≤ dist (adjI ns es) (idx ns y) (idx ns x) := by
  unfold wHas
  simp only [Bool.and_eq_true, decide_eq_true_eq, okG_true]
theorem wHas_symm (ns : List Nd) (es : List Eg) (x y : Nd) : wHas ns es x y = wHas ns es y x := by
  rw [Bool.eq_iff_iff, wHas_iff, wHas_iff, dist_symm adjI_sym]
  exact ⟨fun ⟨a, b, c, d⟩ => ⟨a, c, b, d⟩, fun ⟨a, b, c, d⟩ => ⟨a, c, b, d⟩⟩
theorem wPath_len {ns : List Nd} {es : List Eg} {x y : Nd} (h : wHas ns es x y = true) : (wPath ns es x y).length = (dist (adjI ns es) (idx ns y) (idx ns x)).toNat + 1 := by
  rw [wPath_of h, tds_len, pathI_length]
theorem wPath_symm (ns : List Nd) (es : List Eg) (x y : Nd) : (wPath ns es x y).length = (wPath ns es y x).length := by
  cases h : wHas ns es x y
  · rw [wPath_nil h, wPath_nil (by rw [wHas_symm]; exact h)]
  · rw [wPath_len h, wPath_len (by rw [wHas_symm]; exact h), dist_symm adjI_sym]
theorem wPath_few {ns : List Nd} {es : List Eg} {x y : Nd} (h : wHas ns es x y = true) : (wPath ns es x y).length ≤ ns.length := by
  obtain ⟨hg, hx, hy, hd⟩ := wHas_iff.1 h
  rw [wPath_len h]
  have h1 := far_lt (adj := adjI ns es) (n := ns.length) adjI_sym (fun u v h => adjI_lt h) (idx_lt hy) (k := (dist (adjI ns es) (idx ns y) (idx ns x)).toNat) (idx_lt hx) (by omega)
  have h2 : sm ns.length (fun u => (decide (0 ≤ dist (adjI ns es) (idx ns y) u)).toNat) ≤ ns.length := sm_lim fun _ _ => toNat_le _
  omega
theorem wHas_self {ns : List Nd} {es : List Eg} {x : Nd} (hg : OkG ns es) (hx : x ∈ ns) : wHas ns es x x = true := wHas_iff.2 ⟨hg, hx, hx, by rw [dist_self]; omega⟩
theorem wPath_self {ns : List Nd} {es : List Eg} {x : Nd} (hg : OkG ns es) (hx : x ∈ ns) : wPath ns es x x = [x] := by
  rw [wPath_of (wHas_self hg hx), dist_self]
  show tds ns [idx ns x] = [x]
  simp [tds, at_idx hx]
set_option maxHeartbeats 25600000 in
set_option maxRecDepth 100000 in
theorem walkSelfLaw_calls (A : Option Addr) (c : Nat) (l : List Int) (w : World) (hl : (Kd.int .u8).C w A l.length l) (hc : l.length ≤ c) (hb : ∀ x ∈ l, 0 ≤ x ∧ x < 256) :
    Calls Try.prog 18 #[.slice A l.length c] w fun e w' => e = .returned (.bool true) ∧ Below w.heap.size w w' := by
  have HL := Aside0.mk hl
  have HC := Aside0.mk hc
  have HY := Aside0.mk hb
  have HB := Aside0.mk (Below.refl w.heap.size w)
  clear hl hc hb
  by_cases hlen : 1048576 < l.length
  · have hl1 : (1048576 : Int) < (l.length : Int) := by omega
    go_enter Try.func18, Try.ntmps18
    go_wp2_with (fail)
    go_ret
    exact ⟨rfl, HB.out⟩
  have hl1 : ¬ (1048576 : Int) < (l.length : Int) := by omega
  clear hlen
  go_enter Try.func18, Try.ntmps18
  go_upto_region 4 with (first | (go_at_call 57; go_must ((refine (drawWPa_calls A c l _ (Kd.C_below HL.out HB.out) HC.out HY.out).mono ?_); rintro e u_ ⟨⟨A1, c1, ns, B1, d1, es, n, m, rfl, hgr_, hn_, he_⟩, hb⟩; have HGR := Aside0.mk hgr_; have HLN := Aside0.mk (And.intro hn_ he_); clear hgr_ hn_ he_; obtain ⟨P, hP_⟩ : ∃ y, wPath ns es n m = y := ⟨_, rfl⟩; obtain ⟨v, hv_⟩ : ∃ y, wHas ns es n m = y := ⟨_, rfl⟩; obtain ⟨Q, hQ_⟩ : ∃ y, wPath ns es m n = y := ⟨_, rfl⟩; obtain ⟨S, hS_⟩ : ∃ y, wPath ns es n n = y := ⟨_, rfl⟩; obtain ⟨vs, hvs_⟩ : ∃ y, wHas ns es n n = y := ⟨_, rfl⟩; have HP := Aside0.mk hP_; have HV := Aside0.mk hv_; have HQ := Aside0.mk hQ_; have HQV := Aside0.mk ((wHas_symm ns es m n).trans hv_); have HSS := Aside0.mk hS_; have HVS := Aside0.mk hvs_; clear hP_ hv_ hQ_ hS_ hvs_; replace HB := Aside0.mk (below_step HB.out hb); clear hb)) | ((with_reducible refine gate_dst (N := 3) rfl ?_); go_must ((refine w_new #[.slice none 0 0, .slice none 0 0] 26 rfl (by go_simp; (first | done | rfl)) ?_); intro g3 u_ hge_ hb0_ hb; have N3HGR := Aside0.mk (HGR.out.new hge_); have Hg3 := Aside0.mk (show w.heap.size + 0 ≤ g3 from by have hl0_ := HB.out.size; exact by omega); have L3 := Aside0.mk hb0_; replace HB := Aside0.mk (below_step HB.out hb); replace HGR := Aside0.mk (HGR.out.below hb); clear hge_ hb0_ hb; (try clear t3c0 t3c1); obtain ⟨t3c0, t3c1⟩ := cs2 (L3.out))) | ((with_reducible refine gate_dst (N := 4) rfl ?_); go_must ((refine w_new #[.int .i64 0, .int .i64 0] 28 rfl (by go_simp; (first | done | rfl)) ?_); intro g4 u_ hge_ hb0_ hb; have N4HGR := Aside0.mk (HGR.out.new hge_); have Hg4 := Aside0.mk (show w.heap.size + 0 ≤ g4 ∧ g3 < g4 from by have hl0_ := HB.out.size; have hl_g3 := blk_lt L3.out; exact ⟨by omega, by omega⟩); have L4 := Aside0.mk hb0_; replace HB := Aside0.mk (below_step HB.out hb); replace L3 := Aside0.mk (blk_below L3.out hb); replace HGR := Aside0.mk (HGR.out.below hb); clear hge_ hb0_ hb; (try clear t3c0 t3c1); obtain ⟨t3c0, t3c1⟩ := cs2 (L3.out); (try clear t4c0 t4c1); obtain ⟨t4c0, t4c1⟩ := cs2 (L4.out))) | ((with_reducible refine gate_dst (N := 5) rfl ?_); go_must ((refine w_new #[.int .i64 0, .int .i64 0] 28 rfl (by go_simp; (first | done | rfl)) ?_); intro g5 u_ hge_ hb0_ hb; have N5HGR := Aside0.mk (HGR.out.new hge_); have Hg5 := Aside0.mk (show w.heap.size + 0 ≤ g5 ∧ g3 < g5 ∧ g4 < g5 from by have hl0_ := HB.out.size; have hl_g3 := blk_lt L3.out; have hl_g4 := blk_lt L4.out; exact ⟨by omega, by omega, by omega⟩); have L5 := Aside0.mk hb0_; replace HB := Aside0.mk (below_step HB.out hb); replace L3 := Aside0.mk (blk_below L3.out hb); replace L4 := Aside0.mk (blk_below L4.out hb); replace HGR := Aside0.mk (HGR.out.below hb); clear hge_ hb0_ hb; (try clear t3c0 t3c1); obtain ⟨t3c0, t3c1⟩ := cs2 (L3.out); (try clear t4c0 t4c1); obtain ⟨t4c0, t4c1⟩ := cs2 (L4.out); (try clear t5c0 t5c1); obtain ⟨t5c0, t5c1⟩ := cs2 (L5.out))) | ((with_reducible refine gate_store (p := 3) rfl ?_); go_must ((refine wpList_plain rfl fun K_ hK_ => wp_store_row _ _ _ rfl (g3) #[.slice A1 ns.length c1, .slice B1 es.length d1] rfl rfl _ _ L3.out (by kernel_rfl) rfl (by simp [Value.oneCell']) (hK_ _ _ ?_)); refine named _ ?_; intro wz hwz; replace HB := Aside0.mk (sb_ hwz HB.out (by have := Hg3.out; have := Hg4.out; have := Hg5.out; omega)); replace L4 := Aside0.mk (so_ hwz L4.out (by have := Hg3.out; have := Hg4.out; have := Hg5.out; omega)); replace L5 := Aside0.mk (so_ hwz L5.out (by have := Hg3.out; have := Hg4.out; have := Hg5.out; omega)); replace L3 := Aside0.mk (sh_ hwz L3.out); replace HGR := Aside0.mk ((HGR.out).row hwz N3HGR.out.1 N3HGR.out.2); (try clear t3c0 t3c1); obtain ⟨t3c0, t3c1⟩ := cs2 (L3.out); (try clear t4c0 t4c1); obtain ⟨t4c0, t4c1⟩ := cs2 (L4.out); (try clear t5c0 t5c1); obtain ⟨t5c0, t5c1⟩ := cs2 (L5.out); clear hwz)) | ((with_reducible refine gate_store (p := 4) rfl ?_); go_must ((refine wpList_plain rfl fun K_ hK_ => wp_store_row _ _ _ rfl (g4) #[.int .i64 n.lab, .int .i64 n.num] rfl rfl _ _ L4.out (by kernel_rfl) rfl (by simp [Value.oneCell']) (hK_ _ _ ?_)); refine named _ ?_; intro wz hwz; replace HB := Aside0.mk (sb_ hwz HB.out (by have := Hg3.out; have := Hg4.out; have := Hg5.out; omega)); replace L3 := Aside0.mk (so_ hwz L3.out (by have := Hg3.out; have := Hg4.out; have := Hg5.out; omega)); replace L5 := Aside0.mk (so_ hwz L5.out (by have := Hg3.out; have := Hg4.out; have := Hg5.out; omega)); replace L4 := Aside0.mk (sh_ hwz L4.out); replace HGR := Aside0.mk ((HGR.out).row hwz N4HGR.out.1 N4HGR.out.2); (try clear t3c0 t3c1); obtain ⟨t3c0, t3c1⟩ := cs2 (L3.out); (try clear t4c0 t4c1); obtain ⟨t4c0, t4c1⟩ := cs2 (L4.out); (try clear t5c0 t5c1); obtain ⟨t5c0, t5c1⟩ := cs2 (L5.out); clear hwz)) | ((with_reducible refine gate_store (p := 5) rfl ?_); go_must ((refine wpList_plain rfl fun K_ hK_ => wp_store_row _ _ _ rfl (g5) #[.int .i64 m.lab, .int .i64 m.num] rfl rfl _ _ L5.out (by kernel_rfl) rfl (by simp [Value.oneCell']) (hK_ _ _ ?_)); refine named _ ?_; intro wz hwz; replace HB := Aside0.mk (sb_ hwz HB.out (by have := Hg3.out; have := Hg4.out; have := Hg5.out; omega)); replace L3 := Aside0.mk (so_ hwz L3.out (by have := Hg3.out; have := Hg4.out; have := Hg5.out; omega)); replace L4 := Aside0.mk (so_ hwz L4.out (by have := Hg3.out; have := Hg4.out; have := Hg5.out; omega)); replace L5 := Aside0.mk (sh_ hwz L5.out); replace HGR := Aside0.mk ((HGR.out).row hwz N5HGR.out.1 N5HGR.out.2); (try clear t3c0 t3c1); obtain ⟨t3c0, t3c1⟩ := cs2 (L3.out); (try clear t4c0 t4c1); obtain ⟨t4c0, t4c1⟩ := cs2 (L4.out); (try clear t5c0 t5c1); obtain ⟨t5c0, t5c1⟩ := cs2 (L5.out); clear hwz)))
  have HLE := Aside0.mk (show P.length = Q.length by rw [← HP.out, ← HQ.out]; exact wPath_symm ns es n m)
  have HFEW := Aside0.mk (show v = true → P.length ≤ ns.length from fun h => by rw [← HP.out]; exact wPath_few (HV.out.trans h))
  have HVT := Aside0.mk (show v = true → okG ns es = true ∧ n ∈ ns from fun h => by obtain ⟨h1, h2, _⟩ := wHas_iff.1 (HV.out.trans h); exact ⟨okG_true.2 h1, h2⟩)
  go_upto_region 5 with (first | (go_at_call 61; go_must ((refine (walkPath_as A1 c1 ns B1 d1 es n m P _ _ HGR.out HP.out HV.out).mono ?_); rintro e u_ ⟨⟨A6, c6, rfl, hc_, hl_⟩, hb⟩; have HC6 := Aside0.mk hc_; clear hc_ hl_; replace HB := Aside0.mk (below_step HB.out hb); replace L3 := Aside0.mk (blk_below L3.out hb); replace L4 := Aside0.mk (blk_below L4.out hb); replace L5 := Aside0.mk (blk_below L5.out hb); replace HGR := Aside0.mk (HGR.out.below hb); (try clear t3c0 t3c1); obtain ⟨t3c0, t3c1⟩ := cs2 (L3.out); (try clear t4c0 t4c1); obtain ⟨t4c0, t4c1⟩ := cs2 (L4.out); (try clear t5c0 t5c1); obtain ⟨t5c0, t5c1⟩ := cs2 (L5.out); clear hb)))
  go_upto_region 6 with (first | (go_at_call 62; go_must ((refine (sWalkPath_as A1 c1 ns B1 d1 es n m P _ _ HGR.out HLN.out HP.out HV.out).mono ?_); rintro e u_ ⟨⟨A8, c8, rfl, hc_, hl_⟩, hb⟩; have HC8 := Aside0.mk hc_; clear hc_ hl_; replace HB := Aside0.mk (below_step HB.out hb); replace L3 := Aside0.mk (blk_below L3.out hb); replace L4 := Aside0.mk (blk_below L4.out hb); replace L5 := Aside0.mk (blk_below L5.out hb); replace HGR := Aside0.mk (HGR.out.below hb); replace HC6 := Aside0.mk (Kd.C_below (HC6.out) hb); (try clear t3c0 t3c1); obtain ⟨t3c0, t3c1⟩ := cs2 (L3.out); (try clear t4c0 t4c1); obtain ⟨t4c0, t4c1⟩ := cs2 (L4.out); (try clear t5c0 t5c1); obtain ⟨t5c0, t5c1⟩ := cs2 (L5.out); clear hb)))
  go_upto_region 7 with (first | (go_at_call 61; go_must ((refine (walkPath_as A1 c1 ns B1 d1 es m n Q _ _ HGR.out HQ.out HQV.out).mono ?_); rintro e u_ ⟨⟨A10, c10, rfl, hc_, hl_⟩, hb⟩; have HC10 := Aside0.mk hc_; clear hc_ hl_; replace HB := Aside0.mk (below_step HB.out hb); replace L3 := Aside0.mk (blk_below L3.out hb); replace L4 := Aside0.mk (blk_below L4.out hb); replace L5 := Aside0.mk (blk_below L5.out hb); replace HGR := Aside0.mk (HGR.out.below hb); replace HC6 := Aside0.mk (Kd.C_below (HC6.out) hb); replace HC8 := Aside0.mk (Kd.C_below (HC8.out) hb); (try clear t3c0 t3c1); obtain ⟨t3c0, t3c1⟩ := cs2 (L3.out); (try clear t4c0 t4c1); obtain ⟨t4c0, t4c1⟩ := cs2 (L4.out); (try clear t5c0 t5c1); obtain ⟨t5c0, t5c1⟩ := cs2 (L5.out); clear hb)))
  have hle : (P.length : Int) = (Q.length : Int) := by have := HLE.out; omega
  have hleb : ((P.length : Int) == (Q.length : Int)) = true := by rw [hle]; simp
  obtain ⟨vo, hvo⟩ : ∃ v, okG ns es = v := ⟨_, rfl⟩
  have HOK := Aside0.mk hvo
  clear hvo HC8 HC10
  by_cases hin : vo = true ∧ n ∈ ns
  · obtain ⟨rfl, hin⟩ := hin
    obtain rfl : vs = true := HVS.out.symm.trans (wHas_self (okG_true.1 HOK.out) hin)
    obtain rfl : S = [n] := HSS.out.symm.trans (wPath_self (okG_true.1 HOK.out) hin)
    have HPL := Aside0.mk (placeI_in hin)
    have hnn : ¬ ((idx ns n : Nat) : Int) < 0 := by omega
    have hnb : decide (((idx ns n : Nat) : Int) < 0) = false := decide_eq_false hnn
    clear hin
    cases v
    case' true =>
      have hfw : decide (P.length ≤ ns.length) = true := decide_eq_true (HFEW.out rfl)
      have hfi : decide ((P.length : Int) ≤ (ns.length : Int)) = true := decide_eq_true (by have := HFEW.out rfl; omega)
    all_goals
      go_upto_region 12 with (first | (go_at_call 61; go_must ((refine (walkPath_as A1 c1 ns B1 d1 es n n [n] _ _ HGR.out HSS.out HVS.out).mono ?_); rintro e u_ ⟨⟨A12, c12, rfl, hc_, hl_⟩, hb⟩; have HC12 := Aside0.mk hc_; clear hc_ hl_; replace HB := Aside0.mk (below_step HB.out hb); replace L3 := Aside0.mk (blk_below L3.out hb); replace L4 := Aside0.mk (blk_below L4.out hb); replace L5 := Aside0.mk (blk_below L5.out hb); replace HGR := Aside0.mk (HGR.out.below hb); replace HC6 := Aside0.mk (Kd.C_below (HC6.out) hb); (try clear t3c0 t3c1); obtain ⟨t3c0, t3c1⟩ := cs2 (L3.out); (try clear t4c0 t4c1); obtain ⟨t4c0, t4c1⟩ := cs2 (L4.out); (try clear t5c0 t5c1); obtain ⟨t5c0, t5c1⟩ := cs2 (L5.out); clear hb)) | (go_at_call 33; go_must ((refine (sGraphOk_as A1 c1 ns B1 d1 es _ _ HGR.out HLN.out HOK.out).mono ?_); rintro e u_ ⟨rfl, hb⟩; replace HB := Aside0.mk (below_step HB.out hb); replace L3 := Aside0.mk (blk_below L3.out hb); replace L4 := Aside0.mk (blk_below L4.out hb); replace L5 := Aside0.mk (blk_below L5.out hb); replace HGR := Aside0.mk (HGR.out.below hb); replace HC6 := Aside0.mk (Kd.C_below (HC6.out) hb); replace HC12 := Aside0.mk (Kd.C_below (HC12.out) hb); (try clear t3c0 t3c1); obtain ⟨t3c0, t3c1⟩ := cs2 (L3.out); (try clear t4c0 t4c1); obtain ⟨t4c0, t4c1⟩ := cs2 (L4.out); (try clear t5c0 t5c1); obtain ⟨t5c0, t5c1⟩ := cs2 (L5.out); clear hb)) | (go_at_call 56; go_must ((refine (wpAt_as A1 c1 ns B1 d1 es n _ _ HGR.out HLN.out HPL.out).mono ?_); rintro e u_ ⟨rfl, hb⟩; replace HB := Aside0.mk (below_step HB.out hb); replace L3 := Aside0.mk (blk_below L3.out hb); replace L4 := Aside0.mk (blk_below L4.out hb); replace L5 := Aside0.mk (blk_below L5.out hb); replace HGR := Aside0.mk (HGR.out.below hb); replace HC6 := Aside0.mk (Kd.C_below (HC6.out) hb); replace HC12 := Aside0.mk (Kd.C_below (HC12.out) hb); (try clear t3c0 t3c1); obtain ⟨t3c0, t3c1⟩ := cs2 (L3.out); (try clear t4c0 t4c1); obtain ⟨t4c0, t4c1⟩ := cs2 (L4.out); (try clear t5c0 t5c1); obtain ⟨t5c0, t5c1⟩ := cs2 (L5.out); clear hb)))
      clear hle hleb
      obtain ⟨a12, e12, z0, z1⟩ := nd_at HC12.out 0 (Nat.zero_lt_one)
      cases e12
      rw [show at_ [n] 0 = n from rfl] at z0 z1
      rw [add0] at z0 z1
      have ZL3 := L3
      have ZL4 := L4
      have ZL5 := L5
      refine region_bp [] sWe12 (by kernel_rfl) sWe12_ok (by decide) (fun d _ _ _ _ h => by cases d <;> exact h) ?_
      intro u hb
      have hS := hb
      replace HB := Aside0.mk (below_step HB.out hb)
      replace L3 := Aside0.mk (blk_below L3.out hb)
      replace L4 := Aside0.mk (blk_below L4.out hb)
      replace L5 := Aside0.mk (blk_below L5.out hb)
      replace HGR := Aside0.mk (HGR.out.below hb)
      replace HC6 := Aside0.mk (Kd.C_below (HC6.out) hb)
      replace HC12 := Aside0.mk (Kd.C_below (HC12.out) hb)
      (try clear t3c0 t3c1)
      obtain ⟨t3c0, t3c1⟩ := cs2 (L3.out)
      (try clear t4c0 t4c1)
      obtain ⟨t4c0, t4c1⟩ := cs2 (L4.out)
      (try clear t5c0 t5c1)
      obtain ⟨t5c0, t5c1⟩ := cs2 (L5.out)
      clear hb
      repeat (first | (refine p_off hS gt_ (by rfl) ?_; intro a_ ha_; (simp only [Act.put, List.setIfInBounds_toArray, List.set_cons_zero, List.set_cons_succ] at ha_); subst ha_) | (refine p_on (v := ?_) hS gt_ (by rfl) ?_ ?_; rotate_left; (· rintro w_ hS_; obtain ⟨t3c0_, t3c1_⟩ := cs2 (blk_below ZL3.out hS_); obtain ⟨t4c0_, t4c1_⟩ := cs2 (blk_below ZL4.out hS_); obtain ⟨t5c0_, t5c1_⟩ := cs2 (blk_below ZL5.out hS_); have z0_ := pw_cell_below hS_ z0; have z1_ := pw_cell_below hS_ z1; go_simp; with_reducible rfl); intro a_ ha_; (simp only [Act.put, List.setIfInBounds_toArray, List.set_cons_zero, List.set_cons_succ] at ha_); subst ha_) | (refine p_poff gt_ (by rfl) ?_; intro a_ ha_; (simp only [Act.put, List.setIfInBounds_toArray, List.set_cons_zero, List.set_cons_succ] at ha_); subst ha_) | (refine p_pon (v := ?_) gt_ (by rfl) ?_ ?_; rotate_left; (· go_simp; with_reducible rfl); intro a_ ha_; (simp only [Act.put, List.setIfInBounds_toArray, List.set_cons_zero, List.set_cons_succ] at ha_); subst ha_) | (refine p_ooff hS gt_ (by rfl) ?_; intro a_ ha_; (simp only [Act.put, List.setIfInBounds_toArray, List.set_cons_zero, List.set_cons_succ] at ha_); subst ha_) | (refine p_loff gt_ (by rfl) ?_; intro a_ ha_; (simp only [Act.put, List.setIfInBounds_toArray, List.set_cons_zero, List.set_cons_succ] at ha_); subst ha_))
      refine p_fin ?_
      clear hS ZL3 ZL4 ZL5
      go_wp2_with (fail)
      go_ret
      exact ⟨rfl, HB.out⟩
  · obtain rfl : v = false := by
      cases v
      · rfl
      · exact absurd (HVT.out rfl) (fun h => hin ⟨HOK.out.symm.trans h.1, h.2⟩)
    obtain rfl : vs = false := by
      cases vs
      · rfl
      · obtain ⟨h1, h2, _⟩ := wHas_iff.1 HVS.out
        exact absurd ⟨HOK.out.symm.trans (okG_true.2 h1), h2⟩ hin
    cases vo
    · clear hin
      go_wp2_with (first | (go_at_call 61; go_must ((refine (walkPath_as A1 c1 ns B1 d1 es n n S _ _ HGR.out HSS.out HVS.out).mono ?_); rintro e u_ ⟨⟨A12, c12, rfl, hc_, hl_⟩, hb⟩; have HC12 := Aside0.mk hc_; clear hc_ hl_; replace HB := Aside0.mk (below_step HB.out hb); replace L3 := Aside0.mk (blk_below L3.out hb); replace L4 := Aside0.mk (blk_below L4.out hb); replace L5 := Aside0.mk (blk_below L5.out hb); replace HGR := Aside0.mk (HGR.out.below hb); replace HC6 := Aside0.mk (Kd.C_below (HC6.out) hb); (try clear t3c0 t3c1); obtain ⟨t3c0, t3c1⟩ := cs2 (L3.out); (try clear t4c0 t4c1); obtain ⟨t4c0, t4c1⟩ := cs2 (L4.out); (try clear t5c0 t5c1); obtain ⟨t5c0, t5c1⟩ := cs2 (L5.out); clear hb)) | (go_at_call 33; go_must ((refine (sGraphOk_as A1 c1 ns B1 d1 es _ _ HGR.out HLN.out HOK.out).mono ?_); rintro e u_ ⟨rfl, hb⟩; replace HB := Aside0.mk (below_step HB.out hb); replace L3 := Aside0.mk (blk_below L3.out hb); replace L4 := Aside0.mk (blk_below L4.out hb); replace L5 := Aside0.mk (blk_below L5.out hb); replace HGR := Aside0.mk (HGR.out.below hb); replace HC6 := Aside0.mk (Kd.C_below (HC6.out) hb); replace HC12 := Aside0.mk (Kd.C_below (HC12.out) hb); (try clear t3c0 t3c1); obtain ⟨t3c0, t3c1⟩ := cs2 (L3.out); (try clear t4c0 t4c1); obtain ⟨t4c0, t4c1⟩ := cs2 (L4.out); (try clear t5c0 t5c1); obtain ⟨t5c0, t5c1⟩ := cs2 (L5.out); clear hb)))
      go_ret
      exact ⟨rfl, HB.out⟩
    · have HPL := Aside0.mk (placeI_out fun h => hin ⟨rfl, h⟩)
      clear hin
      go_wp2_with (first | (go_at_call 61; go_must ((refine (walkPath_as A1 c1 ns B1 d1 es n n S _ _ HGR.out HSS.out HVS.out).mono ?_); rintro e u_ ⟨⟨A12, c12, rfl, hc_, hl_⟩, hb⟩; have HC12 := Aside0.mk hc_; clear hc_ hl_; replace HB := Aside0.mk (below_step HB.out hb); replace L3 := Aside0.mk (blk_below L3.out hb); replace L4 := Aside0.mk (blk_below L4.out hb); replace L5 := Aside0.mk (blk_below L5.out hb); replace HGR := Aside0.mk (HGR.out.below hb); replace HC6 := Aside0.mk (Kd.C_below (HC6.out) hb); (try clear t3c0 t3c1); obtain ⟨t3c0, t3c1⟩ := cs2 (L3.out); (try clear t4c0 t4c1); obtain ⟨t4c0, t4c1⟩ := cs2 (L4.out); (try clear t5c0 t5c1); obtain ⟨t5c0, t5c1⟩ := cs2 (L5.out); clear hb)) | (go_at_call 33; go_must ((refine (sGraphOk_as A1 c1 ns B1 d1 es _ _ HGR.out HLN.out HOK.out).mono ?_); rintro e u_ ⟨rfl, hb⟩; replace HB := Aside0.mk (below_step HB.out hb); replace L3 := Aside0.mk (blk_below L3.out hb); replace L4 := Aside0.mk (blk_below L4.out hb); replace L5 := Aside0.mk (blk_below L5.out hb); replace HGR := Aside0.mk (HGR.out.below hb); replace HC6 := Aside0.mk (Kd.C_below (HC6.out) hb); replace HC12 := Aside0.mk (Kd.C_below (HC12.out) hb); (try clear t3c0 t3c1); obtain ⟨t3c0, t3c1⟩ := cs2 (L3.out); (try clear t4c0 t4c1); obtain ⟨t4c0, t4c1⟩ := cs2 (L4.out); (try clear t5c0 t5c1); obtain ⟨t5c0, t5c1⟩ := cs2 (L5.out); clear hb)) | (go_at_call 56; go_must ((refine (wpAt_out A1 c1 ns B1 d1 es n _ HGR.out HLN.out HPL.out).mono ?_); rintro e u_ ⟨rfl, hb⟩; replace HB := Aside0.mk (below_step HB.out hb); replace L3 := Aside0.mk (blk_below L3.out hb); replace L4 := Aside0.mk (blk_below L4.out hb); replace L5 := Aside0.mk (blk_below L5.out hb); replace HGR := Aside0.mk (HGR.out.below hb); replace HC6 := Aside0.mk (Kd.C_below (HC6.out) hb); replace HC12 := Aside0.mk (Kd.C_below (HC12.out) hb); (try clear t3c0 t3c1); obtain ⟨t3c0, t3c1⟩ := cs2 (L3.out); (try clear t4c0 t4c1); obtain ⟨t4c0, t4c1⟩ := cs2 (L4.out); (try clear t5c0 t5c1); obtain ⟨t5c0, t5c1⟩ := cs2 (L5.out); clear hb)))
      go_ret
      exact ⟨rfl, HB.out⟩
end Go.Proofs.Ytogmbeifbjgphaa.R
