/- The law FnWalkMore, walked (great seat). -/
import Derived.Test.YtogmbeifbjgphaaGreatKL2
import Derived.Test.YtogmbeifbjgphaaGreatKL26
namespace Go.Proofs.YtogmbeifbjgphaaGreat.R
open Go.RowKit Go.Proofs.YtogmbeifbjgphaaGreatV.PrintWords Go.Proofs.YtogmbeifbjgphaaGreatV.PrintLast Go.Proofs.YtogmbeifbjgphaaGreatV.PrintMore Go.Proofs.YtogmbeifbjgphaaGreat.M
set_option linter.unusedVariables false
set_option linter.unusedSimpArgs false
attribute [local go_sem high] eqN eqE
abbrev sWy15 : Pl := (.tk 0 (.tk 1 (.tk 2 (.tk 3 (.tk 4 (.tk 5 (.tk 6 (.tk 7 (.tk 8 (.tk 9 (.tk 10 (.tk 11 (.tk 12 (.tk 13 (.tk 14 (.tk 15 (.tk 16 (.tk 17 (.tk 18 (.tk 19 (.tk 20 (.tk 21 (.tk 22 (.tk 23 (.tk 24 (.tk 25 (.tk 26 (.tk 27 (.tk 28 (.tk 29 (.tk 30 (.tk 31 (.tk 32 (.tk 33 .fin))))))))))))))))))))))))))))))))))
theorem sWy15_ok : planB .any (opsOf Tryz.f3 15) [] sWy15 (Array.replicate (opsOf Tryz.f3 15).size false) = true := by kernel_rfl
abbrev sWy17 : Pl := (.tk 0 (.tk 2 (.nd .one 1 (.nd .one 3 (.tk 4 (.tk 5 (.tk 6 (.tk 7 (.tk 8 (.tk 9 (.tk 10 (.nd .one 11 (.tk 12 (.tk 13 (.tk 14 (.tk 15 (.tk 16 (.tk 17 (.tk 18 (.tk 19 (.tk 20 (.tk 21 (.tk 22 (.tk 23 (.tk 24 (.tk 25 (.tk 26 (.tk 27 (.tk 28 (.tk 29 (.tk 30 .fin)))))))))))))))))))))))))))))))
theorem sWy17_ok : planB .any (opsOf Tryz.f3 17) [] sWy17 (Array.replicate (opsOf Tryz.f3 17).size false) = true := by kernel_rfl
def WmS (w : World) (g3 g4 g5 : Nat) (A1 : Option Addr) (c1 : Nat) (ns : List Nd) (B1 : Option Addr) (d1 : Nat) (es : List Eg) (op : M.Op) (A2 : Option Addr) (c2 : Nat) (B2 : Option Addr) (d2 : Nat) (e2 : List Eg) (A9 : Option Addr) (C : List Int) (A10 : Option Addr) (K : List Int) (A11 : Option Addr) (D : List Int) (A12 : Option Addr) (E : List Int) (wr : World) : Prop :=
 wr.heap[g3]? = some (.cells #[.slice A1 ns.length c1, .slice B1 es.length d1] 26 (0, 0)) ∧ wr.heap[g4]? = some (.cells #[.int .i64 op.kind, .int .i64 op.nd.lab, .int .i64 op.nd.num, .int .i64 op.eg.lab, .int .i64 op.eg.a.lab, .int .i64 op.eg.a.num, .int .i64 op.eg.b.lab, .int .i64 op.eg.b.num] 32 (0, 0)) ∧ wr.heap[g5]? = some (.cells #[.slice A2 ns.length c2, .slice B2 e2.length d2] 26 (0, 0)) ∧ GR wr A1 c1 ns B1 d1 es ∧ GR wr A2 c2 ns B2 d2 e2 ∧ (Kd.int .i64).C wr A9 ns.length C ∧ (Kd.int .i64).C wr A10 ns.length K ∧ (Kd.int .i64).C wr A11 ns.length D ∧ (Kd.int .i64).C wr A12 ns.length E ∧ Below w.heap.size w wr
set_option maxHeartbeats 25600000 in
set_option maxRecDepth 100000 in
theorem walkMoreLaw_calls (A : Option Addr) (c : Nat) (l : List Int) (w : World) (hl : (Kd.int .u8).C w A l.length l) (hc : l.length ≤ c) (hb : ∀ x ∈ l, 0 ≤ x ∧ x < 256) :
 Calls Tryz.prog 3 #[.slice A l.length c] w fun e w' => e = .returned (.bool true) ∧ Below w.heap.size w w' := by
 have HL := Aside0.mk hl
 have HC := Aside0.mk hc
 have HY := Aside0.mk hb
 have HB := Aside0.mk (Below.refl w.heap.size w)
 clear hl hc hb
 by_cases hlen : 1048576 < l.length
 ·have hl1 : (1048576 : Int) < (l.length : Int) := by omega
  go_enter Tryz.func3, Tryz.ntmps3
  go_wp2_with (fail)
  go_ret
  exact ⟨rfl, HB.out⟩
 have hl1 : ¬ (1048576 : Int) < (l.length : Int) := by omega
 clear hlen
 go_enter Tryz.func3, Tryz.ntmps3
 go_upto_region 6 with (first | (go_at_call 9; go_must ((refine (drawGO_calls A c l _ (Kd.C_below HL.out HB.out) HC.out HY.out).mono ?_); rintro e u_ ⟨⟨A1, c1, ns, B1, d1, es, op, rfl, hgr_, hn_, he_⟩, hb⟩; have HGR := Aside0.mk hgr_; have HLN := Aside0.mk (And.intro hn_ he_); clear hgr_ hn_ he_; obtain ⟨n2, hn_⟩ : ∃ y, doN ns es op = y := ⟨_, rfl⟩; obtain ⟨e2, he_⟩ : ∃ y, doE ns es op = y := ⟨_, rfl⟩; obtain ⟨q, hq_⟩ : ∃ y, doC ns es op = y := ⟨_, rfl⟩; have HDO := Aside0.mk (And.intro hn_ (And.intro he_ hq_)); clear hn_ he_ hq_; replace HB := Aside0.mk (below_step HB.out hb); clear hb)) | ((with_reducible refine gate_dst (N := 3) rfl ?_); go_must ((refine w_new #[.slice none 0 0, .slice none 0 0] 26 rfl (by go_simp; (first | done | rfl)) ?_); intro g3 u_ hge_ hb0_ hb; have N3HGR := Aside0.mk (HGR.out.new hge_); have Hg3 := Aside0.mk (show w.heap.size + 0 ≤ g3 from by have hl0_ := HB.out.size; exact by omega); have L3 := Aside0.mk hb0_; replace HB := Aside0.mk (below_step HB.out hb); replace HGR := Aside0.mk (HGR.out.below hb); clear hge_ hb0_ hb; (try clear t3c0 t3c1); obtain ⟨t3c0, t3c1⟩ := cs2 (L3.out))) | ((with_reducible refine gate_dst (N := 4) rfl ?_); go_must ((refine w_new #[.int .i64 0, .int .i64 0, .int .i64 0, .int .i64 0, .int .i64 0, .int .i64 0, .int .i64 0, .int .i64 0] 32 rfl (by go_simp; (first | done | rfl)) ?_); intro g4 u_ hge_ hb0_ hb; have N4HGR := Aside0.mk (HGR.out.new hge_); have Hg4 := Aside0.mk (show w.heap.size + 0 ≤ g4 ∧ g3 < g4 from by have hl0_ := HB.out.size; have hl_g3 := blk_lt L3.out; exact ⟨by omega, by omega⟩); have L4 := Aside0.mk hb0_; replace HB := Aside0.mk (below_step HB.out hb); replace L3 := Aside0.mk (blk_below L3.out hb); replace HGR := Aside0.mk (HGR.out.below hb); clear hge_ hb0_ hb; (try clear t3c0 t3c1); obtain ⟨t3c0, t3c1⟩ := cs2 (L3.out); (try clear t4c0 t4c1 t4c2 t4c3 t4c4 t4c5 t4c6 t4c7); obtain ⟨t4c0, t4c1, t4c2, t4c3, t4c4, t4c5, t4c6, t4c7⟩ := cs8 (L4.out))) | ((with_reducible refine gate_store (p := 3) rfl ?_); go_must ((refine wpList_plain rfl fun K_ hK_ => wp_store_row _ _ _ rfl (g3) #[.slice A1 ns.length c1, .slice B1 es.length d1] rfl rfl _ _ L3.out (by kernel_rfl) rfl (by simp [Value.oneCell']) (hK_ _ _ ?_)); refine named _ ?_; intro wz hwz; replace HB := Aside0.mk (sb_ hwz HB.out (by have := Hg3.out; have := Hg4.out; omega)); replace L4 := Aside0.mk (so_ hwz L4.out (by have := Hg3.out; have := Hg4.out; omega)); replace L3 := Aside0.mk (sh_ hwz L3.out); replace HGR := Aside0.mk ((HGR.out).row hwz N3HGR.out.1 N3HGR.out.2); (try clear t3c0 t3c1); obtain ⟨t3c0, t3c1⟩ := cs2 (L3.out); (try clear t4c0 t4c1 t4c2 t4c3 t4c4 t4c5 t4c6 t4c7); obtain ⟨t4c0, t4c1, t4c2, t4c3, t4c4, t4c5, t4c6, t4c7⟩ := cs8 (L4.out); clear hwz)) | ((with_reducible refine gate_store (p := 4) rfl ?_); go_must ((refine wpList_plain rfl fun K_ hK_ => wp_store_row _ _ _ rfl (g4) #[.int .i64 op.kind, .int .i64 op.nd.lab, .int .i64 op.nd.num, .int .i64 op.eg.lab, .int .i64 op.eg.a.lab, .int .i64 op.eg.a.num, .int .i64 op.eg.b.lab, .int .i64 op.eg.b.num] rfl rfl _ _ L4.out (by kernel_rfl) rfl (by simp [Value.oneCell']) (hK_ _ _ ?_)); refine named _ ?_; intro wz hwz; replace HB := Aside0.mk (sb_ hwz HB.out (by have := Hg3.out; have := Hg4.out; omega)); replace L3 := Aside0.mk (so_ hwz L3.out (by have := Hg3.out; have := Hg4.out; omega)); replace L4 := Aside0.mk (sh_ hwz L4.out); replace HGR := Aside0.mk ((HGR.out).row hwz N4HGR.out.1 N4HGR.out.2); (try clear t3c0 t3c1); obtain ⟨t3c0, t3c1⟩ := cs2 (L3.out); (try clear t4c0 t4c1 t4c2 t4c3 t4c4 t4c5 t4c6 t4c7); obtain ⟨t4c0, t4c1, t4c2, t4c3, t4c4, t4c5, t4c6, t4c7⟩ := cs8 (L4.out); clear hwz)) | (go_at_call 10; go_must ((refine (graphDo_as A1 c1 ns B1 d1 es op n2 e2 q _ HGR.out HDO.out).mono ?_); rintro e u_ ⟨A2, c2, B2, d2, rfl, hg2_, hb⟩; have HGX := Aside0.mk hg2_; clear hg2_; replace HB := Aside0.mk (below_step HB.out hb); replace L3 := Aside0.mk (blk_below L3.out hb); replace L4 := Aside0.mk (blk_below L4.out hb); replace HGR := Aside0.mk (HGR.out.below hb); (try clear t3c0 t3c1); obtain ⟨t3c0, t3c1⟩ := cs2 (L3.out); (try clear t4c0 t4c1 t4c2 t4c3 t4c4 t4c5 t4c6 t4c7); obtain ⟨t4c0, t4c1, t4c2, t4c3, t4c4, t4c5, t4c6, t4c7⟩ := cs8 (L4.out); clear hb)) | ((with_reducible refine gate_dst (N := 5) rfl ?_); go_must ((refine w_new #[.slice none 0 0, .slice none 0 0] 26 rfl (by go_simp; (first | done | rfl)) ?_); intro g5 u_ hge_ hb0_ hb; have N5HGR := Aside0.mk (HGR.out.new hge_); have N5HGX := Aside0.mk (HGX.out.new hge_); have Hg5 := Aside0.mk (show w.heap.size + 0 ≤ g5 ∧ g3 < g5 ∧ g4 < g5 from by have hl0_ := HB.out.size; have hl_g3 := blk_lt L3.out; have hl_g4 := blk_lt L4.out; exact ⟨by omega, by omega, by omega⟩); have L5 := Aside0.mk hb0_; replace HB := Aside0.mk (below_step HB.out hb); replace L3 := Aside0.mk (blk_below L3.out hb); replace L4 := Aside0.mk (blk_below L4.out hb); replace HGR := Aside0.mk (HGR.out.below hb); replace HGX := Aside0.mk (HGX.out.below hb); clear hge_ hb0_ hb; (try clear t3c0 t3c1); obtain ⟨t3c0, t3c1⟩ := cs2 (L3.out); (try clear t4c0 t4c1 t4c2 t4c3 t4c4 t4c5 t4c6 t4c7); obtain ⟨t4c0, t4c1, t4c2, t4c3, t4c4, t4c5, t4c6, t4c7⟩ := cs8 (L4.out); (try clear t5c0 t5c1); obtain ⟨t5c0, t5c1⟩ := cs2 (L5.out))) | ((with_reducible refine gate_store (p := 5) rfl ?_); go_must ((refine wpList_plain rfl fun K_ hK_ => wp_store_row _ _ _ rfl (g5) #[.slice A2 n2.length c2, .slice B2 e2.length d2] rfl rfl _ _ L5.out (by kernel_rfl) rfl (by simp [Value.oneCell']) (hK_ _ _ ?_)); refine named _ ?_; intro wz hwz; replace HB := Aside0.mk (sb_ hwz HB.out (by have := Hg3.out; have := Hg4.out; have := Hg5.out; omega)); replace L3 := Aside0.mk (so_ hwz L3.out (by have := Hg3.out; have := Hg4.out; have := Hg5.out; omega)); replace L4 := Aside0.mk (so_ hwz L4.out (by have := Hg3.out; have := Hg4.out; have := Hg5.out; omega)); replace L5 := Aside0.mk (sh_ hwz L5.out); replace HGR := Aside0.mk ((HGR.out).row hwz N5HGR.out.1 N5HGR.out.2); replace HGX := Aside0.mk ((HGX.out).row hwz N5HGX.out.1 N5HGX.out.2); (try clear t3c0 t3c1); obtain ⟨t3c0, t3c1⟩ := cs2 (L3.out); (try clear t4c0 t4c1 t4c2 t4c3 t4c4 t4c5 t4c6 t4c7); obtain ⟨t4c0, t4c1, t4c2, t4c3, t4c4, t4c5, t4c6, t4c7⟩ := cs8 (L4.out); (try clear t5c0 t5c1); obtain ⟨t5c0, t5c1⟩ := cs2 (L5.out); clear hwz)) | (go_at_call 11; go_must ((refine (sGraphDo_as A1 c1 ns B1 d1 es op n2 e2 q _ HGR.out HLN.out HDO.out).mono ?_); rintro e u_ ⟨A3, c3, B3, d3, rfl, -, hb⟩; replace HB := Aside0.mk (below_step HB.out hb); replace L3 := Aside0.mk (blk_below L3.out hb); replace L4 := Aside0.mk (blk_below L4.out hb); replace L5 := Aside0.mk (blk_below L5.out hb); replace HGR := Aside0.mk (HGR.out.below hb); replace HGX := Aside0.mk (HGX.out.below hb); (try clear t3c0 t3c1); obtain ⟨t3c0, t3c1⟩ := cs2 (L3.out); (try clear t4c0 t4c1 t4c2 t4c3 t4c4 t4c5 t4c6 t4c7); obtain ⟨t4c0, t4c1, t4c2, t4c3, t4c4, t4c5, t4c6, t4c7⟩ := cs8 (L4.out); (try clear t5c0 t5c1); obtain ⟨t5c0, t5c1⟩ := cs2 (L5.out); clear hb)) | ((with_reducible refine gate_dst (N := 7) rfl ?_); go_must ((refine w_new #[.slice none 0 0, .slice none 0 0] 26 rfl (by go_simp; (first | done | rfl)) ?_); intro g7 u_ hge_ hb0_ hb; have N7HGR := Aside0.mk (HGR.out.new hge_); have N7HGX := Aside0.mk (HGX.out.new hge_); have Hg7 := Aside0.mk (show w.heap.size + 0 ≤ g7 ∧ g3 < g7 ∧ g4 < g7 ∧ g5 < g7 from by have hl0_ := HB.out.size; have hl_g3 := blk_lt L3.out; have hl_g4 := blk_lt L4.out; have hl_g5 := blk_lt L5.out; exact ⟨by omega, by omega, by omega, by omega⟩); have L7 := Aside0.mk hb0_; replace HB := Aside0.mk (below_step HB.out hb); replace L3 := Aside0.mk (blk_below L3.out hb); replace L4 := Aside0.mk (blk_below L4.out hb); replace L5 := Aside0.mk (blk_below L5.out hb); replace HGR := Aside0.mk (HGR.out.below hb); replace HGX := Aside0.mk (HGX.out.below hb); clear hge_ hb0_ hb; (try clear t3c0 t3c1); obtain ⟨t3c0, t3c1⟩ := cs2 (L3.out); (try clear t4c0 t4c1 t4c2 t4c3 t4c4 t4c5 t4c6 t4c7); obtain ⟨t4c0, t4c1, t4c2, t4c3, t4c4, t4c5, t4c6, t4c7⟩ := cs8 (L4.out); (try clear t5c0 t5c1); obtain ⟨t5c0, t5c1⟩ := cs2 (L5.out); (try clear t7c0 t7c1); obtain ⟨t7c0, t7c1⟩ := cs2 (L7.out))) | ((with_reducible refine gate_store (p := 7) rfl ?_); go_must ((refine wpList_plain rfl fun K_ hK_ => wp_store_row _ _ _ rfl (g7) #[.slice A3 n2.length c3, .slice B3 e2.length d3] rfl rfl _ _ L7.out (by kernel_rfl) rfl (by simp [Value.oneCell']) (hK_ _ _ ?_)); refine named _ ?_; intro wz hwz; replace HB := Aside0.mk (sb_ hwz HB.out (by have := Hg3.out; have := Hg4.out; have := Hg5.out; have := Hg7.out; omega)); replace L3 := Aside0.mk (so_ hwz L3.out (by have := Hg3.out; have := Hg4.out; have := Hg5.out; have := Hg7.out; omega)); replace L4 := Aside0.mk (so_ hwz L4.out (by have := Hg3.out; have := Hg4.out; have := Hg5.out; have := Hg7.out; omega)); replace L5 := Aside0.mk (so_ hwz L5.out (by have := Hg3.out; have := Hg4.out; have := Hg5.out; have := Hg7.out; omega)); replace L7 := Aside0.mk (sh_ hwz L7.out); replace HGR := Aside0.mk ((HGR.out).row hwz N7HGR.out.1 N7HGR.out.2); replace HGX := Aside0.mk ((HGX.out).row hwz N7HGX.out.1 N7HGX.out.2); (try clear t3c0 t3c1); obtain ⟨t3c0, t3c1⟩ := cs2 (L3.out); (try clear t4c0 t4c1 t4c2 t4c3 t4c4 t4c5 t4c6 t4c7); obtain ⟨t4c0, t4c1, t4c2, t4c3, t4c4, t4c5, t4c6, t4c7⟩ := cs8 (L4.out); (try clear t5c0 t5c1); obtain ⟨t5c0, t5c1⟩ := cs2 (L5.out); (try clear t7c0 t7c1); obtain ⟨t7c0, t7c1⟩ := cs2 (L7.out); clear hwz)))
 clear L7
 by_cases hq : q = 0 ∧ op.kind = 2
 ·obtain ⟨rfl, hk⟩ := hq
  have HOG := Aside0.mk (doC_zero HDO.out.2.2).1
  have hf := fine_edge HDO.out.2.2 hk
  have hd := do_ok (op := op) HOG.out
  rw [HDO.out.1, HDO.out.2.1] at hf hd
  obtain ⟨f1, f2, f3, f4, f5, f6, f7⟩ := hf
  have hn2 : ns = n2 := f6.symm
  subst hn2
  have HOX := Aside0.mk hd
  have HIN := Aside0.mk (show op.eg ∈ e2 by rw [f7]; exact (mem_insE HOG.out f1 _).2 (.inl rfl))
  have HSUB := Aside0.mk (show Sub ns es ns e2 from ⟨fun x hx => hx, fun x hx => by rw [f7]; exact (mem_insE HOG.out f1 x).2 (.inr hx)⟩)
  have HLM := Aside0.mk (NsOk.mk HOG.out.nok HOG.out.nasc HOG.out.nfew).len
  have HLX := Aside0.mk (show ns.length ≤ 100 ∧ e2.length ≤ 100 from ⟨by have := HLM.out; omega, by have := (EsOk.mk HOX.out.eok HOX.out.easc HOX.out.efew HOX.out.ends).len; omega⟩)
  have HSN := Aside0.mk (idx_lt f4.1)
  obtain ⟨v, hv⟩ : ∃ v, idx ns op.eg.b = v := ⟨_, rfl⟩
  have HVN := Aside0.mk (show v < ns.length by rw [← hv]; exact idx_lt f4.2)
  have HPV := Aside0.mk (show placeI ns op.eg.b = (v : Int) by rw [placeI_in f4.2, hv])
  have HV1 := Aside0.mk (show dist (adjI ns e2) (idx ns op.eg.a) v = 1 by
   have ha := adj_new HOX.out HIN.out
   rw [hv] at ha
   have h1 := dist_adj (show 0 ≤ dist (adjI ns e2) (idx ns op.eg.a) (idx ns op.eg.a) by rw [dist_self]; omega) ha
   rw [dist_self] at h1
   have h2 : dist (adjI ns e2) (idx ns op.eg.a) v ≠ 0 := fun h => by
    have := dist_zero h
    rw [this, adjI_irr HOX.out] at ha
    cases ha
   omega)
  obtain ⟨C, hC⟩ : ∃ y, wCore ns es = y := ⟨_, rfl⟩
  obtain ⟨K, hK⟩ : ∃ y, wCore ns e2 = y := ⟨_, rfl⟩
  obtain ⟨D, hD⟩ : ∃ y, wDist ns es op.eg.a = y := ⟨_, rfl⟩
  obtain ⟨E, hE⟩ : ∃ y, wDist ns e2 op.eg.a = y := ⟨_, rfl⟩
  obtain ⟨T1, hT1⟩ : ∃ y, wThrees ns es = y := ⟨_, rfl⟩
  obtain ⟨T2, hT2⟩ : ∃ y, wThrees ns e2 = y := ⟨_, rfl⟩
  have ok1 := okG_true.2 HOG.out
  have ok2 := okG_true.2 HOX.out
  have HCQ := Aside0.mk hC
  have HKQ := Aside0.mk hK
  have HDQ := Aside0.mk hD
  have HEQ := Aside0.mk hE
  have HT1 := Aside0.mk hT1
  have HT2 := Aside0.mk hT2
  have HCE := Aside0.mk (show C = coreL (adjI ns es) ns.length from hC.symm.trans (if_pos ok1))
  have HKE := Aside0.mk (show K = coreL (adjI ns e2) ns.length from hK.symm.trans (if_pos ok2))
  have HDE := Aside0.mk (wd_at hD ok1 f4.1)
  have HEE := Aside0.mk (wd_at hE ok2 f4.1)
  have HCL := Aside0.mk (show C.length = ns.length by rw [HCE.out, coreL_length])
  have HKL := Aside0.mk (show K.length = ns.length by rw [HKE.out, coreL_length])
  have HDL := Aside0.mk (show D.length = ns.length by rw [HDE.out, distL_length])
  have HEL := Aside0.mk (show E.length = ns.length by rw [HEE.out, distL_length])
  have HVE := Aside0.mk (show gt E v = 1 by rw [HEE.out, gt_distL HVN.out, HV1.out])
  have HTT := Aside0.mk (show T1 ≤ T2 by
   have e1 : wThrees ns es = tris (adjI ns es) ns.length := if_pos ok1
   have e3 : wThrees ns e2 = tris (adjI ns e2) ns.length := if_pos ok2
   rw [← hT1, ← hT2, e1, e3]
   exact sub_tris HSUB.out HOG.out HOX.out)
  clear f1 f2 f3 f4 f5 f6 f7 hd hv hC hK hD hE hT1 hT2 ok1 ok2
  go_wp2_with (first | (go_at_call 12; ((with_reducible refine (walkCore_m A1 c1 ns B1 d1 es C ns.length _ HGR.out HCQ.out HCL.out).mono ?_); rintro e u_ ⟨A9, cA9, rfl, hc_, hb⟩; have HC9 := Aside0.mk hc_; clear hc_; replace HB := Aside0.mk (below_step HB.out hb); replace L3 := Aside0.mk (blk_below L3.out hb); replace L4 := Aside0.mk (blk_below L4.out hb); replace L5 := Aside0.mk (blk_below L5.out hb); replace HGR := Aside0.mk (HGR.out.below hb); replace HGX := Aside0.mk (HGX.out.below hb); (try clear t3c0 t3c1); obtain ⟨t3c0, t3c1⟩ := cs2 (L3.out); (try clear t4c0 t4c1 t4c2 t4c3 t4c4 t4c5 t4c6 t4c7); obtain ⟨t4c0, t4c1, t4c2, t4c3, t4c4, t4c5, t4c6, t4c7⟩ := cs8 (L4.out); (try clear t5c0 t5c1); obtain ⟨t5c0, t5c1⟩ := cs2 (L5.out); clear hb)) | (go_at_call 12; ((with_reducible refine (walkCore_m A2 c2 ns B2 d2 e2 K ns.length _ HGX.out HKQ.out HKL.out).mono ?_); rintro e u_ ⟨A10, cA10, rfl, hc_, hb⟩; have HC10 := Aside0.mk hc_; clear hc_; replace HB := Aside0.mk (below_step HB.out hb); replace L3 := Aside0.mk (blk_below L3.out hb); replace L4 := Aside0.mk (blk_below L4.out hb); replace L5 := Aside0.mk (blk_below L5.out hb); replace HGR := Aside0.mk (HGR.out.below hb); replace HGX := Aside0.mk (HGX.out.below hb); replace HC9 := Aside0.mk (Kd.C_below (HC9.out) hb); (try clear t3c0 t3c1); obtain ⟨t3c0, t3c1⟩ := cs2 (L3.out); (try clear t4c0 t4c1 t4c2 t4c3 t4c4 t4c5 t4c6 t4c7); obtain ⟨t4c0, t4c1, t4c2, t4c3, t4c4, t4c5, t4c6, t4c7⟩ := cs8 (L4.out); (try clear t5c0 t5c1); obtain ⟨t5c0, t5c1⟩ := cs2 (L5.out); clear hb)) | (go_at_call 13; ((with_reducible refine (walkDist_m A1 c1 ns B1 d1 es op.eg.a D ns.length _ HGR.out HDQ.out HDL.out).mono ?_); rintro e u_ ⟨A11, cA11, rfl, hc_, hb⟩; have HC11 := Aside0.mk hc_; clear hc_; replace HB := Aside0.mk (below_step HB.out hb); replace L3 := Aside0.mk (blk_below L3.out hb); replace L4 := Aside0.mk (blk_below L4.out hb); replace L5 := Aside0.mk (blk_below L5.out hb); replace HGR := Aside0.mk (HGR.out.below hb); replace HGX := Aside0.mk (HGX.out.below hb); replace HC9 := Aside0.mk (Kd.C_below (HC9.out) hb); replace HC10 := Aside0.mk (Kd.C_below (HC10.out) hb); (try clear t3c0 t3c1); obtain ⟨t3c0, t3c1⟩ := cs2 (L3.out); (try clear t4c0 t4c1 t4c2 t4c3 t4c4 t4c5 t4c6 t4c7); obtain ⟨t4c0, t4c1, t4c2, t4c3, t4c4, t4c5, t4c6, t4c7⟩ := cs8 (L4.out); (try clear t5c0 t5c1); obtain ⟨t5c0, t5c1⟩ := cs2 (L5.out); clear hb)) | (go_at_call 13; ((with_reducible refine (walkDist_m A2 c2 ns B2 d2 e2 op.eg.a E ns.length _ HGX.out HEQ.out HEL.out).mono ?_); rintro e u_ ⟨A12, cA12, rfl, hc_, hb⟩; have HC12 := Aside0.mk hc_; clear hc_; replace HB := Aside0.mk (below_step HB.out hb); replace L3 := Aside0.mk (blk_below L3.out hb); replace L4 := Aside0.mk (blk_below L4.out hb); replace L5 := Aside0.mk (blk_below L5.out hb); replace HGR := Aside0.mk (HGR.out.below hb); replace HGX := Aside0.mk (HGX.out.below hb); replace HC9 := Aside0.mk (Kd.C_below (HC9.out) hb); replace HC10 := Aside0.mk (Kd.C_below (HC10.out) hb); replace HC11 := Aside0.mk (Kd.C_below (HC11.out) hb); (try clear t3c0 t3c1); obtain ⟨t3c0, t3c1⟩ := cs2 (L3.out); (try clear t4c0 t4c1 t4c2 t4c3 t4c4 t4c5 t4c6 t4c7); obtain ⟨t4c0, t4c1, t4c2, t4c3, t4c4, t4c5, t4c6, t4c7⟩ := cs8 (L4.out); (try clear t5c0 t5c1); obtain ⟨t5c0, t5c1⟩ := cs2 (L5.out); clear hb)))
  go_loopw [13] (fun s13 wr => ∃ i : Nat, i ≤ ns.length ∧ s13 = .int .i64 (i : Int) ∧ WmS w g3 g4 g5 A1 c1 ns B1 d1 es op A2 c2 B2 d2 e2 A9 C A10 K A11 D A12 E wr) (fun s13 _ => (ns.length - intOf s13).toNat)
  case atStart => exact ⟨0, Nat.zero_le _, rfl, ⟨L3.out, L4.out, L5.out, HGR.out, HGX.out, HC9.out, HC10.out, HC11.out, HC12.out, HB.out⟩⟩
  case round =>
   clear L3 L4 L5 HGR HGX HC9 HC10 HC11 HC12 HB
   obtain ⟨i, hi, rfl, l3_, l4_, l5_, gr_, gx_, c9_, c10_, c11_, c12_, hb_⟩ := hrel
   have HI := Aside0.mk hi
   clear hi
   have L3 := Aside0.mk l3_
   have L4 := Aside0.mk l4_
   have L5 := Aside0.mk l5_
   have HGR := Aside0.mk gr_
   have HGX := Aside0.mk gx_
   have HC9 := Aside0.mk c9_
   have HC10 := Aside0.mk c10_
   have HC11 := Aside0.mk c11_
   have HC12 := Aside0.mk c12_
   have HB := Aside0.mk hb_
   obtain ⟨t3c0, t3c1⟩ := cs2 (L3.out)
   obtain ⟨t5c0, t5c1⟩ := cs2 (L5.out)
   obtain ⟨t4c0, t4c1, t4c2, t4c3, t4c4, t4c5, t4c6, t4c7⟩ := cs8 (L4.out)
   clear l3_ l4_ l5_ gr_ gx_ c9_ c10_ c11_ c12_ hb_
   have hnn : (ns.length : Int) ≤ 40 := by have := HLM.out; omega
   by_cases hlt : i < ns.length
   ·have hil : (i : Int) < (ns.length : Int) := by omega
    have HIL := Aside0.mk hlt
    obtain ⟨x, hx⟩ : ∃ x, core (adjI ns e2) ns.length i = x := ⟨_, rfl⟩
    obtain ⟨z, hz⟩ : ∃ x, core (adjI ns es) ns.length i = x := ⟨_, rfl⟩
    obtain ⟨p, hp⟩ : ∃ x, dist (adjI ns es) (idx ns op.eg.a) i = x := ⟨_, rfl⟩
    obtain ⟨y, hy⟩ : ∃ x, dist (adjI ns e2) (idx ns op.eg.a) i = x := ⟨_, rfl⟩
    have hzx : decide (x < z) = false := decide_eq_false (by have := sub_core HSUB.out HOG.out HOX.out hlt; rw [up_same HOG.out hlt, hx, hz] at this; omega)
    have HPY := Aside0.mk (show 0 ≤ p → 0 ≤ y ∧ y ≤ p from fun h => by
     have := sub_dist (s := idx ns op.eg.a) (v := i) HSUB.out (by rw [hp]; exact h)
     rwa [up_same HOG.out hlt, up_same HOG.out HSN.out, hp, hy] at this)
    obtain ⟨a10, e_, k0⟩ := int_atN HC10.out i hlt (x : Int) (by rw [HKE.out, gt_coreL hlt, hx])
    cases e_
    obtain ⟨a9, e_, k1⟩ := int_atN HC9.out i hlt (z : Int) (by rw [HCE.out, gt_coreL hlt, hz])
    cases e_
    obtain ⟨a11, e_, k2⟩ := int_atN HC11.out i hlt p (by rw [HDE.out, gt_distL hlt, hp])
    cases e_
    obtain ⟨a12, e_, k3⟩ := int_atN HC12.out i hlt y (by rw [HEE.out, gt_distL hlt, hy])
    cases e_
    clear hlt hx hz hp hy
    by_cases hp0 : 0 ≤ p
    ·have hpb : decide (0 ≤ p) = true := decide_eq_true hp0
     have hyb : decide (y < 0) = false := decide_eq_false (by have := HPY.out hp0; omega)
     have hyp : decide (p < y) = false := decide_eq_false (by have := HPY.out hp0; omega)
     clear hp0
     go_wp2_with (fail)
     have ZL4 := L4
     have ZL3 := L3
     have ZL5 := L5
     refine region_bp [] sWy15 (by kernel_rfl) sWy15_ok (by decide) (fun d _ _ _ _ h => by cases d <;> exact h) ?_
     intro u hb
     have hS := hb
     replace HB := Aside0.mk (below_step HB.out hb)
     replace L4 := Aside0.mk (blk_below L4.out hb)
     replace L3 := Aside0.mk (blk_below L3.out hb)
     replace L5 := Aside0.mk (blk_below L5.out hb)
     replace HGR := Aside0.mk (HGR.out.below hb)
     replace HGX := Aside0.mk (HGX.out.below hb)
     replace HC9 := Aside0.mk (Kd.C_below (HC9.out) hb)
     replace HC10 := Aside0.mk (Kd.C_below (HC10.out) hb)
     replace HC11 := Aside0.mk (Kd.C_below (HC11.out) hb)
     replace HC12 := Aside0.mk (Kd.C_below (HC12.out) hb)
     (try clear t4c0 t4c1 t4c2 t4c3 t4c4 t4c5 t4c6 t4c7)
     obtain ⟨t4c0, t4c1, t4c2, t4c3, t4c4, t4c5, t4c6, t4c7⟩ := cs8 (L4.out)
     (try clear t3c0 t3c1)
     obtain ⟨t3c0, t3c1⟩ := cs2 (L3.out)
     (try clear t5c0 t5c1)
     obtain ⟨t5c0, t5c1⟩ := cs2 (L5.out)
     clear hb
     repeat (first | (refine p_off hS gt_ (by rfl) ?_; intro a_ ha_; (simp only [Act.put, pu1, pu2, pu3] at ha_); subst ha_) | (refine p_on (v := ?_) hS gt_ (by rfl) ?_ ?_; rotate_left; (· rintro w_ hS_; obtain ⟨t4c0_, t4c1_, t4c2_, t4c3_, t4c4_, t4c5_, t4c6_, t4c7_⟩ := cs8 (blk_below ZL4.out hS_); obtain ⟨t3c0_, t3c1_⟩ := cs2 (blk_below ZL3.out hS_); obtain ⟨t5c0_, t5c1_⟩ := cs2 (blk_below ZL5.out hS_); have k0_ := pw_cell_below hS_ k0; have k1_ := pw_cell_below hS_ k1; have k2_ := pw_cell_below hS_ k2; have k3_ := pw_cell_below hS_ k3; go_simp; with_reducible rfl); intro a_ ha_; (simp only [Act.put, pu1, pu2, pu3] at ha_); subst ha_) | (refine p_poff gt_ (by rfl) ?_; intro a_ ha_; (simp only [Act.put, pu1, pu2, pu3] at ha_); subst ha_) | (refine p_pon (v := ?_) gt_ (by rfl) ?_ ?_; rotate_left; (· go_simp; with_reducible rfl); intro a_ ha_; (simp only [Act.put, pu1, pu2, pu3] at ha_); subst ha_) | (refine p_ooff hS gt_ (by rfl) ?_; intro a_ ha_; (simp only [Act.put, pu1, pu2, pu3] at ha_); subst ha_) | (refine p_loff gt_ (by rfl) ?_; intro a_ ha_; (simp only [Act.put, pu1, pu2, pu3] at ha_); subst ha_))
     refine p_fin ?_
     clear hS ZL4 ZL3 ZL5
     go_wp2_with (fail)
     go_roundw
     case rel => exact ⟨i + 1, HIL.out, by go_num, ⟨L3.out, L4.out, L5.out, HGR.out, HGX.out, HC9.out, HC10.out, HC11.out, HC12.out, HB.out⟩⟩
     case measure => have := HIL.out; simp [intOf]; omega
    ·have hpb : decide (0 ≤ p) = false := decide_eq_false hp0
     clear hp0
     go_wp2_with (fail)
     have ZL4 := L4
     have ZL3 := L3
     have ZL5 := L5
     refine region_bp [] sWy15 (by kernel_rfl) sWy15_ok (by decide) (fun d _ _ _ _ h => by cases d <;> exact h) ?_
     intro u hb
     have hS := hb
     replace HB := Aside0.mk (below_step HB.out hb)
     replace L4 := Aside0.mk (blk_below L4.out hb)
     replace L3 := Aside0.mk (blk_below L3.out hb)
     replace L5 := Aside0.mk (blk_below L5.out hb)
     replace HGR := Aside0.mk (HGR.out.below hb)
     replace HGX := Aside0.mk (HGX.out.below hb)
     replace HC9 := Aside0.mk (Kd.C_below (HC9.out) hb)
     replace HC10 := Aside0.mk (Kd.C_below (HC10.out) hb)
     replace HC11 := Aside0.mk (Kd.C_below (HC11.out) hb)
     replace HC12 := Aside0.mk (Kd.C_below (HC12.out) hb)
     (try clear t4c0 t4c1 t4c2 t4c3 t4c4 t4c5 t4c6 t4c7)
     obtain ⟨t4c0, t4c1, t4c2, t4c3, t4c4, t4c5, t4c6, t4c7⟩ := cs8 (L4.out)
     (try clear t3c0 t3c1)
     obtain ⟨t3c0, t3c1⟩ := cs2 (L3.out)
     (try clear t5c0 t5c1)
     obtain ⟨t5c0, t5c1⟩ := cs2 (L5.out)
     clear hb
     repeat (first | (refine p_off hS gt_ (by rfl) ?_; intro a_ ha_; (simp only [Act.put, pu1, pu2, pu3] at ha_); subst ha_) | (refine p_on (v := ?_) hS gt_ (by rfl) ?_ ?_; rotate_left; (· rintro w_ hS_; obtain ⟨t4c0_, t4c1_, t4c2_, t4c3_, t4c4_, t4c5_, t4c6_, t4c7_⟩ := cs8 (blk_below ZL4.out hS_); obtain ⟨t3c0_, t3c1_⟩ := cs2 (blk_below ZL3.out hS_); obtain ⟨t5c0_, t5c1_⟩ := cs2 (blk_below ZL5.out hS_); have k0_ := pw_cell_below hS_ k0; have k1_ := pw_cell_below hS_ k1; have k2_ := pw_cell_below hS_ k2; have k3_ := pw_cell_below hS_ k3; go_simp; with_reducible rfl); intro a_ ha_; (simp only [Act.put, pu1, pu2, pu3] at ha_); subst ha_) | (refine p_poff gt_ (by rfl) ?_; intro a_ ha_; (simp only [Act.put, pu1, pu2, pu3] at ha_); subst ha_) | (refine p_pon (v := ?_) gt_ (by rfl) ?_ ?_; rotate_left; (· go_simp; with_reducible rfl); intro a_ ha_; (simp only [Act.put, pu1, pu2, pu3] at ha_); subst ha_) | (refine p_ooff hS gt_ (by rfl) ?_; intro a_ ha_; (simp only [Act.put, pu1, pu2, pu3] at ha_); subst ha_) | (refine p_loff gt_ (by rfl) ?_; intro a_ ha_; (simp only [Act.put, pu1, pu2, pu3] at ha_); subst ha_))
     refine p_fin ?_
     clear hS ZL4 ZL3 ZL5
     go_wp2_with (fail)
     go_roundw
     case rel => exact ⟨i + 1, HIL.out, by go_num, ⟨L3.out, L4.out, L5.out, HGR.out, HGX.out, HC9.out, HC10.out, HC11.out, HC12.out, HB.out⟩⟩
     case measure => have := HIL.out; simp [intOf]; omega
   ·have hil : ¬ (i : Int) < (ns.length : Int) := by omega
    obtain ⟨a12, e_, k0⟩ := int_atN HC12.out v HVN.out 1 HVE.out
    cases e_
    have hvn : (v : Int) < (ns.length : Int) := by have := HVN.out; omega
    have htt : decide (T1 ≤ T2) = true := decide_eq_true HTT.out
    clear hlt HC9 HC10 HC11 HC12
    go_wp2_with (fail)
    have ZL4 := L4
    have ZL3 := L3
    have ZL5 := L5
    refine region_bp [] sWy17 (by kernel_rfl) sWy17_ok (by decide) (fun d _ _ _ _ h => by cases d <;> exact h) ?_
    intro u hb
    have hS := hb
    replace HB := Aside0.mk (below_step HB.out hb)
    replace L4 := Aside0.mk (blk_below L4.out hb)
    replace L3 := Aside0.mk (blk_below L3.out hb)
    replace L5 := Aside0.mk (blk_below L5.out hb)
    replace HGR := Aside0.mk (HGR.out.below hb)
    replace HGX := Aside0.mk (HGX.out.below hb)
    (try clear t4c0 t4c1 t4c2 t4c3 t4c4 t4c5 t4c6 t4c7)
    obtain ⟨t4c0, t4c1, t4c2, t4c3, t4c4, t4c5, t4c6, t4c7⟩ := cs8 (L4.out)
    (try clear t3c0 t3c1)
    obtain ⟨t3c0, t3c1⟩ := cs2 (L3.out)
    (try clear t5c0 t5c1)
    obtain ⟨t5c0, t5c1⟩ := cs2 (L5.out)
    clear hb
    repeat (first | (refine p_off hS gt_ (by rfl) ?_; intro a_ ha_; (simp only [Act.put, pu1, pu2, pu3] at ha_); subst ha_) | (refine p_on (v := ?_) hS gt_ (by rfl) ?_ ?_; rotate_left; (· rintro w_ hS_; obtain ⟨t4c0_, t4c1_, t4c2_, t4c3_, t4c4_, t4c5_, t4c6_, t4c7_⟩ := cs8 (blk_below ZL4.out hS_); obtain ⟨t3c0_, t3c1_⟩ := cs2 (blk_below ZL3.out hS_); obtain ⟨t5c0_, t5c1_⟩ := cs2 (blk_below ZL5.out hS_); have k0_ := pw_cell_below hS_ k0; go_simp; with_reducible rfl); intro a_ ha_; (simp only [Act.put, pu1, pu2, pu3] at ha_); subst ha_) | (refine p_poff gt_ (by rfl) ?_; intro a_ ha_; (simp only [Act.put, pu1, pu2, pu3] at ha_); subst ha_) | (refine p_pon (v := ?_) gt_ (by rfl) ?_ ?_; rotate_left; (· go_simp; with_reducible rfl); intro a_ ha_; (simp only [Act.put, pu1, pu2, pu3] at ha_); subst ha_) | (refine p_ooff hS gt_ (by rfl) ?_; intro a_ ha_; (simp only [Act.put, pu1, pu2, pu3] at ha_); subst ha_) | (refine p_loff gt_ (by rfl) ?_; intro a_ ha_; (simp only [Act.put, pu1, pu2, pu3] at ha_); subst ha_) | (refine p_call (f := 14) (args := #[.agg #[.slice A2 ns.length c2, .slice B2 e2.length d2]]) Tryz.func14 (by kernel_rfl) rfl gt_ (by rfl) (by rfl) mp_ ?_; (refine (walkThrees_as A2 c2 ns B2 d2 e2 T2 _ HGX.out HT2.out).mono ?_); rintro e_ u_ ⟨rfl, hb⟩; replace HB := Aside0.mk (below_step HB.out hb); replace L4 := Aside0.mk (blk_below L4.out hb); replace L3 := Aside0.mk (blk_below L3.out hb); replace L5 := Aside0.mk (blk_below L5.out hb); replace HGR := Aside0.mk (HGR.out.below hb); replace HGX := Aside0.mk (HGX.out.below hb); (try clear t4c0 t4c1 t4c2 t4c3 t4c4 t4c5 t4c6 t4c7); obtain ⟨t4c0, t4c1, t4c2, t4c3, t4c4, t4c5, t4c6, t4c7⟩ := cs8 (L4.out); (try clear t3c0 t3c1); obtain ⟨t3c0, t3c1⟩ := cs2 (L3.out); (try clear t5c0 t5c1); obtain ⟨t5c0, t5c1⟩ := cs2 (L5.out); replace hS := below_step hS hb; refine ⟨_, rfl, hS, fun a_ ha_ => ?_⟩; (simp only [Act.put, pu1, pu2, pu3] at ha_); subst ha_; clear hb) | (refine p_call (f := 14) (args := #[.agg #[.slice A1 ns.length c1, .slice B1 es.length d1]]) Tryz.func14 (by kernel_rfl) rfl gt_ (by rfl) (by rfl) mp_ ?_; (refine (walkThrees_as A1 c1 ns B1 d1 es T1 _ HGR.out HT1.out).mono ?_); rintro e_ u_ ⟨rfl, hb⟩; replace HB := Aside0.mk (below_step HB.out hb); replace L4 := Aside0.mk (blk_below L4.out hb); replace L3 := Aside0.mk (blk_below L3.out hb); replace L5 := Aside0.mk (blk_below L5.out hb); replace HGR := Aside0.mk (HGR.out.below hb); replace HGX := Aside0.mk (HGX.out.below hb); (try clear t4c0 t4c1 t4c2 t4c3 t4c4 t4c5 t4c6 t4c7); obtain ⟨t4c0, t4c1, t4c2, t4c3, t4c4, t4c5, t4c6, t4c7⟩ := cs8 (L4.out); (try clear t3c0 t3c1); obtain ⟨t3c0, t3c1⟩ := cs2 (L3.out); (try clear t5c0 t5c1); obtain ⟨t5c0, t5c1⟩ := cs2 (L5.out); replace hS := below_step hS hb; refine ⟨_, rfl, hS, fun a_ ha_ => ?_⟩; (simp only [Act.put, pu1, pu2, pu3] at ha_); subst ha_; clear hb) | (refine p_call (f := 15) (args := #[.agg #[.slice A2 ns.length c2, .slice B2 e2.length d2], .agg #[.int .i64 op.eg.b.lab, .int .i64 op.eg.b.num]]) Tryz.func15 (by kernel_rfl) rfl gt_ (by rfl) (by rfl) mp_ ?_; (refine (wpAt_as A2 c2 ns B2 d2 e2 op.eg.b v _ HGX.out HLX.out HPV.out).mono ?_); rintro e_ u_ ⟨rfl, hb⟩; replace HB := Aside0.mk (below_step HB.out hb); replace L4 := Aside0.mk (blk_below L4.out hb); replace L3 := Aside0.mk (blk_below L3.out hb); replace L5 := Aside0.mk (blk_below L5.out hb); replace HGR := Aside0.mk (HGR.out.below hb); replace HGX := Aside0.mk (HGX.out.below hb); (try clear t4c0 t4c1 t4c2 t4c3 t4c4 t4c5 t4c6 t4c7); obtain ⟨t4c0, t4c1, t4c2, t4c3, t4c4, t4c5, t4c6, t4c7⟩ := cs8 (L4.out); (try clear t3c0 t3c1); obtain ⟨t3c0, t3c1⟩ := cs2 (L3.out); (try clear t5c0 t5c1); obtain ⟨t5c0, t5c1⟩ := cs2 (L5.out); replace hS := below_step hS hb; refine ⟨_, rfl, hS, fun a_ ha_ => ?_⟩; (simp only [Act.put, pu1, pu2, pu3] at ha_); subst ha_; clear hb))
    refine p_fin ?_
    clear hS ZL4 ZL3 ZL5
    go_wp2_with (fail)
    go_ret
    exact ⟨by first | rfl | simp [HTT.out], HB.out⟩
 ·have hcase : ¬ q = 0 ∨ (q = 0 ∧ ¬ op.kind = 2) := by omega
  clear hq
  rcases hcase with hq | ⟨hq, hk⟩
  ·go_wp2_with (fail)
   go_ret
   exact ⟨by simp, HB.out⟩
  ·subst hq
   go_wp2_with (fail)
   go_ret
   exact ⟨by simp, HB.out⟩
end Go.Proofs.YtogmbeifbjgphaaGreat.R
