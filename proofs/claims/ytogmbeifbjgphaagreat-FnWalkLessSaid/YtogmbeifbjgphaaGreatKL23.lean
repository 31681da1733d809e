/- The law FnWalkLess, walked (great seat). -/
import Derived.Test.YtogmbeifbjgphaaGreatKL2
import Derived.Test.YtogmbeifbjgphaaGreatKL26
namespace Go.Proofs.YtogmbeifbjgphaaGreat.R
open Go.RowKit Go.Proofs.YtogmbeifbjgphaaGreatV.PrintWords Go.Proofs.YtogmbeifbjgphaaGreatV.PrintLast Go.Proofs.YtogmbeifbjgphaaGreatV.PrintMore Go.Proofs.YtogmbeifbjgphaaGreat.M
set_option linter.unusedVariables false
set_option linter.unusedSimpArgs false
attribute [local go_sem high] eqN eqE
abbrev sWz16 : Pl := (.tk 0 (.tk 1 (.tk 2 (.tk 3 (.tk 4 (.tk 5 (.nd .one 6 (.tk 7 .fin))))))))
theorem sWz16_ok : planB .any (opsOf Tryz.f8 16) [] sWz16 (Array.replicate (opsOf Tryz.f8 16).size false) = true := by kernel_rfl
abbrev sWz17 : Pl := (.tk 0 (.tk 1 (.tk 2 (.tk 3 (.tk 4 (.tk 5 (.tk 6 (.tk 7 (.tk 8 (.tk 9 (.tk 10 (.tk 11 (.tk 12 (.tk 13 (.tk 14 (.tk 15 (.tk 16 (.tk 17 (.tk 18 (.tk 19 (.tk 20 (.tk 21 (.tk 22 (.tk 23 (.tk 24 (.tk 25 (.tk 26 (.tk 27 (.tk 28 (.tk 29 (.tk 30 (.tk 31 (.tk 32 (.tk 33 .fin))))))))))))))))))))))))))))))))))
theorem sWz17_ok : planB .any (opsOf Tryz.f8 17) [] sWz17 (Array.replicate (opsOf Tryz.f8 17).size false) = true := by kernel_rfl
abbrev sWz19 : Pl := (.tk 0 (.tk 2 (.nd .one 1 (.nd .one 3 (.tk 4 (.tk 5 .fin))))))
theorem sWz19_ok : planB .any (opsOf Tryz.f8 19) [] sWz19 (Array.replicate (opsOf Tryz.f8 19).size false) = true := by kernel_rfl
theorem add0' (a : Addr) : a.add (0 * 2) = a := by
 unfold Addr.add
 split <;> simp_all
def WlS (w : World) (g3 g5 : Nat) (A1 : Option Addr) (c1 : Nat) (ns : List Nd) (B1 : Option Addr) (d1 : Nat) (es : List Eg) (a2 : Addr) (c2 : Nat) (n2 : List Nd) (B2 : Option Addr) (d2 : Nat) (e2 : List Eg) (A10 : Option Addr) (D : List Int) (A11 : Option Addr) (E : List Int) (A12 : Option Addr) (C : List Int) (A13 : Option Addr) (K : List Int) (wr : World) : Prop :=
 wr.heap[g3]? = some (.cells #[.slice A1 ns.length c1, .slice B1 es.length d1] 26 (0, 0)) ∧ wr.heap[g5]? = some (.cells #[.slice (some a2) n2.length c2, .slice B2 e2.length d2] 26 (0, 0)) ∧ GR wr A1 c1 ns B1 d1 es ∧ GR wr (some a2) c2 n2 B2 d2 e2 ∧ (Kd.int .i64).C wr A10 ns.length D ∧ (Kd.int .i64).C wr A11 n2.length E ∧ (Kd.int .i64).C wr A12 ns.length C ∧ (Kd.int .i64).C wr A13 n2.length K ∧ Below w.heap.size w wr
theorem sub_less {ns : List Nd} {es : List Eg} {op : M.Op} (h : doC ns es op = 0) (hk : 3 ≤ op.kind) : Sub (doN ns es op) (doE ns es op) ns es := by
 have h4 := fine_kind h
 by_cases k : op.kind = 3
 ·obtain ⟨_, _, _, f1, f2⟩ := fine_cut h k
  rw [f1, f2]
  exact ⟨fun x hx => hx, fun x hx => (List.mem_filter.1 hx).1⟩
 ·obtain ⟨_, _, _, f1, f2⟩ := fine_gone h (by omega)
  rw [f1, f2]
  exact ⟨fun x hx => (List.mem_filter.1 hx).1, fun x hx => (List.mem_filter.1 hx).1⟩
set_option maxHeartbeats 25600000 in
set_option maxRecDepth 100000 in
theorem walkLessLaw_calls (A : Option Addr) (c : Nat) (l : List Int) (w : World) (hl : (Kd.int .u8).C w A l.length l) (hc : l.length ≤ c) (hb : ∀ x ∈ l, 0 ≤ x ∧ x < 256) :
 Calls Tryz.prog 8 #[.slice A l.length c] w fun e w' => e = .returned (.bool true) ∧ Below w.heap.size w w' := by
 have HL := Aside0.mk hl
 have HC := Aside0.mk hc
 have HY := Aside0.mk hb
 have HB := Aside0.mk (Below.refl w.heap.size w)
 clear hl hc hb
 by_cases hlen : 1048576 < l.length
 ·have hl1 : (1048576 : Int) < (l.length : Int) := by omega
  go_enter Tryz.func8, Tryz.ntmps8
  go_wp2_with (fail)
  go_ret
  exact ⟨rfl, HB.out⟩
 have hl1 : ¬ (1048576 : Int) < (l.length : Int) := by omega
 clear hlen
 go_enter Tryz.func8, Tryz.ntmps8
 go_upto_region 6 with (first | (go_at_call 9; go_must ((refine (drawGO_calls A c l _ (Kd.C_below HL.out HB.out) HC.out HY.out).mono ?_); rintro e u_ ⟨⟨A1, c1, ns, B1, d1, es, op, rfl, hgr_, hn_, he_⟩, hb⟩; have HGR := Aside0.mk hgr_; have HLN := Aside0.mk (And.intro hn_ he_); clear hgr_ hn_ he_; obtain ⟨n2, hn_⟩ : ∃ y, doN ns es op = y := ⟨_, rfl⟩; obtain ⟨e2, he_⟩ : ∃ y, doE ns es op = y := ⟨_, rfl⟩; obtain ⟨q, hq_⟩ : ∃ y, doC ns es op = y := ⟨_, rfl⟩; have HDO := Aside0.mk (And.intro hn_ (And.intro he_ hq_)); clear hn_ he_ hq_; replace HB := Aside0.mk (below_step HB.out hb); clear hb)) | ((with_reducible refine gate_dst (N := 3) rfl ?_); go_must ((refine w_new #[.slice none 0 0, .slice none 0 0] 26 rfl (by go_simp; (first | done | rfl)) ?_); intro g3 u_ hge_ hb0_ hb; have N3HGR := Aside0.mk (HGR.out.new hge_); have Hg3 := Aside0.mk (show w.heap.size + 0 ≤ g3 from by have hl0_ := HB.out.size; exact by omega); have L3 := Aside0.mk hb0_; replace HB := Aside0.mk (below_step HB.out hb); replace HGR := Aside0.mk (HGR.out.below hb); clear hge_ hb0_ hb; (try clear t3c0 t3c1); obtain ⟨t3c0, t3c1⟩ := cs2 (L3.out))) | ((with_reducible refine gate_dst (N := 4) rfl ?_); go_must ((refine w_new #[.int .i64 0, .int .i64 0, .int .i64 0, .int .i64 0, .int .i64 0, .int .i64 0, .int .i64 0, .int .i64 0] 32 rfl (by go_simp; (first | done | rfl)) ?_); intro g4 u_ hge_ hb0_ hb; have N4HGR := Aside0.mk (HGR.out.new hge_); have Hg4 := Aside0.mk (show w.heap.size + 0 ≤ g4 ∧ g3 < g4 from by have hl0_ := HB.out.size; have hl_g3 := blk_lt L3.out; exact ⟨by omega, by omega⟩); have L4 := Aside0.mk hb0_; replace HB := Aside0.mk (below_step HB.out hb); replace L3 := Aside0.mk (blk_below L3.out hb); replace HGR := Aside0.mk (HGR.out.below hb); clear hge_ hb0_ hb; (try clear t3c0 t3c1); obtain ⟨t3c0, t3c1⟩ := cs2 (L3.out); (try clear t4c0 t4c1 t4c2 t4c3 t4c4 t4c5 t4c6 t4c7); obtain ⟨t4c0, t4c1, t4c2, t4c3, t4c4, t4c5, t4c6, t4c7⟩ := cs8 (L4.out))) | ((with_reducible refine gate_store (p := 3) rfl ?_); go_must ((refine wpList_plain rfl fun K_ hK_ => wp_store_row _ _ _ rfl (g3) #[.slice A1 ns.length c1, .slice B1 es.length d1] rfl rfl _ _ L3.out (by kernel_rfl) rfl (by simp [Value.oneCell']) (hK_ _ _ ?_)); refine named _ ?_; intro wz hwz; replace HB := Aside0.mk (sb_ hwz HB.out (by have := Hg3.out; have := Hg4.out; omega)); replace L4 := Aside0.mk (so_ hwz L4.out (by have := Hg3.out; have := Hg4.out; omega)); replace L3 := Aside0.mk (sh_ hwz L3.out); replace HGR := Aside0.mk ((HGR.out).row hwz N3HGR.out.1 N3HGR.out.2); (try clear t3c0 t3c1); obtain ⟨t3c0, t3c1⟩ := cs2 (L3.out); (try clear t4c0 t4c1 t4c2 t4c3 t4c4 t4c5 t4c6 t4c7); obtain ⟨t4c0, t4c1, t4c2, t4c3, t4c4, t4c5, t4c6, t4c7⟩ := cs8 (L4.out); clear hwz)) | ((with_reducible refine gate_store (p := 4) rfl ?_); go_must ((refine wpList_plain rfl fun K_ hK_ => wp_store_row _ _ _ rfl (g4) #[.int .i64 op.kind, .int .i64 op.nd.lab, .int .i64 op.nd.num, .int .i64 op.eg.lab, .int .i64 op.eg.a.lab, .int .i64 op.eg.a.num, .int .i64 op.eg.b.lab, .int .i64 op.eg.b.num] rfl rfl _ _ L4.out (by kernel_rfl) rfl (by simp [Value.oneCell']) (hK_ _ _ ?_)); refine named _ ?_; intro wz hwz; replace HB := Aside0.mk (sb_ hwz HB.out (by have := Hg3.out; have := Hg4.out; omega)); replace L3 := Aside0.mk (so_ hwz L3.out (by have := Hg3.out; have := Hg4.out; omega)); replace L4 := Aside0.mk (sh_ hwz L4.out); replace HGR := Aside0.mk ((HGR.out).row hwz N4HGR.out.1 N4HGR.out.2); (try clear t3c0 t3c1); obtain ⟨t3c0, t3c1⟩ := cs2 (L3.out); (try clear t4c0 t4c1 t4c2 t4c3 t4c4 t4c5 t4c6 t4c7); obtain ⟨t4c0, t4c1, t4c2, t4c3, t4c4, t4c5, t4c6, t4c7⟩ := cs8 (L4.out); clear hwz)) | (go_at_call 10; go_must ((refine (graphDo_as A1 c1 ns B1 d1 es op n2 e2 q _ HGR.out HDO.out).mono ?_); rintro e u_ ⟨A2, c2, B2, d2, rfl, hg2_, hb⟩; have HGX := Aside0.mk hg2_; clear hg2_; replace HB := Aside0.mk (below_step HB.out hb); replace L3 := Aside0.mk (blk_below L3.out hb); replace L4 := Aside0.mk (blk_below L4.out hb); replace HGR := Aside0.mk (HGR.out.below hb); (try clear t3c0 t3c1); obtain ⟨t3c0, t3c1⟩ := cs2 (L3.out); (try clear t4c0 t4c1 t4c2 t4c3 t4c4 t4c5 t4c6 t4c7); obtain ⟨t4c0, t4c1, t4c2, t4c3, t4c4, t4c5, t4c6, t4c7⟩ := cs8 (L4.out); clear hb)) | ((with_reducible refine gate_dst (N := 5) rfl ?_); go_must ((refine w_new #[.slice none 0 0, .slice none 0 0] 26 rfl (by go_simp; (first | done | rfl)) ?_); intro g5 u_ hge_ hb0_ hb; have N5HGR := Aside0.mk (HGR.out.new hge_); have N5HGX := Aside0.mk (HGX.out.new hge_); have Hg5 := Aside0.mk (show w.heap.size + 0 ≤ g5 ∧ g3 < g5 ∧ g4 < g5 from by have hl0_ := HB.out.size; have hl_g3 := blk_lt L3.out; have hl_g4 := blk_lt L4.out; exact ⟨by omega, by omega, by omega⟩); have L5 := Aside0.mk hb0_; replace HB := Aside0.mk (below_step HB.out hb); replace L3 := Aside0.mk (blk_below L3.out hb); replace L4 := Aside0.mk (blk_below L4.out hb); replace HGR := Aside0.mk (HGR.out.below hb); replace HGX := Aside0.mk (HGX.out.below hb); clear hge_ hb0_ hb; (try clear t3c0 t3c1); obtain ⟨t3c0, t3c1⟩ := cs2 (L3.out); (try clear t4c0 t4c1 t4c2 t4c3 t4c4 t4c5 t4c6 t4c7); obtain ⟨t4c0, t4c1, t4c2, t4c3, t4c4, t4c5, t4c6, t4c7⟩ := cs8 (L4.out); (try clear t5c0 t5c1); obtain ⟨t5c0, t5c1⟩ := cs2 (L5.out))) | ((with_reducible refine gate_store (p := 5) rfl ?_); go_must ((refine wpList_plain rfl fun K_ hK_ => wp_store_row _ _ _ rfl (g5) #[.slice A2 n2.length c2, .slice B2 e2.length d2] rfl rfl _ _ L5.out (by kernel_rfl) rfl (by simp [Value.oneCell']) (hK_ _ _ ?_)); refine named _ ?_; intro wz hwz; replace HB := Aside0.mk (sb_ hwz HB.out (by have := Hg3.out; have := Hg4.out; have := Hg5.out; omega)); replace L3 := Aside0.mk (so_ hwz L3.out (by have := Hg3.out; have := Hg4.out; have := Hg5.out; omega)); replace L4 := Aside0.mk (so_ hwz L4.out (by have := Hg3.out; have := Hg4.out; have := Hg5.out; omega)); replace L5 := Aside0.mk (sh_ hwz L5.out); replace HGR := Aside0.mk ((HGR.out).row hwz N5HGR.out.1 N5HGR.out.2); replace HGX := Aside0.mk ((HGX.out).row hwz N5HGX.out.1 N5HGX.out.2); (try clear t3c0 t3c1); obtain ⟨t3c0, t3c1⟩ := cs2 (L3.out); (try clear t4c0 t4c1 t4c2 t4c3 t4c4 t4c5 t4c6 t4c7); obtain ⟨t4c0, t4c1, t4c2, t4c3, t4c4, t4c5, t4c6, t4c7⟩ := cs8 (L4.out); (try clear t5c0 t5c1); obtain ⟨t5c0, t5c1⟩ := cs2 (L5.out); clear hwz)) | (go_at_call 11; go_must ((refine (sGraphDo_as A1 c1 ns B1 d1 es op n2 e2 q _ HGR.out HLN.out HDO.out).mono ?_); rintro e u_ ⟨A3, c3, B3, d3, rfl, -, hb⟩; replace HB := Aside0.mk (below_step HB.out hb); replace L3 := Aside0.mk (blk_below L3.out hb); replace L4 := Aside0.mk (blk_below L4.out hb); replace L5 := Aside0.mk (blk_below L5.out hb); replace HGR := Aside0.mk (HGR.out.below hb); replace HGX := Aside0.mk (HGX.out.below hb); (try clear t3c0 t3c1); obtain ⟨t3c0, t3c1⟩ := cs2 (L3.out); (try clear t4c0 t4c1 t4c2 t4c3 t4c4 t4c5 t4c6 t4c7); obtain ⟨t4c0, t4c1, t4c2, t4c3, t4c4, t4c5, t4c6, t4c7⟩ := cs8 (L4.out); (try clear t5c0 t5c1); obtain ⟨t5c0, t5c1⟩ := cs2 (L5.out); clear hb)) | ((with_reducible refine gate_dst (N := 7) rfl ?_); go_must ((refine w_new #[.slice none 0 0, .slice none 0 0] 26 rfl (by go_simp; (first | done | rfl)) ?_); intro g7 u_ hge_ hb0_ hb; have N7HGR := Aside0.mk (HGR.out.new hge_); have N7HGX := Aside0.mk (HGX.out.new hge_); have Hg7 := Aside0.mk (show w.heap.size + 0 ≤ g7 ∧ g3 < g7 ∧ g4 < g7 ∧ g5 < g7 from by have hl0_ := HB.out.size; have hl_g3 := blk_lt L3.out; have hl_g4 := blk_lt L4.out; have hl_g5 := blk_lt L5.out; exact ⟨by omega, by omega, by omega, by omega⟩); have L7 := Aside0.mk hb0_; replace HB := Aside0.mk (below_step HB.out hb); replace L3 := Aside0.mk (blk_below L3.out hb); replace L4 := Aside0.mk (blk_below L4.out hb); replace L5 := Aside0.mk (blk_below L5.out hb); replace HGR := Aside0.mk (HGR.out.below hb); replace HGX := Aside0.mk (HGX.out.below hb); clear hge_ hb0_ hb; (try clear t3c0 t3c1); obtain ⟨t3c0, t3c1⟩ := cs2 (L3.out); (try clear t4c0 t4c1 t4c2 t4c3 t4c4 t4c5 t4c6 t4c7); obtain ⟨t4c0, t4c1, t4c2, t4c3, t4c4, t4c5, t4c6, t4c7⟩ := cs8 (L4.out); (try clear t5c0 t5c1); obtain ⟨t5c0, t5c1⟩ := cs2 (L5.out); (try clear t7c0 t7c1); obtain ⟨t7c0, t7c1⟩ := cs2 (L7.out))) | ((with_reducible refine gate_store (p := 7) rfl ?_); go_must ((refine wpList_plain rfl fun K_ hK_ => wp_store_row _ _ _ rfl (g7) #[.slice A3 n2.length c3, .slice B3 e2.length d3] rfl rfl _ _ L7.out (by kernel_rfl) rfl (by simp [Value.oneCell']) (hK_ _ _ ?_)); refine named _ ?_; intro wz hwz; replace HB := Aside0.mk (sb_ hwz HB.out (by have := Hg3.out; have := Hg4.out; have := Hg5.out; have := Hg7.out; omega)); replace L3 := Aside0.mk (so_ hwz L3.out (by have := Hg3.out; have := Hg4.out; have := Hg5.out; have := Hg7.out; omega)); replace L4 := Aside0.mk (so_ hwz L4.out (by have := Hg3.out; have := Hg4.out; have := Hg5.out; have := Hg7.out; omega)); replace L5 := Aside0.mk (so_ hwz L5.out (by have := Hg3.out; have := Hg4.out; have := Hg5.out; have := Hg7.out; omega)); replace L7 := Aside0.mk (sh_ hwz L7.out); replace HGR := Aside0.mk ((HGR.out).row hwz N7HGR.out.1 N7HGR.out.2); replace HGX := Aside0.mk ((HGX.out).row hwz N7HGX.out.1 N7HGX.out.2); (try clear t3c0 t3c1); obtain ⟨t3c0, t3c1⟩ := cs2 (L3.out); (try clear t4c0 t4c1 t4c2 t4c3 t4c4 t4c5 t4c6 t4c7); obtain ⟨t4c0, t4c1, t4c2, t4c3, t4c4, t4c5, t4c6, t4c7⟩ := cs8 (L4.out); (try clear t5c0 t5c1); obtain ⟨t5c0, t5c1⟩ := cs2 (L5.out); (try clear t7c0 t7c1); obtain ⟨t7c0, t7c1⟩ := cs2 (L7.out); clear hwz)))
 clear L7
 by_cases hq : q = 0 ∧ 3 ≤ op.kind ∧ ¬ n2.length = 0
 ·obtain ⟨rfl, hk, hn0⟩ := hq
  have hk3 : ¬ op.kind < 3 := by omega
  have hn0i : ¬ (n2.length : Int) = 0 := by omega
  have HOG := Aside0.mk (doC_zero HDO.out.2.2).1
  have hd := do_ok (op := op) HOG.out
  have hs := sub_less HDO.out.2.2 hk
  rw [HDO.out.1, HDO.out.2.1] at hd hs
  have HOX := Aside0.mk hd
  have HSUB := Aside0.mk hs
  have HL4 := Aside0.mk (NsOk.mk HOX.out.nok HOX.out.nasc HOX.out.nfew).len
  obtain ⟨f, hf⟩ : ∃ f, at_ n2 0 = f := ⟨_, rfl⟩
  have HFN := Aside0.mk (show f ∈ n2 from hf ▸ at_mem (by omega))
  have HFG := Aside0.mk (HSUB.out.n f HFN.out)
  obtain ⟨a2, e_, n0, n1⟩ := nd_at HGX.out.cn 0 (by omega)
  subst e_
  rw [add0', hf] at n0 n1
  have HND := Aside0.mk (And.intro n0 n1)
  obtain ⟨C, hC⟩ : ∃ y, wCore ns es = y := ⟨_, rfl⟩
  obtain ⟨K, hK⟩ : ∃ y, wCore n2 e2 = y := ⟨_, rfl⟩
  obtain ⟨D, hD⟩ : ∃ y, wDist ns es f = y := ⟨_, rfl⟩
  obtain ⟨E, hE⟩ : ∃ y, wDist n2 e2 f = y := ⟨_, rfl⟩
  obtain ⟨T1, hT1⟩ : ∃ y, wThrees ns es = y := ⟨_, rfl⟩
  obtain ⟨T2, hT2⟩ : ∃ y, wThrees n2 e2 = y := ⟨_, rfl⟩
  have ok1 := okG_true.2 HOG.out
  have ok2 := okG_true.2 HOX.out
  have HCQ := Aside0.mk hC
  have HKQ := Aside0.mk hK
  have HDQ := Aside0.mk hD
  have HEQ := Aside0.mk hE
  have HT1 := Aside0.mk hT1
  have HT2 := Aside0.mk hT2
  have HCE := Aside0.mk (show C = coreL (adjI ns es) ns.length from hC.symm.trans (if_pos ok1))
  have HKE := Aside0.mk (show K = coreL (adjI n2 e2) n2.length from hK.symm.trans (if_pos ok2))
  have HDE := Aside0.mk (wd_at hD ok1 HFG.out)
  have HEE := Aside0.mk (wd_at hE ok2 HFN.out)
  have HCL := Aside0.mk (show C.length = ns.length by rw [HCE.out, coreL_length])
  have HKL := Aside0.mk (show K.length = n2.length by rw [HKE.out, coreL_length])
  have HDL := Aside0.mk (show D.length = ns.length by rw [HDE.out, distL_length])
  have HEL := Aside0.mk (show E.length = n2.length by rw [HEE.out, distL_length])
  have HTT := Aside0.mk (show T2 ≤ T1 by
   have e1 : wThrees ns es = tris (adjI ns es) ns.length := if_pos ok1
   have e3 : wThrees n2 e2 = tris (adjI n2 e2) n2.length := if_pos ok2
   rw [← hT1, ← hT2, e1, e3]
   exact sub_tris HSUB.out HOX.out HOG.out)
  clear hd hs hf hC hK hD hE hT1 hT2 ok1 ok2
  go_wp2_with (first | ((with_reducible refine gate_dst (N := 9) rfl ?_); go_must ((refine w_new #[.int .i64 0, .int .i64 0] 28 rfl (by go_simp; (first | done | rfl)) ?_); intro g9 u_ hge_ hb0_ hb; have N9HGR := Aside0.mk (HGR.out.new hge_); have N9HGX := Aside0.mk (HGX.out.new hge_); have Hg9 := Aside0.mk (show w.heap.size + 0 ≤ g9 ∧ g3 < g9 ∧ g5 < g9 from by have hl0_ := HB.out.size; have hl_g3 := blk_lt L3.out; have hl_g5 := blk_lt L5.out; exact ⟨by omega, by omega, by omega⟩); have L9 := Aside0.mk hb0_; replace HB := Aside0.mk (below_step HB.out hb); replace L3 := Aside0.mk (blk_below L3.out hb); replace L5 := Aside0.mk (blk_below L5.out hb); replace HGR := Aside0.mk (HGR.out.below hb); replace HGX := Aside0.mk (HGX.out.below hb); (try clear n0 n1); replace HND := Aside0.mk (And.intro (pw_cell_below hb (HND.out).1) (pw_cell_below hb (HND.out).2)); obtain ⟨n0, n1⟩ := HND.out; clear hge_ hb0_ hb; (try clear t3c0 t3c1); obtain ⟨t3c0, t3c1⟩ := cs2 (L3.out); (try clear t5c0 t5c1); obtain ⟨t5c0, t5c1⟩ := cs2 (L5.out); (try clear t9c0 t9c1); obtain ⟨t9c0, t9c1⟩ := cs2 (L9.out))) | ((with_reducible refine gate_store (p := 9) rfl ?_); go_must ((refine wpList_plain rfl fun K_ hK_ => wp_store_row _ _ _ rfl (g9) #[.int .i64 f.lab, .int .i64 f.num] rfl rfl _ _ L9.out (by kernel_rfl) rfl (by simp [Value.oneCell']) (hK_ _ _ ?_)); refine named _ ?_; intro wz hwz; replace HB := Aside0.mk (sb_ hwz HB.out (by have := Hg9.out; omega)); replace L3 := Aside0.mk (so_ hwz L3.out (by have := Hg9.out; omega)); replace L5 := Aside0.mk (so_ hwz L5.out (by have := Hg9.out; omega)); replace L9 := Aside0.mk (sh_ hwz L9.out); replace HGR := Aside0.mk ((HGR.out).row hwz N9HGR.out.1 N9HGR.out.2); replace HGX := Aside0.mk ((HGX.out).row hwz N9HGX.out.1 N9HGX.out.2); (try clear t3c0 t3c1); obtain ⟨t3c0, t3c1⟩ := cs2 (L3.out); (try clear t5c0 t5c1); obtain ⟨t5c0, t5c1⟩ := cs2 (L5.out); (try clear t9c0 t9c1); obtain ⟨t9c0, t9c1⟩ := cs2 (L9.out); clear hwz)) | (go_at_call 13; ((with_reducible refine (walkDist_m A1 c1 ns B1 d1 es f D ns.length _ HGR.out HDQ.out HDL.out).mono ?_); rintro e u_ ⟨A10, cA10, rfl, hc_, hb⟩; have HC10 := Aside0.mk hc_; clear hc_; replace HB := Aside0.mk (below_step HB.out hb); replace L3 := Aside0.mk (blk_below L3.out hb); replace L5 := Aside0.mk (blk_below L5.out hb); replace L9 := Aside0.mk (blk_below L9.out hb); replace HGR := Aside0.mk (HGR.out.below hb); replace HGX := Aside0.mk (HGX.out.below hb); (try clear t3c0 t3c1); obtain ⟨t3c0, t3c1⟩ := cs2 (L3.out); (try clear t5c0 t5c1); obtain ⟨t5c0, t5c1⟩ := cs2 (L5.out); (try clear t9c0 t9c1); obtain ⟨t9c0, t9c1⟩ := cs2 (L9.out); clear hb)) | (go_at_call 13; ((with_reducible refine (walkDist_m (some a2) c2 n2 B2 d2 e2 f E n2.length _ HGX.out HEQ.out HEL.out).mono ?_); rintro e u_ ⟨A11, cA11, rfl, hc_, hb⟩; have HC11 := Aside0.mk hc_; clear hc_; replace HB := Aside0.mk (below_step HB.out hb); replace L3 := Aside0.mk (blk_below L3.out hb); replace L5 := Aside0.mk (blk_below L5.out hb); replace L9 := Aside0.mk (blk_below L9.out hb); replace HGR := Aside0.mk (HGR.out.below hb); replace HGX := Aside0.mk (HGX.out.below hb); replace HC10 := Aside0.mk (Kd.C_below (HC10.out) hb); (try clear t3c0 t3c1); obtain ⟨t3c0, t3c1⟩ := cs2 (L3.out); (try clear t5c0 t5c1); obtain ⟨t5c0, t5c1⟩ := cs2 (L5.out); (try clear t9c0 t9c1); obtain ⟨t9c0, t9c1⟩ := cs2 (L9.out); clear hb)) | (go_at_call 12; ((with_reducible refine (walkCore_m A1 c1 ns B1 d1 es C ns.length _ HGR.out HCQ.out HCL.out).mono ?_); rintro e u_ ⟨A12, cA12, rfl, hc_, hb⟩; have HC12 := Aside0.mk hc_; clear hc_; replace HB := Aside0.mk (below_step HB.out hb); replace L3 := Aside0.mk (blk_below L3.out hb); replace L5 := Aside0.mk (blk_below L5.out hb); replace L9 := Aside0.mk (blk_below L9.out hb); replace HGR := Aside0.mk (HGR.out.below hb); replace HGX := Aside0.mk (HGX.out.below hb); replace HC10 := Aside0.mk (Kd.C_below (HC10.out) hb); replace HC11 := Aside0.mk (Kd.C_below (HC11.out) hb); (try clear t3c0 t3c1); obtain ⟨t3c0, t3c1⟩ := cs2 (L3.out); (try clear t5c0 t5c1); obtain ⟨t5c0, t5c1⟩ := cs2 (L5.out); (try clear t9c0 t9c1); obtain ⟨t9c0, t9c1⟩ := cs2 (L9.out); clear hb)) | (go_at_call 12; ((with_reducible refine (walkCore_m (some a2) c2 n2 B2 d2 e2 K n2.length _ HGX.out HKQ.out HKL.out).mono ?_); rintro e u_ ⟨A13, cA13, rfl, hc_, hb⟩; have HC13 := Aside0.mk hc_; clear hc_; replace HB := Aside0.mk (below_step HB.out hb); replace L3 := Aside0.mk (blk_below L3.out hb); replace L5 := Aside0.mk (blk_below L5.out hb); replace L9 := Aside0.mk (blk_below L9.out hb); replace HGR := Aside0.mk (HGR.out.below hb); replace HGX := Aside0.mk (HGX.out.below hb); replace HC10 := Aside0.mk (Kd.C_below (HC10.out) hb); replace HC11 := Aside0.mk (Kd.C_below (HC11.out) hb); replace HC12 := Aside0.mk (Kd.C_below (HC12.out) hb); (try clear t3c0 t3c1); obtain ⟨t3c0, t3c1⟩ := cs2 (L3.out); (try clear t5c0 t5c1); obtain ⟨t5c0, t5c1⟩ := cs2 (L5.out); (try clear t9c0 t9c1); obtain ⟨t9c0, t9c1⟩ := cs2 (L9.out); clear hb)))
  go_loopw [14, 15] (fun s14 _ wr => ∃ i : Nat, i ≤ n2.length ∧ s14 = .int .i64 (i : Int) ∧ WlS w g3 g5 A1 c1 ns B1 d1 es a2 c2 n2 B2 d2 e2 A10 D A11 E A12 C A13 K wr) (fun s14 _ _ => (n2.length - intOf s14).toNat)
  case atStart => exact ⟨0, Nat.zero_le _, rfl, ⟨L3.out, L5.out, HGR.out, HGX.out, HC10.out, HC11.out, HC12.out, HC13.out, HB.out⟩⟩
  case round =>
   clear L3 L5 HGR HGX HC10 HC11 HC12 HC13 HB
   obtain ⟨i, hi, rfl, l3_, l5_, gr_, gx_, c10_, c11_, c12_, c13_, hb_⟩ := hrel
   have HI := Aside0.mk hi
   clear hi
   have L3 := Aside0.mk l3_
   have L5 := Aside0.mk l5_
   have HGR := Aside0.mk gr_
   have HGX := Aside0.mk gx_
   have HC10 := Aside0.mk c10_
   have HC11 := Aside0.mk c11_
   have HC12 := Aside0.mk c12_
   have HC13 := Aside0.mk c13_
   have HB := Aside0.mk hb_
   obtain ⟨t3c0, t3c1⟩ := cs2 (L3.out)
   obtain ⟨t5c0, t5c1⟩ := cs2 (L5.out)
   clear l3_ l5_ gr_ gx_ c10_ c11_ c12_ c13_ hb_
   have h4n : (n2.length : Int) ≤ 40 := by have := HL4.out; omega
   by_cases hlt : i < n2.length
   ·have hil : (i : Int) < (n2.length : Int) := by omega
    have HIL := Aside0.mk hlt
    obtain ⟨y, hy⟩ : ∃ y, at_ n2 i = y := ⟨_, rfl⟩
    have HYN := Aside0.mk (show y ∈ ns from HSUB.out.n y (hy ▸ at_mem hlt))
    obtain ⟨k, hk⟩ : ∃ k, idx ns y = k := ⟨_, rfl⟩
    have HKU := Aside0.mk (show up n2 ns i = k by rw [← hk, ← hy]; rfl)
    have HPk := Aside0.mk (show placeI ns y = (k : Int) by rw [placeI_in HYN.out, hk])
    have HKN := Aside0.mk (show k < ns.length by rw [← hk]; exact idx_lt HYN.out)
    have hkn : (k : Int) < (ns.length : Int) := by have := HKN.out; omega
    obtain ⟨x, hx⟩ : ∃ x, core (adjI n2 e2) n2.length i = x := ⟨_, rfl⟩
    obtain ⟨z, hz⟩ : ∃ x, core (adjI ns es) ns.length k = x := ⟨_, rfl⟩
    obtain ⟨q9, hq⟩ : ∃ x, dist (adjI ns es) (idx ns f) k = x := ⟨_, rfl⟩
    obtain ⟨p, hp⟩ : ∃ x, dist (adjI n2 e2) (idx n2 f) i = x := ⟨_, rfl⟩
    have hxz : decide (z < x) = false := decide_eq_false (by have := sub_core HSUB.out HOX.out HOG.out HIL.out; rw [HKU.out, hx, hz] at this; omega)
    have HPQ := Aside0.mk (show 0 ≤ p → 0 ≤ q9 ∧ q9 ≤ p from fun h => by
     have hup : up n2 ns (idx n2 f) = idx ns f := by show idx ns (at_ n2 (idx n2 f)) = _; rw [at_idx HFN.out]
     have := sub_dist (s := idx n2 f) (v := i) HSUB.out (by rw [hp]; exact h)
     rwa [hup, HKU.out, hq, hp] at this)
    obtain ⟨a2_, e2_, r0, r1⟩ := nd_at HGX.out.cn i hlt
    obtain rfl := Option.some.inj e2_
    rw [hy] at r0 r1
    have HXV := Aside0.mk (show gt K i = (x : Int) by rw [HKE.out, gt_coreL HIL.out, hx])
    have HZV := Aside0.mk (show gt C k = (z : Int) by rw [HCE.out, gt_coreL HKN.out, hz])
    have HQV := Aside0.mk (show gt D k = q9 by rw [HDE.out, gt_distL HKN.out, hq])
    have HPV := Aside0.mk (show gt E i = p by rw [HEE.out, gt_distL HIL.out, hp])
    clear e2_ hlt hy hk hx hz hq hp
    go_wp2_with (fail)
    have ZL3 := L3
    have ZL5 := L5
    refine region_bp [] sWz16 (by kernel_rfl) sWz16_ok (by decide) (fun d _ _ _ _ h => by cases d <;> exact h) ?_
    intro u hb
    have hS := hb
    replace HB := Aside0.mk (below_step HB.out hb)
    replace L3 := Aside0.mk (blk_below L3.out hb)
    replace L5 := Aside0.mk (blk_below L5.out hb)
    replace HGR := Aside0.mk (HGR.out.below hb)
    replace HGX := Aside0.mk (HGX.out.below hb)
    replace HC10 := Aside0.mk (Kd.C_below (HC10.out) hb)
    replace HC11 := Aside0.mk (Kd.C_below (HC11.out) hb)
    replace HC12 := Aside0.mk (Kd.C_below (HC12.out) hb)
    replace HC13 := Aside0.mk (Kd.C_below (HC13.out) hb)
    (try clear t3c0 t3c1)
    obtain ⟨t3c0, t3c1⟩ := cs2 (L3.out)
    (try clear t5c0 t5c1)
    obtain ⟨t5c0, t5c1⟩ := cs2 (L5.out)
    clear hb
    repeat (first | (refine p_off hS gt_ (by rfl) ?_; intro a_ ha_; (simp only [Act.put, pu1, pu2, pu3] at ha_); subst ha_) | (refine p_on (v := ?_) hS gt_ (by rfl) ?_ ?_; rotate_left; (· rintro w_ hS_; obtain ⟨t3c0_, t3c1_⟩ := cs2 (blk_below ZL3.out hS_); obtain ⟨t5c0_, t5c1_⟩ := cs2 (blk_below ZL5.out hS_); have r0_ := pw_cell_below hS_ r0; have r1_ := pw_cell_below hS_ r1; go_simp; with_reducible rfl); intro a_ ha_; (simp only [Act.put, pu1, pu2, pu3] at ha_); subst ha_) | (refine p_poff gt_ (by rfl) ?_; intro a_ ha_; (simp only [Act.put, pu1, pu2, pu3] at ha_); subst ha_) | (refine p_pon (v := ?_) gt_ (by rfl) ?_ ?_; rotate_left; (· go_simp; with_reducible rfl); intro a_ ha_; (simp only [Act.put, pu1, pu2, pu3] at ha_); subst ha_) | (refine p_ooff hS gt_ (by rfl) ?_; intro a_ ha_; (simp only [Act.put, pu1, pu2, pu3] at ha_); subst ha_) | (refine p_loff gt_ (by rfl) ?_; intro a_ ha_; (simp only [Act.put, pu1, pu2, pu3] at ha_); subst ha_) | (refine p_call (f := 15) (args := #[.agg #[.slice A1 ns.length c1, .slice B1 es.length d1], .agg #[.int .i64 y.lab, .int .i64 y.num]]) Tryz.func15 (by kernel_rfl) rfl gt_ (by rfl) (by rfl) mp_ ?_; (refine (wpAt_as A1 c1 ns B1 d1 es y k _ HGR.out HLN.out HPk.out).mono ?_); rintro e_ u_ ⟨rfl, hb⟩; replace HB := Aside0.mk (below_step HB.out hb); replace L3 := Aside0.mk (blk_below L3.out hb); replace L5 := Aside0.mk (blk_below L5.out hb); replace HGR := Aside0.mk (HGR.out.below hb); replace HGX := Aside0.mk (HGX.out.below hb); replace HC10 := Aside0.mk (Kd.C_below (HC10.out) hb); replace HC11 := Aside0.mk (Kd.C_below (HC11.out) hb); replace HC12 := Aside0.mk (Kd.C_below (HC12.out) hb); replace HC13 := Aside0.mk (Kd.C_below (HC13.out) hb); (try clear t3c0 t3c1); obtain ⟨t3c0, t3c1⟩ := cs2 (L3.out); (try clear t5c0 t5c1); obtain ⟨t5c0, t5c1⟩ := cs2 (L5.out); replace hS := below_step hS hb; refine ⟨_, rfl, hS, fun a_ ha_ => ?_⟩; (simp only [Act.put, pu1, pu2, pu3] at ha_); subst ha_; clear hb))
    refine p_fin ?_
    clear hS ZL3 ZL5
    clear r0 r1
    go_wp2_with (fail)
    obtain ⟨a13, e_, k0⟩ := int_atN HC13.out i HIL.out (x : Int) HXV.out
    cases e_
    obtain ⟨a12, e_, k1⟩ := int_atN HC12.out k HKN.out (z : Int) HZV.out
    cases e_
    obtain ⟨a11, e_, k2⟩ := int_atN HC11.out i HIL.out p HPV.out
    cases e_
    obtain ⟨a10, e_, k3⟩ := int_atN HC10.out k HKN.out q9 HQV.out
    cases e_
    by_cases hp0 : 0 ≤ p
    ·have hpb : decide (0 ≤ p) = true := decide_eq_true hp0
     have hqb : decide (q9 < 0) = false := decide_eq_false (by have := HPQ.out hp0; omega)
     have hqp : decide (p < q9) = false := decide_eq_false (by have := HPQ.out hp0; omega)
     clear hp0
     have ZL3 := L3
     have ZL5 := L5
     refine region_bp [] sWz17 (by kernel_rfl) sWz17_ok (by decide) (fun d _ _ _ _ h => by cases d <;> exact h) ?_
     intro u hb
     have hS := hb
     replace HB := Aside0.mk (below_step HB.out hb)
     replace L3 := Aside0.mk (blk_below L3.out hb)
     replace L5 := Aside0.mk (blk_below L5.out hb)
     replace HGR := Aside0.mk (HGR.out.below hb)
     replace HGX := Aside0.mk (HGX.out.below hb)
     replace HC10 := Aside0.mk (Kd.C_below (HC10.out) hb)
     replace HC11 := Aside0.mk (Kd.C_below (HC11.out) hb)
     replace HC12 := Aside0.mk (Kd.C_below (HC12.out) hb)
     replace HC13 := Aside0.mk (Kd.C_below (HC13.out) hb)
     (try clear t3c0 t3c1)
     obtain ⟨t3c0, t3c1⟩ := cs2 (L3.out)
     (try clear t5c0 t5c1)
     obtain ⟨t5c0, t5c1⟩ := cs2 (L5.out)
     clear hb
     repeat (first | (refine p_off hS gt_ (by rfl) ?_; intro a_ ha_; (simp only [Act.put, pu1, pu2, pu3] at ha_); subst ha_) | (refine p_on (v := ?_) hS gt_ (by rfl) ?_ ?_; rotate_left; (· rintro w_ hS_; obtain ⟨t3c0_, t3c1_⟩ := cs2 (blk_below ZL3.out hS_); obtain ⟨t5c0_, t5c1_⟩ := cs2 (blk_below ZL5.out hS_); have k0_ := pw_cell_below hS_ k0; have k1_ := pw_cell_below hS_ k1; have k2_ := pw_cell_below hS_ k2; have k3_ := pw_cell_below hS_ k3; go_simp; with_reducible rfl); intro a_ ha_; (simp only [Act.put, pu1, pu2, pu3] at ha_); subst ha_) | (refine p_poff gt_ (by rfl) ?_; intro a_ ha_; (simp only [Act.put, pu1, pu2, pu3] at ha_); subst ha_) | (refine p_pon (v := ?_) gt_ (by rfl) ?_ ?_; rotate_left; (· go_simp; with_reducible rfl); intro a_ ha_; (simp only [Act.put, pu1, pu2, pu3] at ha_); subst ha_) | (refine p_ooff hS gt_ (by rfl) ?_; intro a_ ha_; (simp only [Act.put, pu1, pu2, pu3] at ha_); subst ha_) | (refine p_loff gt_ (by rfl) ?_; intro a_ ha_; (simp only [Act.put, pu1, pu2, pu3] at ha_); subst ha_))
     refine p_fin ?_
     clear hS ZL3 ZL5
     go_wp2_with (fail)
     go_roundw
     case rel => exact ⟨i + 1, HIL.out, by go_num, ⟨L3.out, L5.out, HGR.out, HGX.out, HC10.out, HC11.out, HC12.out, HC13.out, HB.out⟩⟩
     case measure => have := HIL.out; simp [intOf]; omega
    ·have hpb : decide (0 ≤ p) = false := decide_eq_false hp0
     clear hp0
     have ZL3 := L3
     have ZL5 := L5
     refine region_bp [] sWz17 (by kernel_rfl) sWz17_ok (by decide) (fun d _ _ _ _ h => by cases d <;> exact h) ?_
     intro u hb
     have hS := hb
     replace HB := Aside0.mk (below_step HB.out hb)
     replace L3 := Aside0.mk (blk_below L3.out hb)
     replace L5 := Aside0.mk (blk_below L5.out hb)
     replace HGR := Aside0.mk (HGR.out.below hb)
     replace HGX := Aside0.mk (HGX.out.below hb)
     replace HC10 := Aside0.mk (Kd.C_below (HC10.out) hb)
     replace HC11 := Aside0.mk (Kd.C_below (HC11.out) hb)
     replace HC12 := Aside0.mk (Kd.C_below (HC12.out) hb)
     replace HC13 := Aside0.mk (Kd.C_below (HC13.out) hb)
     (try clear t3c0 t3c1)
     obtain ⟨t3c0, t3c1⟩ := cs2 (L3.out)
     (try clear t5c0 t5c1)
     obtain ⟨t5c0, t5c1⟩ := cs2 (L5.out)
     clear hb
     repeat (first | (refine p_off hS gt_ (by rfl) ?_; intro a_ ha_; (simp only [Act.put, pu1, pu2, pu3] at ha_); subst ha_) | (refine p_on (v := ?_) hS gt_ (by rfl) ?_ ?_; rotate_left; (· rintro w_ hS_; obtain ⟨t3c0_, t3c1_⟩ := cs2 (blk_below ZL3.out hS_); obtain ⟨t5c0_, t5c1_⟩ := cs2 (blk_below ZL5.out hS_); have k0_ := pw_cell_below hS_ k0; have k1_ := pw_cell_below hS_ k1; have k2_ := pw_cell_below hS_ k2; have k3_ := pw_cell_below hS_ k3; go_simp; with_reducible rfl); intro a_ ha_; (simp only [Act.put, pu1, pu2, pu3] at ha_); subst ha_) | (refine p_poff gt_ (by rfl) ?_; intro a_ ha_; (simp only [Act.put, pu1, pu2, pu3] at ha_); subst ha_) | (refine p_pon (v := ?_) gt_ (by rfl) ?_ ?_; rotate_left; (· go_simp; with_reducible rfl); intro a_ ha_; (simp only [Act.put, pu1, pu2, pu3] at ha_); subst ha_) | (refine p_ooff hS gt_ (by rfl) ?_; intro a_ ha_; (simp only [Act.put, pu1, pu2, pu3] at ha_); subst ha_) | (refine p_loff gt_ (by rfl) ?_; intro a_ ha_; (simp only [Act.put, pu1, pu2, pu3] at ha_); subst ha_))
     refine p_fin ?_
     clear hS ZL3 ZL5
     go_wp2_with (fail)
     go_roundw
     case rel => exact ⟨i + 1, HIL.out, by go_num, ⟨L3.out, L5.out, HGR.out, HGX.out, HC10.out, HC11.out, HC12.out, HC13.out, HB.out⟩⟩
     case measure => have := HIL.out; simp [intOf]; omega
   ·have hil : ¬ (i : Int) < (n2.length : Int) := by omega
    clear hlt HC10 HC11 HC12 HC13
    go_wp2_with (fail)
    have ZL3 := L3
    have ZL5 := L5
    refine region_bp [] sWz19 (by kernel_rfl) sWz19_ok (by decide) (fun d _ _ _ _ h => by cases d <;> exact h) ?_
    intro u hb
    have hS := hb
    replace HB := Aside0.mk (below_step HB.out hb)
    replace L3 := Aside0.mk (blk_below L3.out hb)
    replace L5 := Aside0.mk (blk_below L5.out hb)
    replace HGR := Aside0.mk (HGR.out.below hb)
    replace HGX := Aside0.mk (HGX.out.below hb)
    (try clear t3c0 t3c1)
    obtain ⟨t3c0, t3c1⟩ := cs2 (L3.out)
    (try clear t5c0 t5c1)
    obtain ⟨t5c0, t5c1⟩ := cs2 (L5.out)
    clear hb
    repeat (first | (refine p_off hS gt_ (by rfl) ?_; intro a_ ha_; (simp only [Act.put, pu1, pu2, pu3] at ha_); subst ha_) | (refine p_on (v := ?_) hS gt_ (by rfl) ?_ ?_; rotate_left; (· rintro w_ hS_; obtain ⟨t3c0_, t3c1_⟩ := cs2 (blk_below ZL3.out hS_); obtain ⟨t5c0_, t5c1_⟩ := cs2 (blk_below ZL5.out hS_); go_simp; with_reducible rfl); intro a_ ha_; (simp only [Act.put, pu1, pu2, pu3] at ha_); subst ha_) | (refine p_poff gt_ (by rfl) ?_; intro a_ ha_; (simp only [Act.put, pu1, pu2, pu3] at ha_); subst ha_) | (refine p_pon (v := ?_) gt_ (by rfl) ?_ ?_; rotate_left; (· go_simp; with_reducible rfl); intro a_ ha_; (simp only [Act.put, pu1, pu2, pu3] at ha_); subst ha_) | (refine p_ooff hS gt_ (by rfl) ?_; intro a_ ha_; (simp only [Act.put, pu1, pu2, pu3] at ha_); subst ha_) | (refine p_loff gt_ (by rfl) ?_; intro a_ ha_; (simp only [Act.put, pu1, pu2, pu3] at ha_); subst ha_) | (refine p_call (f := 14) (args := #[.agg #[.slice (some a2) n2.length c2, .slice B2 e2.length d2]]) Tryz.func14 (by kernel_rfl) rfl gt_ (by rfl) (by rfl) mp_ ?_; (refine (walkThrees_as (some a2) c2 n2 B2 d2 e2 T2 _ HGX.out HT2.out).mono ?_); rintro e_ u_ ⟨rfl, hb⟩; replace HB := Aside0.mk (below_step HB.out hb); replace L3 := Aside0.mk (blk_below L3.out hb); replace L5 := Aside0.mk (blk_below L5.out hb); replace HGR := Aside0.mk (HGR.out.below hb); replace HGX := Aside0.mk (HGX.out.below hb); (try clear t3c0 t3c1); obtain ⟨t3c0, t3c1⟩ := cs2 (L3.out); (try clear t5c0 t5c1); obtain ⟨t5c0, t5c1⟩ := cs2 (L5.out); replace hS := below_step hS hb; refine ⟨_, rfl, hS, fun a_ ha_ => ?_⟩; (simp only [Act.put, pu1, pu2, pu3] at ha_); subst ha_; clear hb) | (refine p_call (f := 14) (args := #[.agg #[.slice A1 ns.length c1, .slice B1 es.length d1]]) Tryz.func14 (by kernel_rfl) rfl gt_ (by rfl) (by rfl) mp_ ?_; (refine (walkThrees_as A1 c1 ns B1 d1 es T1 _ HGR.out HT1.out).mono ?_); rintro e_ u_ ⟨rfl, hb⟩; replace HB := Aside0.mk (below_step HB.out hb); replace L3 := Aside0.mk (blk_below L3.out hb); replace L5 := Aside0.mk (blk_below L5.out hb); replace HGR := Aside0.mk (HGR.out.below hb); replace HGX := Aside0.mk (HGX.out.below hb); (try clear t3c0 t3c1); obtain ⟨t3c0, t3c1⟩ := cs2 (L3.out); (try clear t5c0 t5c1); obtain ⟨t5c0, t5c1⟩ := cs2 (L5.out); replace hS := below_step hS hb; refine ⟨_, rfl, hS, fun a_ ha_ => ?_⟩; (simp only [Act.put, pu1, pu2, pu3] at ha_); subst ha_; clear hb))
    refine p_fin ?_
    clear hS ZL3 ZL5
    go_wp2_with (fail)
    go_ret
    exact ⟨by simp [HTT.out], HB.out⟩
 ·have hcase : ¬ q = 0 ∨ (q = 0 ∧ op.kind < 3) ∨ (q = 0 ∧ ¬ op.kind < 3 ∧ (n2.length : Int) = 0) := by omega
  clear hq
  rcases hcase with hq | ⟨hq, hk⟩ | ⟨hq, hk, hn0⟩
  ·go_wp2_with (fail)
   go_ret
   exact ⟨by simp, HB.out⟩
  ·subst hq
   go_wp2_with (fail)
   go_ret
   exact ⟨by simp, HB.out⟩
  ·subst hq
   go_wp2_with (fail)
   go_ret
   exact ⟨by simp, HB.out⟩
end Go.Proofs.YtogmbeifbjgphaaGreat.R
