/- The law FnGraphOrder, walked. -/
import Derived.Test.YtogmbeifbjgphaaKL2
namespace Go.Proofs.Ytogmbeifbjgphaa.R
open Go.RowKit Go.Proofs.YtogmbeifbjgphaaV.PrintWords Go.Proofs.YtogmbeifbjgphaaV.PrintLast Go.Proofs.YtogmbeifbjgphaaV.PrintMore Go.Proofs.Ytogmbeifbjgphaa.M
set_option linter.unusedVariables false
set_option linter.unusedSimpArgs false
attribute [local go_sem high] eqN eqE
abbrev sOr11 : Pl := (.tk 0 (.tk 1 (.tk 2 (.tk 3 (.tk 4 (.tk 5 (.tk 7 (.tk 8 (.tk 9 (.tk 10 (.tk 11 (.nd .one 6 (.nd .one 12 (.tk 13 .fin))))))))))))))
theorem sOr11_ok : planB .any (opsOf Try.f5 11) [] sOr11 (Array.replicate (opsOf Try.f5 11).size false) = true := by kernel_rfl
abbrev sOr17 : Pl := (.tk 0 (.tk 1 (.tk 3 (.tk 4 (.nd .one 2 (.nd .one 5 (.tk 6 (.tk 7 (.tk 8 (.tk 9 (.tk 10 (.tk 11 (.tk 12 (.tk 13 (.tk 14 (.tk 15 (.tk 16 (.tk 17 (.tk 18 (.tk 19 (.tk 20 (.tk 21 (.tk 22 .fin)))))))))))))))))))))))
theorem sOr17_ok : planB .any (opsOf Try.f5 17) [] sOr17 (Array.replicate (opsOf Try.f5 17).size false) = true := by kernel_rfl
theorem cg_ {w u : World} {g : Nat} {cs : Array Value} {a : Addr} {v : Value} (e : u = w.setRow g cs) (h : w.cell? a = some v) (hne : a.block ≠ g) : u.cell? a = some v := by
  rw [e]
  exact cell_grownA h (grown_setRow _ _ _) (fun e => hne (Option.some.inj e))
def OrdI (w : World) (g5 : Nat) (A2 : Option Addr) (c2 : Nat) (n2 : List Nd) (B2 : Option Addr) (d2 : Nat) (e2 : List Eg) (lo m : Nat) (s : Value) (wr : World) : Prop :=
  ∃ j : Nat, lo ≤ j ∧ j ≤ m ∧ s = .int .i64 (j : Int) ∧ wr.heap[g5]? = some (.cells #[.slice A2 n2.length c2, .slice B2 e2.length d2] 26 (0, 0)) ∧ GR wr A2 c2 n2 B2 d2 e2 ∧ Below w.heap.size w wr
set_option maxHeartbeats 12800000 in
set_option maxRecDepth 100000 in
theorem graphOrder_walk (A : Option Addr) (c : Nat) (l : List Int) (w : World) (hl : (Kd.int .u8).C w A l.length l) (hc : l.length ≤ c) (hb : ∀ x ∈ l, 0 ≤ x ∧ x < 256) :
    Calls Try.prog 5 #[.slice A l.length c] w fun e w' => e = .returned (.bool true) ∧ Below w.heap.size w w' := by
  have HL := Aside0.mk hl
  have HC := Aside0.mk hc
  have HY := Aside0.mk hb
  have HB := Aside0.mk (Below.refl w.heap.size w)
  clear hl hc hb
  by_cases hlen : 1048576 < l.length
  · have hl1 : (1048576 : Int) < (l.length : Int) := by omega
    go_enter Try.func5, Try.ntmps5
    go_wp2_with (fail)
    go_ret
    exact ⟨rfl, HB.out⟩
  have hl1 : ¬ (1048576 : Int) < (l.length : Int) := by omega
  clear hlen
  go_enter Try.func5, Try.ntmps5
  go_upto_region 6 with (first | (go_at_call 30; go_must ((refine (drawGO_calls A c l _ (Kd.C_below HL.out HB.out) HC.out HY.out).mono ?_); rintro e u_ ⟨⟨A1, c1, ns, B1, d1, es, op, rfl, hgr_, hn_, he_⟩, hb⟩; have HGR := Aside0.mk hgr_; have HLN := Aside0.mk (And.intro hn_ he_); clear hgr_ hn_ he_; obtain ⟨n2, hn2_⟩ : ∃ y, doN ns es op = y := ⟨_, rfl⟩; obtain ⟨e2, he2_⟩ : ∃ y, doE ns es op = y := ⟨_, rfl⟩; obtain ⟨q, hq_⟩ : ∃ y, doC ns es op = y := ⟨_, rfl⟩; have HDO := Aside0.mk (And.intro hn2_ (And.intro he2_ hq_)); clear hn2_ he2_ hq_; obtain ⟨v, hv_⟩ : ∃ v, okG ns es = v := ⟨_, rfl⟩; have HOK := Aside0.mk hv_; clear hv_; replace HB := Aside0.mk (below_step HB.out hb); clear hb)) | ((with_reducible refine gate_dst (N := 3) rfl ?_); go_must ((refine w_new #[.slice none 0 0, .slice none 0 0] 26 rfl (by go_simp; (first | done | rfl)) ?_); intro g3 u_ hge_ hb0_ hb; have HN3 := Aside0.mk (HGR.out.new hge_); have Hg3 := Aside0.mk (show w.heap.size + 0 ≤ g3 from by have hl0_ := HB.out.size; exact by omega); have L3 := Aside0.mk hb0_; replace HB := Aside0.mk (below_step HB.out hb); replace HGR := Aside0.mk (HGR.out.below hb); clear hge_ hb0_ hb; (try clear t3c0 t3c1); obtain ⟨t3c0, t3c1⟩ := cs2 (L3.out))) | ((with_reducible refine gate_dst (N := 4) rfl ?_); go_must ((refine w_new #[.int .i64 0, .int .i64 0, .int .i64 0, .int .i64 0, .int .i64 0, .int .i64 0, .int .i64 0, .int .i64 0] 32 rfl (by go_simp; (first | done | rfl)) ?_); intro g4 u_ hge_ hb0_ hb; have HN4 := Aside0.mk (HGR.out.new hge_); have Hg4 := Aside0.mk (show w.heap.size + 0 ≤ g4 ∧ g3 < g4 from by have hl0_ := HB.out.size; have hl_g3 := blk_lt L3.out; exact ⟨by omega, by omega⟩); have L4 := Aside0.mk hb0_; replace HB := Aside0.mk (below_step HB.out hb); replace L3 := Aside0.mk (blk_below L3.out hb); replace HGR := Aside0.mk (HGR.out.below hb); clear hge_ hb0_ hb; (try clear t3c0 t3c1); obtain ⟨t3c0, t3c1⟩ := cs2 (L3.out); (try clear t4c0 t4c1 t4c2 t4c3 t4c4 t4c5 t4c6 t4c7); obtain ⟨t4c0, t4c1, t4c2, t4c3, t4c4, t4c5, t4c6, t4c7⟩ := cs8 (L4.out))) | ((with_reducible refine gate_store (p := 3) rfl ?_); go_must ((refine wpList_plain rfl fun K_ hK_ => wp_store_row _ _ _ rfl (g3) #[.slice A1 ns.length c1, .slice B1 es.length d1] rfl rfl _ _ L3.out (by kernel_rfl) rfl (by simp [Value.oneCell']) (hK_ _ _ ?_)); refine named _ ?_; intro wz hwz; replace HB := Aside0.mk (sb_ hwz HB.out (by have := Hg3.out; have := Hg4.out; omega)); replace L4 := Aside0.mk (so_ hwz L4.out (by have := Hg3.out; have := Hg4.out; omega)); replace L3 := Aside0.mk (sh_ hwz L3.out); replace HGR := Aside0.mk (show GR wz A1 c1 ns B1 d1 es by rw [hwz]; exact (HGR.out).keep (grown_setRow _ _ _) HN3.out.1 HN3.out.2); (try clear t3c0 t3c1); obtain ⟨t3c0, t3c1⟩ := cs2 (L3.out); (try clear t4c0 t4c1 t4c2 t4c3 t4c4 t4c5 t4c6 t4c7); obtain ⟨t4c0, t4c1, t4c2, t4c3, t4c4, t4c5, t4c6, t4c7⟩ := cs8 (L4.out); clear hwz)) | ((with_reducible refine gate_store (p := 4) rfl ?_); go_must ((refine wpList_plain rfl fun K_ hK_ => wp_store_row _ _ _ rfl (g4) #[.int .i64 op.kind, .int .i64 op.nd.lab, .int .i64 op.nd.num, .int .i64 op.eg.lab, .int .i64 op.eg.a.lab, .int .i64 op.eg.a.num, .int .i64 op.eg.b.lab, .int .i64 op.eg.b.num] rfl rfl _ _ L4.out (by kernel_rfl) rfl (by simp [Value.oneCell']) (hK_ _ _ ?_)); refine named _ ?_; intro wz hwz; replace HB := Aside0.mk (sb_ hwz HB.out (by have := Hg3.out; have := Hg4.out; omega)); replace L3 := Aside0.mk (so_ hwz L3.out (by have := Hg3.out; have := Hg4.out; omega)); replace L4 := Aside0.mk (sh_ hwz L4.out); replace HGR := Aside0.mk (show GR wz A1 c1 ns B1 d1 es by rw [hwz]; exact (HGR.out).keep (grown_setRow _ _ _) HN4.out.1 HN4.out.2); (try clear t3c0 t3c1); obtain ⟨t3c0, t3c1⟩ := cs2 (L3.out); (try clear t4c0 t4c1 t4c2 t4c3 t4c4 t4c5 t4c6 t4c7); obtain ⟨t4c0, t4c1, t4c2, t4c3, t4c4, t4c5, t4c6, t4c7⟩ := cs8 (L4.out); clear hwz)) | (go_at_call 31; go_must ((refine (graphDo_as A1 c1 ns B1 d1 es op n2 e2 q _ HGR.out HDO.out).mono ?_); rintro e u_ ⟨A2, c2, B2, d2, rfl, hg2_, hb⟩; have HG2 := Aside0.mk hg2_; clear hg2_; replace HB := Aside0.mk (below_step HB.out hb); replace L3 := Aside0.mk (blk_below L3.out hb); replace L4 := Aside0.mk (blk_below L4.out hb); replace HGR := Aside0.mk (HGR.out.below hb); (try clear t3c0 t3c1); obtain ⟨t3c0, t3c1⟩ := cs2 (L3.out); (try clear t4c0 t4c1 t4c2 t4c3 t4c4 t4c5 t4c6 t4c7); obtain ⟨t4c0, t4c1, t4c2, t4c3, t4c4, t4c5, t4c6, t4c7⟩ := cs8 (L4.out); clear hb)) | ((with_reducible refine gate_dst (N := 5) rfl ?_); go_must ((refine w_new #[.slice none 0 0, .slice none 0 0] 26 rfl (by go_simp; (first | done | rfl)) ?_); intro g5 u_ hge_ hb0_ hb; have HN5 := Aside0.mk (And.intro (HGR.out.new hge_) (HG2.out.new hge_)); have Hg5 := Aside0.mk (show w.heap.size + 0 ≤ g5 ∧ g3 < g5 ∧ g4 < g5 from by have hl0_ := HB.out.size; have hl_g3 := blk_lt L3.out; have hl_g4 := blk_lt L4.out; exact ⟨by omega, by omega, by omega⟩); have L5 := Aside0.mk hb0_; replace HB := Aside0.mk (below_step HB.out hb); replace L3 := Aside0.mk (blk_below L3.out hb); replace L4 := Aside0.mk (blk_below L4.out hb); replace HGR := Aside0.mk (HGR.out.below hb); replace HG2 := Aside0.mk (HG2.out.below hb); clear hge_ hb0_ hb; (try clear t3c0 t3c1); obtain ⟨t3c0, t3c1⟩ := cs2 (L3.out); (try clear t4c0 t4c1 t4c2 t4c3 t4c4 t4c5 t4c6 t4c7); obtain ⟨t4c0, t4c1, t4c2, t4c3, t4c4, t4c5, t4c6, t4c7⟩ := cs8 (L4.out); (try clear t5c0 t5c1); obtain ⟨t5c0, t5c1⟩ := cs2 (L5.out))) | ((with_reducible refine gate_store (p := 5) rfl ?_); go_must ((refine wpList_plain rfl fun K_ hK_ => wp_store_row _ _ _ rfl (g5) #[.slice A2 n2.length c2, .slice B2 e2.length d2] rfl rfl _ _ L5.out (by kernel_rfl) rfl (by simp [Value.oneCell']) (hK_ _ _ ?_)); refine named _ ?_; intro wz hwz; replace HB := Aside0.mk (sb_ hwz HB.out (by have := Hg3.out; have := Hg4.out; have := Hg5.out; omega)); replace L3 := Aside0.mk (so_ hwz L3.out (by have := Hg3.out; have := Hg4.out; have := Hg5.out; omega)); replace L4 := Aside0.mk (so_ hwz L4.out (by have := Hg3.out; have := Hg4.out; have := Hg5.out; omega)); replace L5 := Aside0.mk (sh_ hwz L5.out); replace HGR := Aside0.mk (show GR wz A1 c1 ns B1 d1 es by rw [hwz]; exact (HGR.out).keep (grown_setRow _ _ _) HN5.out.1.1 HN5.out.1.2); replace HG2 := Aside0.mk (show GR wz A2 c2 n2 B2 d2 e2 by rw [hwz]; exact (HG2.out).keep (grown_setRow _ _ _) HN5.out.2.1 HN5.out.2.2); (try clear t3c0 t3c1); obtain ⟨t3c0, t3c1⟩ := cs2 (L3.out); (try clear t4c0 t4c1 t4c2 t4c3 t4c4 t4c5 t4c6 t4c7); obtain ⟨t4c0, t4c1, t4c2, t4c3, t4c4, t4c5, t4c6, t4c7⟩ := cs8 (L4.out); (try clear t5c0 t5c1); obtain ⟨t5c0, t5c1⟩ := cs2 (L5.out); clear hwz)) | (go_at_call 32; go_must ((refine (sGraphDo_as A1 c1 ns B1 d1 es op n2 e2 q _ HGR.out HLN.out HDO.out).mono ?_); rintro e u_ ⟨A3, c3, B3, d3, rfl, hg3_, hb⟩; have HG3 := Aside0.mk hg3_; clear hg3_; replace HB := Aside0.mk (below_step HB.out hb); replace L3 := Aside0.mk (blk_below L3.out hb); replace L4 := Aside0.mk (blk_below L4.out hb); replace L5 := Aside0.mk (blk_below L5.out hb); replace HGR := Aside0.mk (HGR.out.below hb); replace HG2 := Aside0.mk (HG2.out.below hb); (try clear t3c0 t3c1); obtain ⟨t3c0, t3c1⟩ := cs2 (L3.out); (try clear t4c0 t4c1 t4c2 t4c3 t4c4 t4c5 t4c6 t4c7); obtain ⟨t4c0, t4c1, t4c2, t4c3, t4c4, t4c5, t4c6, t4c7⟩ := cs8 (L4.out); (try clear t5c0 t5c1); obtain ⟨t5c0, t5c1⟩ := cs2 (L5.out); clear hb)) | ((with_reducible refine gate_dst (N := 7) rfl ?_); go_must ((refine w_new #[.slice none 0 0, .slice none 0 0] 26 rfl (by go_simp; (first | done | rfl)) ?_); intro g7 u_ hge_ hb0_ hb; have HN7 := Aside0.mk (And.intro (HGR.out.new hge_) (And.intro (HG2.out.new hge_) (HG3.out.new hge_))); have Hg7 := Aside0.mk (show w.heap.size + 0 ≤ g7 ∧ g3 < g7 ∧ g4 < g7 ∧ g5 < g7 from by have hl0_ := HB.out.size; have hl_g3 := blk_lt L3.out; have hl_g4 := blk_lt L4.out; have hl_g5 := blk_lt L5.out; exact ⟨by omega, by omega, by omega, by omega⟩); have L7 := Aside0.mk hb0_; replace HB := Aside0.mk (below_step HB.out hb); replace L3 := Aside0.mk (blk_below L3.out hb); replace L4 := Aside0.mk (blk_below L4.out hb); replace L5 := Aside0.mk (blk_below L5.out hb); replace HGR := Aside0.mk (HGR.out.below hb); replace HG2 := Aside0.mk (HG2.out.below hb); replace HG3 := Aside0.mk (HG3.out.below hb); clear hge_ hb0_ hb; (try clear t3c0 t3c1); obtain ⟨t3c0, t3c1⟩ := cs2 (L3.out); (try clear t4c0 t4c1 t4c2 t4c3 t4c4 t4c5 t4c6 t4c7); obtain ⟨t4c0, t4c1, t4c2, t4c3, t4c4, t4c5, t4c6, t4c7⟩ := cs8 (L4.out); (try clear t5c0 t5c1); obtain ⟨t5c0, t5c1⟩ := cs2 (L5.out); (try clear t7c0 t7c1); obtain ⟨t7c0, t7c1⟩ := cs2 (L7.out))) | ((with_reducible refine gate_store (p := 7) rfl ?_); go_must ((refine wpList_plain rfl fun K_ hK_ => wp_store_row _ _ _ rfl (g7) #[.slice A3 n2.length c3, .slice B3 e2.length d3] rfl rfl _ _ L7.out (by kernel_rfl) rfl (by simp [Value.oneCell']) (hK_ _ _ ?_)); refine named _ ?_; intro wz hwz; replace HB := Aside0.mk (sb_ hwz HB.out (by have := Hg3.out; have := Hg4.out; have := Hg5.out; have := Hg7.out; omega)); replace L3 := Aside0.mk (so_ hwz L3.out (by have := Hg3.out; have := Hg4.out; have := Hg5.out; have := Hg7.out; omega)); replace L4 := Aside0.mk (so_ hwz L4.out (by have := Hg3.out; have := Hg4.out; have := Hg5.out; have := Hg7.out; omega)); replace L5 := Aside0.mk (so_ hwz L5.out (by have := Hg3.out; have := Hg4.out; have := Hg5.out; have := Hg7.out; omega)); replace L7 := Aside0.mk (sh_ hwz L7.out); replace HGR := Aside0.mk (show GR wz A1 c1 ns B1 d1 es by rw [hwz]; exact (HGR.out).keep (grown_setRow _ _ _) HN7.out.1.1 HN7.out.1.2); replace HG2 := Aside0.mk (show GR wz A2 c2 n2 B2 d2 e2 by rw [hwz]; exact (HG2.out).keep (grown_setRow _ _ _) HN7.out.2.1.1 HN7.out.2.1.2); replace HG3 := Aside0.mk (show GR wz A3 c3 n2 B3 d3 e2 by rw [hwz]; exact (HG3.out).keep (grown_setRow _ _ _) HN7.out.2.2.1 HN7.out.2.2.2); (try clear t3c0 t3c1); obtain ⟨t3c0, t3c1⟩ := cs2 (L3.out); (try clear t4c0 t4c1 t4c2 t4c3 t4c4 t4c5 t4c6 t4c7); obtain ⟨t4c0, t4c1, t4c2, t4c3, t4c4, t4c5, t4c6, t4c7⟩ := cs8 (L4.out); (try clear t5c0 t5c1); obtain ⟨t5c0, t5c1⟩ := cs2 (L5.out); (try clear t7c0 t7c1); obtain ⟨t7c0, t7c1⟩ := cs2 (L7.out); clear hwz)))
  clear HG3 L3 L4 L7
  cases v
  · go_wp2_with (first | (go_at_call 33; go_must ((refine (sGraphOk_as A1 c1 ns B1 d1 es _ _ HGR.out HLN.out HOK.out).mono ?_); rintro e u_ ⟨rfl, hb⟩; replace HG2 := Aside0.mk (HG2.out.below hb); replace L5 := Aside0.mk (blk_below L5.out hb); (try clear t5c0 t5c1); obtain ⟨t5c0, t5c1⟩ := cs2 (L5.out); replace HB := Aside0.mk (below_step HB.out hb); clear hb)))
    go_ret
    exact ⟨by simp, HB.out⟩
  · have HO2 := Aside0.mk (show OkG n2 e2 by rw [← HDO.out.1, ← HDO.out.2.1]; exact do_ok (okG_true.1 HOK.out))
    go_wp2_with (first | (go_at_call 33; go_must ((refine (sGraphOk_as A1 c1 ns B1 d1 es _ _ HGR.out HLN.out HOK.out).mono ?_); rintro e u_ ⟨rfl, hb⟩; replace HG2 := Aside0.mk (HG2.out.below hb); replace L5 := Aside0.mk (blk_below L5.out hb); (try clear t5c0 t5c1); obtain ⟨t5c0, t5c1⟩ := cs2 (L5.out); replace HB := Aside0.mk (below_step HB.out hb); clear hb)))
    go_loopw [9] (fun s9 wr => OrdI w g5 A2 c2 n2 B2 d2 e2 1 41 s9 wr) (fun s9 _ => (n2.length - intOf s9).toNat)
    case atStart => exact ⟨1, Nat.le_refl _, by omega, rfl, L5.out, HG2.out, HB.out⟩
    case round =>
      clear L5 HG2 HB
      obtain ⟨j, hlo, hj, rfl, l5_, gr_, hb_⟩ := hrel
      have HJ := Aside0.mk hj
      have HLO := Aside0.mk hlo
      have L5 := Aside0.mk l5_
      have HG2 := Aside0.mk gr_
      have HB := Aside0.mk hb_
      obtain ⟨t5c0, t5c1⟩ := cs2 (L5.out)
      clear l5_ gr_ hb_ hj hlo
      by_cases hlt : j < n2.length
      · have HLT := Aside0.mk (show j < 41 by have := (NsOk.mk HO2.out.nok HO2.out.nasc HO2.out.nfew).len; omega)
        have hjl : (j : Int) < (n2.length : Int) := by omega
        have hj1 : j - 1 < n2.length := by omega
        have hjm : (j : Int) ≤ 41 := by have := HLT.out; omega
        have hw1 : IntKind.i64.wrap ((j : Int) - 1) = ((j - 1 : Nat) : Int) := by rw [IntKind.wrap_i64]; have := HLO.out; omega
        have hc := HO2.out.nasc.lt (i := j - 1) (j := j) (by have := HLO.out; omega) hlt
        have hy := HO2.out.nok _ (at_mem hj1)
        have hz := HO2.out.nok _ (at_mem hlt)
        rw [← at_lt hj1, ← at_lt hlt, ← codeI_ok hy, ← codeI_ok hz] at hc
        obtain ⟨ad, e1, r0, r1⟩ := nd_at HG2.out.cn j hlt
        cases e1
        obtain ⟨ad2, e2_, t0, t1⟩ := nd_at HG2.out.cn (j - 1) hj1
        cases e2_
        generalize at_ n2 j = z at r0 r1 hc
        generalize at_ n2 (j - 1) = y at t0 t1 hc
        have hcb : decide (codeI z ≤ codeI y) = false := decide_eq_false (by omega)
        clear hy hz hc
        go_wp2_with (fail)
        have ZL5 := L5
        refine region_bp [] sOr11 (by kernel_rfl) sOr11_ok (by decide) (fun d _ _ _ _ h => by cases d <;> exact h) ?_
        intro u hb
        have hS := hb
        replace HB := Aside0.mk (below_step HB.out hb)
        replace L5 := Aside0.mk (blk_below L5.out hb)
        replace HG2 := Aside0.mk (HG2.out.below hb)
        (try clear t5c0 t5c1)
        obtain ⟨t5c0, t5c1⟩ := cs2 (L5.out)
        clear hb
        repeat (first | (refine p_off hS gt_ (by rfl) ?_; intro a_ ha_; (simp only [Act.put, List.setIfInBounds_toArray, List.set_cons_zero, List.set_cons_succ] at ha_); subst ha_) | (refine p_on (v := ?_) hS gt_ (by rfl) ?_ ?_; rotate_left; (· rintro w_ hS_; obtain ⟨t5c0_, t5c1_⟩ := cs2 (blk_below ZL5.out hS_); have t0_ := pw_cell_below hS_ t0; have t1_ := pw_cell_below hS_ t1; have r0_ := pw_cell_below hS_ r0; have r1_ := pw_cell_below hS_ r1; go_simp; with_reducible rfl); intro a_ ha_; (simp only [Act.put, List.setIfInBounds_toArray, List.set_cons_zero, List.set_cons_succ] at ha_); subst ha_) | (refine p_poff gt_ (by rfl) ?_; intro a_ ha_; (simp only [Act.put, List.setIfInBounds_toArray, List.set_cons_zero, List.set_cons_succ] at ha_); subst ha_) | (refine p_pon (v := ?_) gt_ (by rfl) ?_ ?_; rotate_left; (· go_simp; with_reducible rfl); intro a_ ha_; (simp only [Act.put, List.setIfInBounds_toArray, List.set_cons_zero, List.set_cons_succ] at ha_); subst ha_) | (refine p_ooff hS gt_ (by rfl) ?_; intro a_ ha_; (simp only [Act.put, List.setIfInBounds_toArray, List.set_cons_zero, List.set_cons_succ] at ha_); subst ha_) | (refine p_loff gt_ (by rfl) ?_; intro a_ ha_; (simp only [Act.put, List.setIfInBounds_toArray, List.set_cons_zero, List.set_cons_succ] at ha_); subst ha_) | (refine p_call (f := 34) (args := #[.agg #[.int .i64 y.lab, .int .i64 y.num]]) Try.func34 (by kernel_rfl) rfl gt_ (by rfl) (by rfl) mp_ ?_; (refine (nodeCode_calls y _).mono ?_); rintro e_ u_ ⟨rfl, hb⟩; replace HB := Aside0.mk (below_step HB.out hb); replace L5 := Aside0.mk (blk_below L5.out hb); replace HG2 := Aside0.mk (HG2.out.below hb); (try clear t5c0 t5c1); obtain ⟨t5c0, t5c1⟩ := cs2 (L5.out); replace hS := below_step hS hb; refine ⟨_, rfl, hS, fun a_ ha_ => ?_⟩; (simp only [Act.put, List.setIfInBounds_toArray, List.set_cons_zero, List.set_cons_succ] at ha_); subst ha_; clear hb) | (refine p_call (f := 34) (args := #[.agg #[.int .i64 z.lab, .int .i64 z.num]]) Try.func34 (by kernel_rfl) rfl gt_ (by rfl) (by rfl) mp_ ?_; (refine (nodeCode_calls z _).mono ?_); rintro e_ u_ ⟨rfl, hb⟩; replace HB := Aside0.mk (below_step HB.out hb); replace L5 := Aside0.mk (blk_below L5.out hb); replace HG2 := Aside0.mk (HG2.out.below hb); (try clear t5c0 t5c1); obtain ⟨t5c0, t5c1⟩ := cs2 (L5.out); replace hS := below_step hS hb; refine ⟨_, rfl, hS, fun a_ ha_ => ?_⟩; (simp only [Act.put, List.setIfInBounds_toArray, List.set_cons_zero, List.set_cons_succ] at ha_); subst ha_; clear hb))
        refine p_fin ?_
        clear hS ZL5
        clear hw1
        go_wp2
        go_roundw
        case rel => exact ⟨j + 1, by have := HLO.out; omega, by have := HLT.out; omega, by go_num, L5.out, HG2.out, HB.out⟩
        case measure => simp [intOf]; omega
      · have hjl : ¬ (j : Int) < (n2.length : Int) := by omega
        go_wp2_with (fail)
        go_loopw [10, 11] (fun s10 _ wr => OrdI w g5 A2 c2 n2 B2 d2 e2 0 56 s10 wr) (fun s10 _ _ => (e2.length - intOf s10).toNat)
        case atStart => exact ⟨0, Nat.le_refl _, by omega, rfl, L5.out, HG2.out, HB.out⟩
        case round =>
          clear L5 HG2 HB HJ HLO
          obtain ⟨j, hlo, hj, rfl, l5_, gr_, hb_⟩ := hrel
          have HJ := Aside0.mk hj
          have HLO := Aside0.mk hlo
          have L5 := Aside0.mk l5_
          have HG2 := Aside0.mk gr_
          have HB := Aside0.mk hb_
          obtain ⟨t5c0, t5c1⟩ := cs2 (L5.out)
          clear l5_ gr_ hb_ hj hlo
          by_cases hlt : j < e2.length
          · have HLT := Aside0.mk (show j < 56 by have := (EsOk.mk HO2.out.eok HO2.out.easc HO2.out.efew HO2.out.ends).len; omega)
            have hjl : (j : Int) < (e2.length : Int) := by omega
            have hj1 : j - 1 < e2.length := by omega
            have hjm : (j : Int) ≤ 56 := by have := HLT.out; omega
            have hx := HO2.out.eok _ (eat_mem hlt)
            have hxc : codeI (eat e2 j).a < codeI (eat e2 j).b := by
              obtain ⟨-, h1, h2, h3, -⟩ := okE_iff.1 hx
              rw [codeI_ok h1, codeI_ok h2]
              exact h3
            have hlab : 0 < j → (eat e2 (j - 1)).lab ≤ (eat e2 j).lab := fun h0 => by
              have h1 := HO2.out.easc.lt (i := j - 1) (j := j) (by omega) hlt
              rw [← eat_lt hj1, ← eat_lt hlt] at h1
              rcases (key_lt (HO2.out.eok _ (eat_mem hj1)) hx).1 h1 with h | ⟨h, -⟩ <;> omega
            obtain ⟨ad, e1, r0, r1, r2, r3, r4⟩ := eg_at HG2.out.ce j hlt
            cases e1
            obtain ⟨ad2, e2_, p0, p1, p2, p3, p4⟩ := eg_at HG2.out.ce (j - 1) hj1
            cases e2_
            have HAD := Aside0.mk (show (ad.add ((j - 1) * 5)).block < wr.heap.size from World.block_lt_of_cell? _ _ p0)
            generalize eat e2 j = x at r0 r1 r2 r3 r4 hxc hlab
            generalize eat e2 (j - 1) = y at p0 p1 p2 p3 p4 hlab
            have hcb : decide (codeI x.b ≤ codeI x.a) = false := decide_eq_false (by omega)
            clear hx hxc
            by_cases hj0 : 0 < j
            case' pos =>
              have hj0b : decide ((0 : Int) < (j : Int)) = true := decide_eq_true (by omega)
              have hw1 : IntKind.i64.wrap ((j : Int) - 1) = ((j - 1 : Nat) : Int) := by rw [IntKind.wrap_i64]; omega
              have hlb : decide (x.lab < y.lab) = false := decide_eq_false (by have := hlab hj0; omega)
            case' neg => have hj0b : decide ((0 : Int) < (j : Int)) = false := decide_eq_false (by omega)
            all_goals
              clear hlab
              go_wp2_with (first | ((with_reducible refine gate_dst (N := 11) rfl ?_); go_must ((refine w_new #[.int .i64 0, .int .i64 0, .int .i64 0, .int .i64 0, .int .i64 0] 30 rfl (by go_simp; (first | done | rfl)) ?_); intro g11 u_ hge_ hb0_ hb; have HN11 := Aside0.mk (HG2.out.new hge_); have HGE := Aside0.mk (show wr.heap.size ≤ g11 from hge_); have Hg11 := Aside0.mk (show w.heap.size + 0 ≤ g11 ∧ g5 < g11 from by have hl0_ := HB.out.size; have hl_g5 := blk_lt L5.out; exact ⟨by omega, by omega⟩); have L11 := Aside0.mk hb0_; replace HB := Aside0.mk (below_step HB.out hb); replace L5 := Aside0.mk (blk_below L5.out hb); replace HG2 := Aside0.mk (HG2.out.below hb); replace p0 := pw_cell_below hb p0; replace p1 := pw_cell_below hb p1; replace p2 := pw_cell_below hb p2; replace p3 := pw_cell_below hb p3; replace p4 := pw_cell_below hb p4; replace r0 := pw_cell_below hb r0; replace r1 := pw_cell_below hb r1; replace r2 := pw_cell_below hb r2; replace r3 := pw_cell_below hb r3; replace r4 := pw_cell_below hb r4; clear hge_ hb0_ hb; (try clear t5c0 t5c1); obtain ⟨t5c0, t5c1⟩ := cs2 (L5.out); (try clear t11c0 t11c1 t11c2 t11c3 t11c4); obtain ⟨t11c0, t11c1, t11c2, t11c3, t11c4⟩ := cs5 (L11.out))) | ((with_reducible refine gate_store (p := 11) rfl ?_); go_must ((refine wpList_plain rfl fun K_ hK_ => wp_store_row _ _ _ rfl (g11) #[.int .i64 x.lab, .int .i64 x.a.lab, .int .i64 x.a.num, .int .i64 x.b.lab, .int .i64 x.b.num] rfl rfl _ _ L11.out (by kernel_rfl) rfl (by simp [Value.oneCell']) (hK_ _ _ ?_)); refine named _ ?_; intro wz hwz; replace HB := Aside0.mk (sb_ hwz HB.out (by have := Hg3.out; have := Hg4.out; have := Hg5.out; have := Hg7.out; have := Hg11.out; omega)); replace L5 := Aside0.mk (so_ hwz L5.out (by have := Hg3.out; have := Hg4.out; have := Hg5.out; have := Hg7.out; have := Hg11.out; omega)); replace L11 := Aside0.mk (sh_ hwz L11.out); replace HG2 := Aside0.mk ((HG2.out).row hwz HN11.out.1 HN11.out.2); (try clear t5c0 t5c1); obtain ⟨t5c0, t5c1⟩ := cs2 (L5.out); (try clear t11c0 t11c1 t11c2 t11c3 t11c4); obtain ⟨t11c0, t11c1, t11c2, t11c3, t11c4⟩ := cs5 (L11.out); replace p0 := cg_ hwz p0 (by show (ad.add ((j - 1) * 5)).block ≠ g11; have := HAD.out; have := HGE.out; omega); replace p1 := cg_ hwz p1 (by show (ad.add ((j - 1) * 5)).block ≠ g11; have := HAD.out; have := HGE.out; omega); replace p2 := cg_ hwz p2 (by show (ad.add ((j - 1) * 5)).block ≠ g11; have := HAD.out; have := HGE.out; omega); replace p3 := cg_ hwz p3 (by show (ad.add ((j - 1) * 5)).block ≠ g11; have := HAD.out; have := HGE.out; omega); replace p4 := cg_ hwz p4 (by show (ad.add ((j - 1) * 5)).block ≠ g11; have := HAD.out; have := HGE.out; omega); clear hwz)))
              clear r0 r1 r2 r3 r4
              have ZL5 := L5
              have ZL11 := L11
              refine region_bp [] sOr17 (by kernel_rfl) sOr17_ok (by decide) (fun d _ _ _ _ h => by cases d <;> exact h) ?_
              intro u hb
              have hS := hb
              replace HB := Aside0.mk (below_step HB.out hb)
              replace L5 := Aside0.mk (blk_below L5.out hb)
              replace L11 := Aside0.mk (blk_below L11.out hb)
              replace HG2 := Aside0.mk (HG2.out.below hb)
              (try clear t5c0 t5c1)
              obtain ⟨t5c0, t5c1⟩ := cs2 (L5.out)
              (try clear t11c0 t11c1 t11c2 t11c3 t11c4)
              obtain ⟨t11c0, t11c1, t11c2, t11c3, t11c4⟩ := cs5 (L11.out)
              clear hb
              repeat (first | (refine p_off hS gt_ (by rfl) ?_; intro a_ ha_; (simp only [Act.put, List.setIfInBounds_toArray, List.set_cons_zero, List.set_cons_succ] at ha_); subst ha_) | (refine p_on (v := ?_) hS gt_ (by rfl) ?_ ?_; rotate_left; (· rintro w_ hS_; obtain ⟨t5c0_, t5c1_⟩ := cs2 (blk_below ZL5.out hS_); obtain ⟨t11c0_, t11c1_, t11c2_, t11c3_, t11c4_⟩ := cs5 (blk_below ZL11.out hS_); have p0_ := pw_cell_below hS_ p0; have p1_ := pw_cell_below hS_ p1; have p2_ := pw_cell_below hS_ p2; have p3_ := pw_cell_below hS_ p3; have p4_ := pw_cell_below hS_ p4; go_simp; with_reducible rfl); intro a_ ha_; (simp only [Act.put, List.setIfInBounds_toArray, List.set_cons_zero, List.set_cons_succ] at ha_); subst ha_) | (refine p_poff gt_ (by rfl) ?_; intro a_ ha_; (simp only [Act.put, List.setIfInBounds_toArray, List.set_cons_zero, List.set_cons_succ] at ha_); subst ha_) | (refine p_pon (v := ?_) gt_ (by rfl) ?_ ?_; rotate_left; (· go_simp; with_reducible rfl); intro a_ ha_; (simp only [Act.put, List.setIfInBounds_toArray, List.set_cons_zero, List.set_cons_succ] at ha_); subst ha_) | (refine p_ooff hS gt_ (by rfl) ?_; intro a_ ha_; (simp only [Act.put, List.setIfInBounds_toArray, List.set_cons_zero, List.set_cons_succ] at ha_); subst ha_) | (refine p_loff gt_ (by rfl) ?_; intro a_ ha_; (simp only [Act.put, List.setIfInBounds_toArray, List.set_cons_zero, List.set_cons_succ] at ha_); subst ha_) | (refine p_call (f := 34) (args := #[.agg #[.int .i64 x.a.lab, .int .i64 x.a.num]]) Try.func34 (by kernel_rfl) rfl gt_ (by rfl) (by rfl) mp_ ?_; (refine (nodeCode_calls x.a _).mono ?_); rintro e_ u_ ⟨rfl, hb⟩; replace HB := Aside0.mk (below_step HB.out hb); replace L5 := Aside0.mk (blk_below L5.out hb); replace L11 := Aside0.mk (blk_below L11.out hb); replace HG2 := Aside0.mk (HG2.out.below hb); (try clear t5c0 t5c1); obtain ⟨t5c0, t5c1⟩ := cs2 (L5.out); (try clear t11c0 t11c1 t11c2 t11c3 t11c4); obtain ⟨t11c0, t11c1, t11c2, t11c3, t11c4⟩ := cs5 (L11.out); replace hS := below_step hS hb; refine ⟨_, rfl, hS, fun a_ ha_ => ?_⟩; (simp only [Act.put, List.setIfInBounds_toArray, List.set_cons_zero, List.set_cons_succ] at ha_); subst ha_; clear hb) | (refine p_call (f := 34) (args := #[.agg #[.int .i64 x.b.lab, .int .i64 x.b.num]]) Try.func34 (by kernel_rfl) rfl gt_ (by rfl) (by rfl) mp_ ?_; (refine (nodeCode_calls x.b _).mono ?_); rintro e_ u_ ⟨rfl, hb⟩; replace HB := Aside0.mk (below_step HB.out hb); replace L5 := Aside0.mk (blk_below L5.out hb); replace L11 := Aside0.mk (blk_below L11.out hb); replace HG2 := Aside0.mk (HG2.out.below hb); (try clear t5c0 t5c1); obtain ⟨t5c0, t5c1⟩ := cs2 (L5.out); (try clear t11c0 t11c1 t11c2 t11c3 t11c4); obtain ⟨t11c0, t11c1, t11c2, t11c3, t11c4⟩ := cs5 (L11.out); replace hS := below_step hS hb; refine ⟨_, rfl, hS, fun a_ ha_ => ?_⟩; (simp only [Act.put, List.setIfInBounds_toArray, List.set_cons_zero, List.set_cons_succ] at ha_); subst ha_; clear hb))
              refine p_fin ?_
              clear hS ZL5 ZL11
              go_wp2
              go_roundw
              case rel => exact ⟨j + 1, by omega, by have := HLT.out; omega, by go_num, L5.out, HG2.out, HB.out⟩
              case measure => simp [intOf]; omega
          · have hjl : ¬ (j : Int) < (e2.length : Int) := by omega
            go_wp2_with (fail)
            go_ret
            exact ⟨rfl, HB.out⟩


end Go.Proofs.Ytogmbeifbjgphaa.R
