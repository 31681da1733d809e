/- The law FnWalkPath, walked. -/
import Derived.Test.YtogmbeifbjgphaaKL16
namespace Go.Proofs.Ytogmbeifbjgphaa.R
open Go.RowKit Go.Proofs.YtogmbeifbjgphaaV.PrintWords Go.Proofs.YtogmbeifbjgphaaV.PrintLast Go.Proofs.YtogmbeifbjgphaaV.PrintMore Go.Proofs.Ytogmbeifbjgphaa.M
set_option linter.unusedVariables false
set_option linter.unusedSimpArgs false
attribute [local go_sem high] eqN eqE
abbrev sWy14 : Pl := (.tk 0 (.tk 1 (.tk 2 (.tk 3 (.tk 4 (.tk 5 (.tk 6 (.tk 7 (.tk 8 (.tk 9 (.tk 10 (.tk 11 (.tk 12 (.tk 13 (.tk 14 (.tk 15 (.tk 19 (.tk 20 (.tk 21 (.tk 22 (.tk 23 (.nd .one 16 (.tk 17 (.tk 18 (.tk 24 (.tk 25 .fin))))))))))))))))))))))))))
theorem sWy14_ok : planB .any (opsOf Try.f20 14) [] sWy14 (Array.replicate (opsOf Try.f20 14).size false) = true := by kernel_rfl
abbrev sWy17 : Pl := (.tk 0 (.tk 1 (.tk 2 (.tk 3 (.tk 4 (.tk 5 (.nd .one 6 (.tk 7 .fin))))))))
theorem sWy17_ok : planB .any (opsOf Try.f20 17) [] sWy17 (Array.replicate (opsOf Try.f20 17).size false) = true := by kernel_rfl
abbrev sWy19 : Pl := (.tk 0 (.tk 1 (.tk 2 (.tk 3 (.tk 4 (.tk 5 (.tk 6 (.tk 7 (.tk 8 (.tk 9 (.tk 10 (.tk 14 (.tk 15 (.tk 16 (.tk 17 (.tk 18 (.nd .one 11 (.tk 12 (.tk 13 (.tk 19 (.tk 20 .fin)))))))))))))))))))))
theorem sWy19_ok : planB .any (opsOf Try.f20 19) [] sWy19 (Array.replicate (opsOf Try.f20 19).size false) = true := by kernel_rfl
abbrev sWy21 : Pl := (.tk 0 (.tk 1 (.tk 2 (.tk 3 (.tk 4 (.tk 5 (.tk 6 (.tk 7 (.tk 8 (.tk 9 (.tk 10 (.tk 11 (.tk 12 (.tk 13 (.tk 14 .fin)))))))))))))))
theorem sWy21_ok : planB .any (opsOf Try.f20 21) [] sWy21 (Array.replicate (opsOf Try.f20 21).size false) = true := by kernel_rfl
abbrev sWy23 : Pl := (.tk 0 (.tk 1 (.tk 2 (.tk 3 (.tk 4 (.tk 5 (.tk 6 (.tk 7 (.tk 8 (.tk 9 (.tk 10 (.tk 11 (.tk 12 (.tk 13 (.tk 14 (.tk 15 .fin))))))))))))))))
theorem sWy23_ok : planB .any (opsOf Try.f20 23) [] sWy23 (Array.replicate (opsOf Try.f20 23).size false) = true := by kernel_rfl
def WyS (w : World) (g3 g4 g5 : Nat) (A1 : Option Addr) (c1 : Nat) (ns : List Nd) (B1 : Option Addr) (d1 : Nat) (es : List Eg) (n m : Nd) (A6 A8 : Option Addr) (P : List Nd) (A10 : Option Addr) (D : List Int) (wr : World) : Prop :=
  wr.heap[g3]? = some (.cells #[.slice A1 ns.length c1, .slice B1 es.length d1] 26 (0, 0)) ∧ wr.heap[g4]? = some (.cells #[.int .i64 n.lab, .int .i64 n.num] 28 (0, 0)) ∧ wr.heap[g5]? = some (.cells #[.int .i64 m.lab, .int .i64 m.num] 28 (0, 0)) ∧ GR wr A1 c1 ns B1 d1 es ∧ kN.C wr A6 P.length P ∧ kN.C wr A8 P.length P ∧ (Kd.int .i64).C wr A10 D.length D ∧ Below w.heap.size w wr
set_option maxHeartbeats 25600000 in
set_option maxRecDepth 100000 in
theorem walkPathLaw_calls (A : Option Addr) (c : Nat) (l : List Int) (w : World) (hl : (Kd.int .u8).C w A l.length l) (hc : l.length ≤ c) (hb : ∀ x ∈ l, 0 ≤ x ∧ x < 256) :
    Calls Try.prog 20 #[.slice A l.length c] w fun e w' => e = .returned (.bool true) ∧ Below w.heap.size w w' := by
  have HL := Aside0.mk hl
  have HC := Aside0.mk hc
  have HY := Aside0.mk hb
  have HB := Aside0.mk (Below.refl w.heap.size w)
  clear hl hc hb
  by_cases hlen : 1048576 < l.length
  · have hl1 : (1048576 : Int) < (l.length : Int) := by omega
    go_enter Try.func20, Try.ntmps20
    go_wp2_with (fail)
    go_ret
    exact ⟨rfl, HB.out⟩
  have hl1 : ¬ (1048576 : Int) < (l.length : Int) := by omega
  clear hlen
  go_enter Try.func20, Try.ntmps20
  go_upto_region 4 with (first | (go_at_call 57; go_must ((refine (drawWPa_calls A c l _ (Kd.C_below HL.out HB.out) HC.out HY.out).mono ?_); rintro e u_ ⟨⟨A1, c1, ns, B1, d1, es, n, m, rfl, hgr_, hn_, he_⟩, hb⟩; have HGR := Aside0.mk hgr_; have HLN := Aside0.mk (And.intro hn_ he_); clear hgr_ hn_ he_; obtain ⟨P, hP_⟩ : ∃ y, wPath ns es n m = y := ⟨_, rfl⟩; obtain ⟨v, hv_⟩ : ∃ y, wHas ns es n m = y := ⟨_, rfl⟩; have HP := Aside0.mk hP_; have HV := Aside0.mk hv_; clear hP_ hv_; replace HB := Aside0.mk (below_step HB.out hb); clear hb)) | ((with_reducible refine gate_dst (N := 3) rfl ?_); go_must ((refine w_new #[.slice none 0 0, .slice none 0 0] 26 rfl (by go_simp; (first | done | rfl)) ?_); intro g3 u_ hge_ hb0_ hb; have N3HGR := Aside0.mk (HGR.out.new hge_); have Hg3 := Aside0.mk (show w.heap.size + 0 ≤ g3 from by have hl0_ := HB.out.size; exact by omega); have L3 := Aside0.mk hb0_; replace HB := Aside0.mk (below_step HB.out hb); replace HGR := Aside0.mk (HGR.out.below hb); clear hge_ hb0_ hb; (try clear t3c0 t3c1); obtain ⟨t3c0, t3c1⟩ := cs2 (L3.out))) | ((with_reducible refine gate_dst (N := 4) rfl ?_); go_must ((refine w_new #[.int .i64 0, .int .i64 0] 28 rfl (by go_simp; (first | done | rfl)) ?_); intro g4 u_ hge_ hb0_ hb; have N4HGR := Aside0.mk (HGR.out.new hge_); have Hg4 := Aside0.mk (show w.heap.size + 0 ≤ g4 ∧ g3 < g4 from by have hl0_ := HB.out.size; have hl_g3 := blk_lt L3.out; exact ⟨by omega, by omega⟩); have L4 := Aside0.mk hb0_; replace HB := Aside0.mk (below_step HB.out hb); replace L3 := Aside0.mk (blk_below L3.out hb); replace HGR := Aside0.mk (HGR.out.below hb); clear hge_ hb0_ hb; (try clear t3c0 t3c1); obtain ⟨t3c0, t3c1⟩ := cs2 (L3.out); (try clear t4c0 t4c1); obtain ⟨t4c0, t4c1⟩ := cs2 (L4.out))) | ((with_reducible refine gate_dst (N := 5) rfl ?_); go_must ((refine w_new #[.int .i64 0, .int .i64 0] 28 rfl (by go_simp; (first | done | rfl)) ?_); intro g5 u_ hge_ hb0_ hb; have N5HGR := Aside0.mk (HGR.out.new hge_); have Hg5 := Aside0.mk (show w.heap.size + 0 ≤ g5 ∧ g3 < g5 ∧ g4 < g5 from by have hl0_ := HB.out.size; have hl_g3 := blk_lt L3.out; have hl_g4 := blk_lt L4.out; exact ⟨by omega, by omega, by omega⟩); have L5 := Aside0.mk hb0_; replace HB := Aside0.mk (below_step HB.out hb); replace L3 := Aside0.mk (blk_below L3.out hb); replace L4 := Aside0.mk (blk_below L4.out hb); replace HGR := Aside0.mk (HGR.out.below hb); clear hge_ hb0_ hb; (try clear t3c0 t3c1); obtain ⟨t3c0, t3c1⟩ := cs2 (L3.out); (try clear t4c0 t4c1); obtain ⟨t4c0, t4c1⟩ := cs2 (L4.out); (try clear t5c0 t5c1); obtain ⟨t5c0, t5c1⟩ := cs2 (L5.out))) | ((with_reducible refine gate_store (p := 3) rfl ?_); go_must ((refine wpList_plain rfl fun K_ hK_ => wp_store_row _ _ _ rfl (g3) #[.slice A1 ns.length c1, .slice B1 es.length d1] rfl rfl _ _ L3.out (by kernel_rfl) rfl (by simp [Value.oneCell']) (hK_ _ _ ?_)); refine named _ ?_; intro wz hwz; replace HB := Aside0.mk (sb_ hwz HB.out (by have := Hg3.out; have := Hg4.out; have := Hg5.out; omega)); replace L4 := Aside0.mk (so_ hwz L4.out (by have := Hg3.out; have := Hg4.out; have := Hg5.out; omega)); replace L5 := Aside0.mk (so_ hwz L5.out (by have := Hg3.out; have := Hg4.out; have := Hg5.out; omega)); replace L3 := Aside0.mk (sh_ hwz L3.out); replace HGR := Aside0.mk ((HGR.out).row hwz N3HGR.out.1 N3HGR.out.2); (try clear t3c0 t3c1); obtain ⟨t3c0, t3c1⟩ := cs2 (L3.out); (try clear t4c0 t4c1); obtain ⟨t4c0, t4c1⟩ := cs2 (L4.out); (try clear t5c0 t5c1); obtain ⟨t5c0, t5c1⟩ := cs2 (L5.out); clear hwz)) | ((with_reducible refine gate_store (p := 4) rfl ?_); go_must ((refine wpList_plain rfl fun K_ hK_ => wp_store_row _ _ _ rfl (g4) #[.int .i64 n.lab, .int .i64 n.num] rfl rfl _ _ L4.out (by kernel_rfl) rfl (by simp [Value.oneCell']) (hK_ _ _ ?_)); refine named _ ?_; intro wz hwz; replace HB := Aside0.mk (sb_ hwz HB.out (by have := Hg3.out; have := Hg4.out; have := Hg5.out; omega)); replace L3 := Aside0.mk (so_ hwz L3.out (by have := Hg3.out; have := Hg4.out; have := Hg5.out; omega)); replace L5 := Aside0.mk (so_ hwz L5.out (by have := Hg3.out; have := Hg4.out; have := Hg5.out; omega)); replace L4 := Aside0.mk (sh_ hwz L4.out); replace HGR := Aside0.mk ((HGR.out).row hwz N4HGR.out.1 N4HGR.out.2); (try clear t3c0 t3c1); obtain ⟨t3c0, t3c1⟩ := cs2 (L3.out); (try clear t4c0 t4c1); obtain ⟨t4c0, t4c1⟩ := cs2 (L4.out); (try clear t5c0 t5c1); obtain ⟨t5c0, t5c1⟩ := cs2 (L5.out); clear hwz)) | ((with_reducible refine gate_store (p := 5) rfl ?_); go_must ((refine wpList_plain rfl fun K_ hK_ => wp_store_row _ _ _ rfl (g5) #[.int .i64 m.lab, .int .i64 m.num] rfl rfl _ _ L5.out (by kernel_rfl) rfl (by simp [Value.oneCell']) (hK_ _ _ ?_)); refine named _ ?_; intro wz hwz; replace HB := Aside0.mk (sb_ hwz HB.out (by have := Hg3.out; have := Hg4.out; have := Hg5.out; omega)); replace L3 := Aside0.mk (so_ hwz L3.out (by have := Hg3.out; have := Hg4.out; have := Hg5.out; omega)); replace L4 := Aside0.mk (so_ hwz L4.out (by have := Hg3.out; have := Hg4.out; have := Hg5.out; omega)); replace L5 := Aside0.mk (sh_ hwz L5.out); replace HGR := Aside0.mk ((HGR.out).row hwz N5HGR.out.1 N5HGR.out.2); (try clear t3c0 t3c1); obtain ⟨t3c0, t3c1⟩ := cs2 (L3.out); (try clear t4c0 t4c1); obtain ⟨t4c0, t4c1⟩ := cs2 (L4.out); (try clear t5c0 t5c1); obtain ⟨t5c0, t5c1⟩ := cs2 (L5.out); clear hwz)))
  go_upto_region 5 with (first | (go_at_call 61; go_must ((refine (walkPath_as A1 c1 ns B1 d1 es n m P _ _ HGR.out HP.out HV.out).mono ?_); rintro e u_ ⟨⟨A6, c6, rfl, hc_, hl_⟩, hb⟩; have HC6 := Aside0.mk hc_; clear hc_ hl_; replace HB := Aside0.mk (below_step HB.out hb); replace L3 := Aside0.mk (blk_below L3.out hb); replace L4 := Aside0.mk (blk_below L4.out hb); replace L5 := Aside0.mk (blk_below L5.out hb); replace HGR := Aside0.mk (HGR.out.below hb); (try clear t3c0 t3c1); obtain ⟨t3c0, t3c1⟩ := cs2 (L3.out); (try clear t4c0 t4c1); obtain ⟨t4c0, t4c1⟩ := cs2 (L4.out); (try clear t5c0 t5c1); obtain ⟨t5c0, t5c1⟩ := cs2 (L5.out); clear hb)))
  go_upto_region 6 with (first | (go_at_call 62; go_must ((refine (sWalkPath_as A1 c1 ns B1 d1 es n m P _ _ HGR.out HLN.out HP.out HV.out).mono ?_); rintro e u_ ⟨⟨A8, c8, rfl, hc_, hl_⟩, hb⟩; have HC8 := Aside0.mk hc_; clear hc_ hl_; replace HB := Aside0.mk (below_step HB.out hb); replace L3 := Aside0.mk (blk_below L3.out hb); replace L4 := Aside0.mk (blk_below L4.out hb); replace L5 := Aside0.mk (blk_below L5.out hb); replace HGR := Aside0.mk (HGR.out.below hb); replace HC6 := Aside0.mk (Kd.C_below (HC6.out) hb); (try clear t3c0 t3c1); obtain ⟨t3c0, t3c1⟩ := cs2 (L3.out); (try clear t4c0 t4c1); obtain ⟨t4c0, t4c1⟩ := cs2 (L4.out); (try clear t5c0 t5c1); obtain ⟨t5c0, t5c1⟩ := cs2 (L5.out); clear hb)))
  cases v
  · obtain rfl : P = [] := HP.out.symm.trans (wPath_nil HV.out)
    go_wp2_with (fail)
    go_ret
    exact ⟨rfl, HB.out⟩
  · obtain ⟨hg, hn, hm, hd⟩ := wHas_iff.1 HV.out
    have HOG := Aside0.mk hg
    obtain ⟨s, hs⟩ : ∃ s, idx ns n = s := ⟨_, rfl⟩
    obtain ⟨t, ht⟩ : ∃ s, idx ns m = s := ⟨_, rfl⟩
    obtain ⟨dd, hdd⟩ : ∃ d : Nat, dist (adjI ns es) t s = (d : Int) := ⟨(dist (adjI ns es) t s).toNat, by rw [ht, hs] at hd; omega⟩
    have HPP := Aside0.mk (show P = tds ns (pathI (adjI ns es) ns.length t dd s) by rw [← HP.out, wPath_of HV.out, ht, hs, hdd, Int.toNat_natCast])
    have HPA := Aside0.mk (pathI_length (adj := adjI ns es) (n := ns.length) (b := t) dd s)
    have HPN := Aside0.mk (show P.length = dd + 1 by rw [HPP.out, tds_len, HPA.out])
    have HPC := Aside0.mk (show P.length ≤ ns.length by rw [← HP.out]; exact wPath_few HV.out)
    have HSN := Aside0.mk (show s < ns.length by rw [← hs]; exact idx_lt hn)
    have HDT := Aside0.mk hdd
    have HPT := Aside0.mk (fun (k v : Nat) (h : (pathI (adjI ns es) ns.length t dd s)[k]? = some v) => pathI_at (b := t) adjI_sym (fun u v h => adjI_lt h) dd s k v hdd HSN.out h)
    have HNS := Aside0.mk (show at_ ns s = n by rw [← hs]; exact at_idx hn)
    have HMT := Aside0.mk (show at_ ns t = m by rw [← ht]; exact at_idx hm)
    obtain ⟨D, hD⟩ : ∃ y, wDist ns es m = y := ⟨_, rfl⟩
    have HDQ := Aside0.mk hD
    have hde := wd_at hD (okG_true.2 hg) hm
    rw [ht] at hde
    have HDL := Aside0.mk (show D.length = ns.length by rw [hde, distL_length])
    have HDG := Aside0.mk (fun (v : Nat) (h : v < ns.length) => show D.getD v 0 = dist (adjI ns es) t v by rw [hde]; exact gt_distL h)
    clear hg hn hm hd hs ht hdd hD hde
    go_upto_region 11 with (first | (go_at_call 53; go_must ((refine (walkDist_as A1 c1 ns B1 d1 es m D _ HGR.out HDQ.out).mono ?_); rintro e u_ ⟨⟨A10, c10, rfl, hc_, hl_, hf_⟩, hb⟩; have HC10 := Aside0.mk hc_; clear hc_ hl_ hf_; replace HB := Aside0.mk (below_step HB.out hb); replace L3 := Aside0.mk (blk_below L3.out hb); replace L4 := Aside0.mk (blk_below L4.out hb); replace L5 := Aside0.mk (blk_below L5.out hb); replace HGR := Aside0.mk (HGR.out.below hb); replace HC6 := Aside0.mk (Kd.C_below (HC6.out) hb); replace HC8 := Aside0.mk (Kd.C_below (HC8.out) hb); (try clear t3c0 t3c1); obtain ⟨t3c0, t3c1⟩ := cs2 (L3.out); (try clear t4c0 t4c1); obtain ⟨t4c0, t4c1⟩ := cs2 (L4.out); (try clear t5c0 t5c1); obtain ⟨t5c0, t5c1⟩ := cs2 (L5.out); clear hb)))
    obtain ⟨a1, rfl⟩ : ∃ ad, A1 = some ad := by obtain ⟨ad, e, _⟩ := HGR.out.cn.2.2 (by have := HSN.out; omega); exact ⟨ad, e⟩
    obtain ⟨a6, rfl⟩ : ∃ ad, A6 = some ad := by obtain ⟨ad, e, _⟩ := HC6.out.2.2 (by have := HPN.out; omega); exact ⟨ad, e⟩
    obtain ⟨a8, rfl⟩ : ∃ ad, A8 = some ad := by obtain ⟨ad, e, _⟩ := HC8.out.2.2 (by have := HPN.out; omega); exact ⟨ad, e⟩
    obtain ⟨a10, rfl⟩ : ∃ ad, A10 = some ad := by obtain ⟨ad, e, _⟩ := HC10.out.2.2 (by have := HDL.out; have := HSN.out; omega); exact ⟨ad, e⟩
    go_wp2_with (fail)
    go_loopw [11, 12, 13] (fun s11 _ _ wr => ∃ i : Nat, i ≤ P.length ∧ s11 = .int .i64 (i : Int) ∧ WyS w g3 g4 g5 (some a1) c1 ns B1 d1 es n m (some a6) (some a8) P (some a10) D wr) (fun s11 _ _ _ => (P.length - intOf s11).toNat)
    case atStart => exact ⟨0, Nat.zero_le _, rfl, ⟨L3.out, L4.out, L5.out, HGR.out, HC6.out, HC8.out, HC10.out, HB.out⟩⟩
    case round =>
      clear L3 L4 L5 HGR HC6 HC8 HC10 HB
      obtain ⟨i, hi, rfl, l3_, l4_, l5_, gr_, c6_, c8_, c10_, hb_⟩ := hrel
      have HI := Aside0.mk hi
      clear hi
      have L3 := Aside0.mk l3_
      have L4 := Aside0.mk l4_
      have L5 := Aside0.mk l5_
      have HGR := Aside0.mk gr_
      have HC6 := Aside0.mk c6_
      have HC8 := Aside0.mk c8_
      have HC10 := Aside0.mk c10_
      have HB := Aside0.mk hb_
      obtain ⟨t3c0, t3c1⟩ := cs2 (L3.out)
      obtain ⟨t4c0, t4c1⟩ := cs2 (L4.out)
      obtain ⟨t5c0, t5c1⟩ := cs2 (L5.out)
      clear l3_ l4_ l5_ gr_ c6_ c8_ c10_ hb_
      have hpn : 0 < (P.length : Int) ∧ (P.length : Int) ≤ 100 := by have := HPN.out; have := HLN.out; have := HPC.out; omega
      by_cases hlt : i < P.length
      · have hil : (i : Int) < (P.length : Int) := by omega
        have HIL := Aside0.mk hlt
        have HIA := Aside0.mk (show i < (pathI (adjI ns es) ns.length t dd s).length by rw [HPA.out]; have := HPN.out; omega)
        obtain ⟨vi, hvi⟩ : ∃ v, (pathI (adjI ns es) ns.length t dd s)[i]'HIA.out = v := ⟨_, rfl⟩
        have HVI := Aside0.mk (show (pathI (adjI ns es) ns.length t dd s)[i]? = some vi by rw [← hvi]; exact List.getElem?_eq_getElem _)
        obtain ⟨hvn, hvd, -, -⟩ := HPT.out i vi HVI.out
        have HVN := Aside0.mk hvn
        have HVD := Aside0.mk (show vi < D.length by have := HDL.out; omega)
        have hvd2 : (vi : Int) < (D.length : Int) := by have := HVD.out; omega
        obtain ⟨x, hx⟩ : ∃ x, dist (adjI ns es) t vi = x := ⟨_, rfl⟩
        have HXV := Aside0.mk hx
        have HXI := Aside0.mk (show x = (P.length : Int) - 1 - (i : Int) by rw [← hx, hvd]; have := HPN.out; omega)
        have HXA := Aside0.mk (show D.getD vi 0 = x by rw [HDG.out vi hvn, hx])
        obtain ⟨z, hz⟩ : ∃ z, at_ ns vi = z := ⟨_, rfl⟩
        have HZV := Aside0.mk hz
        have HZP := Aside0.mk (show at_ P i = z by rw [HPP.out, tds_get ns HIA.out, hvi, hz])
        have HPZ := Aside0.mk (show placeI ns z = (vi : Int) by rw [← hz, placeI_in (at_mem hvn), idx_at HOG.out hvn])
        have hw1 : IntKind.i64.wrap ((P.length : Int) - 1) = (P.length : Int) - 1 := by rw [IntKind.wrap_i64]; omega
        have hw2 : IntKind.i64.wrap ((P.length : Int) - 1 - (i : Int)) = x := by rw [IntKind.wrap_i64]; have := HXI.out; omega
        obtain ⟨a6_, e_z, z0, z1⟩ := nd_at HC6.out i HIL.out
        obtain rfl := Option.some.inj e_z
        rw [HZP.out] at z0 z1
        clear e_z
        obtain ⟨a8_, e_w, w0, w1⟩ := nd_at HC8.out i HIL.out
        obtain rfl := Option.some.inj e_w
        rw [HZP.out] at w0 w1
        clear e_w
        obtain ⟨a10_, e10_, k0⟩ := int_at HC10.out vi HVD.out
        obtain rfl := Option.some.inj e10_
        rw [HXA.out] at k0
        clear e10_
        clear hlt hvi hvn hvd hx hz
        go_wp2_with (fail)
        have ZL3 := L3
        have ZL4 := L4
        have ZL5 := L5
        refine region_bp [] sWy14 (by kernel_rfl) sWy14_ok (by decide) (fun d _ _ _ _ h => by cases d <;> exact h) ?_
        intro u hb
        have hS := hb
        replace HB := Aside0.mk (below_step HB.out hb)
        replace L3 := Aside0.mk (blk_below L3.out hb)
        replace L4 := Aside0.mk (blk_below L4.out hb)
        replace L5 := Aside0.mk (blk_below L5.out hb)
        replace HGR := Aside0.mk (HGR.out.below hb)
        replace HC6 := Aside0.mk (Kd.C_below (HC6.out) hb)
        replace HC8 := Aside0.mk (Kd.C_below (HC8.out) hb)
        replace HC10 := Aside0.mk (Kd.C_below (HC10.out) hb)
        (try clear t3c0 t3c1)
        obtain ⟨t3c0, t3c1⟩ := cs2 (L3.out)
        (try clear t4c0 t4c1)
        obtain ⟨t4c0, t4c1⟩ := cs2 (L4.out)
        (try clear t5c0 t5c1)
        obtain ⟨t5c0, t5c1⟩ := cs2 (L5.out)
        clear hb
        repeat (first | (refine p_off hS gt_ (by rfl) ?_; intro a_ ha_; (simp only [Act.put, List.setIfInBounds_toArray, List.set_cons_zero, List.set_cons_succ] at ha_); subst ha_) | (refine p_on (v := ?_) hS gt_ (by rfl) ?_ ?_; rotate_left; (· rintro w_ hS_; obtain ⟨t3c0_, t3c1_⟩ := cs2 (blk_below ZL3.out hS_); obtain ⟨t4c0_, t4c1_⟩ := cs2 (blk_below ZL4.out hS_); obtain ⟨t5c0_, t5c1_⟩ := cs2 (blk_below ZL5.out hS_); have z0_ := pw_cell_below hS_ z0; have z1_ := pw_cell_below hS_ z1; have w0_ := pw_cell_below hS_ w0; have w1_ := pw_cell_below hS_ w1; have k0_ := pw_cell_below hS_ k0; go_simp; with_reducible rfl); intro a_ ha_; (simp only [Act.put, List.setIfInBounds_toArray, List.set_cons_zero, List.set_cons_succ] at ha_); subst ha_) | (refine p_poff gt_ (by rfl) ?_; intro a_ ha_; (simp only [Act.put, List.setIfInBounds_toArray, List.set_cons_zero, List.set_cons_succ] at ha_); subst ha_) | (refine p_pon (v := ?_) gt_ (by rfl) ?_ ?_; rotate_left; (· go_simp; with_reducible rfl); intro a_ ha_; (simp only [Act.put, List.setIfInBounds_toArray, List.set_cons_zero, List.set_cons_succ] at ha_); subst ha_) | (refine p_ooff hS gt_ (by rfl) ?_; intro a_ ha_; (simp only [Act.put, List.setIfInBounds_toArray, List.set_cons_zero, List.set_cons_succ] at ha_); subst ha_) | (refine p_loff gt_ (by rfl) ?_; intro a_ ha_; (simp only [Act.put, List.setIfInBounds_toArray, List.set_cons_zero, List.set_cons_succ] at ha_); subst ha_) | (refine p_call (f := 56) (args := #[.agg #[.slice (some a1) ns.length c1, .slice B1 es.length d1], .agg #[.int .i64 z.lab, .int .i64 z.num]]) Try.func56 (by kernel_rfl) rfl gt_ (by rfl) (by rfl) mp_ ?_; (refine (wpAt_as (some a1) c1 ns B1 d1 es z vi _ HGR.out HLN.out HPZ.out).mono ?_); rintro e_ u_ ⟨rfl, hb⟩; replace HB := Aside0.mk (below_step HB.out hb); replace L3 := Aside0.mk (blk_below L3.out hb); replace L4 := Aside0.mk (blk_below L4.out hb); replace L5 := Aside0.mk (blk_below L5.out hb); replace HGR := Aside0.mk (HGR.out.below hb); replace HC6 := Aside0.mk (Kd.C_below (HC6.out) hb); replace HC8 := Aside0.mk (Kd.C_below (HC8.out) hb); replace HC10 := Aside0.mk (Kd.C_below (HC10.out) hb); (try clear t3c0 t3c1); obtain ⟨t3c0, t3c1⟩ := cs2 (L3.out); (try clear t4c0 t4c1); obtain ⟨t4c0, t4c1⟩ := cs2 (L4.out); (try clear t5c0 t5c1); obtain ⟨t5c0, t5c1⟩ := cs2 (L5.out); replace hS := below_step hS hb; refine ⟨_, rfl, hS, fun a_ ha_ => ?_⟩; (simp only [Act.put, List.setIfInBounds_toArray, List.set_cons_zero, List.set_cons_succ] at ha_); subst ha_; clear hb))
        refine p_fin ?_
        clear hS ZL3 ZL4 ZL5
        clear z0 z1 w0 w1 k0
        by_cases hi0 : i = 0
        · subst hi0
          clear hw1 hw2
          go_wp2_with (fail)
          go_roundw
          case rel => exact ⟨0 + 1, HIL.out, by go_num, ⟨L3.out, L4.out, L5.out, HGR.out, HC6.out, HC8.out, HC10.out, HB.out⟩⟩
          case measure => have := HIL.out; simp [intOf]; omega
        · have hi1 : ¬ (i : Int) = 0 := by omega
          obtain ⟨pv, hpv⟩ : ∃ v, (pathI (adjI ns es) ns.length t dd s)[i - 1]'(by have := HIA.out; omega) = v := ⟨_, rfl⟩
          have hpv2 : (pathI (adjI ns es) ns.length t dd s)[i - 1]? = some pv := by rw [← hpv]; exact List.getElem?_eq_getElem _
          obtain ⟨hpn1, hpd1, -, hnx1⟩ := HPT.out (i - 1) pv hpv2
          have HPVN := Aside0.mk hpn1
          have HST := Aside0.mk (show stepTo (adjI ns es) ns.length t pv = vi by
            have h1 := hnx1 (by have := HIA.out; have := HPA.out; omega)
            rw [show i - 1 + 1 = i by omega, HVI.out] at h1
            exact (Option.some.inj h1).symm)
          have HXP := Aside0.mk (show x = dist (adjI ns es) t pv - 1 by rw [HXI.out, hpd1]; have := HPN.out; have := HIA.out; omega)
          have HPOS := Aside0.mk (show 0 < dist (adjI ns es) t pv by rw [hpd1]; have := HIA.out; have := HPA.out; omega)
          obtain ⟨y, hy⟩ : ∃ z, at_ ns pv = z := ⟨_, rfl⟩
          have HYP := Aside0.mk (show at_ P (i - 1) = y by rw [HPP.out, tds_get ns (by have := HIA.out; omega), hpv, hy])
          obtain ⟨M, hM⟩ : ∃ m, nearG ns es y = m := ⟨_, rfl⟩
          have HM := Aside0.mk hM
          have HMA := Aside0.mk (show M = tds ns (nearI (adjI ns es) ns.length pv) by rw [← hM, ← hy]; exact near_at HOG.out hpn1)
          have HMK := Aside0.mk (show M.length = (nearI (adjI ns es) ns.length pv).length by rw [HMA.out, tds_len])
          have HML := Aside0.mk (show M.length ≤ ns.length by rw [← hM]; exact near_len2 HOG.out _)
          have hw3 : IntKind.i64.wrap ((i : Int) - 1) = ((i - 1 : Nat) : Int) := by rw [IntKind.wrap_i64]; have := HIL.out; omega
          have hil1 : ((i - 1 : Nat) : Int) < (P.length : Int) := by omega
          obtain ⟨a6_, e_r, r0, r1⟩ := nd_at HC6.out (i - 1) (by have := HIL.out; omega)
          obtain rfl := Option.some.inj e_r
          rw [HYP.out] at r0 r1
          clear e_r
          clear hi0 hpv hpv2 hpn1 hpd1 hnx1 hy hM
          go_wp2_with (fail)
          have ZL3 := L3
          have ZL4 := L4
          have ZL5 := L5
          refine region_bp [] sWy17 (by kernel_rfl) sWy17_ok (by decide) (fun d _ _ _ _ h => by cases d <;> exact h) ?_
          intro u hb
          have hS := hb
          replace HB := Aside0.mk (below_step HB.out hb)
          replace L3 := Aside0.mk (blk_below L3.out hb)
          replace L4 := Aside0.mk (blk_below L4.out hb)
          replace L5 := Aside0.mk (blk_below L5.out hb)
          replace HGR := Aside0.mk (HGR.out.below hb)
          replace HC6 := Aside0.mk (Kd.C_below (HC6.out) hb)
          replace HC8 := Aside0.mk (Kd.C_below (HC8.out) hb)
          replace HC10 := Aside0.mk (Kd.C_below (HC10.out) hb)
          (try clear t3c0 t3c1)
          obtain ⟨t3c0, t3c1⟩ := cs2 (L3.out)
          (try clear t4c0 t4c1)
          obtain ⟨t4c0, t4c1⟩ := cs2 (L4.out)
          (try clear t5c0 t5c1)
          obtain ⟨t5c0, t5c1⟩ := cs2 (L5.out)
          clear hb
          repeat (first | (refine p_off hS gt_ (by rfl) ?_; intro a_ ha_; (simp only [Act.put, List.setIfInBounds_toArray, List.set_cons_zero, List.set_cons_succ] at ha_); subst ha_) | (refine p_on (v := ?_) hS gt_ (by rfl) ?_ ?_; rotate_left; (· rintro w_ hS_; obtain ⟨t3c0_, t3c1_⟩ := cs2 (blk_below ZL3.out hS_); obtain ⟨t4c0_, t4c1_⟩ := cs2 (blk_below ZL4.out hS_); obtain ⟨t5c0_, t5c1_⟩ := cs2 (blk_below ZL5.out hS_); have r0_ := pw_cell_below hS_ r0; have r1_ := pw_cell_below hS_ r1; go_simp; with_reducible rfl); intro a_ ha_; (simp only [Act.put, List.setIfInBounds_toArray, List.set_cons_zero, List.set_cons_succ] at ha_); subst ha_) | (refine p_poff gt_ (by rfl) ?_; intro a_ ha_; (simp only [Act.put, List.setIfInBounds_toArray, List.set_cons_zero, List.set_cons_succ] at ha_); subst ha_) | (refine p_pon (v := ?_) gt_ (by rfl) ?_ ?_; rotate_left; (· go_simp; with_reducible rfl); intro a_ ha_; (simp only [Act.put, List.setIfInBounds_toArray, List.set_cons_zero, List.set_cons_succ] at ha_); subst ha_) | (refine p_ooff hS gt_ (by rfl) ?_; intro a_ ha_; (simp only [Act.put, List.setIfInBounds_toArray, List.set_cons_zero, List.set_cons_succ] at ha_); subst ha_) | (refine p_loff gt_ (by rfl) ?_; intro a_ ha_; (simp only [Act.put, List.setIfInBounds_toArray, List.set_cons_zero, List.set_cons_succ] at ha_); subst ha_) | (refine p_call (f := 42) (args := #[.agg #[.slice (some a1) ns.length c1, .slice B1 es.length d1], .agg #[.int .i64 y.lab, .int .i64 y.num]]) Try.func42 (by kernel_rfl) rfl gt_ (by rfl) (by rfl) mp_ ?_; (refine (near_as (some a1) c1 ns B1 d1 es y M _ HGR.out HM.out).mono ?_); rintro e_ u_ ⟨A12, c12, rfl, hc_, hl_, hb⟩; have HC12 := Aside0.mk hc_; clear hc_ hl_; replace HB := Aside0.mk (below_step HB.out hb); replace L3 := Aside0.mk (blk_below L3.out hb); replace L4 := Aside0.mk (blk_below L4.out hb); replace L5 := Aside0.mk (blk_below L5.out hb); replace HGR := Aside0.mk (HGR.out.below hb); replace HC6 := Aside0.mk (Kd.C_below (HC6.out) hb); replace HC8 := Aside0.mk (Kd.C_below (HC8.out) hb); replace HC10 := Aside0.mk (Kd.C_below (HC10.out) hb); (try clear t3c0 t3c1); obtain ⟨t3c0, t3c1⟩ := cs2 (L3.out); (try clear t4c0 t4c1); obtain ⟨t4c0, t4c1⟩ := cs2 (L4.out); (try clear t5c0 t5c1); obtain ⟨t5c0, t5c1⟩ := cs2 (L5.out); replace hS := below_step hS hb; refine ⟨_, rfl, hS, fun a_ ha_ => ?_⟩; (simp only [Act.put, List.setIfInBounds_toArray, List.set_cons_zero, List.set_cons_succ] at ha_); subst ha_; clear hb))
          refine p_fin ?_
          clear hS ZL3 ZL4 ZL5
          clear r0 r1 hw3
          go_wp2_with (fail)
          go_loopw [13] (fun s13 wr => ∃ k : Nat, k ≤ M.length ∧ s13 = .int .i64 (k : Int) ∧ (∀ j (hj : j < (nearI (adjI ns es) ns.length pv).length), j < k → dist (adjI ns es) t (nearI (adjI ns es) ns.length pv)[j] ≠ x) ∧ Aside0 (kN.C wr A12 M.length M) ∧ WyS w g3 g4 g5 (some a1) c1 ns B1 d1 es n m (some a6) (some a8) P (some a10) D wr) (fun s13 _ => (M.length - intOf s13).toNat)
          case atStart => exact ⟨0, Nat.zero_le _, rfl, fun j _ hj => absurd hj (Nat.not_lt_zero _), HC12, ⟨L3.out, L4.out, L5.out, HGR.out, HC6.out, HC8.out, HC10.out, HB.out⟩⟩
          case round =>
            clear L3 L4 L5 HGR HC6 HC8 HC10 HB
            clear HC12
            obtain ⟨k, hk, rfl, hno, HC12, l3_, l4_, l5_, gr_, c6_, c8_, c10_, hb_⟩ := hrel
            have HK := Aside0.mk hk
            have HNO := Aside0.mk hno
            clear hk hno
            have L3 := Aside0.mk l3_
            have L4 := Aside0.mk l4_
            have L5 := Aside0.mk l5_
            have HGR := Aside0.mk gr_
            have HC6 := Aside0.mk c6_
            have HC8 := Aside0.mk c8_
            have HC10 := Aside0.mk c10_
            have HB := Aside0.mk hb_
            obtain ⟨t3c0, t3c1⟩ := cs2 (L3.out)
            obtain ⟨t4c0, t4c1⟩ := cs2 (L4.out)
            obtain ⟨t5c0, t5c1⟩ := cs2 (L5.out)
            clear l3_ l4_ l5_ gr_ c6_ c8_ c10_ hb_
            have HKL := Aside0.mk (show k < (nearI (adjI ns es) ns.length pv).length by
              refine Nat.lt_of_not_le fun hle => ?_
              obtain ⟨j, hj, h1⟩ := step_ex (b := t) adjI_sym (fun u v h => adjI_lt h) HPOS.out
              exact HNO.out j hj (by omega) (by rw [h1, HXP.out]))
            have HKM := Aside0.mk (show k < M.length by have := HKL.out; have := HMK.out; omega)
            have hkl : (k : Int) < (M.length : Int) := by have := HKM.out; omega
            have hklb : decide (k < M.length) = true := decide_eq_true HKM.out
            have hkne : ((k : Int) == (M.length : Int)) = false := beq_false_of_ne (by have := HKM.out; omega)
            have hm4 : (M.length : Int) ≤ 100 := by have := HML.out; have := HLN.out; omega
            obtain ⟨uu, hu⟩ : ∃ u, (nearI (adjI ns es) ns.length pv)[k]'HKL.out = u := ⟨_, rfl⟩
            have HUN := Aside0.mk (show uu < ns.length from (nearI_mem.1 (hu ▸ List.getElem_mem HKL.out)).1)
            have HUD := Aside0.mk (show uu < D.length by have := HUN.out; have := HDL.out; omega)
            have hud : (uu : Int) < (D.length : Int) := by have := HUD.out; omega
            obtain ⟨xu, hxu⟩ : ∃ x, dist (adjI ns es) t uu = x := ⟨_, rfl⟩
            obtain ⟨q, hq⟩ : ∃ z, at_ ns uu = z := ⟨_, rfl⟩
            have HPQ := Aside0.mk (show placeI ns q = (uu : Int) by rw [← hq, placeI_in (at_mem HUN.out), idx_at HOG.out HUN.out])
            have HQM := Aside0.mk (show at_ M k = q by rw [HMA.out, tds_get ns HKL.out, hu, hq])
            have HXU := Aside0.mk hxu
            have HUJ := Aside0.mk hu
            have HQU := Aside0.mk hq
            have HDX := Aside0.mk (show D.getD uu 0 = xu by rw [HDG.out uu HUN.out, hxu])
            obtain ⟨a12, e12, q0, q1⟩ := nd_at HC12.out k HKM.out
            cases e12
            rw [HQM.out] at q0 q1
            obtain ⟨a10_, e10_, k0⟩ := int_at HC10.out uu HUD.out
            obtain rfl := Option.some.inj e10_
            rw [HDX.out] at k0
            clear e10_
            clear hu hxu hq
            by_cases heq : xu = x
            · subst heq
              have HUV := Aside0.mk (show uu = vi by
                have h1 := step_hit (b := t) adjI_sym (fun u v h => adjI_lt h) HPOS.out HKL.out (by rw [HUJ.out, HXU.out, HXP.out]) (fun j hj => by rw [← HXP.out]; exact HNO.out j (by have := HKL.out; omega) hj)
                rw [HUJ.out] at h1
                rw [← h1]
                exact HST.out)
              have HQZ := Aside0.mk (show q = z by rw [← HQU.out, HUV.out]; exact HZV.out)
              go_wp2_with (fail)
              have ZL3 := L3
              have ZL4 := L4
              have ZL5 := L5
              refine region_bp [] sWy19 (by kernel_rfl) sWy19_ok (by decide) (fun d _ _ _ _ h => by cases d <;> exact h) ?_
              intro u hb
              have hS := hb
              replace HB := Aside0.mk (below_step HB.out hb)
              replace L3 := Aside0.mk (blk_below L3.out hb)
              replace L4 := Aside0.mk (blk_below L4.out hb)
              replace L5 := Aside0.mk (blk_below L5.out hb)
              replace HGR := Aside0.mk (HGR.out.below hb)
              replace HC6 := Aside0.mk (Kd.C_below (HC6.out) hb)
              replace HC8 := Aside0.mk (Kd.C_below (HC8.out) hb)
              replace HC10 := Aside0.mk (Kd.C_below (HC10.out) hb)
              replace HC12 := Aside0.mk (Kd.C_below (HC12.out) hb)
              (try clear t3c0 t3c1)
              obtain ⟨t3c0, t3c1⟩ := cs2 (L3.out)
              (try clear t4c0 t4c1)
              obtain ⟨t4c0, t4c1⟩ := cs2 (L4.out)
              (try clear t5c0 t5c1)
              obtain ⟨t5c0, t5c1⟩ := cs2 (L5.out)
              clear hb
              repeat (first | (refine p_off hS gt_ (by rfl) ?_; intro a_ ha_; (simp only [Act.put, List.setIfInBounds_toArray, List.set_cons_zero, List.set_cons_succ] at ha_); subst ha_) | (refine p_on (v := ?_) hS gt_ (by rfl) ?_ ?_; rotate_left; (· rintro w_ hS_; obtain ⟨t3c0_, t3c1_⟩ := cs2 (blk_below ZL3.out hS_); obtain ⟨t4c0_, t4c1_⟩ := cs2 (blk_below ZL4.out hS_); obtain ⟨t5c0_, t5c1_⟩ := cs2 (blk_below ZL5.out hS_); have q0_ := pw_cell_below hS_ q0; have q1_ := pw_cell_below hS_ q1; have k0_ := pw_cell_below hS_ k0; go_simp; with_reducible rfl); intro a_ ha_; (simp only [Act.put, List.setIfInBounds_toArray, List.set_cons_zero, List.set_cons_succ] at ha_); subst ha_) | (refine p_poff gt_ (by rfl) ?_; intro a_ ha_; (simp only [Act.put, List.setIfInBounds_toArray, List.set_cons_zero, List.set_cons_succ] at ha_); subst ha_) | (refine p_pon (v := ?_) gt_ (by rfl) ?_ ?_; rotate_left; (· go_simp; with_reducible rfl); intro a_ ha_; (simp only [Act.put, List.setIfInBounds_toArray, List.set_cons_zero, List.set_cons_succ] at ha_); subst ha_) | (refine p_ooff hS gt_ (by rfl) ?_; intro a_ ha_; (simp only [Act.put, List.setIfInBounds_toArray, List.set_cons_zero, List.set_cons_succ] at ha_); subst ha_) | (refine p_loff gt_ (by rfl) ?_; intro a_ ha_; (simp only [Act.put, List.setIfInBounds_toArray, List.set_cons_zero, List.set_cons_succ] at ha_); subst ha_) | (refine p_call (f := 56) (args := #[.agg #[.slice (some a1) ns.length c1, .slice B1 es.length d1], .agg #[.int .i64 q.lab, .int .i64 q.num]]) Try.func56 (by kernel_rfl) rfl gt_ (by rfl) (by rfl) mp_ ?_; (refine (wpAt_as (some a1) c1 ns B1 d1 es q uu _ HGR.out HLN.out HPQ.out).mono ?_); rintro e_ u_ ⟨rfl, hb⟩; replace HB := Aside0.mk (below_step HB.out hb); replace L3 := Aside0.mk (blk_below L3.out hb); replace L4 := Aside0.mk (blk_below L4.out hb); replace L5 := Aside0.mk (blk_below L5.out hb); replace HGR := Aside0.mk (HGR.out.below hb); replace HC6 := Aside0.mk (Kd.C_below (HC6.out) hb); replace HC8 := Aside0.mk (Kd.C_below (HC8.out) hb); replace HC10 := Aside0.mk (Kd.C_below (HC10.out) hb); replace HC12 := Aside0.mk (Kd.C_below (HC12.out) hb); (try clear t3c0 t3c1); obtain ⟨t3c0, t3c1⟩ := cs2 (L3.out); (try clear t4c0 t4c1); obtain ⟨t4c0, t4c1⟩ := cs2 (L4.out); (try clear t5c0 t5c1); obtain ⟨t5c0, t5c1⟩ := cs2 (L5.out); replace hS := below_step hS hb; refine ⟨_, rfl, hS, fun a_ ha_ => ?_⟩; (simp only [Act.put, List.setIfInBounds_toArray, List.set_cons_zero, List.set_cons_succ] at ha_); subst ha_; clear hb))
              refine p_fin ?_
              clear hS ZL3 ZL4 ZL5
              clear k0 hw1 hw2
              go_wp2_with (fail)
              clear q0 q1
              obtain ⟨a12_, e12, q0, q1⟩ := nd_at HC12.out k HKM.out
              obtain rfl := Option.some.inj e12
              rw [HQM.out, HQZ.out] at q0 q1
              clear e12
              obtain ⟨a6_, e_z, z0, z1⟩ := nd_at HC6.out i HIL.out
              obtain rfl := Option.some.inj e_z
              rw [HZP.out] at z0 z1
              clear e_z
              have ZL3 := L3
              have ZL4 := L4
              have ZL5 := L5
              refine region_bp [] sWy21 (by kernel_rfl) sWy21_ok (by decide) (fun d _ _ _ _ h => by cases d <;> exact h) ?_
              intro u hb
              have hS := hb
              replace HB := Aside0.mk (below_step HB.out hb)
              replace L3 := Aside0.mk (blk_below L3.out hb)
              replace L4 := Aside0.mk (blk_below L4.out hb)
              replace L5 := Aside0.mk (blk_below L5.out hb)
              replace HGR := Aside0.mk (HGR.out.below hb)
              replace HC6 := Aside0.mk (Kd.C_below (HC6.out) hb)
              replace HC8 := Aside0.mk (Kd.C_below (HC8.out) hb)
              replace HC10 := Aside0.mk (Kd.C_below (HC10.out) hb)
              replace HC12 := Aside0.mk (Kd.C_below (HC12.out) hb)
              (try clear t3c0 t3c1)
              obtain ⟨t3c0, t3c1⟩ := cs2 (L3.out)
              (try clear t4c0 t4c1)
              obtain ⟨t4c0, t4c1⟩ := cs2 (L4.out)
              (try clear t5c0 t5c1)
              obtain ⟨t5c0, t5c1⟩ := cs2 (L5.out)
              clear hb
              repeat (first | (refine p_off hS gt_ (by rfl) ?_; intro a_ ha_; (simp only [Act.put, List.setIfInBounds_toArray, List.set_cons_zero, List.set_cons_succ] at ha_); subst ha_) | (refine p_on (v := ?_) hS gt_ (by rfl) ?_ ?_; rotate_left; (· rintro w_ hS_; obtain ⟨t3c0_, t3c1_⟩ := cs2 (blk_below ZL3.out hS_); obtain ⟨t4c0_, t4c1_⟩ := cs2 (blk_below ZL4.out hS_); obtain ⟨t5c0_, t5c1_⟩ := cs2 (blk_below ZL5.out hS_); have q0_ := pw_cell_below hS_ q0; have q1_ := pw_cell_below hS_ q1; have z0_ := pw_cell_below hS_ z0; have z1_ := pw_cell_below hS_ z1; go_simp; with_reducible rfl); intro a_ ha_; (simp only [Act.put, List.setIfInBounds_toArray, List.set_cons_zero, List.set_cons_succ] at ha_); subst ha_) | (refine p_poff gt_ (by rfl) ?_; intro a_ ha_; (simp only [Act.put, List.setIfInBounds_toArray, List.set_cons_zero, List.set_cons_succ] at ha_); subst ha_) | (refine p_pon (v := ?_) gt_ (by rfl) ?_ ?_; rotate_left; (· go_simp; with_reducible rfl); intro a_ ha_; (simp only [Act.put, List.setIfInBounds_toArray, List.set_cons_zero, List.set_cons_succ] at ha_); subst ha_) | (refine p_ooff hS gt_ (by rfl) ?_; intro a_ ha_; (simp only [Act.put, List.setIfInBounds_toArray, List.set_cons_zero, List.set_cons_succ] at ha_); subst ha_) | (refine p_loff gt_ (by rfl) ?_; intro a_ ha_; (simp only [Act.put, List.setIfInBounds_toArray, List.set_cons_zero, List.set_cons_succ] at ha_); subst ha_))
              refine p_fin ?_
              clear hS ZL3 ZL4 ZL5
              go_wp2_with (fail)
              go_roundw
              case rel => exact ⟨i + 1, HIL.out, by go_num, ⟨L3.out, L4.out, L5.out, HGR.out, HC6.out, HC8.out, HC10.out, HB.out⟩⟩
              case measure => have := HIL.out; simp [intOf]; omega
            · have hnb : (xu == x) = false := beq_false_of_ne heq
              have HNE := Aside0.mk heq
              clear heq
              go_wp2_with (fail)
              have ZL3 := L3
              have ZL4 := L4
              have ZL5 := L5
              refine region_bp [] sWy19 (by kernel_rfl) sWy19_ok (by decide) (fun d _ _ _ _ h => by cases d <;> exact h) ?_
              intro u hb
              have hS := hb
              replace HB := Aside0.mk (below_step HB.out hb)
              replace L3 := Aside0.mk (blk_below L3.out hb)
              replace L4 := Aside0.mk (blk_below L4.out hb)
              replace L5 := Aside0.mk (blk_below L5.out hb)
              replace HGR := Aside0.mk (HGR.out.below hb)
              replace HC6 := Aside0.mk (Kd.C_below (HC6.out) hb)
              replace HC8 := Aside0.mk (Kd.C_below (HC8.out) hb)
              replace HC10 := Aside0.mk (Kd.C_below (HC10.out) hb)
              replace HC12 := Aside0.mk (Kd.C_below (HC12.out) hb)
              (try clear t3c0 t3c1)
              obtain ⟨t3c0, t3c1⟩ := cs2 (L3.out)
              (try clear t4c0 t4c1)
              obtain ⟨t4c0, t4c1⟩ := cs2 (L4.out)
              (try clear t5c0 t5c1)
              obtain ⟨t5c0, t5c1⟩ := cs2 (L5.out)
              clear hb
              repeat (first | (refine p_off hS gt_ (by rfl) ?_; intro a_ ha_; (simp only [Act.put, List.setIfInBounds_toArray, List.set_cons_zero, List.set_cons_succ] at ha_); subst ha_) | (refine p_on (v := ?_) hS gt_ (by rfl) ?_ ?_; rotate_left; (· rintro w_ hS_; obtain ⟨t3c0_, t3c1_⟩ := cs2 (blk_below ZL3.out hS_); obtain ⟨t4c0_, t4c1_⟩ := cs2 (blk_below ZL4.out hS_); obtain ⟨t5c0_, t5c1_⟩ := cs2 (blk_below ZL5.out hS_); have q0_ := pw_cell_below hS_ q0; have q1_ := pw_cell_below hS_ q1; have k0_ := pw_cell_below hS_ k0; go_simp; with_reducible rfl); intro a_ ha_; (simp only [Act.put, List.setIfInBounds_toArray, List.set_cons_zero, List.set_cons_succ] at ha_); subst ha_) | (refine p_poff gt_ (by rfl) ?_; intro a_ ha_; (simp only [Act.put, List.setIfInBounds_toArray, List.set_cons_zero, List.set_cons_succ] at ha_); subst ha_) | (refine p_pon (v := ?_) gt_ (by rfl) ?_ ?_; rotate_left; (· go_simp; with_reducible rfl); intro a_ ha_; (simp only [Act.put, List.setIfInBounds_toArray, List.set_cons_zero, List.set_cons_succ] at ha_); subst ha_) | (refine p_ooff hS gt_ (by rfl) ?_; intro a_ ha_; (simp only [Act.put, List.setIfInBounds_toArray, List.set_cons_zero, List.set_cons_succ] at ha_); subst ha_) | (refine p_loff gt_ (by rfl) ?_; intro a_ ha_; (simp only [Act.put, List.setIfInBounds_toArray, List.set_cons_zero, List.set_cons_succ] at ha_); subst ha_) | (refine p_call (f := 56) (args := #[.agg #[.slice (some a1) ns.length c1, .slice B1 es.length d1], .agg #[.int .i64 q.lab, .int .i64 q.num]]) Try.func56 (by kernel_rfl) rfl gt_ (by rfl) (by rfl) mp_ ?_; (refine (wpAt_as (some a1) c1 ns B1 d1 es q uu _ HGR.out HLN.out HPQ.out).mono ?_); rintro e_ u_ ⟨rfl, hb⟩; replace HB := Aside0.mk (below_step HB.out hb); replace L3 := Aside0.mk (blk_below L3.out hb); replace L4 := Aside0.mk (blk_below L4.out hb); replace L5 := Aside0.mk (blk_below L5.out hb); replace HGR := Aside0.mk (HGR.out.below hb); replace HC6 := Aside0.mk (Kd.C_below (HC6.out) hb); replace HC8 := Aside0.mk (Kd.C_below (HC8.out) hb); replace HC10 := Aside0.mk (Kd.C_below (HC10.out) hb); replace HC12 := Aside0.mk (Kd.C_below (HC12.out) hb); (try clear t3c0 t3c1); obtain ⟨t3c0, t3c1⟩ := cs2 (L3.out); (try clear t4c0 t4c1); obtain ⟨t4c0, t4c1⟩ := cs2 (L4.out); (try clear t5c0 t5c1); obtain ⟨t5c0, t5c1⟩ := cs2 (L5.out); replace hS := below_step hS hb; refine ⟨_, rfl, hS, fun a_ ha_ => ?_⟩; (simp only [Act.put, List.setIfInBounds_toArray, List.set_cons_zero, List.set_cons_succ] at ha_); subst ha_; clear hb))
              refine p_fin ?_
              clear hS ZL3 ZL4 ZL5
              clear k0 q0 q1
              go_wp2_with (fail)
              go_roundw
              case rel => exact ⟨k + 1, HKM.out, by go_num, fun j hj hij => by
                rcases Nat.lt_succ_iff_lt_or_eq.1 hij with h | rfl
                · exact HNO.out j hj h
                · rw [HUJ.out, HXU.out]; exact HNE.out, HC12, ⟨L3.out, L4.out, L5.out, HGR.out, HC6.out, HC8.out, HC10.out, HB.out⟩⟩
              case measure => have := HKM.out; simp [intOf]; omega
      · have hil : ¬ (i : Int) < (P.length : Int) := by omega
        have HZ0 := Aside0.mk (show at_ P 0 = n by rw [HPP.out, tds_get ns (by rw [HPA.out]; omega), (List.getElem?_eq_some_iff.1 (pathI_head (adj := adjI ns es) (n := ns.length) (b := t) dd s)).2]; exact HNS.out)
        have HZE := Aside0.mk (show at_ P dd = m by rw [HPP.out, tds_get ns (by rw [HPA.out]; omega), (List.getElem?_eq_some_iff.1 (pathI_last (b := t) adjI_sym (fun u v h => adjI_lt h) HDT.out HSN.out)).2]; exact HMT.out)
        have hw1 : IntKind.i64.wrap ((P.length : Int) - 1) = (dd : Int) := by rw [IntKind.wrap_i64]; have := HPN.out; omega
        have hdl : (dd : Int) < (P.length : Int) := by have := HPN.out; omega
        have hp0 : (0 : Int) < (P.length : Int) := by omega
        have hp0n : 0 < P.length := by omega
        have hpne : ¬ P = [] := by intro e; rw [e] at hp0n; exact absurd hp0n (Nat.lt_irrefl 0)
        have hp0b : decide (0 < P.length) = true := decide_eq_true hp0n
        obtain ⟨a6_, e_z, z0, z1⟩ := nd_at HC6.out 0 (by have := HPN.out; omega)
        obtain rfl := Option.some.inj e_z
        rw [HZ0.out] at z0 z1
        rw [add0] at z0 z1
        obtain ⟨a6_, e_y, y0, y1⟩ := nd_at HC6.out dd (by have := HPN.out; omega)
        obtain rfl := Option.some.inj e_y
        rw [HZE.out] at y0 y1
        clear hlt e_z e_y
        go_wp2_with (fail)
        have ZL3 := L3
        have ZL4 := L4
        have ZL5 := L5
        refine region_bp [] sWy23 (by kernel_rfl) sWy23_ok (by decide) (fun d _ _ _ _ h => by cases d <;> exact h) ?_
        intro u hb
        have hS := hb
        replace HB := Aside0.mk (below_step HB.out hb)
        replace L3 := Aside0.mk (blk_below L3.out hb)
        replace L4 := Aside0.mk (blk_below L4.out hb)
        replace L5 := Aside0.mk (blk_below L5.out hb)
        replace HGR := Aside0.mk (HGR.out.below hb)
        replace HC6 := Aside0.mk (Kd.C_below (HC6.out) hb)
        replace HC8 := Aside0.mk (Kd.C_below (HC8.out) hb)
        replace HC10 := Aside0.mk (Kd.C_below (HC10.out) hb)
        (try clear t3c0 t3c1)
        obtain ⟨t3c0, t3c1⟩ := cs2 (L3.out)
        (try clear t4c0 t4c1)
        obtain ⟨t4c0, t4c1⟩ := cs2 (L4.out)
        (try clear t5c0 t5c1)
        obtain ⟨t5c0, t5c1⟩ := cs2 (L5.out)
        clear hb
        repeat (first | (refine p_off hS gt_ (by rfl) ?_; intro a_ ha_; (simp only [Act.put, List.setIfInBounds_toArray, List.set_cons_zero, List.set_cons_succ] at ha_); subst ha_) | (refine p_on (v := ?_) hS gt_ (by rfl) ?_ ?_; rotate_left; (· rintro w_ hS_; obtain ⟨t3c0_, t3c1_⟩ := cs2 (blk_below ZL3.out hS_); obtain ⟨t4c0_, t4c1_⟩ := cs2 (blk_below ZL4.out hS_); obtain ⟨t5c0_, t5c1_⟩ := cs2 (blk_below ZL5.out hS_); have z0_ := pw_cell_below hS_ z0; have z1_ := pw_cell_below hS_ z1; have y0_ := pw_cell_below hS_ y0; have y1_ := pw_cell_below hS_ y1; go_simp; with_reducible rfl); intro a_ ha_; (simp only [Act.put, List.setIfInBounds_toArray, List.set_cons_zero, List.set_cons_succ] at ha_); subst ha_) | (refine p_poff gt_ (by rfl) ?_; intro a_ ha_; (simp only [Act.put, List.setIfInBounds_toArray, List.set_cons_zero, List.set_cons_succ] at ha_); subst ha_) | (refine p_pon (v := ?_) gt_ (by rfl) ?_ ?_; rotate_left; (· go_simp; with_reducible rfl); intro a_ ha_; (simp only [Act.put, List.setIfInBounds_toArray, List.set_cons_zero, List.set_cons_succ] at ha_); subst ha_) | (refine p_ooff hS gt_ (by rfl) ?_; intro a_ ha_; (simp only [Act.put, List.setIfInBounds_toArray, List.set_cons_zero, List.set_cons_succ] at ha_); subst ha_) | (refine p_loff gt_ (by rfl) ?_; intro a_ ha_; (simp only [Act.put, List.setIfInBounds_toArray, List.set_cons_zero, List.set_cons_succ] at ha_); subst ha_))
        refine p_fin ?_
        clear hS ZL3 ZL4 ZL5
        go_wp2_with (fail)
        go_ret
        exact ⟨rfl, HB.out⟩
end Go.Proofs.Ytogmbeifbjgphaa.R
