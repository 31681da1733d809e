/- The law FnWalkSeen, walked. -/
import Derived.Test.YtogmbeifbjgphaaJL11
import Derived.Test.YtogmbeifbjgphaaJL19
import Derived.Test.YtogmbeifbjgphaaJL7
namespace Go.Proofs.Ytogmbeifbjgphaa.R
open Go.RowKit Go.Proofs.YtogmbeifbjgphaaV.PrintWords Go.Proofs.YtogmbeifbjgphaaV.PrintLast Go.Proofs.YtogmbeifbjgphaaV.PrintMore Go.Proofs.Ytogmbeifbjgphaa.M
set_option linter.unusedVariables false
set_option linter.unusedSimpArgs false
attribute [local go_sem high] eqN eqE
abbrev sWx14 : Pl := (.tk 0 (.tk 1 (.tk 2 (.tk 3 (.tk 4 (.tk 5 (.nd .one 6 (.tk 7 .fin))))))))
theorem sWx14_ok : planB .any (opsOf Try.f25 14) [] sWx14 (Array.replicate (opsOf Try.f25 14).size false) = true := by kernel_rfl
abbrev sWx15 : Pl := (.tk 0 (.tk 1 (.tk 2 (.tk 3 (.tk 4 (.tk 5 (.tk 6 (.tk 7 (.tk 8 (.tk 9 (.tk 10 (.tk 11 (.tk 12 (.tk 13 (.tk 14 (.tk 15 (.tk 16 (.tk 17 (.tk 18 (.tk 19 (.tk 20 (.tk 21 (.tk 22 (.tk 23 (.tk 24 (.tk 25 (.tk 26 (.tk 27 (.tk 28 (.tk 29 (.tk 30 (.tk 31 (.tk 32 (.tk 33 (.tk 34 (.tk 35 (.tk 36 (.tk 37 (.tk 38 .fin)))))))))))))))))))))))))))))))))))))))
theorem sWx15_ok : planB .any (opsOf Try.f25 15) [] sWx15 (Array.replicate (opsOf Try.f25 15).size false) = true := by kernel_rfl
abbrev sWx17 : Pl := (.tk 0 (.tk 2 (.nd .one 1 (.nd .one 3 (.tk 4 (.tk 5 .fin))))))
theorem sWx17_ok : planB .any (opsOf Try.f25 17) [] sWx17 (Array.replicate (opsOf Try.f25 17).size false) = true := by kernel_rfl
def WsS (w : World) (g5 g8 : Nat) (A1 : Option Addr) (c1 : Nat) (ns : List Nd) (B1 : Option Addr) (d1 : Nat) (es : List Eg) (A4 : Option Addr) (c4 : Nat) (n4 : List Nd) (B4 : Option Addr) (d4 : Nat) (e4 : List Eg) (A7 : Option Addr) (D : List Int) (A9 : Option Addr) (C : List Int) (A10 : Option Addr) (K : List Int) (A11 : Option Addr) (E : List Int) (wr : World) : Prop :=
  wr.heap[g5]? = some (.cells #[.slice A1 ns.length c1, .slice B1 es.length d1] 26 (0, 0)) ∧ wr.heap[g8]? = some (.cells #[.slice A4 n4.length c4, .slice B4 e4.length d4] 26 (0, 0)) ∧ GR wr A1 c1 ns B1 d1 es ∧ GR wr A4 c4 n4 B4 d4 e4 ∧ (Kd.int .i64).C wr A7 D.length D ∧ (Kd.int .i64).C wr A9 C.length C ∧ (Kd.int .i64).C wr A10 K.length K ∧ (Kd.int .i64).C wr A11 E.length E ∧ Below w.heap.size w wr
set_option maxHeartbeats 25600000 in
set_option maxRecDepth 100000 in
theorem walkSeenLaw_calls (A : Option Addr) (c : Nat) (l : List Int) (A' : Option Addr) (c' : Nat) (l' : List Int) (w : World) (hl : (Kd.int .u8).C w A l.length l) (hc : l.length ≤ c) (hb : ∀ x ∈ l, 0 ≤ x ∧ x < 256) (hl' : (Kd.int .u8).C w A' l'.length l') (hc' : l'.length ≤ c') (hb' : ∀ x ∈ l', 0 ≤ x ∧ x < 256) :
    Calls Try.prog 25 #[.slice A l.length c, .slice A' l'.length c'] w fun e w' => e = .returned (.bool true) ∧ Below w.heap.size w w' := by
  have HL := Aside0.mk hl
  have HC := Aside0.mk hc
  have HY := Aside0.mk hb
  have HL' := Aside0.mk hl'
  have HC' := Aside0.mk hc'
  have HY' := Aside0.mk hb'
  have HB := Aside0.mk (Below.refl w.heap.size w)
  clear hl hc hb hl' hc' hb'
  by_cases hlen : 1048576 < l.length ∨ 1048576 < l'.length
  · have hl1 : (1048576 : Int) < (l.length : Int) ∨ ¬ (1048576 : Int) < (l.length : Int) ∧ (1048576 : Int) < (l'.length : Int) := by omega
    clear hlen
    rcases hl1 with hl1 | ⟨hl1, hl2⟩
    all_goals
      go_enter Try.func25, Try.ntmps25
      go_wp2_with (fail)
      go_ret
      exact ⟨rfl, HB.out⟩
  have hl1 : ¬ (1048576 : Int) < (l.length : Int) := by omega
  have hl2 : ¬ (1048576 : Int) < (l'.length : Int) := by omega
  clear hlen
  go_enter Try.func25, Try.ntmps25
  go_upto_region 5 with (first | (go_at_call 52; go_must ((refine (drawWD_calls A c l _ (Kd.C_below HL.out HB.out) HC.out HY.out).mono ?_); rintro e u_ ⟨⟨A1, c1, ns, B1, d1, es, n, rfl, hgr_, -, -, hn_, he_⟩, hb⟩; have HGR := Aside0.mk hgr_; have HLN := Aside0.mk (And.intro hn_ he_); clear hgr_ hn_ he_; obtain ⟨D, hD_⟩ : ∃ y, wDist ns es n = y := ⟨_, rfl⟩; have HD := Aside0.mk hD_; have HDL := Aside0.mk (wd_len hD_); clear hD_; replace HB := Aside0.mk (below_step HB.out hb); clear hb)) | ((with_reducible refine gate_dst (N := 5) rfl ?_); go_must ((refine w_new #[.slice none 0 0, .slice none 0 0] 26 rfl (by go_simp; (first | done | rfl)) ?_); intro g5 u_ hge_ hb0_ hb; have N5HGR := Aside0.mk (HGR.out.new hge_); have Hg5 := Aside0.mk (show w.heap.size + 0 ≤ g5 from by have hl0_ := HB.out.size; exact by omega); have L5 := Aside0.mk hb0_; replace HB := Aside0.mk (below_step HB.out hb); replace HGR := Aside0.mk (HGR.out.below hb); clear hge_ hb0_ hb; (try clear t5c0 t5c1); obtain ⟨t5c0, t5c1⟩ := cs2 (L5.out))) | ((with_reducible refine gate_dst (N := 6) rfl ?_); go_must ((refine w_new #[.int .i64 0, .int .i64 0] 28 rfl (by go_simp; (first | done | rfl)) ?_); intro g6 u_ hge_ hb0_ hb; have N6HGR := Aside0.mk (HGR.out.new hge_); have Hg6 := Aside0.mk (show w.heap.size + 0 ≤ g6 ∧ g5 < g6 from by have hl0_ := HB.out.size; have hl_g5 := blk_lt L5.out; exact ⟨by omega, by omega⟩); have L6 := Aside0.mk hb0_; replace HB := Aside0.mk (below_step HB.out hb); replace L5 := Aside0.mk (blk_below L5.out hb); replace HGR := Aside0.mk (HGR.out.below hb); clear hge_ hb0_ hb; (try clear t5c0 t5c1); obtain ⟨t5c0, t5c1⟩ := cs2 (L5.out); (try clear t6c0 t6c1); obtain ⟨t6c0, t6c1⟩ := cs2 (L6.out))) | ((with_reducible refine gate_store (p := 5) rfl ?_); go_must ((refine wpList_plain rfl fun K_ hK_ => wp_store_row _ _ _ rfl (g5) #[.slice A1 ns.length c1, .slice B1 es.length d1] rfl rfl _ _ L5.out (by kernel_rfl) rfl (by simp [Value.oneCell']) (hK_ _ _ ?_)); refine named _ ?_; intro wz hwz; replace HB := Aside0.mk (sb_ hwz HB.out (by have := Hg5.out; have := Hg6.out; omega)); replace L6 := Aside0.mk (so_ hwz L6.out (by have := Hg5.out; have := Hg6.out; omega)); replace L5 := Aside0.mk (sh_ hwz L5.out); replace HGR := Aside0.mk ((HGR.out).row hwz N5HGR.out.1 N5HGR.out.2); (try clear t5c0 t5c1); obtain ⟨t5c0, t5c1⟩ := cs2 (L5.out); (try clear t6c0 t6c1); obtain ⟨t6c0, t6c1⟩ := cs2 (L6.out); clear hwz)) | ((with_reducible refine gate_store (p := 6) rfl ?_); go_must ((refine wpList_plain rfl fun K_ hK_ => wp_store_row _ _ _ rfl (g6) #[.int .i64 n.lab, .int .i64 n.num] rfl rfl _ _ L6.out (by kernel_rfl) rfl (by simp [Value.oneCell']) (hK_ _ _ ?_)); refine named _ ?_; intro wz hwz; replace HB := Aside0.mk (sb_ hwz HB.out (by have := Hg5.out; have := Hg6.out; omega)); replace L5 := Aside0.mk (so_ hwz L5.out (by have := Hg5.out; have := Hg6.out; omega)); replace L6 := Aside0.mk (sh_ hwz L6.out); replace HGR := Aside0.mk ((HGR.out).row hwz N6HGR.out.1 N6HGR.out.2); (try clear t5c0 t5c1); obtain ⟨t5c0, t5c1⟩ := cs2 (L5.out); (try clear t6c0 t6c1); obtain ⟨t6c0, t6c1⟩ := cs2 (L6.out); clear hwz)) | (go_at_call 53; go_must ((refine (walkDist_as A1 c1 ns B1 d1 es n D _ HGR.out HD.out).mono ?_); rintro e u_ ⟨⟨A7, c7, rfl, hc_, hl_, hf_⟩, hb⟩; have HC7 := Aside0.mk hc_; clear hc_ hl_ hf_; replace HB := Aside0.mk (below_step HB.out hb); replace L5 := Aside0.mk (blk_below L5.out hb); replace L6 := Aside0.mk (blk_below L6.out hb); replace HGR := Aside0.mk (HGR.out.below hb); (try clear t5c0 t5c1); obtain ⟨t5c0, t5c1⟩ := cs2 (L5.out); (try clear t6c0 t6c1); obtain ⟨t6c0, t6c1⟩ := cs2 (L6.out); clear hb)))
  by_cases hin : okG ns es = true ∧ n ∈ ns
  · have HOG := Aside0.mk (okG_true.1 hin.1)
    have HNI := Aside0.mk hin.2
    have HDE := Aside0.mk (wd_at HD.out hin.1 hin.2)
    have HDN := Aside0.mk (show D.length = ns.length by rw [HDE.out, distL_length])
    have hd0 : ¬ (D.length : Int) = 0 := by have := idx_lt hin.2; have := HDN.out; omega
    obtain ⟨cl, hcl⟩ : ∃ c, ((l'.length : Int) % 8) = c := ⟨_, rfl⟩
    obtain ⟨n4, hn4⟩ : ∃ y, viewN ns es cl = y := ⟨_, rfl⟩
    obtain ⟨e4, he4⟩ : ∃ y, viewE ns es cl = y := ⟨_, rfl⟩
    have HV1 := Aside0.mk (And.intro hn4 he4)
    have HOV := Aside0.mk (show OkG n4 e4 by rw [← hn4, ← he4, (view_of HOG.out cl).1, (view_of HOG.out cl).2]; exact view_ok HOG.out cl)
    have HSUB := Aside0.mk (show Sub n4 e4 ns es by rw [← hn4, ← he4, (view_of HOG.out cl).1, (view_of HOG.out cl).2]; exact sub_view HOG.out cl)
    have HL4 := Aside0.mk (NsOk.mk HOV.out.nok HOV.out.nasc HOV.out.nfew).len
    obtain ⟨C, hC⟩ : ∃ y, wCore ns es = y := ⟨_, rfl⟩
    obtain ⟨K, hK⟩ : ∃ y, wCore n4 e4 = y := ⟨_, rfl⟩
    obtain ⟨E, hE⟩ : ∃ y, wDist n4 e4 n = y := ⟨_, rfl⟩
    obtain ⟨T1, hT1⟩ : ∃ y, wThrees ns es = y := ⟨_, rfl⟩
    obtain ⟨T4, hT4⟩ : ∃ y, wThrees n4 e4 = y := ⟨_, rfl⟩
    have HCQ := Aside0.mk hC
    have HKQ := Aside0.mk hK
    have HEQ := Aside0.mk hE
    have HT1 := Aside0.mk hT1
    have HT4 := Aside0.mk hT4
    have HCE := Aside0.mk (show C = coreL (adjI ns es) ns.length from hC.symm.trans (if_pos hin.1))
    have HKE := Aside0.mk (show K = coreL (adjI n4 e4) n4.length from hK.symm.trans (if_pos (okG_true.2 HOV.out)))
    have HCL := Aside0.mk (show C.length = ns.length by rw [HCE.out, coreL_length])
    have HKL := Aside0.mk (show K.length = n4.length by rw [HKE.out, coreL_length])
    have HTT := Aside0.mk (show T4 ≤ T1 by
      have e1 : wThrees n4 e4 = tris (adjI n4 e4) n4.length := if_pos (okG_true.2 HOV.out)
      have e2 : wThrees ns es = tris (adjI ns es) ns.length := if_pos hin.1
      rw [← hT1, ← hT4, e1, e2]
      exact sub_tris HSUB.out HOV.out HOG.out)
    clear hin hn4 he4 hC hK hE hT1 hT4
    go_wp2_with (first | (go_at_call 55; go_must ((refine (sWalkDist_as A1 c1 ns B1 d1 es n D _ HGR.out HLN.out HD.out).mono ?_); rintro e u_ ⟨⟨A66, c66, rfl, hc_, hl_, hf_⟩, hb⟩; have HC66 := Aside0.mk hc_; clear hc_ hl_ hf_; replace HB := Aside0.mk (below_step HB.out hb); replace L5 := Aside0.mk (blk_below L5.out hb); replace L6 := Aside0.mk (blk_below L6.out hb); replace HGR := Aside0.mk (HGR.out.below hb); replace HC7 := Aside0.mk (Kd.C_below (HC7.out) hb); (try clear t5c0 t5c1); obtain ⟨t5c0, t5c1⟩ := cs2 (L5.out); (try clear t6c0 t6c1); obtain ⟨t6c0, t6c1⟩ := cs2 (L6.out); clear hb)) | (go_at_call 54; go_must ((refine (wpInts_calls A7 c7 A66 c66 D _ HC7.out HC66.out (by have := HDL.out; have := HLN.out; omega)).mono ?_); rintro e u_ ⟨rfl, hb⟩; clear HC66; replace HB := Aside0.mk (below_step HB.out hb); replace L5 := Aside0.mk (blk_below L5.out hb); replace L6 := Aside0.mk (blk_below L6.out hb); replace HGR := Aside0.mk (HGR.out.below hb); replace HC7 := Aside0.mk (Kd.C_below (HC7.out) hb); (try clear t5c0 t5c1); obtain ⟨t5c0, t5c1⟩ := cs2 (L5.out); (try clear t6c0 t6c1); obtain ⟨t6c0, t6c1⟩ := cs2 (L6.out); clear hb)) | (go_at_call 39; go_must ((refine (view_as A1 c1 ns B1 d1 es cl n4 e4 _ HGR.out HV1.out).mono ?_); rintro e u_ ⟨A4, c4, B4, d4, rfl, hg4_, hb⟩; have HGV := Aside0.mk hg4_; clear hg4_; replace HB := Aside0.mk (below_step HB.out hb); replace L5 := Aside0.mk (blk_below L5.out hb); replace L6 := Aside0.mk (blk_below L6.out hb); replace HGR := Aside0.mk (HGR.out.below hb); replace HC7 := Aside0.mk (Kd.C_below (HC7.out) hb); (try clear t5c0 t5c1); obtain ⟨t5c0, t5c1⟩ := cs2 (L5.out); (try clear t6c0 t6c1); obtain ⟨t6c0, t6c1⟩ := cs2 (L6.out); clear hb)) | ((with_reducible refine gate_dst (N := 8) rfl ?_); go_must ((refine w_new #[.slice none 0 0, .slice none 0 0] 26 rfl (by go_simp; (first | done | rfl)) ?_); intro g8 u_ hge_ hb0_ hb; have N8HC7 := Aside0.mk (C_newI HC7.out hge_); have N8HGR := Aside0.mk (HGR.out.new hge_); have N8HGV := Aside0.mk (HGV.out.new hge_); have Hg8 := Aside0.mk (show w.heap.size + 0 ≤ g8 ∧ g5 < g8 ∧ g6 < g8 from by have hl0_ := HB.out.size; have hl_g5 := blk_lt L5.out; have hl_g6 := blk_lt L6.out; exact ⟨by omega, by omega, by omega⟩); have L8 := Aside0.mk hb0_; replace HB := Aside0.mk (below_step HB.out hb); replace L5 := Aside0.mk (blk_below L5.out hb); replace L6 := Aside0.mk (blk_below L6.out hb); replace HGR := Aside0.mk (HGR.out.below hb); replace HC7 := Aside0.mk (Kd.C_below (HC7.out) hb); replace HGV := Aside0.mk (HGV.out.below hb); clear hge_ hb0_ hb; (try clear t5c0 t5c1); obtain ⟨t5c0, t5c1⟩ := cs2 (L5.out); (try clear t6c0 t6c1); obtain ⟨t6c0, t6c1⟩ := cs2 (L6.out); (try clear t8c0 t8c1); obtain ⟨t8c0, t8c1⟩ := cs2 (L8.out))) | ((with_reducible refine gate_store (p := 8) rfl ?_); go_must ((refine wpList_plain rfl fun K_ hK_ => wp_store_row _ _ _ rfl (g8) #[.slice A4 n4.length c4, .slice B4 e4.length d4] rfl rfl _ _ L8.out (by kernel_rfl) rfl (by simp [Value.oneCell']) (hK_ _ _ ?_)); refine named _ ?_; intro wz hwz; replace HB := Aside0.mk (sb_ hwz HB.out (by have := Hg8.out; omega)); replace L5 := Aside0.mk (so_ hwz L5.out (by have := Hg8.out; omega)); replace L6 := Aside0.mk (so_ hwz L6.out (by have := Hg8.out; omega)); replace L8 := Aside0.mk (sh_ hwz L8.out); replace HGR := Aside0.mk ((HGR.out).row hwz N8HGR.out.1 N8HGR.out.2); replace HC7 := Aside0.mk (C_rowI (HC7.out) hwz N8HC7.out); replace HGV := Aside0.mk ((HGV.out).row hwz N8HGV.out.1 N8HGV.out.2); (try clear t5c0 t5c1); obtain ⟨t5c0, t5c1⟩ := cs2 (L5.out); (try clear t6c0 t6c1); obtain ⟨t6c0, t6c1⟩ := cs2 (L6.out); (try clear t8c0 t8c1); obtain ⟨t8c0, t8c1⟩ := cs2 (L8.out); clear hwz)) | (go_at_call 63; ((with_reducible refine (walkCore_as A1 c1 ns B1 d1 es C _ HGR.out HCQ.out).mono ?_); rintro e u_ ⟨⟨A9, c9, rfl, hc_, hl_, hf_⟩, hb⟩; have HC9 := Aside0.mk hc_; clear hc_ hl_ hf_; replace HB := Aside0.mk (below_step HB.out hb); replace L5 := Aside0.mk (blk_below L5.out hb); replace L6 := Aside0.mk (blk_below L6.out hb); replace L8 := Aside0.mk (blk_below L8.out hb); replace HGR := Aside0.mk (HGR.out.below hb); replace HC7 := Aside0.mk (Kd.C_below (HC7.out) hb); replace HGV := Aside0.mk (HGV.out.below hb); (try clear t5c0 t5c1); obtain ⟨t5c0, t5c1⟩ := cs2 (L5.out); (try clear t6c0 t6c1); obtain ⟨t6c0, t6c1⟩ := cs2 (L6.out); (try clear t8c0 t8c1); obtain ⟨t8c0, t8c1⟩ := cs2 (L8.out); clear hb)) | (go_at_call 63; ((with_reducible refine (walkCore_as A4 c4 n4 B4 d4 e4 K _ HGV.out HKQ.out).mono ?_); rintro e u_ ⟨⟨A10, c10, rfl, hc_, hl_, hf_⟩, hb⟩; have HC10 := Aside0.mk hc_; clear hc_ hl_ hf_; replace HB := Aside0.mk (below_step HB.out hb); replace L5 := Aside0.mk (blk_below L5.out hb); replace L6 := Aside0.mk (blk_below L6.out hb); replace L8 := Aside0.mk (blk_below L8.out hb); replace HGR := Aside0.mk (HGR.out.below hb); replace HC7 := Aside0.mk (Kd.C_below (HC7.out) hb); replace HGV := Aside0.mk (HGV.out.below hb); replace HC9 := Aside0.mk (Kd.C_below (HC9.out) hb); (try clear t5c0 t5c1); obtain ⟨t5c0, t5c1⟩ := cs2 (L5.out); (try clear t6c0 t6c1); obtain ⟨t6c0, t6c1⟩ := cs2 (L6.out); (try clear t8c0 t8c1); obtain ⟨t8c0, t8c1⟩ := cs2 (L8.out); clear hb)) | (go_at_call 53; go_must ((refine (walkDist_as A4 c4 n4 B4 d4 e4 n E _ HGV.out HEQ.out).mono ?_); rintro e u_ ⟨⟨A11, c11, rfl, hc_, hl_, hf_⟩, hb⟩; have HC11 := Aside0.mk hc_; clear hc_ hl_ hf_; replace HB := Aside0.mk (below_step HB.out hb); replace L5 := Aside0.mk (blk_below L5.out hb); replace L6 := Aside0.mk (blk_below L6.out hb); replace L8 := Aside0.mk (blk_below L8.out hb); replace HGR := Aside0.mk (HGR.out.below hb); replace HC7 := Aside0.mk (Kd.C_below (HC7.out) hb); replace HGV := Aside0.mk (HGV.out.below hb); replace HC9 := Aside0.mk (Kd.C_below (HC9.out) hb); replace HC10 := Aside0.mk (Kd.C_below (HC10.out) hb); (try clear t5c0 t5c1); obtain ⟨t5c0, t5c1⟩ := cs2 (L5.out); (try clear t6c0 t6c1); obtain ⟨t6c0, t6c1⟩ := cs2 (L6.out); (try clear t8c0 t8c1); obtain ⟨t8c0, t8c1⟩ := cs2 (L8.out); clear hb)))
    go_loopw [12, 13] (fun s12 _ wr => ∃ i : Nat, i ≤ n4.length ∧ s12 = .int .i64 (i : Int) ∧ WsS w g5 g8 A1 c1 ns B1 d1 es A4 c4 n4 B4 d4 e4 A7 D A9 C A10 K A11 E wr) (fun s12 _ _ => (n4.length - intOf s12).toNat)
    case atStart => exact ⟨0, Nat.zero_le _, rfl, ⟨L5.out, L8.out, HGR.out, HGV.out, HC7.out, HC9.out, HC10.out, HC11.out, HB.out⟩⟩
    case round =>
      clear L5 L8 HGR HGV HC7 HC9 HC10 HC11 HB
      obtain ⟨i, hi, rfl, l5_, l8_, gr_, gv_, c7_, c9_, c10_, c11_, hb_⟩ := hrel
      have HI := Aside0.mk hi
      clear hi
      have L5 := Aside0.mk l5_
      have L8 := Aside0.mk l8_
      have HGR := Aside0.mk gr_
      have HGV := Aside0.mk gv_
      have HC7 := Aside0.mk c7_
      have HC9 := Aside0.mk c9_
      have HC10 := Aside0.mk c10_
      have HC11 := Aside0.mk c11_
      have HB := Aside0.mk hb_
      obtain ⟨t5c0, t5c1⟩ := cs2 (L5.out)
      obtain ⟨t8c0, t8c1⟩ := cs2 (L8.out)
      clear l5_ l8_ gr_ gv_ c7_ c9_ c10_ c11_ hb_
      have h4n : (n4.length : Int) ≤ 40 := by have := HL4.out; omega
      by_cases hlt : i < n4.length
      · have hil : (i : Int) < (n4.length : Int) := by omega
        have HIL := Aside0.mk hlt
        obtain ⟨y, hy⟩ : ∃ y, at_ n4 i = y := ⟨_, rfl⟩
        have HYN := Aside0.mk (show y ∈ ns from HSUB.out.n y (hy ▸ at_mem hlt))
        obtain ⟨k, hk⟩ : ∃ k, idx ns y = k := ⟨_, rfl⟩
        have HKU := Aside0.mk (show up n4 ns i = k by rw [← hk, ← hy]; rfl)
        have HPk := Aside0.mk (show placeI ns y = (k : Int) by rw [placeI_in HYN.out, hk])
        have HKN := Aside0.mk (show k < ns.length by rw [← hk]; exact idx_lt HYN.out)
        obtain ⟨a1, rfl⟩ : ∃ ad, A1 = some ad := by obtain ⟨ad, e, _⟩ := HGR.out.cn.2.2 (by have := HKN.out; omega); exact ⟨ad, e⟩
        obtain ⟨a4, rfl⟩ : ∃ ad, A4 = some ad := by obtain ⟨ad, e, _⟩ := HGV.out.cn.2.2 (by omega); exact ⟨ad, e⟩
        obtain ⟨a7, rfl⟩ : ∃ ad, A7 = some ad := by obtain ⟨ad, e, _⟩ := HC7.out.2.2 (by have := HKN.out; have := HDN.out; omega); exact ⟨ad, e⟩
        obtain ⟨a9, rfl⟩ : ∃ ad, A9 = some ad := by obtain ⟨ad, e, _⟩ := HC9.out.2.2 (by have := HKN.out; have := HCL.out; omega); exact ⟨ad, e⟩
        obtain ⟨a10, rfl⟩ : ∃ ad, A10 = some ad := by obtain ⟨ad, e, _⟩ := HC10.out.2.2 (by have := HKL.out; omega); exact ⟨ad, e⟩
        have hkd : (k : Int) < (D.length : Int) := by have := HKN.out; have := HDN.out; omega
        have hkc : (k : Int) < (C.length : Int) := by have := HKN.out; have := HCL.out; omega
        have hik : (i : Int) < (K.length : Int) := by have := HKL.out; omega
        obtain ⟨x, hx⟩ : ∃ x, core (adjI n4 e4) n4.length i = x := ⟨_, rfl⟩
        obtain ⟨z, hz⟩ : ∃ x, core (adjI ns es) ns.length k = x := ⟨_, rfl⟩
        obtain ⟨q, hq⟩ : ∃ x, dist (adjI ns es) (idx ns n) k = x := ⟨_, rfl⟩
        have hxz : decide (z < x) = false := decide_eq_false (by have := sub_core HSUB.out HOV.out HOG.out HIL.out; rw [HKU.out, hx, hz] at this; omega)
        obtain ⟨a4_, e4_, r0, r1⟩ := nd_at HGV.out.cn i hlt
        obtain rfl := Option.some.inj e4_
        rw [hy] at r0 r1
        have HXV := Aside0.mk (show K.getD i 0 = (x : Int) by rw [HKE.out, ← hx]; exact gt_coreL HIL.out)
        have HZV := Aside0.mk (show C.getD k 0 = (z : Int) by rw [HCE.out, ← hz]; exact gt_coreL HKN.out)
        have HQV := Aside0.mk (show D.getD k 0 = q by rw [HDE.out, ← hq]; exact gt_distL HKN.out)
        have HQD := Aside0.mk hq
        clear e4_ hlt hy hk hx hz hq
        go_wp2_with (fail)
        have ZL5 := L5
        have ZL8 := L8
        refine region_bp [] sWx14 (by kernel_rfl) sWx14_ok (by decide) (fun d _ _ _ _ h => by cases d <;> exact h) ?_
        intro u hb
        have hS := hb
        replace HB := Aside0.mk (below_step HB.out hb)
        replace L5 := Aside0.mk (blk_below L5.out hb)
        replace L8 := Aside0.mk (blk_below L8.out hb)
        replace HGR := Aside0.mk (HGR.out.below hb)
        replace HGV := Aside0.mk (HGV.out.below hb)
        replace HC7 := Aside0.mk (Kd.C_below (HC7.out) hb)
        replace HC9 := Aside0.mk (Kd.C_below (HC9.out) hb)
        replace HC10 := Aside0.mk (Kd.C_below (HC10.out) hb)
        replace HC11 := Aside0.mk (Kd.C_below (HC11.out) hb)
        (try clear t5c0 t5c1)
        obtain ⟨t5c0, t5c1⟩ := cs2 (L5.out)
        (try clear t8c0 t8c1)
        obtain ⟨t8c0, t8c1⟩ := cs2 (L8.out)
        clear hb
        repeat (first | (refine p_off hS gt_ (by rfl) ?_; intro a_ ha_; (simp only [Act.put, List.setIfInBounds_toArray, List.set_cons_zero, List.set_cons_succ] at ha_); subst ha_) | (refine p_on (v := ?_) hS gt_ (by rfl) ?_ ?_; rotate_left; (· rintro w_ hS_; obtain ⟨t5c0_, t5c1_⟩ := cs2 (blk_below ZL5.out hS_); obtain ⟨t8c0_, t8c1_⟩ := cs2 (blk_below ZL8.out hS_); have r0_ := pw_cell_below hS_ r0; have r1_ := pw_cell_below hS_ r1; go_simp; with_reducible rfl); intro a_ ha_; (simp only [Act.put, List.setIfInBounds_toArray, List.set_cons_zero, List.set_cons_succ] at ha_); subst ha_) | (refine p_poff gt_ (by rfl) ?_; intro a_ ha_; (simp only [Act.put, List.setIfInBounds_toArray, List.set_cons_zero, List.set_cons_succ] at ha_); subst ha_) | (refine p_pon (v := ?_) gt_ (by rfl) ?_ ?_; rotate_left; (· go_simp; with_reducible rfl); intro a_ ha_; (simp only [Act.put, List.setIfInBounds_toArray, List.set_cons_zero, List.set_cons_succ] at ha_); subst ha_) | (refine p_ooff hS gt_ (by rfl) ?_; intro a_ ha_; (simp only [Act.put, List.setIfInBounds_toArray, List.set_cons_zero, List.set_cons_succ] at ha_); subst ha_) | (refine p_loff gt_ (by rfl) ?_; intro a_ ha_; (simp only [Act.put, List.setIfInBounds_toArray, List.set_cons_zero, List.set_cons_succ] at ha_); subst ha_) | (refine p_call (f := 56) (args := #[.agg #[.slice (some a1) ns.length c1, .slice B1 es.length d1], .agg #[.int .i64 y.lab, .int .i64 y.num]]) Try.func56 (by kernel_rfl) rfl gt_ (by rfl) (by rfl) mp_ ?_; (refine (wpAt_as (some a1) c1 ns B1 d1 es y k _ HGR.out HLN.out HPk.out).mono ?_); rintro e_ u_ ⟨rfl, hb⟩; replace HB := Aside0.mk (below_step HB.out hb); replace L5 := Aside0.mk (blk_below L5.out hb); replace L8 := Aside0.mk (blk_below L8.out hb); replace HGR := Aside0.mk (HGR.out.below hb); replace HGV := Aside0.mk (HGV.out.below hb); replace HC7 := Aside0.mk (Kd.C_below (HC7.out) hb); replace HC9 := Aside0.mk (Kd.C_below (HC9.out) hb); replace HC10 := Aside0.mk (Kd.C_below (HC10.out) hb); replace HC11 := Aside0.mk (Kd.C_below (HC11.out) hb); (try clear t5c0 t5c1); obtain ⟨t5c0, t5c1⟩ := cs2 (L5.out); (try clear t8c0 t8c1); obtain ⟨t8c0, t8c1⟩ := cs2 (L8.out); replace hS := below_step hS hb; refine ⟨_, rfl, hS, fun a_ ha_ => ?_⟩; (simp only [Act.put, List.setIfInBounds_toArray, List.set_cons_zero, List.set_cons_succ] at ha_); subst ha_; clear hb))
        refine p_fin ?_
        clear hS ZL5 ZL8
        clear r0 r1
        go_wp2_with (fail)
        obtain ⟨a10_, e_, k0⟩ := int_at HC10.out i (by have := HKL.out; have := HIL.out; omega)
        obtain rfl := Option.some.inj e_
        rw [show K.getD i 0 = (x : Int) from HXV.out] at k0
        clear e_
        obtain ⟨a9_, e_, k1⟩ := int_at HC9.out k (by have := HCL.out; have := HKN.out; omega)
        obtain rfl := Option.some.inj e_
        rw [show C.getD k 0 = (z : Int) from HZV.out] at k1
        clear e_
        obtain ⟨a7_, e_, k2⟩ := int_at HC7.out k (by have := HDN.out; have := HKN.out; omega)
        obtain rfl := Option.some.inj e_
        rw [show D.getD k 0 = q from HQV.out] at k2
        clear e_
        by_cases hin : n ∈ n4
        · have HEE := Aside0.mk (show E = distL (adjI n4 e4) n4.length (idx n4 n) from wd_at HEQ.out (okG_true.2 HOV.out) hin)
          have HEL := Aside0.mk (show E.length = n4.length by rw [HEE.out, distL_length])
          have hel : decide (0 < E.length) = true := decide_eq_true (by have := HEL.out; have := HIL.out; omega)
          have hie : (i : Int) < (E.length : Int) := by have := HEL.out; omega
          obtain ⟨a11, rfl⟩ : ∃ ad, A11 = some ad := by obtain ⟨ad, e, _⟩ := HC11.out.2.2 (by have := HEL.out; have := HIL.out; omega); exact ⟨ad, e⟩
          obtain ⟨p, hp⟩ : ∃ x, dist (adjI n4 e4) (idx n4 n) i = x := ⟨_, rfl⟩
          have HPV := Aside0.mk (show E.getD i 0 = p by rw [HEE.out, ← hp]; exact gt_distL HIL.out)
          obtain ⟨a_, e_, k3⟩ := int_at HC11.out i (by have := HEL.out; have := HIL.out; omega)
          obtain rfl := Option.some.inj e_
          rw [HPV.out] at k3
          by_cases hp0 : 0 ≤ p
          · have hup : up n4 ns (idx n4 n) = idx ns n := by show idx ns (at_ n4 (idx n4 n)) = _; rw [at_idx hin]
            have hsd := sub_dist (s := idx n4 n) (v := i) HSUB.out (by rw [hp]; exact hp0)
            rw [hup, HKU.out, HQD.out, hp] at hsd
            have hpb : decide (0 ≤ p) = true := decide_eq_true hp0
            have hqb : decide (q < 0) = false := decide_eq_false (by omega)
            have hqp : decide (p < q) = false := decide_eq_false (by omega)
            clear e_ hp hup hsd hp0 hin
            have ZL5 := L5
            have ZL8 := L8
            refine region_bp [] sWx15 (by kernel_rfl) sWx15_ok (by decide) (fun d _ _ _ _ h => by cases d <;> exact h) ?_
            intro u hb
            have hS := hb
            replace HB := Aside0.mk (below_step HB.out hb)
            replace L5 := Aside0.mk (blk_below L5.out hb)
            replace L8 := Aside0.mk (blk_below L8.out hb)
            replace HGR := Aside0.mk (HGR.out.below hb)
            replace HGV := Aside0.mk (HGV.out.below hb)
            replace HC7 := Aside0.mk (Kd.C_below (HC7.out) hb)
            replace HC9 := Aside0.mk (Kd.C_below (HC9.out) hb)
            replace HC10 := Aside0.mk (Kd.C_below (HC10.out) hb)
            replace HC11 := Aside0.mk (Kd.C_below (HC11.out) hb)
            (try clear t5c0 t5c1)
            obtain ⟨t5c0, t5c1⟩ := cs2 (L5.out)
            (try clear t8c0 t8c1)
            obtain ⟨t8c0, t8c1⟩ := cs2 (L8.out)
            clear hb
            repeat (first | (refine p_off hS gt_ (by rfl) ?_; intro a_ ha_; (simp only [Act.put, List.setIfInBounds_toArray, List.set_cons_zero, List.set_cons_succ] at ha_); subst ha_) | (refine p_on (v := ?_) hS gt_ (by rfl) ?_ ?_; rotate_left; (· rintro w_ hS_; obtain ⟨t5c0_, t5c1_⟩ := cs2 (blk_below ZL5.out hS_); obtain ⟨t8c0_, t8c1_⟩ := cs2 (blk_below ZL8.out hS_); have k0_ := pw_cell_below hS_ k0; have k1_ := pw_cell_below hS_ k1; have k2_ := pw_cell_below hS_ k2; have k3_ := pw_cell_below hS_ k3; go_simp; with_reducible rfl); intro a_ ha_; (simp only [Act.put, List.setIfInBounds_toArray, List.set_cons_zero, List.set_cons_succ] at ha_); subst ha_) | (refine p_poff gt_ (by rfl) ?_; intro a_ ha_; (simp only [Act.put, List.setIfInBounds_toArray, List.set_cons_zero, List.set_cons_succ] at ha_); subst ha_) | (refine p_pon (v := ?_) gt_ (by rfl) ?_ ?_; rotate_left; (· go_simp; with_reducible rfl); intro a_ ha_; (simp only [Act.put, List.setIfInBounds_toArray, List.set_cons_zero, List.set_cons_succ] at ha_); subst ha_) | (refine p_ooff hS gt_ (by rfl) ?_; intro a_ ha_; (simp only [Act.put, List.setIfInBounds_toArray, List.set_cons_zero, List.set_cons_succ] at ha_); subst ha_) | (refine p_loff gt_ (by rfl) ?_; intro a_ ha_; (simp only [Act.put, List.setIfInBounds_toArray, List.set_cons_zero, List.set_cons_succ] at ha_); subst ha_))
            refine p_fin ?_
            clear hS ZL5 ZL8
            go_wp2_with (fail)
            go_roundw
            case rel => exact ⟨i + 1, HIL.out, by go_num, ⟨L5.out, L8.out, HGR.out, HGV.out, HC7.out, HC9.out, HC10.out, HC11.out, HB.out⟩⟩
            case measure => have := HIL.out; simp [intOf]; omega
          · have hpb : decide (0 ≤ p) = false := decide_eq_false hp0
            clear e_ hp hp0 hin
            have ZL5 := L5
            have ZL8 := L8
            refine region_bp [] sWx15 (by kernel_rfl) sWx15_ok (by decide) (fun d _ _ _ _ h => by cases d <;> exact h) ?_
            intro u hb
            have hS := hb
            replace HB := Aside0.mk (below_step HB.out hb)
            replace L5 := Aside0.mk (blk_below L5.out hb)
            replace L8 := Aside0.mk (blk_below L8.out hb)
            replace HGR := Aside0.mk (HGR.out.below hb)
            replace HGV := Aside0.mk (HGV.out.below hb)
            replace HC7 := Aside0.mk (Kd.C_below (HC7.out) hb)
            replace HC9 := Aside0.mk (Kd.C_below (HC9.out) hb)
            replace HC10 := Aside0.mk (Kd.C_below (HC10.out) hb)
            replace HC11 := Aside0.mk (Kd.C_below (HC11.out) hb)
            (try clear t5c0 t5c1)
            obtain ⟨t5c0, t5c1⟩ := cs2 (L5.out)
            (try clear t8c0 t8c1)
            obtain ⟨t8c0, t8c1⟩ := cs2 (L8.out)
            clear hb
            repeat (first | (refine p_off hS gt_ (by rfl) ?_; intro a_ ha_; (simp only [Act.put, List.setIfInBounds_toArray, List.set_cons_zero, List.set_cons_succ] at ha_); subst ha_) | (refine p_on (v := ?_) hS gt_ (by rfl) ?_ ?_; rotate_left; (· rintro w_ hS_; obtain ⟨t5c0_, t5c1_⟩ := cs2 (blk_below ZL5.out hS_); obtain ⟨t8c0_, t8c1_⟩ := cs2 (blk_below ZL8.out hS_); have k0_ := pw_cell_below hS_ k0; have k1_ := pw_cell_below hS_ k1; have k2_ := pw_cell_below hS_ k2; have k3_ := pw_cell_below hS_ k3; go_simp; with_reducible rfl); intro a_ ha_; (simp only [Act.put, List.setIfInBounds_toArray, List.set_cons_zero, List.set_cons_succ] at ha_); subst ha_) | (refine p_poff gt_ (by rfl) ?_; intro a_ ha_; (simp only [Act.put, List.setIfInBounds_toArray, List.set_cons_zero, List.set_cons_succ] at ha_); subst ha_) | (refine p_pon (v := ?_) gt_ (by rfl) ?_ ?_; rotate_left; (· go_simp; with_reducible rfl); intro a_ ha_; (simp only [Act.put, List.setIfInBounds_toArray, List.set_cons_zero, List.set_cons_succ] at ha_); subst ha_) | (refine p_ooff hS gt_ (by rfl) ?_; intro a_ ha_; (simp only [Act.put, List.setIfInBounds_toArray, List.set_cons_zero, List.set_cons_succ] at ha_); subst ha_) | (refine p_loff gt_ (by rfl) ?_; intro a_ ha_; (simp only [Act.put, List.setIfInBounds_toArray, List.set_cons_zero, List.set_cons_succ] at ha_); subst ha_))
            refine p_fin ?_
            clear hS ZL5 ZL8
            go_wp2_with (fail)
            go_roundw
            case rel => exact ⟨i + 1, HIL.out, by go_num, ⟨L5.out, L8.out, HGR.out, HGV.out, HC7.out, HC9.out, HC10.out, HC11.out, HB.out⟩⟩
            case measure => have := HIL.out; simp [intOf]; omega
        · have hel : decide (0 < E.length) = false := decide_eq_false (by rw [wd_nil HEQ.out (fun h => hin h.2)]; exact Nat.lt_irrefl 0)
          clear hin
          have ZL5 := L5
          have ZL8 := L8
          refine region_bp [] sWx15 (by kernel_rfl) sWx15_ok (by decide) (fun d _ _ _ _ h => by cases d <;> exact h) ?_
          intro u hb
          have hS := hb
          replace HB := Aside0.mk (below_step HB.out hb)
          replace L5 := Aside0.mk (blk_below L5.out hb)
          replace L8 := Aside0.mk (blk_below L8.out hb)
          replace HGR := Aside0.mk (HGR.out.below hb)
          replace HGV := Aside0.mk (HGV.out.below hb)
          replace HC7 := Aside0.mk (Kd.C_below (HC7.out) hb)
          replace HC9 := Aside0.mk (Kd.C_below (HC9.out) hb)
          replace HC10 := Aside0.mk (Kd.C_below (HC10.out) hb)
          replace HC11 := Aside0.mk (Kd.C_below (HC11.out) hb)
          (try clear t5c0 t5c1)
          obtain ⟨t5c0, t5c1⟩ := cs2 (L5.out)
          (try clear t8c0 t8c1)
          obtain ⟨t8c0, t8c1⟩ := cs2 (L8.out)
          clear hb
          repeat (first | (refine p_off hS gt_ (by rfl) ?_; intro a_ ha_; (simp only [Act.put, List.setIfInBounds_toArray, List.set_cons_zero, List.set_cons_succ] at ha_); subst ha_) | (refine p_on (v := ?_) hS gt_ (by rfl) ?_ ?_; rotate_left; (· rintro w_ hS_; obtain ⟨t5c0_, t5c1_⟩ := cs2 (blk_below ZL5.out hS_); obtain ⟨t8c0_, t8c1_⟩ := cs2 (blk_below ZL8.out hS_); have k0_ := pw_cell_below hS_ k0; have k1_ := pw_cell_below hS_ k1; have k2_ := pw_cell_below hS_ k2; go_simp; with_reducible rfl); intro a_ ha_; (simp only [Act.put, List.setIfInBounds_toArray, List.set_cons_zero, List.set_cons_succ] at ha_); subst ha_) | (refine p_poff gt_ (by rfl) ?_; intro a_ ha_; (simp only [Act.put, List.setIfInBounds_toArray, List.set_cons_zero, List.set_cons_succ] at ha_); subst ha_) | (refine p_pon (v := ?_) gt_ (by rfl) ?_ ?_; rotate_left; (· go_simp; with_reducible rfl); intro a_ ha_; (simp only [Act.put, List.setIfInBounds_toArray, List.set_cons_zero, List.set_cons_succ] at ha_); subst ha_) | (refine p_ooff hS gt_ (by rfl) ?_; intro a_ ha_; (simp only [Act.put, List.setIfInBounds_toArray, List.set_cons_zero, List.set_cons_succ] at ha_); subst ha_) | (refine p_loff gt_ (by rfl) ?_; intro a_ ha_; (simp only [Act.put, List.setIfInBounds_toArray, List.set_cons_zero, List.set_cons_succ] at ha_); subst ha_))
          refine p_fin ?_
          clear hS ZL5 ZL8
          go_wp2_with (fail)
          go_roundw
          case rel => exact ⟨i + 1, HIL.out, by go_num, ⟨L5.out, L8.out, HGR.out, HGV.out, HC7.out, HC9.out, HC10.out, HC11.out, HB.out⟩⟩
          case measure => have := HIL.out; simp [intOf]; omega
      · have hil : ¬ (i : Int) < (n4.length : Int) := by omega
        clear hlt
        go_wp2_with (fail)
        clear HC7 HC9 HC10 HC11
        have ZL5 := L5
        have ZL8 := L8
        refine region_bp [] sWx17 (by kernel_rfl) sWx17_ok (by decide) (fun d _ _ _ _ h => by cases d <;> exact h) ?_
        intro u hb
        have hS := hb
        replace HB := Aside0.mk (below_step HB.out hb)
        replace L5 := Aside0.mk (blk_below L5.out hb)
        replace L8 := Aside0.mk (blk_below L8.out hb)
        replace HGR := Aside0.mk (HGR.out.below hb)
        replace HGV := Aside0.mk (HGV.out.below hb)
        (try clear t5c0 t5c1)
        obtain ⟨t5c0, t5c1⟩ := cs2 (L5.out)
        (try clear t8c0 t8c1)
        obtain ⟨t8c0, t8c1⟩ := cs2 (L8.out)
        clear hb
        repeat (first | (refine p_off hS gt_ (by rfl) ?_; intro a_ ha_; (simp only [Act.put, List.setIfInBounds_toArray, List.set_cons_zero, List.set_cons_succ] at ha_); subst ha_) | (refine p_on (v := ?_) hS gt_ (by rfl) ?_ ?_; rotate_left; (· rintro w_ hS_; obtain ⟨t5c0_, t5c1_⟩ := cs2 (blk_below ZL5.out hS_); obtain ⟨t8c0_, t8c1_⟩ := cs2 (blk_below ZL8.out hS_); go_simp; with_reducible rfl); intro a_ ha_; (simp only [Act.put, List.setIfInBounds_toArray, List.set_cons_zero, List.set_cons_succ] at ha_); subst ha_) | (refine p_poff gt_ (by rfl) ?_; intro a_ ha_; (simp only [Act.put, List.setIfInBounds_toArray, List.set_cons_zero, List.set_cons_succ] at ha_); subst ha_) | (refine p_pon (v := ?_) gt_ (by rfl) ?_ ?_; rotate_left; (· go_simp; with_reducible rfl); intro a_ ha_; (simp only [Act.put, List.setIfInBounds_toArray, List.set_cons_zero, List.set_cons_succ] at ha_); subst ha_) | (refine p_ooff hS gt_ (by rfl) ?_; intro a_ ha_; (simp only [Act.put, List.setIfInBounds_toArray, List.set_cons_zero, List.set_cons_succ] at ha_); subst ha_) | (refine p_loff gt_ (by rfl) ?_; intro a_ ha_; (simp only [Act.put, List.setIfInBounds_toArray, List.set_cons_zero, List.set_cons_succ] at ha_); subst ha_) | (refine p_call (f := 50) (args := #[.agg #[.slice A4 n4.length c4, .slice B4 e4.length d4]]) Try.func50 (by kernel_rfl) rfl gt_ (by rfl) (by rfl) mp_ ?_; (refine (walkThrees_as A4 c4 n4 B4 d4 e4 T4 _ HGV.out HT4.out).mono ?_); rintro e_ u_ ⟨rfl, hb⟩; replace HB := Aside0.mk (below_step HB.out hb); replace L5 := Aside0.mk (blk_below L5.out hb); replace L8 := Aside0.mk (blk_below L8.out hb); replace HGR := Aside0.mk (HGR.out.below hb); replace HGV := Aside0.mk (HGV.out.below hb); (try clear t5c0 t5c1); obtain ⟨t5c0, t5c1⟩ := cs2 (L5.out); (try clear t8c0 t8c1); obtain ⟨t8c0, t8c1⟩ := cs2 (L8.out); replace hS := below_step hS hb; refine ⟨_, rfl, hS, fun a_ ha_ => ?_⟩; (simp only [Act.put, List.setIfInBounds_toArray, List.set_cons_zero, List.set_cons_succ] at ha_); subst ha_; clear hb) | (refine p_call (f := 50) (args := #[.agg #[.slice A1 ns.length c1, .slice B1 es.length d1]]) Try.func50 (by kernel_rfl) rfl gt_ (by rfl) (by rfl) mp_ ?_; (refine (walkThrees_as A1 c1 ns B1 d1 es T1 _ HGR.out HT1.out).mono ?_); rintro e_ u_ ⟨rfl, hb⟩; replace HB := Aside0.mk (below_step HB.out hb); replace L5 := Aside0.mk (blk_below L5.out hb); replace L8 := Aside0.mk (blk_below L8.out hb); replace HGR := Aside0.mk (HGR.out.below hb); replace HGV := Aside0.mk (HGV.out.below hb); (try clear t5c0 t5c1); obtain ⟨t5c0, t5c1⟩ := cs2 (L5.out); (try clear t8c0 t8c1); obtain ⟨t8c0, t8c1⟩ := cs2 (L8.out); replace hS := below_step hS hb; refine ⟨_, rfl, hS, fun a_ ha_ => ?_⟩; (simp only [Act.put, List.setIfInBounds_toArray, List.set_cons_zero, List.set_cons_succ] at ha_); subst ha_; clear hb))
        refine p_fin ?_
        clear hS ZL5 ZL8
        go_wp2_with (fail)
        go_ret
        exact ⟨by simp [HTT.out], HB.out⟩
  · have hd0 : (D.length : Int) = 0 := by rw [wd_nil HD.out hin]; rfl
    clear hin
    go_wp2_with (first | (go_at_call 55; go_must ((refine (sWalkDist_as A1 c1 ns B1 d1 es n D _ HGR.out HLN.out HD.out).mono ?_); rintro e u_ ⟨⟨A66, c66, rfl, hc_, hl_, hf_⟩, hb⟩; have HC66 := Aside0.mk hc_; clear hc_ hl_ hf_; replace HB := Aside0.mk (below_step HB.out hb); replace L5 := Aside0.mk (blk_below L5.out hb); replace L6 := Aside0.mk (blk_below L6.out hb); replace HGR := Aside0.mk (HGR.out.below hb); replace HC7 := Aside0.mk (Kd.C_below (HC7.out) hb); (try clear t5c0 t5c1); obtain ⟨t5c0, t5c1⟩ := cs2 (L5.out); (try clear t6c0 t6c1); obtain ⟨t6c0, t6c1⟩ := cs2 (L6.out); clear hb)) | (go_at_call 54; go_must ((refine (wpInts_calls A7 c7 A66 c66 D _ HC7.out HC66.out (by have := HDL.out; have := HLN.out; omega)).mono ?_); rintro e u_ ⟨rfl, hb⟩; clear HC66; replace HB := Aside0.mk (below_step HB.out hb); replace L5 := Aside0.mk (blk_below L5.out hb); replace L6 := Aside0.mk (blk_below L6.out hb); replace HGR := Aside0.mk (HGR.out.below hb); replace HC7 := Aside0.mk (Kd.C_below (HC7.out) hb); (try clear t5c0 t5c1); obtain ⟨t5c0, t5c1⟩ := cs2 (L5.out); (try clear t6c0 t6c1); obtain ⟨t6c0, t6c1⟩ := cs2 (L6.out); clear hb)) | (go_at_call 39; go_must ((refine (view_as A1 c1 ns B1 d1 es cl n4 e4 _ HGR.out HV1.out).mono ?_); rintro e u_ ⟨A4, c4, B4, d4, rfl, hg4_, hb⟩; have HGV := Aside0.mk hg4_; clear hg4_; replace HB := Aside0.mk (below_step HB.out hb); replace L5 := Aside0.mk (blk_below L5.out hb); replace L6 := Aside0.mk (blk_below L6.out hb); replace HGR := Aside0.mk (HGR.out.below hb); replace HC7 := Aside0.mk (Kd.C_below (HC7.out) hb); (try clear t5c0 t5c1); obtain ⟨t5c0, t5c1⟩ := cs2 (L5.out); (try clear t6c0 t6c1); obtain ⟨t6c0, t6c1⟩ := cs2 (L6.out); clear hb)) | ((with_reducible refine gate_dst (N := 8) rfl ?_); go_must ((refine w_new #[.slice none 0 0, .slice none 0 0] 26 rfl (by go_simp; (first | done | rfl)) ?_); intro g8 u_ hge_ hb0_ hb; have N8HC7 := Aside0.mk (C_newI HC7.out hge_); have N8HGR := Aside0.mk (HGR.out.new hge_); have N8HGV := Aside0.mk (HGV.out.new hge_); have Hg8 := Aside0.mk (show w.heap.size + 0 ≤ g8 ∧ g5 < g8 ∧ g6 < g8 from by have hl0_ := HB.out.size; have hl_g5 := blk_lt L5.out; have hl_g6 := blk_lt L6.out; exact ⟨by omega, by omega, by omega⟩); have L8 := Aside0.mk hb0_; replace HB := Aside0.mk (below_step HB.out hb); replace L5 := Aside0.mk (blk_below L5.out hb); replace L6 := Aside0.mk (blk_below L6.out hb); replace HGR := Aside0.mk (HGR.out.below hb); replace HC7 := Aside0.mk (Kd.C_below (HC7.out) hb); replace HGV := Aside0.mk (HGV.out.below hb); clear hge_ hb0_ hb; (try clear t5c0 t5c1); obtain ⟨t5c0, t5c1⟩ := cs2 (L5.out); (try clear t6c0 t6c1); obtain ⟨t6c0, t6c1⟩ := cs2 (L6.out); (try clear t8c0 t8c1); obtain ⟨t8c0, t8c1⟩ := cs2 (L8.out))) | ((with_reducible refine gate_store (p := 8) rfl ?_); go_must ((refine wpList_plain rfl fun K_ hK_ => wp_store_row _ _ _ rfl (g8) #[.slice A4 n4.length c4, .slice B4 e4.length d4] rfl rfl _ _ L8.out (by kernel_rfl) rfl (by simp [Value.oneCell']) (hK_ _ _ ?_)); refine named _ ?_; intro wz hwz; replace HB := Aside0.mk (sb_ hwz HB.out (by have := Hg8.out; omega)); replace L5 := Aside0.mk (so_ hwz L5.out (by have := Hg8.out; omega)); replace L6 := Aside0.mk (so_ hwz L6.out (by have := Hg8.out; omega)); replace L8 := Aside0.mk (sh_ hwz L8.out); replace HGR := Aside0.mk ((HGR.out).row hwz N8HGR.out.1 N8HGR.out.2); replace HC7 := Aside0.mk (C_rowI (HC7.out) hwz N8HC7.out); replace HGV := Aside0.mk ((HGV.out).row hwz N8HGV.out.1 N8HGV.out.2); (try clear t5c0 t5c1); obtain ⟨t5c0, t5c1⟩ := cs2 (L5.out); (try clear t6c0 t6c1); obtain ⟨t6c0, t6c1⟩ := cs2 (L6.out); (try clear t8c0 t8c1); obtain ⟨t8c0, t8c1⟩ := cs2 (L8.out); clear hwz)) | (go_at_call 63; ((with_reducible refine (walkCore_as A1 c1 ns B1 d1 es C _ HGR.out HCQ.out).mono ?_); rintro e u_ ⟨⟨A9, c9, rfl, hc_, hl_, hf_⟩, hb⟩; have HC9 := Aside0.mk hc_; clear hc_ hl_ hf_; replace HB := Aside0.mk (below_step HB.out hb); replace L5 := Aside0.mk (blk_below L5.out hb); replace L6 := Aside0.mk (blk_below L6.out hb); replace L8 := Aside0.mk (blk_below L8.out hb); replace HGR := Aside0.mk (HGR.out.below hb); replace HC7 := Aside0.mk (Kd.C_below (HC7.out) hb); replace HGV := Aside0.mk (HGV.out.below hb); (try clear t5c0 t5c1); obtain ⟨t5c0, t5c1⟩ := cs2 (L5.out); (try clear t6c0 t6c1); obtain ⟨t6c0, t6c1⟩ := cs2 (L6.out); (try clear t8c0 t8c1); obtain ⟨t8c0, t8c1⟩ := cs2 (L8.out); clear hb)) | (go_at_call 63; ((with_reducible refine (walkCore_as A4 c4 n4 B4 d4 e4 K _ HGV.out HKQ.out).mono ?_); rintro e u_ ⟨⟨A10, c10, rfl, hc_, hl_, hf_⟩, hb⟩; have HC10 := Aside0.mk hc_; clear hc_ hl_ hf_; replace HB := Aside0.mk (below_step HB.out hb); replace L5 := Aside0.mk (blk_below L5.out hb); replace L6 := Aside0.mk (blk_below L6.out hb); replace L8 := Aside0.mk (blk_below L8.out hb); replace HGR := Aside0.mk (HGR.out.below hb); replace HC7 := Aside0.mk (Kd.C_below (HC7.out) hb); replace HGV := Aside0.mk (HGV.out.below hb); replace HC9 := Aside0.mk (Kd.C_below (HC9.out) hb); (try clear t5c0 t5c1); obtain ⟨t5c0, t5c1⟩ := cs2 (L5.out); (try clear t6c0 t6c1); obtain ⟨t6c0, t6c1⟩ := cs2 (L6.out); (try clear t8c0 t8c1); obtain ⟨t8c0, t8c1⟩ := cs2 (L8.out); clear hb)) | (go_at_call 53; go_must ((refine (walkDist_as A4 c4 n4 B4 d4 e4 n E _ HGV.out HEQ.out).mono ?_); rintro e u_ ⟨⟨A11, c11, rfl, hc_, hl_, hf_⟩, hb⟩; have HC11 := Aside0.mk hc_; clear hc_ hl_ hf_; replace HB := Aside0.mk (below_step HB.out hb); replace L5 := Aside0.mk (blk_below L5.out hb); replace L6 := Aside0.mk (blk_below L6.out hb); replace L8 := Aside0.mk (blk_below L8.out hb); replace HGR := Aside0.mk (HGR.out.below hb); replace HC7 := Aside0.mk (Kd.C_below (HC7.out) hb); replace HGV := Aside0.mk (HGV.out.below hb); replace HC9 := Aside0.mk (Kd.C_below (HC9.out) hb); replace HC10 := Aside0.mk (Kd.C_below (HC10.out) hb); (try clear t5c0 t5c1); obtain ⟨t5c0, t5c1⟩ := cs2 (L5.out); (try clear t6c0 t6c1); obtain ⟨t6c0, t6c1⟩ := cs2 (L6.out); (try clear t8c0 t8c1); obtain ⟨t8c0, t8c1⟩ := cs2 (L8.out); clear hb)))
    go_ret
    exact ⟨rfl, HB.out⟩
end Go.Proofs.Ytogmbeifbjgphaa.R
