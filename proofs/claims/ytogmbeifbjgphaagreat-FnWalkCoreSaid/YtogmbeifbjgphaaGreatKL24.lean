/- The law FnWalkCore, walked (great seat). -/
import Derived.Test.YtogmbeifbjgphaaGreatKL26
import Derived.Test.YtogmbeifbjgphaaGreatKB37
import Derived.Test.YtogmbeifbjgphaaGreatKB38
namespace Go.Proofs.YtogmbeifbjgphaaGreat.R
open Go.RowKit Go.Proofs.YtogmbeifbjgphaaGreatV.PrintWords Go.Proofs.YtogmbeifbjgphaaGreatV.PrintLast Go.Proofs.YtogmbeifbjgphaaGreatV.PrintMore Go.Proofs.YtogmbeifbjgphaaGreat.M
set_option linter.unusedVariables false
set_option linter.unusedSimpArgs false
attribute [local go_sem high] eqN eqE
abbrev sWc13 : Pl := (.tk 0 (.tk 1 (.tk 2 (.tk 3 (.tk 4 (.tk 5 (.nd .one 6 (.tk 7 .fin))))))))
theorem sWc13_ok : planB .any (opsOf Tryz.f4 13) [] sWc13 (Array.replicate (opsOf Tryz.f4 13).size false) = true := by kernel_rfl
abbrev sWc18 : Pl := (.tk 0 (.tk 1 (.tk 2 (.tk 3 (.tk 4 (.tk 5 (.tk 9 (.tk 10 (.tk 11 (.tk 12 (.nd .one 6 (.tk 7 (.tk 8 (.tk 13 .fin))))))))))))))
theorem sWc18_ok : planB .any (opsOf Tryz.f4 18) [] sWc18 (Array.replicate (opsOf Tryz.f4 18).size false) = true := by kernel_rfl
abbrev sWc34 : Pl := (.tk 0 (.tk 1 (.tk 2 (.tk 3 (.tk 4 (.tk 5 (.tk 8 (.nd .one 6 (.tk 7 (.tk 9 .fin))))))))))
theorem sWc34_ok : planB .any (opsOf Tryz.f4 34) [] sWc34 (Array.replicate (opsOf Tryz.f4 34).size false) = true := by kernel_rfl
abbrev sWc35 : Pl := (.tk 0 (.tk 1 (.tk 2 (.tk 3 (.tk 4 (.tk 5 (.tk 6 (.nd .one 7 (.tk 8 (.tk 9 (.f2 .pure 10 (.nd .last 11 .fin) .last 11 (.nd .pure 10 .fin))))))))))))
theorem sWc35_ok : planB .any (opsOf Tryz.f4 35) [11] sWc35 (Array.replicate (opsOf Tryz.f4 35).size false) = true := by kernel_rfl
abbrev sWc40 : Pl := (.tk 0 (.tk 1 (.tk 2 (.tk 3 (.tk 4 (.tk 5 (.tk 6 (.tk 7 (.tk 8 (.tk 9 (.tk 10 (.tk 11 (.nd .one 12 (.tk 13 (.tk 14 .fin)))))))))))))))
theorem sWc40_ok : planB .any (opsOf Tryz.f4 40) [] sWc40 (Array.replicate (opsOf Tryz.f4 40).size false) = true := by kernel_rfl
theorem sWalkCore_m (A : Option Addr) (c : Nat) (ns : List Nd) (B : Option Addr) (d : Nat) (es : List Eg) (P : List Int) (m : Nat) (w : World) (hr : GR w A c ns B d es) (hn : ns.length ≤ 100 ∧ es.length ≤ 100) (h : wCore ns es = P) (hl : P.length = m) :
 Calls Tryz.prog 18 #[.agg #[.slice A ns.length c, .slice B es.length d]] w fun e w' => ∃ A' c', e = .returned (.slice A' m c') ∧ (Kd.int .i64).C w' A' m P ∧ Below w.heap.size w w' := by
 rw [← hl]
 exact (sWalkCore_as A c ns B d es P w hr hn h).mono fun e w' ⟨⟨A', c', h1, h2, _, _⟩, hb⟩ => ⟨A', c', h1, h2, hb⟩
theorem wpInts_n (A : Option Addr) (c : Nat) (B : Option Addr) (d : Nat) (xs : List Int) (n : Nat) (w : World) (hx : (Kd.int .i64).C w A n xs) (hy : (Kd.int .i64).C w B n xs) (hn : xs.length = n) (hl : n ≤ 1000000) :
 Calls Tryz.prog 17 #[.slice A n c, .slice B n d] w fun e w' => e = .returned (.bool true) ∧ Below w.heap.size w w' := by
 subst hn
 exact wpInts_calls A c B d xs w hx hy hl
theorem notIn_new {b g n : Nat} {A : Option Addr} (h : ∀ ad, A = some ad → b ≤ ad.block) (hg : g < b) : NotIn g A n := fun _ ad e => by have := h ad e; omega
theorem gone_calls (A : Option Addr) (c : Nat) (ns : List Nd) (B : Option Addr) (d : Nat) (es : List Eg) (p : Nd → Bool) (y : Nd) (w : World) (hr : GR w A c (xN ns p) B d (xE es p)) (hg : OkG ns es) (hy : y ∈ xN ns p) :
 Calls Tryz.prog 10 #[.agg #[.slice A (xN ns p).length c, .slice B (xE es p).length d], .agg #[.int .i64 4, .int .i64 y.lab, .int .i64 y.num, .int .i64 0, .int .i64 0, .int .i64 0, .int .i64 0, .int .i64 0]] w fun e w' => ∃ A' c' B' d' q, e = .returned (.tuple #[.agg #[.slice A' (xN ns (butP p y)).length c', .slice B' (xE es (butP p y)).length d'], .int .i64 q]) ∧ GR w' A' c' (xN ns (butP p y)) B' d' (xE es (butP p y)) ∧ (∀ ad, A' = some ad → w.heap.size ≤ ad.block) ∧ (∀ ad, B' = some ad → w.heap.size ≤ ad.block) ∧ Below w.heap.size w w' := by
 obtain ⟨h1, h2⟩ := gone_step hg hy
 rw [← h1, ← h2]
 exact (graphDo_far A c (xN ns p) B d (xE es p) (goneOp y) w hr).mono fun e w' ⟨A', c', B', d', h⟩ => ⟨A', c', B', d', _, h⟩
def lenAt (w : World) (g : Nat) : Nat := match w.cell? ⟨g, 0, none⟩ with | some (.slice _ n _) => n | _ => 0
theorem lenAt_eq {w : World} {g n c : Nat} {A : Option Addr} (h : w.cell? ⟨g, 0, none⟩ = some (.slice A n c)) : lenAt w g = n := by
 unfold lenAt
 rw [h]
theorem core_cnt {adj : Nat → Nat → Bool} {n i : Nat} (hi : i < n) : core adj n i ≤ (nearI adj n i).countP (fun v => decide (core adj n i ≤ core adj n v)) := by
 unfold nearI
 rw [List.countP_filter, sm_count]
 refine Nat.le_trans (core_near hi) (Nat.le_of_eq (sm_congr fun w _ => ?_))
 rw [Bool.and_comm]
def CoS (w : World) (g3 : Nat) (A1 : Option Addr) (c1 : Nat) (ns : List Nd) (B1 : Option Addr) (d1 : Nat) (es : List Eg) (A4 : Option Addr) (C : List Int) (wr : World) : Prop :=
 wr.heap[g3]? = some (.cells #[.slice A1 ns.length c1, .slice B1 es.length d1] 26 (0, 0)) ∧ GR wr A1 c1 ns B1 d1 es ∧ (Kd.int .i64).C wr A4 ns.length C ∧ Below w.heap.size w wr
def CxS (w : World) (g3 : Nat) (A1 : Option Addr) (c1 : Nat) (ns : List Nd) (B1 : Option Addr) (d1 : Nat) (es : List Eg) (A4 : Option Addr) (C : List Int) (g11 k : Nat) (p : Nd → Bool) (wr : World) : Prop :=
 ∃ (A2 : Option Addr) (c2 : Nat) (B2 : Option Addr) (d2 : Nat), Stay ns es k p ∧ wr.heap[g11]? = some (.cells #[.slice A2 (xN ns p).length c2, .slice B2 (xE es p).length d2] 26 (0, 0)) ∧ GR wr A2 c2 (xN ns p) B2 d2 (xE es p) ∧ (NotIn g11 A2 (xN ns p).length ∧ NotIn g11 B2 (xE es p).length) ∧ CoS w g3 A1 c1 ns B1 d1 es A4 C wr
set_option maxHeartbeats 51200000 in
set_option maxRecDepth 100000 in
theorem walkCoreLaw_calls (A : Option Addr) (c : Nat) (l : List Int) (w : World) (hl : (Kd.int .u8).C w A l.length l) (hc : l.length ≤ c) (hb : ∀ x ∈ l, 0 ≤ x ∧ x < 256) :
 Calls Tryz.prog 4 #[.slice A l.length c] w fun e w' => e = .returned (.bool true) ∧ Below w.heap.size w w' := by
 have HL := Aside0.mk hl
 have HC := Aside0.mk hc
 have HY := Aside0.mk hb
 have HB := Aside0.mk (Below.refl w.heap.size w)
 clear hl hc hb
 by_cases hlen : 1048576 < l.length
 ·have hl1 : (1048576 : Int) < (l.length : Int) := by omega
  go_enter Tryz.func4, Tryz.ntmps4
  go_wp2_with (fail)
  go_ret
  exact ⟨rfl, HB.out⟩
 have hl1 : ¬ (1048576 : Int) < (l.length : Int) := by omega
 clear hlen
 go_enter Tryz.func4, Tryz.ntmps4
 go_upto_region 4 with (first | (go_at_call 16; go_must ((refine (drawWC_calls A c l _ (Kd.C_below HL.out HB.out) HC.out HY.out).mono ?_); rintro e u_ ⟨⟨A1, c1, ns, B1, d1, es, rfl, hgr_, -, -, hn_, he_⟩, hb⟩; have HGR := Aside0.mk hgr_; have HLN := Aside0.mk (And.intro hn_ he_); clear hgr_ hn_ he_; replace HB := Aside0.mk (below_step HB.out hb); clear hb)) | ((with_reducible refine gate_dst (N := 3) rfl ?_); go_must ((refine w_new #[.slice none 0 0, .slice none 0 0] 26 rfl (by go_simp; (first | done | rfl)) ?_); intro g3 u_ hge_ hb0_ hb; have N3HGR := Aside0.mk (HGR.out.new hge_); have Hg3 := Aside0.mk (show w.heap.size + 0 ≤ g3 from by have hl0_ := HB.out.size; exact by omega); have L3 := Aside0.mk hb0_; replace HB := Aside0.mk (below_step HB.out hb); replace HGR := Aside0.mk (HGR.out.below hb); clear hge_ hb0_ hb; (try clear t3c0 t3c1); obtain ⟨t3c0, t3c1⟩ := cs2 (L3.out))) | ((with_reducible refine gate_store (p := 3) rfl ?_); go_must ((refine wpList_plain rfl fun K_ hK_ => wp_store_row _ _ _ rfl (g3) #[.slice A1 ns.length c1, .slice B1 es.length d1] rfl rfl _ _ L3.out (by kernel_rfl) rfl (by simp [Value.oneCell']) (hK_ _ _ ?_)); refine named _ ?_; intro wz hwz; replace HB := Aside0.mk (sb_ hwz HB.out (by have := Hg3.out; omega)); replace L3 := Aside0.mk (sh_ hwz L3.out); replace HGR := Aside0.mk ((HGR.out).row hwz N3HGR.out.1 N3HGR.out.2); (try clear t3c0 t3c1); obtain ⟨t3c0, t3c1⟩ := cs2 (L3.out); clear hwz)))
 obtain ⟨v, hv⟩ : ∃ v, okG ns es = v := ⟨_, rfl⟩
 have HOK := Aside0.mk hv
 obtain ⟨C, hC⟩ : ∃ y, wCore ns es = y := ⟨_, rfl⟩
 have HCQ := Aside0.mk hC
 clear hv
 cases v
 ·have HCL := Aside0.mk (show C.length = 0 by rw [← hC, show wCore ns es = [] from if_neg fun h => by rw [HOK.out] at h; cases h]; rfl)
  clear hC
  go_wp2_with (first | (go_at_call 12; go_must ((refine (walkCore_m A1 c1 ns B1 d1 es C 0 _ HGR.out HCQ.out HCL.out).mono ?_); rintro e u_ ⟨A4, cA4, rfl, hc_, hb⟩; have HC4 := Aside0.mk hc_; clear hc_; replace HB := Aside0.mk (below_step HB.out hb); replace L3 := Aside0.mk (blk_below L3.out hb); replace HGR := Aside0.mk (HGR.out.below hb); (try clear t3c0 t3c1); obtain ⟨t3c0, t3c1⟩ := cs2 (L3.out); clear hb)) | (go_at_call 18; go_must ((refine (sWalkCore_m A1 c1 ns B1 d1 es C 0 _ HGR.out HLN.out HCQ.out HCL.out).mono ?_); rintro e u_ ⟨A6, cA6, rfl, hc_, hb⟩; have HC6 := Aside0.mk hc_; clear hc_; replace HB := Aside0.mk (below_step HB.out hb); replace L3 := Aside0.mk (blk_below L3.out hb); replace HGR := Aside0.mk (HGR.out.below hb); replace HC4 := Aside0.mk (Kd.C_below (HC4.out) hb); (try clear t3c0 t3c1); obtain ⟨t3c0, t3c1⟩ := cs2 (L3.out); clear hb)) | (go_at_call 17; go_must ((refine (wpInts_n A4 cA4 A6 cA6 C 0 _ HC4.out HC6.out HCL.out (by have := HLN.out; omega)).mono ?_); rintro e u_ ⟨rfl, hb⟩; clear HC6; replace HB := Aside0.mk (below_step HB.out hb); replace L3 := Aside0.mk (blk_below L3.out hb); replace HGR := Aside0.mk (HGR.out.below hb); replace HC4 := Aside0.mk (Kd.C_below (HC4.out) hb); (try clear t3c0 t3c1); obtain ⟨t3c0, t3c1⟩ := cs2 (L3.out); clear hb)) | (go_at_call 19; go_must ((refine (sGraphOk_as A1 c1 ns B1 d1 es _ _ HGR.out HLN.out HOK.out).mono ?_); rintro e u_ ⟨rfl, hb⟩; replace HB := Aside0.mk (below_step HB.out hb); replace L3 := Aside0.mk (blk_below L3.out hb); replace HGR := Aside0.mk (HGR.out.below hb); replace HC4 := Aside0.mk (Kd.C_below (HC4.out) hb); (try clear t3c0 t3c1); obtain ⟨t3c0, t3c1⟩ := cs2 (L3.out); clear hb)))
  go_ret
  exact ⟨by first | rfl | simp, HB.out⟩
 ·have HOG := Aside0.mk (okG_true.1 HOK.out)
  have HLM := Aside0.mk (NsOk.mk HOG.out.nok HOG.out.nasc HOG.out.nfew).len
  have HCE := Aside0.mk (show C = coreL (adjI ns es) ns.length from hC.symm.trans (if_pos HOK.out))
  have HCL := Aside0.mk (show C.length = ns.length by rw [HCE.out, coreL_length])
  clear hC
  go_wp2_with (first | (go_at_call 12; go_must ((refine (walkCore_m A1 c1 ns B1 d1 es C ns.length _ HGR.out HCQ.out HCL.out).mono ?_); rintro e u_ ⟨A4, cA4, rfl, hc_, hb⟩; have HC4 := Aside0.mk hc_; clear hc_; replace HB := Aside0.mk (below_step HB.out hb); replace L3 := Aside0.mk (blk_below L3.out hb); replace HGR := Aside0.mk (HGR.out.below hb); (try clear t3c0 t3c1); obtain ⟨t3c0, t3c1⟩ := cs2 (L3.out); clear hb)) | (go_at_call 18; go_must ((refine (sWalkCore_m A1 c1 ns B1 d1 es C ns.length _ HGR.out HLN.out HCQ.out HCL.out).mono ?_); rintro e u_ ⟨A6, cA6, rfl, hc_, hb⟩; have HC6 := Aside0.mk hc_; clear hc_; replace HB := Aside0.mk (below_step HB.out hb); replace L3 := Aside0.mk (blk_below L3.out hb); replace HGR := Aside0.mk (HGR.out.below hb); replace HC4 := Aside0.mk (Kd.C_below (HC4.out) hb); (try clear t3c0 t3c1); obtain ⟨t3c0, t3c1⟩ := cs2 (L3.out); clear hb)) | (go_at_call 17; go_must ((refine (wpInts_n A4 cA4 A6 cA6 C ns.length _ HC4.out HC6.out HCL.out (by have := HLN.out; omega)).mono ?_); rintro e u_ ⟨rfl, hb⟩; clear HC6; replace HB := Aside0.mk (below_step HB.out hb); replace L3 := Aside0.mk (blk_below L3.out hb); replace HGR := Aside0.mk (HGR.out.below hb); replace HC4 := Aside0.mk (Kd.C_below (HC4.out) hb); (try clear t3c0 t3c1); obtain ⟨t3c0, t3c1⟩ := cs2 (L3.out); clear hb)) | (go_at_call 19; go_must ((refine (sGraphOk_as A1 c1 ns B1 d1 es _ _ HGR.out HLN.out HOK.out).mono ?_); rintro e u_ ⟨rfl, hb⟩; replace HB := Aside0.mk (below_step HB.out hb); replace L3 := Aside0.mk (blk_below L3.out hb); replace HGR := Aside0.mk (HGR.out.below hb); replace HC4 := Aside0.mk (Kd.C_below (HC4.out) hb); (try clear t3c0 t3c1); obtain ⟨t3c0, t3c1⟩ := cs2 (L3.out); clear hb)))
  go_loopw [5, 6, 7, 8, 9] (fun s5 s6 _ _ _ wr => ∃ i most : Nat, i ≤ ns.length ∧ s6 = .int .i64 (i : Int) ∧ s5 = .int .i64 (most : Int) ∧ most ≤ 40 ∧ CoS w g3 A1 c1 ns B1 d1 es A4 C wr) (fun _ s6 _ _ _ _ => (ns.length - intOf s6).toNat)
  case atStart => exact ⟨0, 0, Nat.zero_le _, rfl, rfl, Nat.zero_le _, ⟨L3.out, HGR.out, HC4.out, HB.out⟩⟩
  case round =>
   clear L3 HGR HC4 HB
   obtain ⟨i, most, hi, rfl, rfl, hmo_, l3_, gr_, c4_, hb_⟩ := hrel
   have HI := Aside0.mk hi
   have HMO := Aside0.mk hmo_
   clear hi hmo_
   have L3 := Aside0.mk l3_
   have HGR := Aside0.mk gr_
   have HC4 := Aside0.mk c4_
   have HB := Aside0.mk hb_
   obtain ⟨t3c0, t3c1⟩ := cs2 (L3.out)
   clear l3_ gr_ c4_ hb_
   have hnn : (ns.length : Int) ≤ 40 := by have := HLM.out; omega
   have hm40 : (most : Int) ≤ 40 := by have := HMO.out; omega
   by_cases hlt : i < ns.length
   ·have hin : (i : Int) < (ns.length : Int) := by omega
    have HIN := Aside0.mk hlt
    obtain ⟨a4, rfl⟩ : ∃ ad, A4 = some ad := by obtain ⟨ad, e, _⟩ := HC4.out.2.2 (by omega); exact ⟨ad, e⟩
    obtain ⟨y, hy⟩ : ∃ y, at_ ns i = y := ⟨_, rfl⟩
    have HYA := Aside0.mk hy
    obtain ⟨M, hM⟩ : ∃ m, nearG ns es y = m := ⟨_, rfl⟩
    have HM := Aside0.mk hM
    have HMA := Aside0.mk (show M = tds ns (nearI (adjI ns es) ns.length i) by rw [← hM, ← hy]; exact near_at HOG.out hlt)
    have HMK := Aside0.mk (show M.length = (nearI (adjI ns es) ns.length i).length by rw [HMA.out, tds_len])
    have HMF := Aside0.mk (show M.length ≤ 40 by have := nearI_few (adjI ns es) ns.length i; have := HMK.out; have := HLM.out; omega)
    have hm4 : (M.length : Int) ≤ 40 := by have := HMF.out; omega
    obtain ⟨x, hx⟩ : ∃ x, core (adjI ns es) ns.length i = x := ⟨_, rfl⟩
    have HXV := Aside0.mk hx
    have HX4 := Aside0.mk (show x ≤ 40 by rw [← hx]; have := core_le (adj := adjI ns es) (n := ns.length) (v := i); have := HLM.out; omega)
    have HXM := Aside0.mk (show x ≤ M.length by rw [HMK.out, nearI_len, ← hx]; exact core_deg hlt)
    clear hlt hy hM hx
    obtain ⟨a1, e1_, r0, r1⟩ := nd_at HGR.out.cn i HIN.out
    cases e1_
    rw [HYA.out] at r0 r1
    go_wp2_with (fail)
    have ZL3 := L3
    refine region_bp [] sWc13 (by kernel_rfl) sWc13_ok (by decide) (fun d _ _ _ _ h => by cases d <;> exact h) ?_
    intro u hb
    have hS := hb
    replace HB := Aside0.mk (below_step HB.out hb)
    replace L3 := Aside0.mk (blk_below L3.out hb)
    replace HGR := Aside0.mk (HGR.out.below hb)
    replace HC4 := Aside0.mk (Kd.C_below (HC4.out) hb)
    (try clear t3c0 t3c1)
    obtain ⟨t3c0, t3c1⟩ := cs2 (L3.out)
    clear hb
    repeat (first | (refine p_off hS gt_ (by rfl) ?_; intro a_ ha_; (simp only [Act.put, pu1, pu2, pu3] at ha_); subst ha_) | (refine p_on (v := ?_) hS gt_ (by rfl) ?_ ?_; rotate_left; (· rintro w_ hS_; obtain ⟨t3c0_, t3c1_⟩ := cs2 (blk_below ZL3.out hS_); have r0_ := pw_cell_below hS_ r0; have r1_ := pw_cell_below hS_ r1; go_simp; with_reducible rfl); intro a_ ha_; (simp only [Act.put, pu1, pu2, pu3] at ha_); subst ha_) | (refine p_poff gt_ (by rfl) ?_; intro a_ ha_; (simp only [Act.put, pu1, pu2, pu3] at ha_); subst ha_) | (refine p_pon (v := ?_) gt_ (by rfl) ?_ ?_; rotate_left; (· go_simp; with_reducible rfl); intro a_ ha_; (simp only [Act.put, pu1, pu2, pu3] at ha_); subst ha_) | (refine p_ooff hS gt_ (by rfl) ?_; intro a_ ha_; (simp only [Act.put, pu1, pu2, pu3] at ha_); subst ha_) | (refine p_loff gt_ (by rfl) ?_; intro a_ ha_; (simp only [Act.put, pu1, pu2, pu3] at ha_); subst ha_) | (refine p_call (f := 20) (args := #[.agg #[.slice (some a1) ns.length c1, .slice B1 es.length d1], .agg #[.int .i64 y.lab, .int .i64 y.num]]) Tryz.func20 (by kernel_rfl) rfl gt_ (by rfl) (by rfl) mp_ ?_; (refine (near_as (some a1) c1 ns B1 d1 es y M _ HGR.out HM.out).mono ?_); rintro e_ u_ ⟨A7, cA7, rfl, hc_, hl_, hb⟩; have HC7 := Aside0.mk hc_; clear hc_ hl_; replace HB := Aside0.mk (below_step HB.out hb); replace L3 := Aside0.mk (blk_below L3.out hb); replace HGR := Aside0.mk (HGR.out.below hb); replace HC4 := Aside0.mk (Kd.C_below (HC4.out) hb); (try clear t3c0 t3c1); obtain ⟨t3c0, t3c1⟩ := cs2 (L3.out); replace hS := below_step hS hb; refine ⟨_, rfl, hS, fun a_ ha_ => ?_⟩; (simp only [Act.put, pu1, pu2, pu3] at ha_); subst ha_; clear hb))
    refine p_fin ?_
    clear hS ZL3
    clear r0 r1
    go_wp2_with (fail)
    go_loopw [8, 9] (fun s8 s9 wr => ∃ k cnt : Nat, k ≤ M.length ∧ s9 = .int .i64 (k : Int) ∧ s8 = .int .i64 (cnt : Int) ∧ cnt = ((nearI (adjI ns es) ns.length i).take k).countP (fun v => decide (core (adjI ns es) ns.length i ≤ core (adjI ns es) ns.length v)) ∧ cnt ≤ k ∧ Aside0 (kN.C wr A7 M.length M) ∧ CoS w g3 (some a1) c1 ns B1 d1 es (some a4) C wr) (fun _ s9 _ => (M.length - intOf s9).toNat)
    case atStart => exact ⟨0, 0, Nat.zero_le _, rfl, rfl, by simp, Nat.le_refl _, HC7, ⟨L3.out, HGR.out, HC4.out, HB.out⟩⟩
    case round =>
     clear L3 HGR HC4 HB HC7
     obtain ⟨k, cnt, hk, rfl, rfl, hn, hcb, HC7, l3_, gr_, c4_, hb_⟩ := hrel
     have HK := Aside0.mk hk
     have HN := Aside0.mk hn
     have HCB := Aside0.mk hcb
     clear hk hn hcb
     have L3 := Aside0.mk l3_
     have HGR := Aside0.mk gr_
     have HC4 := Aside0.mk c4_
     have HB := Aside0.mk hb_
     obtain ⟨t3c0, t3c1⟩ := cs2 (L3.out)
     clear l3_ gr_ c4_ hb_
     have hcn : (cnt : Int) ≤ 40 := by have := HCB.out; have := HK.out; have := HMF.out; omega
     by_cases hlt : k < M.length
     ·have hkl : (k : Int) < (M.length : Int) := by omega
      have HKL := Aside0.mk hlt
      have hkk : k < (nearI (adjI ns es) ns.length i).length := by have := HMK.out; omega
      obtain ⟨q, hq⟩ : ∃ q, (nearI (adjI ns es) ns.length i)[k] = q := ⟨_, rfl⟩
      have HQV := Aside0.mk (show q < ns.length from (nearI_mem.1 (hq ▸ List.getElem_mem hkk)).1)
      have hqn : (q : Int) < (ns.length : Int) := by have := HQV.out; omega
      have HTC := Aside0.mk (take_cnt (p := (fun v => decide (core (adjI ns es) ns.length i ≤ core (adjI ns es) ns.length v))) hkk hq)
      obtain ⟨z, hz⟩ : ∃ z, at_ ns q = z := ⟨_, rfl⟩
      have HPZ := Aside0.mk (show placeI ns z = (q : Int) by rw [← hz, placeI_in (at_mem HQV.out), idx_at HOG.out HQV.out])
      obtain ⟨a7, e7, z0, z1⟩ := nd_at HC7.out k hlt
      cases e7
      rw [show at_ M k = z by rw [HMA.out, tds_get ns hkk, hq, hz]] at z0 z1
      obtain ⟨x9, hx9⟩ : ∃ x, core (adjI ns es) ns.length q = x := ⟨_, rfl⟩
      obtain ⟨a4_, e4_, k0⟩ := int_atN HC4.out q HQV.out (x9 : Int) (by rw [HCE.out, gt_coreL HQV.out, hx9])
      obtain rfl := Option.some.inj e4_
      clear e4_
      obtain ⟨a4_, e4_, k1⟩ := int_atN HC4.out i HIN.out (x : Int) (by rw [HCE.out, gt_coreL HIN.out, HXV.out])
      obtain rfl := Option.some.inj e4_
      clear e4_
      have HDX := Aside0.mk (show (fun v => decide (core (adjI ns es) ns.length i ≤ core (adjI ns es) ns.length v)) q = decide (x ≤ x9) by show decide (core (adjI ns es) ns.length i ≤ core (adjI ns es) ns.length q) = _; rw [HXV.out, hx9])
      clear hlt hkk hq hz hx9
      obtain ⟨va, hva⟩ : ∃ v, decide (x ≤ x9) = v := ⟨_, rfl⟩
      have HVA := Aside0.mk hva
      cases va
      all_goals
       go_wp2_with (fail)
       have ZL3 := L3
       refine region_bp [] sWc18 (by kernel_rfl) sWc18_ok (by decide) (fun d _ _ _ _ h => by cases d <;> exact h) ?_
       intro u hb
       have hS := hb
       replace HB := Aside0.mk (below_step HB.out hb)
       replace L3 := Aside0.mk (blk_below L3.out hb)
       replace HGR := Aside0.mk (HGR.out.below hb)
       replace HC4 := Aside0.mk (Kd.C_below (HC4.out) hb)
       replace HC7 := Aside0.mk (Kd.C_below (HC7.out) hb)
       (try clear t3c0 t3c1)
       obtain ⟨t3c0, t3c1⟩ := cs2 (L3.out)
       clear hb
       repeat (first | (refine p_off hS gt_ (by rfl) ?_; intro a_ ha_; (simp only [Act.put, pu1, pu2, pu3] at ha_); subst ha_) | (refine p_on (v := ?_) hS gt_ (by rfl) ?_ ?_; rotate_left; (· rintro w_ hS_; obtain ⟨t3c0_, t3c1_⟩ := cs2 (blk_below ZL3.out hS_); have z0_ := pw_cell_below hS_ z0; have z1_ := pw_cell_below hS_ z1; have k0_ := pw_cell_below hS_ k0; have k1_ := pw_cell_below hS_ k1; go_simp; with_reducible rfl); intro a_ ha_; (simp only [Act.put, pu1, pu2, pu3] at ha_); subst ha_) | (refine p_poff gt_ (by rfl) ?_; intro a_ ha_; (simp only [Act.put, pu1, pu2, pu3] at ha_); subst ha_) | (refine p_pon (v := ?_) gt_ (by rfl) ?_ ?_; rotate_left; (· go_simp; with_reducible rfl); intro a_ ha_; (simp only [Act.put, pu1, pu2, pu3] at ha_); subst ha_) | (refine p_ooff hS gt_ (by rfl) ?_; intro a_ ha_; (simp only [Act.put, pu1, pu2, pu3] at ha_); subst ha_) | (refine p_loff gt_ (by rfl) ?_; intro a_ ha_; (simp only [Act.put, pu1, pu2, pu3] at ha_); subst ha_) | (refine p_call (f := 15) (args := #[.agg #[.slice (some a1) ns.length c1, .slice B1 es.length d1], .agg #[.int .i64 z.lab, .int .i64 z.num]]) Tryz.func15 (by kernel_rfl) rfl gt_ (by rfl) (by rfl) mp_ ?_; (refine (wpAt_as (some a1) c1 ns B1 d1 es z q _ HGR.out HLN.out HPZ.out).mono ?_); rintro e_ u_ ⟨rfl, hb⟩; replace HB := Aside0.mk (below_step HB.out hb); replace L3 := Aside0.mk (blk_below L3.out hb); replace HGR := Aside0.mk (HGR.out.below hb); replace HC4 := Aside0.mk (Kd.C_below (HC4.out) hb); replace HC7 := Aside0.mk (Kd.C_below (HC7.out) hb); (try clear t3c0 t3c1); obtain ⟨t3c0, t3c1⟩ := cs2 (L3.out); replace hS := below_step hS hb; refine ⟨_, rfl, hS, fun a_ ha_ => ?_⟩; (simp only [Act.put, pu1, pu2, pu3] at ha_); subst ha_; clear hb))
       refine p_fin ?_
       clear hS ZL3
       go_wp2_with (fail)
       go_roundw
       case rel => first | exact ⟨k + 1, cnt + 1, HKL.out, by go_num, by go_num, by rw [HTC.out, HDX.out, HVA.out, HN.out]; rfl, by have := HCB.out; omega, HC7, ⟨L3.out, HGR.out, HC4.out, HB.out⟩⟩ | exact ⟨k + 1, cnt, HKL.out, by go_num, rfl, by rw [HTC.out, HDX.out, HVA.out, HN.out]; rfl, by have := HCB.out; omega, HC7, ⟨L3.out, HGR.out, HC4.out, HB.out⟩⟩
       case measure => have := HKL.out; simp [intOf]; omega
     ·have hkl : ¬ (k : Int) < (M.length : Int) := by omega
      have HTF := Aside0.mk (show x ≤ cnt by rw [HN.out, List.take_of_length_le (by have := HMK.out; omega), ← HXV.out]; exact core_cnt HIN.out)
      have hxc : ¬ (cnt : Int) < (x : Int) := by have := HTF.out; omega
      have hx0 : ¬ (x : Int) < 0 := by omega
      have hxm : ¬ (M.length : Int) < (x : Int) := by have := HXM.out; omega
      obtain ⟨a4_, e4_, k1⟩ := int_atN HC4.out i HIN.out (x : Int) (by rw [HCE.out, gt_coreL HIN.out, HXV.out])
      obtain rfl := Option.some.inj e4_
      clear e4_
      clear hlt HC7
      by_cases hmo : (most : Int) < (x : Int)
      ·go_wp2_with (fail)
       go_roundw
       case rel => exact ⟨i + 1, x, HIN.out, by go_num, rfl, HX4.out, ⟨L3.out, HGR.out, HC4.out, HB.out⟩⟩
       case measure => have := HIN.out; simp [intOf]; omega
      ·go_wp2_with (fail)
       go_roundw
       case rel => exact ⟨i + 1, most, HIN.out, by go_num, rfl, HMO.out, ⟨L3.out, HGR.out, HC4.out, HB.out⟩⟩
       case measure => have := HIN.out; simp [intOf]; omega
   ·have hin : ¬ (i : Int) < (ns.length : Int) := by omega
    clear hlt
    go_wp2_with (fail)
    go_loopw [10, 11, 12, 13, 14] (fun s10 _ _ _ _ wr => ∃ k : Nat, 1 ≤ k ∧ k ≤ most + 2 ∧ s10 = .int .i64 (k : Int) ∧ CoS w g3 A1 c1 ns B1 d1 es A4 C wr) (fun s10 _ _ _ _ _ => (most + 2 - intOf s10).toNat)
    case atStart => exact ⟨1, Nat.le_refl _, by omega, rfl, ⟨L3.out, HGR.out, HC4.out, HB.out⟩⟩
    case round =>
     clear L3 HGR HC4 HB
     obtain ⟨k, hk1, hk2, rfl, l3_, gr_, c4_, hb_⟩ := hrel
     have HK := Aside0.mk (And.intro hk1 hk2)
     clear hk1 hk2
     have L3 := Aside0.mk l3_
     have HGR := Aside0.mk gr_
     have HC4 := Aside0.mk c4_
     have HB := Aside0.mk hb_
     obtain ⟨t3c0, t3c1⟩ := cs2 (L3.out)
     clear l3_ gr_ c4_ hb_
     have hk4 : (k : Int) ≤ 42 := by have := HK.out; have := HMO.out; omega
     by_cases hlt : k ≤ most + 1
     ·have hkl : (k : Int) ≤ (most : Int) + 1 := by omega
      have HKL := Aside0.mk hlt
      clear hlt
      go_wp2_with (first | ((with_reducible refine gate_dst (N := 11) rfl ?_); go_must ((refine w_new #[.slice none 0 0, .slice none 0 0] 26 rfl (by go_simp; (first | done | rfl)) ?_); intro g11 u_ hge_ hb0_ hb; have N11HC4 := Aside0.mk (C_newI HC4.out hge_); have N11HGR := Aside0.mk (HGR.out.new hge_); have Hg11 := Aside0.mk (show w.heap.size + 0 ≤ g11 ∧ g3 < g11 from by have hl0_ := HB.out.size; have hl_g3 := blk_lt L3.out; exact ⟨by omega, by omega⟩); have L11 := Aside0.mk hb0_; replace HB := Aside0.mk (below_step HB.out hb); replace L3 := Aside0.mk (blk_below L3.out hb); replace HGR := Aside0.mk (HGR.out.below hb); replace HC4 := Aside0.mk (Kd.C_below (HC4.out) hb); clear hge_ hb0_ hb; (try clear t3c0 t3c1); obtain ⟨t3c0, t3c1⟩ := cs2 (L3.out); (try clear t11c0 t11c1); obtain ⟨t11c0, t11c1⟩ := cs2 (L11.out))) | ((with_reducible refine gate_store (p := 11) rfl ?_); go_must ((refine wpList_plain rfl fun K_ hK_ => wp_store_row _ _ _ rfl (g11) #[.slice A1 ns.length c1, .slice B1 es.length d1] rfl rfl _ _ L11.out (by kernel_rfl) rfl (by simp [Value.oneCell']) (hK_ _ _ ?_)); refine named _ ?_; intro wz hwz; replace HB := Aside0.mk (sb_ hwz HB.out (by have := Hg11.out; omega)); replace L3 := Aside0.mk (so_ hwz L3.out (by have := Hg11.out; omega)); replace L11 := Aside0.mk (sh_ hwz L11.out); replace HGR := Aside0.mk ((HGR.out).row hwz N11HGR.out.1 N11HGR.out.2); replace HC4 := Aside0.mk (C_rowI (HC4.out) hwz N11HC4.out); (try clear t3c0 t3c1); obtain ⟨t3c0, t3c1⟩ := cs2 (L3.out); (try clear t11c0 t11c1); obtain ⟨t11c0, t11c1⟩ := cs2 (L11.out); clear hwz)))
      go_loopw [12, 13] (fun s12 _ wr => ∃ (b : Bool) (p : Nd → Bool), s12 = .bool b ∧ (b = false → ∀ y ∈ xN ns p, k ≤ (nearG (xN ns p) (xE es p) y).length) ∧ CxS w g3 A1 c1 ns B1 d1 es A4 C g11 k p wr) (fun s12 _ wr => lenAt wr g11 + flag s12)
      case atStart => exact ⟨true, fun _ => true, rfl, (by intro h; cases h), A1, c1, B1, d1, Stay.all, by rw [xN_all, xE_all]; exact L11.out, by rw [xN_all, xE_all]; exact HGR.out, by rw [xN_all, xE_all]; exact N11HGR.out, L3.out, HGR.out, HC4.out, HB.out⟩
      case round =>
       clear L3 L11 HGR HC4 HB t11c0 t11c1
       obtain ⟨b, p, rfl, hq_, A2, c2, B2, d2, hst_, l11_, gx_, nx_, l3_, gr_, c4_, hb_⟩ := hrel
       have HQ := Aside0.mk hq_
       clear hq_
       have HST := Aside0.mk hst_
       have L11 := Aside0.mk l11_
       have HGX := Aside0.mk gx_
       have NX := Aside0.mk nx_
       have L3 := Aside0.mk l3_
       have HGR := Aside0.mk gr_
       have HC4 := Aside0.mk c4_
       have HB := Aside0.mk hb_
       obtain ⟨t3c0, t3c1⟩ := cs2 (L3.out)
       clear l3_ gr_ c4_ hb_
       obtain ⟨t11c0, t11c1⟩ := cs2 (L11.out)
       clear hst_ l11_ gx_ nx_
       have HLE := Aside0.mk (lenAt_eq t11c0)
       cases b
       ·have HDN := Aside0.mk (fun v hv => HST.out.done HOG.out (HQ.out rfl) (v := v) hv)
        have HOX := Aside0.mk (x_ok HOG.out p)
        have HLX := Aside0.mk (show (xN ns p).length ≤ 100 ∧ (xE es p).length ≤ 100 from ⟨by have := (NsOk.mk HOX.out.nok HOX.out.nasc HOX.out.nfew).len; omega, by have := (EsOk.mk HOX.out.eok HOX.out.easc HOX.out.efew HOX.out.ends).len; omega⟩)
        clear HLE HQ
        go_wp2_with (fail)
        go_loopw [14] (fun s14 wr => ∃ i : Nat, i ≤ ns.length ∧ s14 = .int .i64 (i : Int) ∧ Aside0 (wr.heap[g11]? = some (.cells #[.slice A2 (xN ns p).length c2, .slice B2 (xE es p).length d2] 26 (0, 0))) ∧ Aside0 (GR wr A2 c2 (xN ns p) B2 d2 (xE es p)) ∧ CoS w g3 A1 c1 ns B1 d1 es A4 C wr) (fun s14 _ => (ns.length - intOf s14).toNat)
        case atStart => exact ⟨0, Nat.zero_le _, rfl, L11, HGX, ⟨L3.out, HGR.out, HC4.out, HB.out⟩⟩
        case round =>
         clear L3 L11 HGR HGX HC4 HB t11c0 t11c1
         obtain ⟨i, hi, rfl, L11, HGX, l3_, gr_, c4_, hb_⟩ := hrel
         have HI := Aside0.mk hi
         clear hi
         have L3 := Aside0.mk l3_
         have HGR := Aside0.mk gr_
         have HC4 := Aside0.mk c4_
         have HB := Aside0.mk hb_
         obtain ⟨t3c0, t3c1⟩ := cs2 (L3.out)
         clear l3_ gr_ c4_ hb_
         obtain ⟨t11c0, t11c1⟩ := cs2 (L11.out)
         by_cases hlt : i < ns.length
         ·have hin : (i : Int) < (ns.length : Int) := by omega
          have HIN := Aside0.mk hlt
          obtain ⟨a4, rfl⟩ : ∃ ad, A4 = some ad := by obtain ⟨ad, e, _⟩ := HC4.out.2.2 (by omega); exact ⟨ad, e⟩
          obtain ⟨y, hy⟩ : ∃ y, at_ ns i = y := ⟨_, rfl⟩
          have HYA := Aside0.mk hy
          obtain ⟨x, hx⟩ : ∃ x, core (adjI ns es) ns.length i = x := ⟨_, rfl⟩
          have HXV := Aside0.mk hx
          have HKC := Aside0.mk (show p y = true ↔ k ≤ x by rw [← hy, HDN.out i hlt, ← hx]; exact core_iff' hlt)
          clear hlt hy hx
          obtain ⟨a1, e1_, r0, r1⟩ := nd_at HGR.out.cn i HIN.out
          cases e1_
          rw [HYA.out] at r0 r1
          obtain ⟨a4_, e4_, k1⟩ := int_atN HC4.out i HIN.out (x : Int) (by rw [HCE.out, gt_coreL HIN.out, HXV.out])
          obtain rfl := Option.some.inj e4_
          clear e4_
          by_cases hp : p y = true
          ·have hyx : y ∈ xN ns p := mem_xN.2 ⟨HYA.out ▸ at_mem HIN.out, hp⟩
           obtain ⟨q, hq⟩ : ∃ q, idx (xN ns p) y = q := ⟨_, rfl⟩
           have HPY := Aside0.mk (show placeI (xN ns p) y = (q : Int) by rw [placeI_in hyx, hq])
           have hkx : decide (k ≤ x) = true := decide_eq_true (HKC.out.1 hp)
           clear hp hyx hq
           go_wp2_with (fail)
           have ZL3 := L3
           have ZL11 := L11
           refine region_bp [] sWc40 (by kernel_rfl) sWc40_ok (by decide) (fun d _ _ _ _ h => by cases d <;> exact h) ?_
           intro u hb
           have hS := hb
           replace HB := Aside0.mk (below_step HB.out hb)
           replace L3 := Aside0.mk (blk_below L3.out hb)
           replace L11 := Aside0.mk (blk_below L11.out hb)
           replace HGR := Aside0.mk (HGR.out.below hb)
           replace HC4 := Aside0.mk (Kd.C_below (HC4.out) hb)
           replace HGX := Aside0.mk (HGX.out.below hb)
           (try clear t3c0 t3c1)
           obtain ⟨t3c0, t3c1⟩ := cs2 (L3.out)
           (try clear t11c0 t11c1)
           obtain ⟨t11c0, t11c1⟩ := cs2 (L11.out)
           clear hb
           repeat (first | (refine p_off hS gt_ (by rfl) ?_; intro a_ ha_; (simp only [Act.put, pu1, pu2, pu3] at ha_); subst ha_) | (refine p_on (v := ?_) hS gt_ (by rfl) ?_ ?_; rotate_left; (· rintro w_ hS_; obtain ⟨t3c0_, t3c1_⟩ := cs2 (blk_below ZL3.out hS_); obtain ⟨t11c0_, t11c1_⟩ := cs2 (blk_below ZL11.out hS_); have r0_ := pw_cell_below hS_ r0; have r1_ := pw_cell_below hS_ r1; have k1_ := pw_cell_below hS_ k1; go_simp; with_reducible rfl); intro a_ ha_; (simp only [Act.put, pu1, pu2, pu3] at ha_); subst ha_) | (refine p_poff gt_ (by rfl) ?_; intro a_ ha_; (simp only [Act.put, pu1, pu2, pu3] at ha_); subst ha_) | (refine p_pon (v := ?_) gt_ (by rfl) ?_ ?_; rotate_left; (· go_simp; with_reducible rfl); intro a_ ha_; (simp only [Act.put, pu1, pu2, pu3] at ha_); subst ha_) | (refine p_ooff hS gt_ (by rfl) ?_; intro a_ ha_; (simp only [Act.put, pu1, pu2, pu3] at ha_); subst ha_) | (refine p_loff gt_ (by rfl) ?_; intro a_ ha_; (simp only [Act.put, pu1, pu2, pu3] at ha_); subst ha_) | (refine p_call (f := 15) (args := #[.agg #[.slice A2 (xN ns p).length c2, .slice B2 (xE es p).length d2], .agg #[.int .i64 y.lab, .int .i64 y.num]]) Tryz.func15 (by kernel_rfl) rfl gt_ (by rfl) (by rfl) mp_ ?_; (refine (wpAt_as A2 c2 (xN ns p) B2 d2 (xE es p) y q _ HGX.out HLX.out HPY.out).mono ?_); rintro e_ u_ ⟨rfl, hb⟩; replace HB := Aside0.mk (below_step HB.out hb); replace L3 := Aside0.mk (blk_below L3.out hb); replace L11 := Aside0.mk (blk_below L11.out hb); replace HGR := Aside0.mk (HGR.out.below hb); replace HC4 := Aside0.mk (Kd.C_below (HC4.out) hb); replace HGX := Aside0.mk (HGX.out.below hb); (try clear t3c0 t3c1); obtain ⟨t3c0, t3c1⟩ := cs2 (L3.out); (try clear t11c0 t11c1); obtain ⟨t11c0, t11c1⟩ := cs2 (L11.out); replace hS := below_step hS hb; refine ⟨_, rfl, hS, fun a_ ha_ => ?_⟩; (simp only [Act.put, pu1, pu2, pu3] at ha_); subst ha_; clear hb))
           refine p_fin ?_
           clear hS ZL3 ZL11
           clear r0 r1
           go_wp2_with (fail)
           go_roundw
           case rel => exact ⟨i + 1, HIN.out, by go_num, L11, HGX, ⟨L3.out, HGR.out, HC4.out, HB.out⟩⟩
           case measure => have := HIN.out; simp [intOf]; omega
          ·have HPY := Aside0.mk (show placeI (xN ns p) y = -1 from placeI_out fun h => hp (mem_xN.1 h).2)
           have hkx : decide (k ≤ x) = false := decide_eq_false fun h => hp (HKC.out.2 h)
           clear hp
           go_wp2_with (fail)
           have ZL3 := L3
           have ZL11 := L11
           refine region_bp [] sWc40 (by kernel_rfl) sWc40_ok (by decide) (fun d _ _ _ _ h => by cases d <;> exact h) ?_
           intro u hb
           have hS := hb
           replace HB := Aside0.mk (below_step HB.out hb)
           replace L3 := Aside0.mk (blk_below L3.out hb)
           replace L11 := Aside0.mk (blk_below L11.out hb)
           replace HGR := Aside0.mk (HGR.out.below hb)
           replace HC4 := Aside0.mk (Kd.C_below (HC4.out) hb)
           replace HGX := Aside0.mk (HGX.out.below hb)
           (try clear t3c0 t3c1)
           obtain ⟨t3c0, t3c1⟩ := cs2 (L3.out)
           (try clear t11c0 t11c1)
           obtain ⟨t11c0, t11c1⟩ := cs2 (L11.out)
           clear hb
           repeat (first | (refine p_off hS gt_ (by rfl) ?_; intro a_ ha_; (simp only [Act.put, pu1, pu2, pu3] at ha_); subst ha_) | (refine p_on (v := ?_) hS gt_ (by rfl) ?_ ?_; rotate_left; (· rintro w_ hS_; obtain ⟨t3c0_, t3c1_⟩ := cs2 (blk_below ZL3.out hS_); obtain ⟨t11c0_, t11c1_⟩ := cs2 (blk_below ZL11.out hS_); have r0_ := pw_cell_below hS_ r0; have r1_ := pw_cell_below hS_ r1; have k1_ := pw_cell_below hS_ k1; go_simp; with_reducible rfl); intro a_ ha_; (simp only [Act.put, pu1, pu2, pu3] at ha_); subst ha_) | (refine p_poff gt_ (by rfl) ?_; intro a_ ha_; (simp only [Act.put, pu1, pu2, pu3] at ha_); subst ha_) | (refine p_pon (v := ?_) gt_ (by rfl) ?_ ?_; rotate_left; (· go_simp; with_reducible rfl); intro a_ ha_; (simp only [Act.put, pu1, pu2, pu3] at ha_); subst ha_) | (refine p_ooff hS gt_ (by rfl) ?_; intro a_ ha_; (simp only [Act.put, pu1, pu2, pu3] at ha_); subst ha_) | (refine p_loff gt_ (by rfl) ?_; intro a_ ha_; (simp only [Act.put, pu1, pu2, pu3] at ha_); subst ha_) | (refine p_call (f := 15) (args := #[.agg #[.slice A2 (xN ns p).length c2, .slice B2 (xE es p).length d2], .agg #[.int .i64 y.lab, .int .i64 y.num]]) Tryz.func15 (by kernel_rfl) rfl gt_ (by rfl) (by rfl) mp_ ?_; (refine (wpAt_out A2 c2 (xN ns p) B2 d2 (xE es p) y _ HGX.out HLX.out HPY.out).mono ?_); rintro e_ u_ ⟨rfl, hb⟩; replace HB := Aside0.mk (below_step HB.out hb); replace L3 := Aside0.mk (blk_below L3.out hb); replace L11 := Aside0.mk (blk_below L11.out hb); replace HGR := Aside0.mk (HGR.out.below hb); replace HC4 := Aside0.mk (Kd.C_below (HC4.out) hb); replace HGX := Aside0.mk (HGX.out.below hb); (try clear t3c0 t3c1); obtain ⟨t3c0, t3c1⟩ := cs2 (L3.out); (try clear t11c0 t11c1); obtain ⟨t11c0, t11c1⟩ := cs2 (L11.out); replace hS := below_step hS hb; refine ⟨_, rfl, hS, fun a_ ha_ => ?_⟩; (simp only [Act.put, pu1, pu2, pu3] at ha_); subst ha_; clear hb))
           refine p_fin ?_
           clear hS ZL3 ZL11
           clear r0 r1
           go_wp2_with (fail)
           go_roundw
           case rel => exact ⟨i + 1, HIN.out, by go_num, L11, HGX, ⟨L3.out, HGR.out, HC4.out, HB.out⟩⟩
           case measure => have := HIN.out; simp [intOf]; omega
         ·have hin : ¬ (i : Int) < (ns.length : Int) := by omega
          clear hlt
          go_wp2_with (fail)
          go_roundw
          case rel => exact ⟨k + 1, by omega, by have := HKL.out; omega, by go_num, ⟨L3.out, HGR.out, HC4.out, HB.out⟩⟩
          case measure => have := HKL.out; have := HK.out; simp [intOf]; omega
       ·go_wp2_with (fail)
        go_loopw [12, 13] (fun s12 s13 wr => ∃ (i : Nat) (b : Bool) (p' : Nd → Bool), i ≤ (xN ns p).length ∧ s13 = .int .i64 (i : Int) ∧ s12 = .bool b ∧ (b = false → p' = p ∧ ∀ j, j < i → k ≤ (nearG (xN ns p) (xE es p) (at_ (xN ns p) j)).length) ∧ (b = true → (xN ns p').length < (xN ns p).length) ∧ CxS w g3 A1 c1 ns B1 d1 es A4 C g11 k p' wr) (fun _ s13 wr => ((lenAt wr g11 : Int) + 1 - intOf s13).toNat)
        case atStart => exact ⟨0, false, p, Nat.zero_le _, rfl, rfl, (fun _ => ⟨rfl, fun j hj => absurd hj (Nat.not_lt_zero _)⟩), (by intro h; cases h), ⟨A2, c2, B2, d2, HST.out, L11.out, HGX.out, NX.out, L3.out, HGR.out, HC4.out, HB.out⟩⟩
        case round =>
         clear L3 L11 HGR HC4 HB HGX NX HST t11c0 t11c1 c2 A2 B2 d2
         obtain ⟨i, b, p', hi, rfl, rfl, hf_, ht_, A2, c2, B2, d2, hst_, l11_, gx_, nx_, l3_, gr_, c4_, hb_⟩ := hrel
         have HI := Aside0.mk hi
         have HF := Aside0.mk hf_
         have HTR := Aside0.mk ht_
         clear hi hf_ ht_
         have HST := Aside0.mk hst_
         have L11 := Aside0.mk l11_
         have HGX := Aside0.mk gx_
         have NX := Aside0.mk nx_
         have L3 := Aside0.mk l3_
         have HGR := Aside0.mk gr_
         have HC4 := Aside0.mk c4_
         have HB := Aside0.mk hb_
         obtain ⟨t3c0, t3c1⟩ := cs2 (L3.out)
         clear l3_ gr_ c4_ hb_
         obtain ⟨t11c0, t11c1⟩ := cs2 (L11.out)
         clear hst_ l11_ gx_ nx_
         have HPL := Aside0.mk (show (xN ns p).length ≤ 40 by have := (List.filter_sublist (p := p) (l := ns)).length_le; have := HLM.out; unfold xN; omega)
         have hp4 : ((xN ns p).length : Int) ≤ 40 := by have := HPL.out; omega
         cases b
         ·obtain ⟨rfl, hq⟩ := HF.out rfl
          have HQ2 := Aside0.mk hq
          clear hq
          by_cases hlt : i < (xN ns p').length
          ·have hin : (i : Int) < ((xN ns p').length : Int) := by omega
           have HIN := Aside0.mk hlt
           obtain ⟨y, hy⟩ : ∃ y, at_ (xN ns p') i = y := ⟨_, rfl⟩
           have HYX := Aside0.mk (show y ∈ xN ns p' from hy ▸ at_mem hlt)
           have HYA := Aside0.mk hy
           obtain ⟨M, hM⟩ : ∃ m, nearG (xN ns p') (xE es p') y = m := ⟨_, rfl⟩
           have HM := Aside0.mk hM
           obtain ⟨a2, e2_, r0, r1⟩ := nd_at HGX.out.cn i hlt
           cases e2_
           rw [hy] at r0 r1
           clear hlt hy hM
           by_cases hmk : M.length < k
           ·have hmb : decide (M.length < k) = true := decide_eq_true hmk
            have HS2 := Aside0.mk (HST.out.strike HOG.out HYX.out (by rw [HM.out]; exact hmk))
            have HBL := Aside0.mk (but_len HOG.out HYX.out)
            have HLE2 := Aside0.mk (lenAt_eq t11c0)
            clear hmk
            go_wp2_with (fail)
            have ZL3 := L3
            have ZL11 := L11
            refine region_bp [] sWc34 (by kernel_rfl) sWc34_ok (by decide) (fun d _ _ _ _ h => by cases d <;> exact h) ?_
            intro u hb
            have hS := hb
            replace HB := Aside0.mk (below_step HB.out hb)
            replace L3 := Aside0.mk (blk_below L3.out hb)
            replace L11 := Aside0.mk (blk_below L11.out hb)
            replace HGR := Aside0.mk (HGR.out.below hb)
            replace HC4 := Aside0.mk (Kd.C_below (HC4.out) hb)
            replace HGX := Aside0.mk (HGX.out.below hb)
            (try clear t3c0 t3c1)
            obtain ⟨t3c0, t3c1⟩ := cs2 (L3.out)
            (try clear t11c0 t11c1)
            obtain ⟨t11c0, t11c1⟩ := cs2 (L11.out)
            clear hb
            repeat (first | (refine p_off hS gt_ (by rfl) ?_; intro a_ ha_; (simp only [Act.put, pu1, pu2, pu3] at ha_); subst ha_) | (refine p_on (v := ?_) hS gt_ (by rfl) ?_ ?_; rotate_left; (· rintro w_ hS_; obtain ⟨t3c0_, t3c1_⟩ := cs2 (blk_below ZL3.out hS_); obtain ⟨t11c0_, t11c1_⟩ := cs2 (blk_below ZL11.out hS_); have r0_ := pw_cell_below hS_ r0; have r1_ := pw_cell_below hS_ r1; go_simp; with_reducible rfl); intro a_ ha_; (simp only [Act.put, pu1, pu2, pu3] at ha_); subst ha_) | (refine p_poff gt_ (by rfl) ?_; intro a_ ha_; (simp only [Act.put, pu1, pu2, pu3] at ha_); subst ha_) | (refine p_pon (v := ?_) gt_ (by rfl) ?_ ?_; rotate_left; (· go_simp; with_reducible rfl); intro a_ ha_; (simp only [Act.put, pu1, pu2, pu3] at ha_); subst ha_) | (refine p_ooff hS gt_ (by rfl) ?_; intro a_ ha_; (simp only [Act.put, pu1, pu2, pu3] at ha_); subst ha_) | (refine p_loff gt_ (by rfl) ?_; intro a_ ha_; (simp only [Act.put, pu1, pu2, pu3] at ha_); subst ha_) | (refine p_call (f := 20) (args := #[.agg #[.slice (some a2) (xN ns p').length c2, .slice B2 (xE es p').length d2], .agg #[.int .i64 y.lab, .int .i64 y.num]]) Tryz.func20 (by kernel_rfl) rfl gt_ (by rfl) (by rfl) mp_ ?_; (refine (near_as (some a2) c2 (xN ns p') B2 d2 (xE es p') y M _ HGX.out HM.out).mono ?_); rintro e_ u_ ⟨A7, cA7, rfl, hc_, hl_, hb⟩; clear hc_ hl_; replace HB := Aside0.mk (below_step HB.out hb); replace L3 := Aside0.mk (blk_below L3.out hb); replace L11 := Aside0.mk (blk_below L11.out hb); replace HGR := Aside0.mk (HGR.out.below hb); replace HC4 := Aside0.mk (Kd.C_below (HC4.out) hb); replace HGX := Aside0.mk (HGX.out.below hb); (try clear t3c0 t3c1); obtain ⟨t3c0, t3c1⟩ := cs2 (L3.out); (try clear t11c0 t11c1); obtain ⟨t11c0, t11c1⟩ := cs2 (L11.out); replace hS := below_step hS hb; refine ⟨_, rfl, hS, fun a_ ha_ => ?_⟩; (simp only [Act.put, pu1, pu2, pu3] at ha_); subst ha_; clear hb))
            refine p_fin ?_
            clear hS ZL3 ZL11
            go_wp2_with (fail)
            clear r0 r1
            obtain ⟨a2_, e2_, r0, r1⟩ := nd_at HGX.out.cn i HIN.out
            obtain rfl := Option.some.inj e2_
            rw [HYA.out] at r0 r1
            clear e2_
            have ZL3 := L3
            have ZL11 := L11
            refine region_bp [11] sWc35 (by kernel_rfl) sWc35_ok (by decide) (fun d _ _ _ _ h => by cases d <;> exact h) ?_
            intro u hb
            have hS := hb
            replace HB := Aside0.mk (below_step HB.out hb)
            replace L3 := Aside0.mk (blk_below L3.out hb)
            replace L11 := Aside0.mk (blk_below L11.out hb)
            replace HGR := Aside0.mk (HGR.out.below hb)
            replace HC4 := Aside0.mk (Kd.C_below (HC4.out) hb)
            replace HGX := Aside0.mk (HGX.out.below hb)
            (try clear t3c0 t3c1)
            obtain ⟨t3c0, t3c1⟩ := cs2 (L3.out)
            (try clear t11c0 t11c1)
            obtain ⟨t11c0, t11c1⟩ := cs2 (L11.out)
            clear hb
            repeat' (first | (refine p_off hS gt_ (by rfl) ?_; intro a_ ha_; (simp only [Act.put, pu1, pu2, pu3] at ha_); subst ha_) | (refine p_on (v := ?_) hS gt_ (by rfl) ?_ ?_; rotate_left; (· rintro w_ hS_; obtain ⟨t3c0_, t3c1_⟩ := cs2 (blk_below ZL3.out hS_); obtain ⟨t11c0_, t11c1_⟩ := cs2 (blk_below ZL11.out hS_); have r0_ := pw_cell_below hS_ r0; have r1_ := pw_cell_below hS_ r1; go_simp; with_reducible rfl); intro a_ ha_; (simp only [Act.put, pu1, pu2, pu3] at ha_); subst ha_) | (refine p_poff gt_ (by rfl) ?_; intro a_ ha_; (simp only [Act.put, pu1, pu2, pu3] at ha_); subst ha_) | (refine p_pon (v := ?_) gt_ (by rfl) ?_ ?_; rotate_left; (· go_simp; with_reducible rfl); intro a_ ha_; (simp only [Act.put, pu1, pu2, pu3] at ha_); subst ha_) | (refine p_ooff hS gt_ (by rfl) ?_; intro a_ ha_; (simp only [Act.put, pu1, pu2, pu3] at ha_); subst ha_) | (refine p_loff gt_ (by rfl) ?_; intro a_ ha_; (simp only [Act.put, pu1, pu2, pu3] at ha_); subst ha_) | (refine p_call (f := 10) (args := #[.agg #[.slice (some a2) (xN ns p').length c2, .slice B2 (xE es p').length d2], .agg #[.int .i64 4, .int .i64 y.lab, .int .i64 y.num, .int .i64 0, .int .i64 0, .int .i64 0, .int .i64 0, .int .i64 0]]) Tryz.func10 (by kernel_rfl) rfl gt_ (by rfl) (by rfl) mp_ ?_; (refine (gone_calls (some a2) c2 ns B2 d2 es p' y _ HGX.out HOG.out HYX.out).mono ?_); rintro e_ u_ ⟨A3, c3, B3, d3, q, rfl, hgx_, hf1_, hf2_, hb⟩; have HGY := Aside0.mk hgx_; have NY := Aside0.mk (And.intro (notIn_new (n := (xN ns (butP p' y)).length) hf1_ (blk_lt L11.out)) (notIn_new (n := (xE es (butP p' y)).length) hf2_ (blk_lt L11.out))); clear hgx_ hf1_ hf2_; replace HB := Aside0.mk (below_step HB.out hb); replace L3 := Aside0.mk (blk_below L3.out hb); replace L11 := Aside0.mk (blk_below L11.out hb); replace HGR := Aside0.mk (HGR.out.below hb); replace HC4 := Aside0.mk (Kd.C_below (HC4.out) hb); replace HGX := Aside0.mk (HGX.out.below hb); (try clear t3c0 t3c1); obtain ⟨t3c0, t3c1⟩ := cs2 (L3.out); (try clear t11c0 t11c1); obtain ⟨t11c0, t11c1⟩ := cs2 (L11.out); replace hS := below_step hS hb; refine ⟨_, rfl, hS, fun a_ ha_ => ?_⟩; (simp only [Act.put, pu1, pu2, pu3] at ha_); subst ha_; clear hb) | (refine p_last gt_ (by rfl) fun K_ hK_ => ?_; refine wp_store_row _ _ _ rfl (g11) #[.slice A3 (xN ns (butP p' y)).length c3, .slice B3 (xE es (butP p' y)).length d3] rfl rfl _ _ L11.out (by kernel_rfl) rfl (by simp [Value.oneCell']) (hK_ _ _ ?_); (try simp only [Act.put, pu1, pu2, pu3]); refine named _ ?_; intro wz hwz; replace HB := Aside0.mk (sb_ hwz HB.out (by have := Hg11.out; omega)); replace L3 := Aside0.mk (so_ hwz L3.out (by have := Hg11.out; omega)); replace L11 := Aside0.mk (sh_ hwz L11.out); replace HGR := Aside0.mk ((HGR.out).row hwz N11HGR.out.1 N11HGR.out.2); replace HC4 := Aside0.mk (C_rowI (HC4.out) hwz N11HC4.out); replace HGY := Aside0.mk ((HGY.out).row hwz NY.out.1 NY.out.2); (try clear t3c0 t3c1); obtain ⟨t3c0, t3c1⟩ := cs2 (L3.out); (try clear t11c0 t11c1); obtain ⟨t11c0, t11c1⟩ := cs2 (L11.out); clear hwz) | refine p_two ?_ ?_)
            all_goals (refine p_fin ?_; clear hS ZL3 ZL11)
            all_goals
             clear r0 r1
             go_wp2_with (fail)
             go_roundw
             case rel => exact ⟨i + 1, true, butP p' y, HIN.out, by go_num, rfl, (by intro h; cases h), (fun _ => HBL.out), A3, c3, B3, d3, HS2.out, L11.out, HGY.out, NY.out, L3.out, HGR.out, HC4.out, HB.out⟩
             case measure =>
              have h1 := lenAt_eq t11c0
              have h2 := HBL.out
              have h3 := HIN.out
              have h4 := HLE2.out
              simp only [intOf]
              rw [h1, h4]
              omega
           ·have hmb : decide (M.length < k) = false := decide_eq_false hmk
            have HGE := Aside0.mk (show k ≤ M.length from Nat.le_of_not_lt hmk)
            have HLE2 := Aside0.mk (lenAt_eq t11c0)
            clear hmk
            go_wp2_with (fail)
            have ZL3 := L3
            have ZL11 := L11
            refine region_bp [] sWc34 (by kernel_rfl) sWc34_ok (by decide) (fun d _ _ _ _ h => by cases d <;> exact h) ?_
            intro u hb
            have hS := hb
            replace HB := Aside0.mk (below_step HB.out hb)
            replace L3 := Aside0.mk (blk_below L3.out hb)
            replace L11 := Aside0.mk (blk_below L11.out hb)
            replace HGR := Aside0.mk (HGR.out.below hb)
            replace HC4 := Aside0.mk (Kd.C_below (HC4.out) hb)
            replace HGX := Aside0.mk (HGX.out.below hb)
            (try clear t3c0 t3c1)
            obtain ⟨t3c0, t3c1⟩ := cs2 (L3.out)
            (try clear t11c0 t11c1)
            obtain ⟨t11c0, t11c1⟩ := cs2 (L11.out)
            clear hb
            repeat (first | (refine p_off hS gt_ (by rfl) ?_; intro a_ ha_; (simp only [Act.put, pu1, pu2, pu3] at ha_); subst ha_) | (refine p_on (v := ?_) hS gt_ (by rfl) ?_ ?_; rotate_left; (· rintro w_ hS_; obtain ⟨t3c0_, t3c1_⟩ := cs2 (blk_below ZL3.out hS_); obtain ⟨t11c0_, t11c1_⟩ := cs2 (blk_below ZL11.out hS_); have r0_ := pw_cell_below hS_ r0; have r1_ := pw_cell_below hS_ r1; go_simp; with_reducible rfl); intro a_ ha_; (simp only [Act.put, pu1, pu2, pu3] at ha_); subst ha_) | (refine p_poff gt_ (by rfl) ?_; intro a_ ha_; (simp only [Act.put, pu1, pu2, pu3] at ha_); subst ha_) | (refine p_pon (v := ?_) gt_ (by rfl) ?_ ?_; rotate_left; (· go_simp; with_reducible rfl); intro a_ ha_; (simp only [Act.put, pu1, pu2, pu3] at ha_); subst ha_) | (refine p_ooff hS gt_ (by rfl) ?_; intro a_ ha_; (simp only [Act.put, pu1, pu2, pu3] at ha_); subst ha_) | (refine p_loff gt_ (by rfl) ?_; intro a_ ha_; (simp only [Act.put, pu1, pu2, pu3] at ha_); subst ha_) | (refine p_call (f := 20) (args := #[.agg #[.slice (some a2) (xN ns p').length c2, .slice B2 (xE es p').length d2], .agg #[.int .i64 y.lab, .int .i64 y.num]]) Tryz.func20 (by kernel_rfl) rfl gt_ (by rfl) (by rfl) mp_ ?_; (refine (near_as (some a2) c2 (xN ns p') B2 d2 (xE es p') y M _ HGX.out HM.out).mono ?_); rintro e_ u_ ⟨A7, cA7, rfl, hc_, hl_, hb⟩; clear hc_ hl_; replace HB := Aside0.mk (below_step HB.out hb); replace L3 := Aside0.mk (blk_below L3.out hb); replace L11 := Aside0.mk (blk_below L11.out hb); replace HGR := Aside0.mk (HGR.out.below hb); replace HC4 := Aside0.mk (Kd.C_below (HC4.out) hb); replace HGX := Aside0.mk (HGX.out.below hb); (try clear t3c0 t3c1); obtain ⟨t3c0, t3c1⟩ := cs2 (L3.out); (try clear t11c0 t11c1); obtain ⟨t11c0, t11c1⟩ := cs2 (L11.out); replace hS := below_step hS hb; refine ⟨_, rfl, hS, fun a_ ha_ => ?_⟩; (simp only [Act.put, pu1, pu2, pu3] at ha_); subst ha_; clear hb))
            refine p_fin ?_
            clear hS ZL3 ZL11
            clear r0 r1
            go_wp2_with (fail)
            go_roundw
            case rel => exact ⟨i + 1, false, p', HIN.out, by go_num, rfl, (fun _ => ⟨rfl, fun j hj => by
             rcases Nat.lt_or_eq_of_le (Nat.le_of_lt_succ hj) with h1 | h1
             ·exact HQ2.out j h1
             ·rw [h1, HYA.out, HM.out]; exact HGE.out⟩), (by intro h; cases h), some a2, c2, B2, d2, HST.out, L11.out, HGX.out, NX.out, L3.out, HGR.out, HC4.out, HB.out⟩
            case measure =>
             have h1 := lenAt_eq t11c0
             have h3 := HIN.out
             have h4 := HLE2.out
             simp only [intOf]
             rw [h1, h4]
             omega
          ·have hin : ¬ (i : Int) < ((xN ns p').length : Int) := by omega
           have HIE := Aside0.mk (show i = (xN ns p').length by have := HI.out; omega)
           clear hlt
           go_wp2_with (fail)
           go_roundw
           case rel => exact ⟨false, p', rfl, (fun _ y hy => by
            have h1 := HQ2.out (idx (xN ns p') y) (by rw [HIE.out]; exact idx_lt hy)
            rwa [at_idx hy] at h1), ⟨A2, c2, B2, d2, HST.out, L11.out, HGX.out, NX.out, L3.out, HGR.out, HC4.out, HB.out⟩⟩
           case measure =>
            show lenAt _ g11 + 0 < lenAt _ g11 + 1
            rw [lenAt_eq t11c0, HLE.out]
            omega
         ·have HLT := Aside0.mk (HTR.out rfl)
          by_cases hlt : i < (xN ns p').length
          all_goals
           first
           | have hin : (i : Int) < ((xN ns p').length : Int) := by omega
           | have hin : ¬ (i : Int) < ((xN ns p').length : Int) := by omega
           clear hlt
           go_wp2_with (fail)
           go_roundw
           case rel => exact ⟨true, p', rfl, (by intro h; cases h), ⟨A2, c2, B2, d2, HST.out, L11.out, HGX.out, NX.out, L3.out, HGR.out, HC4.out, HB.out⟩⟩
           case measure =>
            have h1 := HLT.out
            show lenAt _ g11 + 1 < lenAt _ g11 + 1
            rw [lenAt_eq t11c0, HLE.out]
            omega
     ·have hkl : ¬ (k : Int) ≤ (most : Int) + 1 := by omega
      clear hlt
      go_wp2_with (fail)
      go_ret
      exact ⟨by first | rfl | simp, HB.out⟩
end Go.Proofs.YtogmbeifbjgphaaGreat.R
