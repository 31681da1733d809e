/- Draws: a graph and a node, most often one that is there; Draws: DrawWalkDist, DrawWalkParts and what is like it; impl.nodePlace. -/
import Derived.Test.YtogmbeifbjgphaaGreatKB27
import Derived.Test.YtogmbeifbjgphaaGreatKB28
import Derived.Test.YtogmbeifbjgphaaGreatKB3
namespace Go.Proofs.YtogmbeifbjgphaaGreat.R
open Go.RowKit Go.Proofs.YtogmbeifbjgphaaGreatV.PrintWords Go.Proofs.YtogmbeifbjgphaaGreatV.PrintLast Go.Proofs.YtogmbeifbjgphaaGreatV.PrintMore Go.Proofs.YtogmbeifbjgphaaGreat.M
set_option linter.unusedVariables false
set_option linter.unusedSimpArgs false
attribute [local go_sem high] eqN eqE
abbrev sSm3 : List (Nat × Bool) := [(0, true), (1, true), (2, true), (3, true), (4, true), (5, true), (6, true), (7, false), (8, true), (9, true), (10, false)]
theorem sSm3_ok : schedE .any (opsOf Tryz.f106 3) 11 sSm3 (Array.replicate (opsOf Tryz.f106 3).size false) = true := by kernel_rfl
abbrev sSm4 : List (Nat × Bool) := [(0, true), (1, true), (2, false), (3, false)]
theorem sSm4_ok : schedE .any (opsOf Tryz.f106 4) 4 sSm4 (Array.replicate (opsOf Tryz.f106 4).size false) = true := by kernel_rfl
/-- A graph and a node that come back: whatever they are, of bounded size, behind block b. -/
def SomeGN1 (b : Nat) (e : Ending) (w' : World) : Prop := ∃ A c ns B d es, ∃ x : Nd, e = .returned (.tuple #[.agg #[.slice A (ns : List Nd).length c, .slice B (es : List Eg).length d], .agg #[.int .i64 x.lab, .int .i64 x.num]]) ∧ GR w' A c ns B d es ∧ Fresh b A ∧ Fresh b B ∧ ns.length ≤ 100 ∧ es.length ≤ 100
set_option maxHeartbeats 12800000 in
set_option maxRecDepth 100000 in
theorem some_calls (b G p : Nat) (w : World) (hr : Rd b w G p) (hp : p + 900 ≤ 600000) :
 Calls Tryz.prog 106 #[.pointer (some ⟨G, 0, none⟩)] w fun e w' => SomeGN1 w.heap.size e w' ∧ Dw b w w' G p 820 := by
 have HG := Aside0.mk hr.lt
 have HP := Aside0.mk hp
 have HD := Aside0.mk (((Dw.refl hr (k := 0)).alloc (.cells #[.slice none 0 0, .slice none 0 0] 26)).alloc (.cells #[.int .i64 0, .int .i64 0] 28))
 clear hr hp
 obtain ⟨L0, L1, HB⟩ := al2 w #[.slice none 0 0, .slice none 0 0] #[.int .i64 0, .int .i64 0] 26 28
 clear HB
 go_enter Tryz.func106, Tryz.ntmps106
 go_upto_region 2 with (first | (go_at_call 35; go_must ((refine (draw_lift (lim := 600000) (fun q hq hl => graph_calls _ G q _ hq (by omega)) HD.out (by have := HP.out; omega)).mono ?_); rintro e u_ ⟨⟨A1, c1, ns1, B1, d1, es1, rfl, hgr_, hfa_, hfb_, hn_, he_⟩, hd, hg⟩; have HNI := Aside0.mk (show NotIn G A1 ns1.length ∧ NotIn G B1 es1.length from ⟨hfa_.notIn (by have := HD.out.le; have := HG.out; omega), hfb_.notIn (by have := HD.out.le; have := HG.out; omega)⟩); have HGR := Aside0.mk hgr_; have HLN := Aside0.mk (And.intro hn_ he_); clear hgr_ hfa_ hfb_ hn_ he_; replace HD := Aside0.mk hd; replace L0 := Aside0.mk (blk_g hg L0.out (by have := HG.out; omega)); replace L1 := Aside0.mk (blk_g hg L1.out (by have := HG.out; omega)); (try clear rc0 rc1); obtain ⟨rc0, rc1⟩ := cs2 (L0.out); (try clear oc0 oc1); obtain ⟨oc0, oc1⟩ := cs2 (L1.out); clear hd hg)) | (go_at_call 34; go_must ((refine (draw_lift (lim := 600000) (fun q hq hl => bent_calls _ G q A1 c1 ns1 B1 d1 es1 _ hq (by omega) HGR.out HNI.out.1 HNI.out.2 (by have := HLN.out; omega) (by have := HLN.out; omega)) HD.out (by have := HP.out; omega)).mono ?_); rintro e u_ ⟨⟨A2, c2, ns2, B2, d2, es2, rfl, hgr_, hfa_, hfb_, hn_, he_⟩, hd, hg⟩; have HNJ := Aside0.mk (show Fresh w.heap.size A2 ∧ Fresh w.heap.size B2 from ⟨hfa_.mono HD.out.le, hfb_.mono HD.out.le⟩); have HFJ := Aside0.mk (show Fresh (w.heap.size + 2) A2 ∧ Fresh (w.heap.size + 2) B2 from ⟨hfa_.mono (blk_lt L1.out), hfb_.mono (blk_lt L1.out)⟩); have HGS := Aside0.mk hgr_; have HLM := Aside0.mk (show ns2.length ≤ 100 ∧ es2.length ≤ 100 by have := HLN.out; omega); clear hgr_ hfa_ hfb_ hn_ he_; replace HD := Aside0.mk hd; replace L0 := Aside0.mk (blk_g hg L0.out (by have := HG.out; omega)); replace L1 := Aside0.mk (blk_g hg L1.out (by have := HG.out; omega)); (try clear rc0 rc1); obtain ⟨rc0, rc1⟩ := cs2 (L0.out); (try clear oc0 oc1); obtain ⟨oc0, oc1⟩ := cs2 (L1.out); clear hd hg)) | ((with_reducible refine gate_dst (N := 4) rfl ?_); go_must ((refine w_new #[.slice none 0 0, .slice none 0 0] 26 rfl (by go_simp; (first | done | rfl)) ?_); intro g5 u_ hge_ hb0_ hb; have HU5 := Aside0.mk (Nat.le_trans HD.out.le hge_); have HNT := Aside0.mk (HGS.out.new hge_); have Hg5 := Aside0.mk (show w.heap.size + 2 ≤ g5 from by have hl0_ := blk_lt L1.out; exact by omega); have L5 := Aside0.mk hb0_; replace HD := Aside0.mk (HD.out.below hb); replace L0 := Aside0.mk (blk_below L0.out hb); replace L1 := Aside0.mk (blk_below L1.out hb); replace HGS := Aside0.mk (HGS.out.below hb); clear hge_ hb0_ hb; (try clear rc0 rc1); obtain ⟨rc0, rc1⟩ := cs2 (L0.out); (try clear oc0 oc1); obtain ⟨oc0, oc1⟩ := cs2 (L1.out); (try clear tc0 tc1); obtain ⟨tc0, tc1⟩ := cs2 (L5.out))) | ((with_reducible refine gate_store (p := 4) rfl ?_); go_must ((refine wpList_plain rfl fun K_ hK_ => wp_store_row _ _ _ rfl (g5) #[.slice A2 ns2.length c2, .slice B2 es2.length d2] rfl rfl _ _ L5.out (by kernel_rfl) rfl (by simp [Value.oneCell']) (hK_ _ _ ?_)); refine named _ ?_; intro wz hwz; have HDz := HD.out.over (grown_setRow _ (g5) #[.slice A2 ns2.length c2, .slice B2 es2.length d2]) (by have := HG.out; have := Hg5.out; have := HU5.out; omega) (by have := HG.out; have := Hg5.out; have := HU5.out; omega); rw [← hwz] at HDz; replace HD := Aside0.mk HDz; clear HDz; replace L0 := Aside0.mk (so_ hwz L0.out (by have := HG.out; have := Hg5.out; have := HU5.out; omega)); replace L1 := Aside0.mk (so_ hwz L1.out (by have := HG.out; have := Hg5.out; have := HU5.out; omega)); replace L5 := Aside0.mk (sh_ hwz L5.out); replace HGS := Aside0.mk ((HGS.out).keep (hwz ▸ grown_setRow _ _ _) HNT.out.1 HNT.out.2); (try clear rc0 rc1); obtain ⟨rc0, rc1⟩ := cs2 (L0.out); (try clear oc0 oc1); obtain ⟨oc0, oc1⟩ := cs2 (L1.out); (try clear tc0 tc1); obtain ⟨tc0, tc1⟩ := cs2 (L5.out); clear hwz)))
 by_cases hlen : 0 < ns2.length
 ·obtain ⟨ad, rfl⟩ : ∃ ad, A2 = some ad := by obtain ⟨ad, e, _⟩ := HGS.out.cn.2.2 (by omega); exact ⟨ad, e⟩
  have hl1 : (0 : Int) < (ns2.length : Int) := by omega
  have HX1 := Aside0.mk (show (1 : Int) ≤ (ns2.length : Int) by omega)
  clear hlen
  go_wp2_with (first | (go_at_call 81; go_must ((refine (draw_lift (lim := 700000) (fun q hq hl => pick_any _ G q _ _ hq (by omega)) HD.out (by have := HP.out; omega)).mono ?_); rintro e u_ ⟨⟨m8, rfl, -⟩, hd, hg⟩; replace HD := Aside0.mk hd; replace L0 := Aside0.mk (blk_g hg L0.out (by have := HG.out; have := Hg5.out; have := HU5.out; omega)); replace L1 := Aside0.mk (blk_g hg L1.out (by have := HG.out; have := Hg5.out; have := HU5.out; omega)); replace L5 := Aside0.mk (blk_g hg L5.out (by have := HG.out; have := Hg5.out; have := HU5.out; omega)); replace HGS := Aside0.mk (HGS.out.keep hg (HNJ.out.1.notIn (by have := HG.out; omega)) (HNJ.out.2.notIn (by have := HG.out; omega))); (try clear rc0 rc1); obtain ⟨rc0, rc1⟩ := cs2 (L0.out); (try clear oc0 oc1); obtain ⟨oc0, oc1⟩ := cs2 (L1.out); (try clear tc0 tc1); obtain ⟨tc0, tc1⟩ := cs2 (L5.out); clear hd hg; by_cases hm8 : (0 : Int) < (m8 : Int))))
  ·have HGW := HGS
   have ZL1 := L1
   have ZL5 := L5
   refine region_ke G (some (w.heap.size)) 11 sSm3 (by kernel_rfl) sSm3_ok (by decide) (fun d _ _ _ _ h => by cases d <;> exact h) ?_
   intro u hb hS
   replace HD := Aside0.mk (HD.out.below hb)
   replace L0 := Aside0.mk (blk_below L0.out hb)
   replace L1 := Aside0.mk (blk_below L1.out hb)
   replace L5 := Aside0.mk (blk_below L5.out hb)
   replace HGS := Aside0.mk (HGS.out.below hb)
   (try clear rc0 rc1)
   obtain ⟨rc0, rc1⟩ := cs2 (L0.out)
   (try clear oc0 oc1)
   obtain ⟨oc0, oc1⟩ := cs2 (L1.out)
   (try clear tc0 tc1)
   obtain ⟨tc0, tc1⟩ := cs2 (L5.out)
   clear hb
   repeat (first | (refine h_off gt_ (by rfl) ?_; intro a_ ha_; (simp only [Act.put, pu1, pu2, pu3] at ha_); subst ha_) | (refine h_on (v := ?_) gt_ (by rfl) ?_ ?_; rotate_left; (· rintro w_ hS_; obtain ⟨oc0_, oc1_⟩ := cs2 (kb_blk hS_ ZL1.out (by have := HG.out; have := Hg5.out; have := HU5.out; omega) (fun e => by have := Option.some.inj e; have := HG.out; have := Hg5.out; have := HU5.out; omega)); obtain ⟨tc0_, tc1_⟩ := cs2 (kb_blk hS_ ZL5.out (by have := HG.out; have := Hg5.out; have := HU5.out; omega) (fun e => by have := Option.some.inj e; have := HG.out; have := Hg5.out; have := HU5.out; omega)); (try (have hr_ := kb_nd hS_ r0 r1 HAB.out.1 (fun e => by have := Option.some.inj e; have := HAB.out.2; have := HG.out; omega); obtain ⟨r0_, r1_⟩ := hr_)); go_simp; with_reducible rfl); intro a_ ha_; (simp only [Act.put, pu1, pu2, pu3] at ha_); subst ha_) | (refine h_call2 (f := 81) (args := #[.pointer (some ⟨G, 0, none⟩), .int .i64 (ns2.length : Int)]) Tryz.func81 (by kernel_rfl) rfl gt_ (by rfl) (by rfl) mp_ ?_; (refine (draw_lift (lim := 700000) (fun q hq hl => pick_any _ G q _ _ hq (by omega)) HD.out (by have := HP.out; omega)).mono ?_); rintro e_ u_ ⟨⟨m, rfl, hm_⟩, hd, hg⟩; have HM := Aside0.mk (hm_ HX1.out); clear hm_; obtain ⟨ad_, e1_, r0, r1⟩ := nd_at HGW.out.cn m (by have := HM.out; omega); obtain rfl : ad = ad_ := Option.some.inj e1_; clear e1_; generalize at_ ns2 m = y at r0 r1; have HAB := Aside0.mk (show (ad.add (m * 2)).block ≠ G ∧ w.heap.size + 2 ≤ (ad.add (m * 2)).block by rw [add_block]; have h9 := HFJ.out.1 ad rfl; have := HG.out; exact ⟨by omega, h9⟩); have q1_ : (m : Int) < (ns2.length : Int) := HM.out; replace HD := Aside0.mk hd; replace L0 := Aside0.mk (blk_g hg L0.out (by have := HG.out; have := Hg5.out; have := HU5.out; omega)); replace L1 := Aside0.mk (blk_g hg L1.out (by have := HG.out; have := Hg5.out; have := HU5.out; omega)); replace L5 := Aside0.mk (blk_g hg L5.out (by have := HG.out; have := Hg5.out; have := HU5.out; omega)); replace HGS := Aside0.mk (HGS.out.keep hg (HNJ.out.1.notIn (by have := HG.out; omega)) (HNJ.out.2.notIn (by have := HG.out; omega))); (try clear rc0 rc1); obtain ⟨rc0, rc1⟩ := cs2 (L0.out); (try clear oc0 oc1); obtain ⟨oc0, oc1⟩ := cs2 (L1.out); (try clear tc0 tc1); obtain ⟨tc0, tc1⟩ := cs2 (L5.out); replace hS := kb_grown hS hg (fun k _ e => .inl (Option.some.inj e)); refine ⟨_, rfl, hS, fun a_ ha_ => ?_⟩; (simp only [Act.put, pu1, pu2, pu3] at ha_); subst ha_; clear hd hg) | (refine h_row (w.heap.size) #[.slice (some ad) ns2.length c2, .slice B2 es2.length d2] _ _ L0.out gt_ (by rfl) rfl rfl rfl (by kernel_rfl) rfl (by simp [Value.oneCell']) (kb_grown hS (grown_setRow _ (w.heap.size) #[.slice (some ad) ns2.length c2, .slice B2 es2.length d2]) (fun k hk e => .inr e)) ?_; intro a_ ha_; (simp only [Act.put, pu1, pu2, pu3] at ha_); subst ha_; refine named _ ?_; intro wz hwz; have hS9 := kb_grown hS (grown_setRow _ (w.heap.size) #[.slice (some ad) ns2.length c2, .slice B2 es2.length d2]) (fun k hk e => .inr e); rw [← hwz] at hS9; replace hS := hS9; clear hS9; have HDz := HD.out.over (grown_setRow _ (w.heap.size) #[.slice (some ad) ns2.length c2, .slice B2 es2.length d2]) (by have := HG.out; have := Hg5.out; have := HU5.out; omega) (by have := HG.out; have := Hg5.out; have := HU5.out; omega); rw [← hwz] at HDz; replace HD := Aside0.mk HDz; clear HDz; replace L1 := Aside0.mk (so_ hwz L1.out (by have := HG.out; have := Hg5.out; have := HU5.out; omega)); replace L5 := Aside0.mk (so_ hwz L5.out (by have := HG.out; have := Hg5.out; have := HU5.out; omega)); replace L0 := Aside0.mk (sh_ hwz L0.out); replace HGS := Aside0.mk ((HGS.out).keep (hwz ▸ grown_setRow _ _ _) (HFJ.out.1.notIn (by omega)) (HFJ.out.2.notIn (by omega))); (try clear rc0 rc1); obtain ⟨rc0, rc1⟩ := cs2 (L0.out); (try clear oc0 oc1); obtain ⟨oc0, oc1⟩ := cs2 (L1.out); (try clear tc0 tc1); obtain ⟨tc0, tc1⟩ := cs2 (L5.out); clear hwz))
   clear hS ZL1 ZL5
   refine h_last gt_ (by rfl) fun K_ hK_ => ?_
   refine wp_store_row _ _ _ rfl (w.heap.size + 1) #[.int .i64 y.lab, .int .i64 y.num] rfl rfl _ _ L1.out (by kernel_rfl) rfl (by simp [Value.oneCell']) (hK_ _ _ ?_)
   refine named _ ?_
   intro wz hwz
   have HDz := HD.out.over (grown_setRow _ (w.heap.size + 1) #[.int .i64 y.lab, .int .i64 y.num]) (by have := HG.out; have := Hg5.out; have := HU5.out; omega) (by have := HG.out; have := Hg5.out; have := HU5.out; omega)
   rw [← hwz] at HDz
   replace HD := Aside0.mk HDz
   clear HDz
   replace L0 := Aside0.mk (so_ hwz L0.out (by have := HG.out; have := Hg5.out; have := HU5.out; omega))
   replace L5 := Aside0.mk (so_ hwz L5.out (by have := HG.out; have := Hg5.out; have := HU5.out; omega))
   replace L1 := Aside0.mk (sh_ hwz L1.out)
   replace HGS := Aside0.mk ((HGS.out).keep (hwz ▸ grown_setRow _ _ _) (HFJ.out.1.notIn (by omega)) (HFJ.out.2.notIn (by omega)))
   (try clear rc0 rc1)
   obtain ⟨rc0, rc1⟩ := cs2 (L0.out)
   (try clear oc0 oc1)
   obtain ⟨oc0, oc1⟩ := cs2 (L1.out)
   (try clear tc0 tc1)
   obtain ⟨tc0, tc1⟩ := cs2 (L5.out)
   clear hwz
   go_wp2_with (fail)
   exact bodyPost_ret (results_cc rfl _ _ w.heap.size (w.heap.size + 1) _ _ #[.slice (some ad) ns2.length c2, .slice B2 es2.length d2] #[.int .i64 y.lab, .int .i64 y.num] (0, 0) (0, 0) _ _ rfl L0.out Tryz.underlying26 rfl (by kernel_rfl) rfl L1.out Tryz.underlying28 rfl (by kernel_rfl)) rfl ⟨⟨(some ad), c2, ns2, B2, d2, es2, y, rfl, HGS.out, HNJ.out.1, HNJ.out.2, HLM.out.1, HLM.out.2⟩, HD.out.mono (by omega)⟩
  ·have ZL1 := L1
   have ZL5 := L5
   refine region_ke G (some (w.heap.size)) 4 sSm4 (by kernel_rfl) sSm4_ok (by decide) (fun d _ _ _ _ h => by cases d <;> exact h) ?_
   intro u hb hS
   replace HD := Aside0.mk (HD.out.below hb)
   replace L0 := Aside0.mk (blk_below L0.out hb)
   replace L1 := Aside0.mk (blk_below L1.out hb)
   replace L5 := Aside0.mk (blk_below L5.out hb)
   replace HGS := Aside0.mk (HGS.out.below hb)
   (try clear rc0 rc1)
   obtain ⟨rc0, rc1⟩ := cs2 (L0.out)
   (try clear oc0 oc1)
   obtain ⟨oc0, oc1⟩ := cs2 (L1.out)
   (try clear tc0 tc1)
   obtain ⟨tc0, tc1⟩ := cs2 (L5.out)
   clear hb
   repeat (first | (refine h_off gt_ (by rfl) ?_; intro a_ ha_; (simp only [Act.put, pu1, pu2, pu3] at ha_); subst ha_) | (refine h_on (v := ?_) gt_ (by rfl) ?_ ?_; rotate_left; (· rintro w_ hS_; obtain ⟨oc0_, oc1_⟩ := cs2 (kb_blk hS_ ZL1.out (by have := HG.out; have := Hg5.out; have := HU5.out; omega) (fun e => by have := Option.some.inj e; have := HG.out; have := Hg5.out; have := HU5.out; omega)); obtain ⟨tc0_, tc1_⟩ := cs2 (kb_blk hS_ ZL5.out (by have := HG.out; have := Hg5.out; have := HU5.out; omega) (fun e => by have := Option.some.inj e; have := HG.out; have := Hg5.out; have := HU5.out; omega)); go_simp; with_reducible rfl); intro a_ ha_; (simp only [Act.put, pu1, pu2, pu3] at ha_); subst ha_) | (refine h_call2 (f := 84) (args := #[.pointer (some ⟨G, 0, none⟩)]) Tryz.func84 (by kernel_rfl) rfl gt_ (by rfl) (by rfl) mp_ ?_; (refine (draw_lift (lim := 700000) (fun q hq hl => node_calls _ G q _ hq (by omega)) HD.out (by have := HP.out; omega)).mono ?_); rintro e_ u_ ⟨⟨y, rfl⟩, hd, hg⟩; replace HD := Aside0.mk hd; replace L0 := Aside0.mk (blk_g hg L0.out (by have := HG.out; have := Hg5.out; have := HU5.out; omega)); replace L1 := Aside0.mk (blk_g hg L1.out (by have := HG.out; have := Hg5.out; have := HU5.out; omega)); replace L5 := Aside0.mk (blk_g hg L5.out (by have := HG.out; have := Hg5.out; have := HU5.out; omega)); replace HGS := Aside0.mk (HGS.out.keep hg (HNJ.out.1.notIn (by have := HG.out; omega)) (HNJ.out.2.notIn (by have := HG.out; omega))); (try clear rc0 rc1); obtain ⟨rc0, rc1⟩ := cs2 (L0.out); (try clear oc0 oc1); obtain ⟨oc0, oc1⟩ := cs2 (L1.out); (try clear tc0 tc1); obtain ⟨tc0, tc1⟩ := cs2 (L5.out); replace hS := kb_grown hS hg (fun k _ e => .inl (Option.some.inj e)); refine ⟨_, rfl, hS, fun a_ ha_ => ?_⟩; (simp only [Act.put, pu1, pu2, pu3] at ha_); subst ha_; clear hd hg) | (refine h_row (w.heap.size) #[.slice (some ad) ns2.length c2, .slice B2 es2.length d2] _ _ L0.out gt_ (by rfl) rfl rfl rfl (by kernel_rfl) rfl (by simp [Value.oneCell']) (kb_grown hS (grown_setRow _ (w.heap.size) #[.slice (some ad) ns2.length c2, .slice B2 es2.length d2]) (fun k hk e => .inr e)) ?_; intro a_ ha_; (simp only [Act.put, pu1, pu2, pu3] at ha_); subst ha_; refine named _ ?_; intro wz hwz; have hS9 := kb_grown hS (grown_setRow _ (w.heap.size) #[.slice (some ad) ns2.length c2, .slice B2 es2.length d2]) (fun k hk e => .inr e); rw [← hwz] at hS9; replace hS := hS9; clear hS9; have HDz := HD.out.over (grown_setRow _ (w.heap.size) #[.slice (some ad) ns2.length c2, .slice B2 es2.length d2]) (by have := HG.out; have := Hg5.out; have := HU5.out; omega) (by have := HG.out; have := Hg5.out; have := HU5.out; omega); rw [← hwz] at HDz; replace HD := Aside0.mk HDz; clear HDz; replace L1 := Aside0.mk (so_ hwz L1.out (by have := HG.out; have := Hg5.out; have := HU5.out; omega)); replace L5 := Aside0.mk (so_ hwz L5.out (by have := HG.out; have := Hg5.out; have := HU5.out; omega)); replace L0 := Aside0.mk (sh_ hwz L0.out); replace HGS := Aside0.mk ((HGS.out).keep (hwz ▸ grown_setRow _ _ _) (HFJ.out.1.notIn (by omega)) (HFJ.out.2.notIn (by omega))); (try clear rc0 rc1); obtain ⟨rc0, rc1⟩ := cs2 (L0.out); (try clear oc0 oc1); obtain ⟨oc0, oc1⟩ := cs2 (L1.out); (try clear tc0 tc1); obtain ⟨tc0, tc1⟩ := cs2 (L5.out); clear hwz))
   clear hS ZL1 ZL5
   refine h_last gt_ (by rfl) fun K_ hK_ => ?_
   refine wp_store_row _ _ _ rfl (w.heap.size + 1) #[.int .i64 y.lab, .int .i64 y.num] rfl rfl _ _ L1.out (by kernel_rfl) rfl (by simp [Value.oneCell']) (hK_ _ _ ?_)
   refine named _ ?_
   intro wz hwz
   have HDz := HD.out.over (grown_setRow _ (w.heap.size + 1) #[.int .i64 y.lab, .int .i64 y.num]) (by have := HG.out; have := Hg5.out; have := HU5.out; omega) (by have := HG.out; have := Hg5.out; have := HU5.out; omega)
   rw [← hwz] at HDz
   replace HD := Aside0.mk HDz
   clear HDz
   replace L0 := Aside0.mk (so_ hwz L0.out (by have := HG.out; have := Hg5.out; have := HU5.out; omega))
   replace L5 := Aside0.mk (so_ hwz L5.out (by have := HG.out; have := Hg5.out; have := HU5.out; omega))
   replace L1 := Aside0.mk (sh_ hwz L1.out)
   replace HGS := Aside0.mk ((HGS.out).keep (hwz ▸ grown_setRow _ _ _) (HFJ.out.1.notIn (by omega)) (HFJ.out.2.notIn (by omega)))
   (try clear rc0 rc1)
   obtain ⟨rc0, rc1⟩ := cs2 (L0.out)
   (try clear oc0 oc1)
   obtain ⟨oc0, oc1⟩ := cs2 (L1.out)
   (try clear tc0 tc1)
   obtain ⟨tc0, tc1⟩ := cs2 (L5.out)
   clear hwz
   go_wp2_with (fail)
   exact bodyPost_ret (results_cc rfl _ _ w.heap.size (w.heap.size + 1) _ _ #[.slice (some ad) ns2.length c2, .slice B2 es2.length d2] #[.int .i64 y.lab, .int .i64 y.num] (0, 0) (0, 0) _ _ rfl L0.out Tryz.underlying26 rfl (by kernel_rfl) rfl L1.out Tryz.underlying28 rfl (by kernel_rfl)) rfl ⟨⟨(some ad), c2, ns2, B2, d2, es2, y, rfl, HGS.out, HNJ.out.1, HNJ.out.2, HLM.out.1, HLM.out.2⟩, HD.out.mono (by omega)⟩
 ·have hl1 : ¬ (0 : Int) < (ns2.length : Int) := by omega
  clear hlen
  go_wp2_with (fail)
  have ZL1 := L1
  have ZL5 := L5
  refine region_ke G (some (w.heap.size)) 4 sSm4 (by kernel_rfl) sSm4_ok (by decide) (fun d _ _ _ _ h => by cases d <;> exact h) ?_
  intro u hb hS
  replace HD := Aside0.mk (HD.out.below hb)
  replace L0 := Aside0.mk (blk_below L0.out hb)
  replace L1 := Aside0.mk (blk_below L1.out hb)
  replace L5 := Aside0.mk (blk_below L5.out hb)
  replace HGS := Aside0.mk (HGS.out.below hb)
  (try clear rc0 rc1)
  obtain ⟨rc0, rc1⟩ := cs2 (L0.out)
  (try clear oc0 oc1)
  obtain ⟨oc0, oc1⟩ := cs2 (L1.out)
  (try clear tc0 tc1)
  obtain ⟨tc0, tc1⟩ := cs2 (L5.out)
  clear hb
  repeat (first | (refine h_off gt_ (by rfl) ?_; intro a_ ha_; (simp only [Act.put, pu1, pu2, pu3] at ha_); subst ha_) | (refine h_on (v := ?_) gt_ (by rfl) ?_ ?_; rotate_left; (· rintro w_ hS_; obtain ⟨oc0_, oc1_⟩ := cs2 (kb_blk hS_ ZL1.out (by have := HG.out; have := Hg5.out; have := HU5.out; omega) (fun e => by have := Option.some.inj e; have := HG.out; have := Hg5.out; have := HU5.out; omega)); obtain ⟨tc0_, tc1_⟩ := cs2 (kb_blk hS_ ZL5.out (by have := HG.out; have := Hg5.out; have := HU5.out; omega) (fun e => by have := Option.some.inj e; have := HG.out; have := Hg5.out; have := HU5.out; omega)); go_simp; with_reducible rfl); intro a_ ha_; (simp only [Act.put, pu1, pu2, pu3] at ha_); subst ha_) | (refine h_call2 (f := 84) (args := #[.pointer (some ⟨G, 0, none⟩)]) Tryz.func84 (by kernel_rfl) rfl gt_ (by rfl) (by rfl) mp_ ?_; (refine (draw_lift (lim := 700000) (fun q hq hl => node_calls _ G q _ hq (by omega)) HD.out (by have := HP.out; omega)).mono ?_); rintro e_ u_ ⟨⟨y, rfl⟩, hd, hg⟩; replace HD := Aside0.mk hd; replace L0 := Aside0.mk (blk_g hg L0.out (by have := HG.out; have := Hg5.out; have := HU5.out; omega)); replace L1 := Aside0.mk (blk_g hg L1.out (by have := HG.out; have := Hg5.out; have := HU5.out; omega)); replace L5 := Aside0.mk (blk_g hg L5.out (by have := HG.out; have := Hg5.out; have := HU5.out; omega)); replace HGS := Aside0.mk (HGS.out.keep hg (HNJ.out.1.notIn (by have := HG.out; omega)) (HNJ.out.2.notIn (by have := HG.out; omega))); (try clear rc0 rc1); obtain ⟨rc0, rc1⟩ := cs2 (L0.out); (try clear oc0 oc1); obtain ⟨oc0, oc1⟩ := cs2 (L1.out); (try clear tc0 tc1); obtain ⟨tc0, tc1⟩ := cs2 (L5.out); replace hS := kb_grown hS hg (fun k _ e => .inl (Option.some.inj e)); refine ⟨_, rfl, hS, fun a_ ha_ => ?_⟩; (simp only [Act.put, pu1, pu2, pu3] at ha_); subst ha_; clear hd hg) | (refine h_row (w.heap.size) #[.slice A2 ns2.length c2, .slice B2 es2.length d2] _ _ L0.out gt_ (by rfl) rfl rfl rfl (by kernel_rfl) rfl (by simp [Value.oneCell']) (kb_grown hS (grown_setRow _ (w.heap.size) #[.slice A2 ns2.length c2, .slice B2 es2.length d2]) (fun k hk e => .inr e)) ?_; intro a_ ha_; (simp only [Act.put, pu1, pu2, pu3] at ha_); subst ha_; refine named _ ?_; intro wz hwz; have hS9 := kb_grown hS (grown_setRow _ (w.heap.size) #[.slice A2 ns2.length c2, .slice B2 es2.length d2]) (fun k hk e => .inr e); rw [← hwz] at hS9; replace hS := hS9; clear hS9; have HDz := HD.out.over (grown_setRow _ (w.heap.size) #[.slice A2 ns2.length c2, .slice B2 es2.length d2]) (by have := HG.out; have := Hg5.out; have := HU5.out; omega) (by have := HG.out; have := Hg5.out; have := HU5.out; omega); rw [← hwz] at HDz; replace HD := Aside0.mk HDz; clear HDz; replace L1 := Aside0.mk (so_ hwz L1.out (by have := HG.out; have := Hg5.out; have := HU5.out; omega)); replace L5 := Aside0.mk (so_ hwz L5.out (by have := HG.out; have := Hg5.out; have := HU5.out; omega)); replace L0 := Aside0.mk (sh_ hwz L0.out); replace HGS := Aside0.mk ((HGS.out).keep (hwz ▸ grown_setRow _ _ _) (HFJ.out.1.notIn (by omega)) (HFJ.out.2.notIn (by omega))); (try clear rc0 rc1); obtain ⟨rc0, rc1⟩ := cs2 (L0.out); (try clear oc0 oc1); obtain ⟨oc0, oc1⟩ := cs2 (L1.out); (try clear tc0 tc1); obtain ⟨tc0, tc1⟩ := cs2 (L5.out); clear hwz))
  clear hS ZL1 ZL5
  refine h_last gt_ (by rfl) fun K_ hK_ => ?_
  refine wp_store_row _ _ _ rfl (w.heap.size + 1) #[.int .i64 y.lab, .int .i64 y.num] rfl rfl _ _ L1.out (by kernel_rfl) rfl (by simp [Value.oneCell']) (hK_ _ _ ?_)
  refine named _ ?_
  intro wz hwz
  have HDz := HD.out.over (grown_setRow _ (w.heap.size + 1) #[.int .i64 y.lab, .int .i64 y.num]) (by have := HG.out; have := Hg5.out; have := HU5.out; omega) (by have := HG.out; have := Hg5.out; have := HU5.out; omega)
  rw [← hwz] at HDz
  replace HD := Aside0.mk HDz
  clear HDz
  replace L0 := Aside0.mk (so_ hwz L0.out (by have := HG.out; have := Hg5.out; have := HU5.out; omega))
  replace L5 := Aside0.mk (so_ hwz L5.out (by have := HG.out; have := Hg5.out; have := HU5.out; omega))
  replace L1 := Aside0.mk (sh_ hwz L1.out)
  replace HGS := Aside0.mk ((HGS.out).keep (hwz ▸ grown_setRow _ _ _) (HFJ.out.1.notIn (by omega)) (HFJ.out.2.notIn (by omega)))
  (try clear rc0 rc1)
  obtain ⟨rc0, rc1⟩ := cs2 (L0.out)
  (try clear oc0 oc1)
  obtain ⟨oc0, oc1⟩ := cs2 (L1.out)
  (try clear tc0 tc1)
  obtain ⟨tc0, tc1⟩ := cs2 (L5.out)
  clear hwz
  go_wp2_with (fail)
  exact bodyPost_ret (results_cc rfl _ _ w.heap.size (w.heap.size + 1) _ _ #[.slice A2 ns2.length c2, .slice B2 es2.length d2] #[.int .i64 y.lab, .int .i64 y.num] (0, 0) (0, 0) _ _ rfl L0.out Tryz.underlying26 rfl (by kernel_rfl) rfl L1.out Tryz.underlying28 rfl (by kernel_rfl)) rfl ⟨⟨A2, c2, ns2, B2, d2, es2, y, rfl, HGS.out, HNJ.out.1, HNJ.out.2, HLM.out.1, HLM.out.2⟩, HD.out.mono (by omega)⟩
end Go.Proofs.YtogmbeifbjgphaaGreat.R
namespace Go.Proofs.YtogmbeifbjgphaaGreat.R
open Go.RowKit Go.Proofs.YtogmbeifbjgphaaGreatV.PrintWords Go.Proofs.YtogmbeifbjgphaaGreatV.PrintLast Go.Proofs.YtogmbeifbjgphaaGreatV.PrintMore Go.Proofs.YtogmbeifbjgphaaGreat.M
set_option linter.unusedVariables false
set_option linter.unusedSimpArgs false
attribute [local go_sem high] eqN eqE
/-- A graph that comes back: whatever it is, of bounded size. -/
def SomeGP (b : Nat) (e : Ending) (w' : World) : Prop := ∃ A c ns B d es, e = .returned (.agg #[.slice A (ns : List Nd).length c, .slice B (es : List Eg).length d]) ∧ GR w' A c ns B d es ∧ Fresh b A ∧ Fresh b B ∧ ns.length ≤ 100 ∧ es.length ≤ 100
set_option maxHeartbeats 3200000 in
set_option maxRecDepth 100000 in
theorem drawWP_calls (A : Option Addr) (c : Nat) (l : List Int) (w : World) (hl : (Kd.int .u8).C w A l.length l) (hc : l.length ≤ c) (hb : ∀ x ∈ l, 0 ≤ x ∧ x < 256) :
 Calls Tryz.prog 49 #[.slice A l.length c] w fun e w' => SomeGP w.heap.size e w' ∧ Below w.heap.size w w' := by
 have HL := Aside0.mk hl
 have HC := Aside0.mk hc
 have HY := Aside0.mk hb
 clear hl hc hb
 obtain ⟨L0, HB⟩ := al1 w #[.slice none 0 0, .slice none 0 0] 26
 go_enter Tryz.func49, Tryz.ntmps49
 go_wp2_with (first | (go_at_call 33; go_must ((refine (open_calls A c l _ (Kd.C_below HL.out HB.out) HC.out HY.out).mono ?_); rintro e u0 ⟨G, rfl, hrd_, hge_, hb⟩; have HU0 := Aside0.mk (show w.heap.size + 1 ≤ G ∧ G < u0.heap.size from ⟨by have := blk_lt L0.out; omega, hrd_.lt.1⟩); have HRD := Aside0.mk hrd_; replace HB := Aside0.mk (below_step HB.out hb); replace L0 := Aside0.mk (blk_below L0.out hb); (try clear rc0 rc1); obtain ⟨rc0, rc1⟩ := cs2 (L0.out); clear hrd_ hge_ hb)) | (go_at_call 106; go_must ((refine (some_calls _ G 0 _ HRD.out (by omega)).mono ?_); rintro e u1 ⟨⟨A2, c2, ns2, B2, d2, es2, y, rfl, hgr_, hfa_, hfb_, hn_, he_⟩, hd⟩; replace L0 := Aside0.mk (blk_g hd.gr L0.out (by have := HU0.out; omega)); have HNJ := Aside0.mk (And.intro hfa_ hfb_); have HGS := Aside0.mk hgr_; have HLM := Aside0.mk (And.intro hn_ he_); replace HB := Aside0.mk (below_gr HB.out hd.gr (by have := HU0.out; omega)); (try clear rc0 rc1); obtain ⟨rc0, rc1⟩ := cs2 (L0.out); clear hgr_ hfa_ hfb_ hn_ he_ hd)) | ((with_reducible refine gate_dst (N := 3) rfl ?_); go_must ((refine w_new #[.slice none 0 0, .slice none 0 0] 26 rfl (by go_simp; (first | done | rfl)) ?_); intro g3 u_ hge_ hb0_ hb; have HN3 := Aside0.mk (HGS.out.new hge_); have Hg3 := Aside0.mk (show w.heap.size + 1 ≤ g3 from by have hl0_ := blk_lt L0.out; exact by omega); have L3 := Aside0.mk hb0_; replace HB := Aside0.mk (below_step HB.out hb); replace L0 := Aside0.mk (blk_below L0.out hb); replace HGS := Aside0.mk (HGS.out.below hb); clear hge_ hb0_ hb; (try clear rc0 rc1); obtain ⟨rc0, rc1⟩ := cs2 (L0.out); (try clear tc0 tc1); obtain ⟨tc0, tc1⟩ := cs2 (L3.out))) | ((with_reducible refine gate_dst (N := 4) rfl ?_); go_must ((refine w_new #[.int .i64 0, .int .i64 0] 28 rfl (by go_simp; (first | done | rfl)) ?_); intro g4 u_ hge_ hb0_ hb; have HN4 := Aside0.mk (HGS.out.new hge_); have Hg4 := Aside0.mk (show w.heap.size + 1 ≤ g4 ∧ g3 < g4 from by have hl0_ := blk_lt L0.out; have hl_g3 := blk_lt L3.out; exact ⟨by omega, by omega⟩); have L4 := Aside0.mk hb0_; replace HB := Aside0.mk (below_step HB.out hb); replace L0 := Aside0.mk (blk_below L0.out hb); replace L3 := Aside0.mk (blk_below L3.out hb); replace HGS := Aside0.mk (HGS.out.below hb); clear hge_ hb0_ hb; (try clear rc0 rc1); obtain ⟨rc0, rc1⟩ := cs2 (L0.out); (try clear tc0 tc1); obtain ⟨tc0, tc1⟩ := cs2 (L3.out); (try clear nc0 nc1); obtain ⟨nc0, nc1⟩ := cs2 (L4.out))) | ((with_reducible refine gate_store (p := 3) rfl ?_); go_must ((refine wpList_plain rfl fun K_ hK_ => wp_store_row _ _ _ rfl (g3) #[.slice A2 ns2.length c2, .slice B2 es2.length d2] rfl rfl _ _ L3.out (by kernel_rfl) rfl (by simp [Value.oneCell']) (hK_ _ _ ?_)); refine named _ ?_; intro wz hwz; replace HB := Aside0.mk (sb_ hwz HB.out (by have := Hg3.out; have := Hg4.out; omega)); replace L0 := Aside0.mk (so_ hwz L0.out (by have := Hg3.out; have := Hg4.out; omega)); replace L4 := Aside0.mk (so_ hwz L4.out (by have := Hg3.out; have := Hg4.out; omega)); replace L3 := Aside0.mk (sh_ hwz L3.out); replace HGS := Aside0.mk ((HGS.out).keep (hwz ▸ grown_setRow _ _ _) (by first | exact HN3.out.1 | exact HN4.out.1 | exact HNJ.out.1.notIn (by have := HU0.out; omega)) (by first | exact HN3.out.2 | exact HN4.out.2 | exact HNJ.out.2.notIn (by have := HU0.out; omega))); (try clear rc0 rc1); obtain ⟨rc0, rc1⟩ := cs2 (L0.out); (try clear tc0 tc1); obtain ⟨tc0, tc1⟩ := cs2 (L3.out); (try clear nc0 nc1); obtain ⟨nc0, nc1⟩ := cs2 (L4.out); clear hwz)) | ((with_reducible refine gate_store (p := 4) rfl ?_); go_must ((refine wpList_plain rfl fun K_ hK_ => wp_store_row _ _ _ rfl (g4) #[.int .i64 y.lab, .int .i64 y.num] rfl rfl _ _ L4.out (by kernel_rfl) rfl (by simp [Value.oneCell']) (hK_ _ _ ?_)); refine named _ ?_; intro wz hwz; replace HB := Aside0.mk (sb_ hwz HB.out (by have := Hg3.out; have := Hg4.out; omega)); replace L0 := Aside0.mk (so_ hwz L0.out (by have := Hg3.out; have := Hg4.out; omega)); replace L3 := Aside0.mk (so_ hwz L3.out (by have := Hg3.out; have := Hg4.out; omega)); replace L4 := Aside0.mk (sh_ hwz L4.out); replace HGS := Aside0.mk ((HGS.out).keep (hwz ▸ grown_setRow _ _ _) (by first | exact HN3.out.1 | exact HN4.out.1 | exact HNJ.out.1.notIn (by have := HU0.out; omega)) (by first | exact HN3.out.2 | exact HN4.out.2 | exact HNJ.out.2.notIn (by have := HU0.out; omega))); (try clear rc0 rc1); obtain ⟨rc0, rc1⟩ := cs2 (L0.out); (try clear tc0 tc1); obtain ⟨tc0, tc1⟩ := cs2 (L3.out); (try clear nc0 nc1); obtain ⟨nc0, nc1⟩ := cs2 (L4.out); clear hwz)) | ((with_reducible refine gate_store (p := 2) rfl ?_); go_must ((refine wpList_plain rfl fun K_ hK_ => wp_store_row _ _ _ rfl (w.heap.size) #[.slice A2 ns2.length c2, .slice B2 es2.length d2] rfl rfl _ _ L0.out (by kernel_rfl) rfl (by simp [Value.oneCell']) (hK_ _ _ ?_)); refine named _ ?_; intro wz hwz; replace HB := Aside0.mk (sb_ hwz HB.out (by have := Hg3.out; have := Hg4.out; omega)); replace L3 := Aside0.mk (so_ hwz L3.out (by have := Hg3.out; have := Hg4.out; omega)); replace L4 := Aside0.mk (so_ hwz L4.out (by have := Hg3.out; have := Hg4.out; omega)); replace L0 := Aside0.mk (sh_ hwz L0.out); replace HGS := Aside0.mk ((HGS.out).keep (hwz ▸ grown_setRow _ _ _) (by first | exact HN3.out.1 | exact HN4.out.1 | exact HNJ.out.1.notIn (by have := HU0.out; omega)) (by first | exact HN3.out.2 | exact HN4.out.2 | exact HNJ.out.2.notIn (by have := HU0.out; omega))); (try clear rc0 rc1); obtain ⟨rc0, rc1⟩ := cs2 (L0.out); (try clear tc0 tc1); obtain ⟨tc0, tc1⟩ := cs2 (L3.out); (try clear nc0 nc1); obtain ⟨nc0, nc1⟩ := cs2 (L4.out); clear hwz)))
 exact bodyPost_ret (results_cell_row rfl _ _ w.heap.size _ #[.slice A2 ns2.length c2, .slice B2 es2.length d2] (0, 0) _ rfl L0.out Tryz.underlying26 rfl (by kernel_rfl)) rfl ⟨⟨A2, c2, ns2, B2, d2, es2, rfl, HGS.out, HNJ.out.1.mono (by have := HU0.out; omega), HNJ.out.2.mono (by have := HU0.out; omega), HLM.out.1, HLM.out.2⟩, HB.out⟩
set_option maxHeartbeats 3200000 in
set_option maxRecDepth 100000 in
theorem drawWC_calls (A : Option Addr) (c : Nat) (l : List Int) (w : World) (hl : (Kd.int .u8).C w A l.length l) (hc : l.length ≤ c) (hb : ∀ x ∈ l, 0 ≤ x ∧ x < 256) :
 Calls Tryz.prog 16 #[.slice A l.length c] w fun e w' => SomeGP w.heap.size e w' ∧ Below w.heap.size w w' := by
 have HL := Aside0.mk hl
 have HC := Aside0.mk hc
 have HY := Aside0.mk hb
 clear hl hc hb
 obtain ⟨L0, HB⟩ := al1 w #[.slice none 0 0, .slice none 0 0] 26
 go_enter Tryz.func16, Tryz.ntmps16
 go_wp2_with (first | (go_at_call 49; go_must ((refine (drawWP_calls A c l _ (Kd.C_below HL.out HB.out) HC.out HY.out).mono ?_); rintro e u_ ⟨⟨A2, c2, ns2, B2, d2, es2, rfl, hgr_, hfa_, hfb_, hn_, he_⟩, hb⟩; have HGS := Aside0.mk hgr_; have HLM := Aside0.mk (And.intro hn_ he_); have HNZ := Aside0.mk (And.intro (hfa_.mono (blk_lt L0.out)) (hfb_.mono (blk_lt L0.out))); clear hgr_ hfa_ hfb_ hn_ he_; replace HB := Aside0.mk (below_step HB.out hb); replace L0 := Aside0.mk (blk_below L0.out hb); (try clear rc0 rc1); obtain ⟨rc0, rc1⟩ := cs2 (L0.out); clear hb)) | ((with_reducible refine gate_store (p := 2) rfl ?_); go_must ((refine wpList_plain rfl fun K_ hK_ => wp_store_row _ _ _ rfl (w.heap.size) #[.slice A2 ns2.length c2, .slice B2 es2.length d2] rfl rfl _ _ L0.out (by kernel_rfl) rfl (by simp [Value.oneCell']) (hK_ _ _ ?_)); refine named _ ?_; intro wz hwz; replace HB := Aside0.mk (sb_ hwz HB.out (by omega)); replace L0 := Aside0.mk (sh_ hwz L0.out); replace HGS := Aside0.mk ((HGS.out).keep (hwz ▸ grown_setRow _ _ _) (HNZ.out.1.notIn (Nat.lt_succ_self _)) (HNZ.out.2.notIn (Nat.lt_succ_self _))); (try clear rc0 rc1); obtain ⟨rc0, rc1⟩ := cs2 (L0.out); clear hwz)))
 exact bodyPost_ret (results_cell_row rfl _ _ w.heap.size _ #[.slice A2 ns2.length c2, .slice B2 es2.length d2] (0, 0) _ rfl L0.out Tryz.underlying26 rfl (by kernel_rfl)) rfl ⟨⟨A2, c2, ns2, B2, d2, es2, rfl, HGS.out, HNZ.out.1.mono (Nat.le_succ _), HNZ.out.2.mono (Nat.le_succ _), HLM.out.1, HLM.out.2⟩, HB.out⟩
end Go.Proofs.YtogmbeifbjgphaaGreat.R
namespace Go.Proofs.YtogmbeifbjgphaaGreat.R
open Go.RowKit Go.Proofs.YtogmbeifbjgphaaGreatV.PrintWords Go.Proofs.YtogmbeifbjgphaaGreatV.PrintLast Go.Proofs.YtogmbeifbjgphaaGreatV.PrintMore Go.Proofs.YtogmbeifbjgphaaGreat.M
set_option linter.unusedVariables false
set_option linter.unusedSimpArgs false
attribute [local go_sem high] eqN eqE
/-- Where a node stands, or -1. -/
def placeI (ns : List Nd) (n : Nd) : Int := if n ∈ ns then (idx ns n : Int) else -1
theorem placeI_in {ns : List Nd} {n : Nd} (h : n ∈ ns) : placeI ns n = (idx ns n : Int) := if_pos h
theorem placeI_out {ns : List Nd} {n : Nd} (h : n ∉ ns) : placeI ns n = -1 := if_neg h
theorem placeN_idx {ns : List Nd} (ha : Asc code ns) {n : Nd} (h : n ∈ ns) : placeN ns n = idx ns n := by
 have h1 := idx_lt h
 have h2 := ha.place h1
 have h3 : ns[idx ns n] = n := (at_lt h1).symm.trans (at_idx h)
 rw [h3] at h2
 exact h2
set_option maxHeartbeats 3200000 in
set_option maxRecDepth 100000 in
theorem nodePlace_calls (A : Option Addr) (c : Nat) (ns : List Nd) (B : Option Addr) (d : Nat) (es : List Eg) (n : Nd) (w : World) (hr : GR w A c ns B d es) (hns : NsOk ns) :
 Calls Tryz.prog 46 #[.agg #[.slice A ns.length c, .slice B es.length d], .agg #[.int .i64 n.lab, .int .i64 n.num]] w fun e w' => e = .returned (.int .i64 (placeI ns n)) ∧ Below w.heap.size w w' := by
 have HR := Aside0.mk hr
 have HNS := Aside0.mk hns
 clear hr hns
 obtain ⟨v, hv⟩ : ∃ v, okN n = v := ⟨_, rfl⟩
 have HOK := Aside0.mk hv
 clear hv
 obtain ⟨L0, L1, HB⟩ := al2 w #[.slice A ns.length c, .slice B es.length d] #[.int .i64 n.lab, .int .i64 n.num] 26 28
 cases v
 ·have HP := Aside0.mk (show placeI ns n = -1 from placeI_out fun h => by have := HNS.out.ok n h; rw [HOK.out] at this; cases this)
  go_enter Tryz.func46, Tryz.ntmps46
  go_wp2_with (first | (go_at_call 74; go_must ((refine (nodeOk_calls n _).mono ?_); rintro e u_ ⟨rfl, hb⟩; rw [HOK.out]; replace HB := Aside0.mk (below_step HB.out hb); replace L0 := Aside0.mk (blk_below L0.out hb); replace L1 := Aside0.mk (blk_below L1.out hb); (try clear c0 c1); obtain ⟨c0, c1⟩ := cs2 (L0.out); (try clear e0 e1); obtain ⟨e0, e1⟩ := cs2 (L1.out); clear hb)))
  go_ret
  exact ⟨retI HP.out.symm, HB.out⟩
 ·obtain ⟨t, ht⟩ : ∃ t, decide (n ∈ ns) = t := ⟨_, rfl⟩
  have HT := Aside0.mk ht
  clear ht
  cases t
  ·have HP := Aside0.mk (show placeI ns n = -1 from placeI_out (of_decide_eq_false HT.out))
   go_enter Tryz.func46, Tryz.ntmps46
   go_wp2_with (first | (go_at_call 74; go_must ((refine (nodeOk_calls n _).mono ?_); rintro e u_ ⟨rfl, hb⟩; rw [HOK.out]; replace HB := Aside0.mk (below_step HB.out hb); replace L0 := Aside0.mk (blk_below L0.out hb); replace L1 := Aside0.mk (blk_below L1.out hb); (try clear c0 c1); obtain ⟨c0, c1⟩ := cs2 (L0.out); (try clear e0 e1); obtain ⟨e0, e1⟩ := cs2 (L1.out); clear hb)) | (go_at_call 88; go_must ((refine (bsN_ok A c ns n _ (Kd.C_below HR.out.cn HB.out) HNS.out HOK.out).mono ?_); rintro e u_ ⟨rfl, hb⟩; rw [HT.out]; replace HB := Aside0.mk (below_step HB.out hb); replace L0 := Aside0.mk (blk_below L0.out hb); replace L1 := Aside0.mk (blk_below L1.out hb); (try clear c0 c1); obtain ⟨c0, c1⟩ := cs2 (L0.out); (try clear e0 e1); obtain ⟨e0, e1⟩ := cs2 (L1.out); clear hb)))
   go_ret
   exact ⟨retI HP.out.symm, HB.out⟩
  ·have HP := Aside0.mk (show placeI ns n = (placeN ns n : Int) by rw [placeI_in (of_decide_eq_true HT.out), placeN_idx HNS.out.asc (of_decide_eq_true HT.out)])
   go_enter Tryz.func46, Tryz.ntmps46
   go_wp2_with (first | (go_at_call 74; go_must ((refine (nodeOk_calls n _).mono ?_); rintro e u_ ⟨rfl, hb⟩; rw [HOK.out]; replace HB := Aside0.mk (below_step HB.out hb); replace L0 := Aside0.mk (blk_below L0.out hb); replace L1 := Aside0.mk (blk_below L1.out hb); (try clear c0 c1); obtain ⟨c0, c1⟩ := cs2 (L0.out); (try clear e0 e1); obtain ⟨e0, e1⟩ := cs2 (L1.out); clear hb)) | (go_at_call 88; go_must ((refine (bsN_ok A c ns n _ (Kd.C_below HR.out.cn HB.out) HNS.out HOK.out).mono ?_); rintro e u_ ⟨rfl, hb⟩; rw [HT.out]; replace HB := Aside0.mk (below_step HB.out hb); replace L0 := Aside0.mk (blk_below L0.out hb); replace L1 := Aside0.mk (blk_below L1.out hb); (try clear c0 c1); obtain ⟨c0, c1⟩ := cs2 (L0.out); (try clear e0 e1); obtain ⟨e0, e1⟩ := cs2 (L1.out); clear hb)))
   go_ret
   exact ⟨retI HP.out.symm, HB.out⟩
end Go.Proofs.YtogmbeifbjgphaaGreat.R
