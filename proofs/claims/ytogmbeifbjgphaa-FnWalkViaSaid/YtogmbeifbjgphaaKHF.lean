/- Draws: a graph and a node, most often one that is there. -/
import Derived.Test.YtogmbeifbjgphaaKB22
namespace Go.Proofs.Ytogmbeifbjgphaa.R
open Go.RowKit Go.Proofs.YtogmbeifbjgphaaV.PrintWords Go.Proofs.YtogmbeifbjgphaaV.PrintLast Go.Proofs.YtogmbeifbjgphaaV.PrintMore Go.Proofs.Ytogmbeifbjgphaa.M
set_option linter.unusedVariables false
set_option linter.unusedSimpArgs false
attribute [local go_sem high] eqN eqE
abbrev sSm3 : List (Nat × Bool) := [(0, true), (1, true), (2, true), (3, true), (4, true), (5, true), (6, true), (7, false), (8, true), (9, true), (10, false)]
theorem sSm3_ok : schedE .any (opsOf Try.f132 3) 11 sSm3 (Array.replicate (opsOf Try.f132 3).size false) = true := by kernel_rfl
abbrev sSm4 : List (Nat × Bool) := [(0, true), (1, true), (2, false), (3, false)]
theorem sSm4_ok : schedE .any (opsOf Try.f132 4) 4 sSm4 (Array.replicate (opsOf Try.f132 4).size false) = true := by kernel_rfl
/-- A graph and a node that come back: whatever they are, of bounded size, behind block b. -/
def SomeGN1 (b : Nat) (e : Ending) (w' : World) : Prop := ∃ A c ns B d es, ∃ x : Nd, e = .returned (.tuple #[.agg #[.slice A (ns : List Nd).length c, .slice B (es : List Eg).length d], .agg #[.int .i64 x.lab, .int .i64 x.num]]) ∧ GR w' A c ns B d es ∧ Fresh b A ∧ Fresh b B ∧ ns.length ≤ 100 ∧ es.length ≤ 100
set_option maxHeartbeats 12800000 in
set_option maxRecDepth 100000 in
theorem some_calls (b G p : Nat) (w : World) (hr : Rd b w G p) (hp : p + 900 ≤ 600000) :
    Calls Try.prog 132 #[.pointer (some ⟨G, 0, none⟩)] w fun e w' => SomeGN1 w.heap.size e w' ∧ Dw b w w' G p 820 := by
  have HG := Aside0.mk hr.lt
  have HP := Aside0.mk hp
  have HD := Aside0.mk (((Dw.refl hr (k := 0)).alloc (.cells #[.slice none 0 0, .slice none 0 0] 26)).alloc (.cells #[.int .i64 0, .int .i64 0] 28))
  clear hr hp
  obtain ⟨L0, L1, HB⟩ := al2 w #[.slice none 0 0, .slice none 0 0] #[.int .i64 0, .int .i64 0] 26 28
  clear HB
  go_enter Try.func132, Try.ntmps132
  go_upto_region 2 with (first | (go_at_call 88; go_must ((refine (draw_lift (lim := 600000) (fun q hq hl => graph_calls _ G q _ hq (by omega)) HD.out (by have := HP.out; omega)).mono ?_); rintro e u_ ⟨⟨A1, c1, ns1, B1, d1, es1, rfl, hgr_, hfa_, hfb_, hn_, he_⟩, hd, hg⟩; have HNI := Aside0.mk (show NotIn G A1 ns1.length ∧ NotIn G B1 es1.length from ⟨hfa_.notIn (by have := HD.out.le; have := HG.out; omega), hfb_.notIn (by have := HD.out.le; have := HG.out; omega)⟩); have HGR := Aside0.mk hgr_; have HLN := Aside0.mk (And.intro hn_ he_); clear hgr_ hfa_ hfb_ hn_ he_; replace HD := Aside0.mk hd; replace L0 := Aside0.mk (blk_g hg L0.out (by have := HG.out; omega)); replace L1 := Aside0.mk (blk_g hg L1.out (by have := HG.out; omega)); (try clear rc0 rc1); obtain ⟨rc0, rc1⟩ := cs2 (L0.out); (try clear oc0 oc1); obtain ⟨oc0, oc1⟩ := cs2 (L1.out); clear hd hg)) | (go_at_call 87; go_must ((refine (draw_lift (lim := 600000) (fun q hq hl => bent_calls _ G q A1 c1 ns1 B1 d1 es1 _ hq (by omega) HGR.out HNI.out.1 HNI.out.2 (by have := HLN.out; omega) (by have := HLN.out; omega)) HD.out (by have := HP.out; omega)).mono ?_); rintro e u_ ⟨⟨A2, c2, ns2, B2, d2, es2, rfl, hgr_, hfa_, hfb_, hn_, he_⟩, hd, hg⟩; have HNJ := Aside0.mk (show Fresh w.heap.size A2 ∧ Fresh w.heap.size B2 from ⟨hfa_.mono HD.out.le, hfb_.mono HD.out.le⟩); have HFJ := Aside0.mk (show Fresh (w.heap.size + 2) A2 ∧ Fresh (w.heap.size + 2) B2 from ⟨hfa_.mono (blk_lt L1.out), hfb_.mono (blk_lt L1.out)⟩); have HGS := Aside0.mk hgr_; have HLM := Aside0.mk (show ns2.length ≤ 100 ∧ es2.length ≤ 100 by have := HLN.out; omega); clear hgr_ hfa_ hfb_ hn_ he_; replace HD := Aside0.mk hd; replace L0 := Aside0.mk (blk_g hg L0.out (by have := HG.out; omega)); replace L1 := Aside0.mk (blk_g hg L1.out (by have := HG.out; omega)); (try clear rc0 rc1); obtain ⟨rc0, rc1⟩ := cs2 (L0.out); (try clear oc0 oc1); obtain ⟨oc0, oc1⟩ := cs2 (L1.out); clear hd hg)) | ((with_reducible refine gate_dst (N := 4) rfl ?_); go_must ((refine w_new #[.slice none 0 0, .slice none 0 0] 26 rfl (by go_simp; (first | done | rfl)) ?_); intro g5 u_ hge_ hb0_ hb; have HU5 := Aside0.mk (Nat.le_trans HD.out.le hge_); have HNT := Aside0.mk (HGS.out.new hge_); have Hg5 := Aside0.mk (show w.heap.size + 2 ≤ g5 from by have hl0_ := blk_lt L1.out; exact by omega); have L5 := Aside0.mk hb0_; replace HD := Aside0.mk (HD.out.below hb); replace L0 := Aside0.mk (blk_below L0.out hb); replace L1 := Aside0.mk (blk_below L1.out hb); replace HGS := Aside0.mk (HGS.out.below hb); clear hge_ hb0_ hb; (try clear rc0 rc1); obtain ⟨rc0, rc1⟩ := cs2 (L0.out); (try clear oc0 oc1); obtain ⟨oc0, oc1⟩ := cs2 (L1.out); (try clear tc0 tc1); obtain ⟨tc0, tc1⟩ := cs2 (L5.out))) | ((with_reducible refine gate_store (p := 4) rfl ?_); go_must ((refine wpList_plain rfl fun K_ hK_ => wp_store_row _ _ _ rfl (g5) #[.slice A2 ns2.length c2, .slice B2 es2.length d2] rfl rfl _ _ L5.out (by kernel_rfl) rfl (by simp [Value.oneCell']) (hK_ _ _ ?_)); refine named _ ?_; intro wz hwz; have HDz := HD.out.over (grown_setRow _ (g5) #[.slice A2 ns2.length c2, .slice B2 es2.length d2]) (by have := HG.out; have := Hg5.out; have := HU5.out; omega) (by have := HG.out; have := Hg5.out; have := HU5.out; omega); rw [← hwz] at HDz; replace HD := Aside0.mk HDz; clear HDz; replace L0 := Aside0.mk (so_ hwz L0.out (by have := HG.out; have := Hg5.out; have := HU5.out; omega)); replace L1 := Aside0.mk (so_ hwz L1.out (by have := HG.out; have := Hg5.out; have := HU5.out; omega)); replace L5 := Aside0.mk (sh_ hwz L5.out); replace HGS := Aside0.mk ((HGS.out).keep (hwz ▸ grown_setRow _ _ _) HNT.out.1 HNT.out.2); (try clear rc0 rc1); obtain ⟨rc0, rc1⟩ := cs2 (L0.out); (try clear oc0 oc1); obtain ⟨oc0, oc1⟩ := cs2 (L1.out); (try clear tc0 tc1); obtain ⟨tc0, tc1⟩ := cs2 (L5.out); clear hwz)))
  by_cases hlen : 0 < ns2.length
  · obtain ⟨ad, rfl⟩ : ∃ ad, A2 = some ad := by obtain ⟨ad, e, _⟩ := HGS.out.cn.2.2 (by omega); exact ⟨ad, e⟩
    have hl1 : (0 : Int) < (ns2.length : Int) := by omega
    have HX1 := Aside0.mk (show (1 : Int) ≤ (ns2.length : Int) by omega)
    clear hlen
    go_wp2_with (first | (go_at_call 111; go_must ((refine (draw_lift (lim := 700000) (fun q hq hl => pick_any _ G q _ _ hq (by omega)) HD.out (by have := HP.out; omega)).mono ?_); rintro e u_ ⟨⟨m8, rfl, -⟩, hd, hg⟩; replace HD := Aside0.mk hd; replace L0 := Aside0.mk (blk_g hg L0.out (by have := HG.out; have := Hg5.out; have := HU5.out; omega)); replace L1 := Aside0.mk (blk_g hg L1.out (by have := HG.out; have := Hg5.out; have := HU5.out; omega)); replace L5 := Aside0.mk (blk_g hg L5.out (by have := HG.out; have := Hg5.out; have := HU5.out; omega)); replace HGS := Aside0.mk (HGS.out.keep hg (HNJ.out.1.notIn (by have := HG.out; omega)) (HNJ.out.2.notIn (by have := HG.out; omega))); (try clear rc0 rc1); obtain ⟨rc0, rc1⟩ := cs2 (L0.out); (try clear oc0 oc1); obtain ⟨oc0, oc1⟩ := cs2 (L1.out); (try clear tc0 tc1); obtain ⟨tc0, tc1⟩ := cs2 (L5.out); clear hd hg; by_cases hm8 : (0 : Int) < (m8 : Int))))
    · have HGW := HGS
      have ZL1 := L1
      have ZL5 := L5
      refine region_ke G (some (w.heap.size)) 11 sSm3 (by kernel_rfl) sSm3_ok (by decide) (fun d _ _ _ _ h => by cases d <;> exact h) ?_
      intro u hb hS
      replace HD := Aside0.mk (HD.out.below hb)
      replace L0 := Aside0.mk (blk_below L0.out hb)
      replace L1 := Aside0.mk (blk_below L1.out hb)
      replace L5 := Aside0.mk (blk_below L5.out hb)
      replace HGS := Aside0.mk (HGS.out.below hb)
      (try clear rc0 rc1)
      obtain ⟨rc0, rc1⟩ := cs2 (L0.out)
      (try clear oc0 oc1)
      obtain ⟨oc0, oc1⟩ := cs2 (L1.out)
      (try clear tc0 tc1)
      obtain ⟨tc0, tc1⟩ := cs2 (L5.out)
      clear hb
      repeat (first | (refine h_off gt_ (by rfl) ?_; intro a_ ha_; (simp only [Act.put, List.setIfInBounds_toArray, List.set_cons_zero, List.set_cons_succ] at ha_); subst ha_) | (refine h_on (v := ?_) gt_ (by rfl) ?_ ?_; rotate_left; (· rintro w_ hS_; obtain ⟨oc0_, oc1_⟩ := cs2 (kb_blk hS_ ZL1.out (by have := HG.out; have := Hg5.out; have := HU5.out; omega) (fun e => by have := Option.some.inj e; have := HG.out; have := Hg5.out; have := HU5.out; omega)); obtain ⟨tc0_, tc1_⟩ := cs2 (kb_blk hS_ ZL5.out (by have := HG.out; have := Hg5.out; have := HU5.out; omega) (fun e => by have := Option.some.inj e; have := HG.out; have := Hg5.out; have := HU5.out; omega)); (try (have hr_ := kb_nd hS_ r0 r1 HAB.out.1 (fun e => by have := Option.some.inj e; have := HAB.out.2; have := HG.out; omega); obtain ⟨r0_, r1_⟩ := hr_)); go_simp; with_reducible rfl); intro a_ ha_; (simp only [Act.put, List.setIfInBounds_toArray, List.set_cons_zero, List.set_cons_succ] at ha_); subst ha_) | (refine h_call2 (f := 111) (args := #[.pointer (some ⟨G, 0, none⟩), .int .i64 (ns2.length : Int)]) Try.func111 (by kernel_rfl) rfl gt_ (by rfl) (by rfl) mp_ ?_; (refine (draw_lift (lim := 700000) (fun q hq hl => pick_any _ G q _ _ hq (by omega)) HD.out (by have := HP.out; omega)).mono ?_); rintro e_ u_ ⟨⟨m, rfl, hm_⟩, hd, hg⟩; have HM := Aside0.mk (hm_ HX1.out); clear hm_; obtain ⟨ad_, e1_, r0, r1⟩ := nd_at HGW.out.cn m (by have := HM.out; omega); obtain rfl : ad = ad_ := Option.some.inj e1_; clear e1_; generalize at_ ns2 m = y at r0 r1; have HAB := Aside0.mk (show (ad.add (m * 2)).block ≠ G ∧ w.heap.size + 2 ≤ (ad.add (m * 2)).block by rw [add_block]; have h9 := HFJ.out.1 ad rfl; have := HG.out; exact ⟨by omega, h9⟩); have q1_ : (m : Int) < (ns2.length : Int) := HM.out; replace HD := Aside0.mk hd; replace L0 := Aside0.mk (blk_g hg L0.out (by have := HG.out; have := Hg5.out; have := HU5.out; omega)); replace L1 := Aside0.mk (blk_g hg L1.out (by have := HG.out; have := Hg5.out; have := HU5.out; omega)); replace L5 := Aside0.mk (blk_g hg L5.out (by have := HG.out; have := Hg5.out; have := HU5.out; omega)); replace HGS := Aside0.mk (HGS.out.keep hg (HNJ.out.1.notIn (by have := HG.out; omega)) (HNJ.out.2.notIn (by have := HG.out; omega))); (try clear rc0 rc1); obtain ⟨rc0, rc1⟩ := cs2 (L0.out); (try clear oc0 oc1); obtain ⟨oc0, oc1⟩ := cs2 (L1.out); (try clear tc0 tc1); obtain ⟨tc0, tc1⟩ := cs2 (L5.out); replace hS := kb_grown hS hg (fun k _ e => .inl (Option.some.inj e)); refine ⟨_, rfl, hS, fun a_ ha_ => ?_⟩; (simp only [Act.put, List.setIfInBounds_toArray, List.set_cons_zero, List.set_cons_succ] at ha_); subst ha_; clear hd hg) | (refine h_row (w.heap.size) #[.slice (some ad) ns2.length c2, .slice B2 es2.length d2] _ _ L0.out gt_ (by rfl) rfl rfl rfl (by kernel_rfl) rfl (by simp [Value.oneCell']) (kb_grown hS (grown_setRow _ (w.heap.size) #[.slice (some ad) ns2.length c2, .slice B2 es2.length d2]) (fun k hk e => .inr e)) ?_; intro a_ ha_; (simp only [Act.put, List.setIfInBounds_toArray, List.set_cons_zero, List.set_cons_succ] at ha_); subst ha_; refine named _ ?_; intro wz hwz; have hS9 := kb_grown hS (grown_setRow _ (w.heap.size) #[.slice (some ad) ns2.length c2, .slice B2 es2.length d2]) (fun k hk e => .inr e); rw [← hwz] at hS9; replace hS := hS9; clear hS9; have HDz := HD.out.over (grown_setRow _ (w.heap.size) #[.slice (some ad) ns2.length c2, .slice B2 es2.length d2]) (by have := HG.out; have := Hg5.out; have := HU5.out; omega) (by have := HG.out; have := Hg5.out; have := HU5.out; omega); rw [← hwz] at HDz; replace HD := Aside0.mk HDz; clear HDz; replace L1 := Aside0.mk (so_ hwz L1.out (by have := HG.out; have := Hg5.out; have := HU5.out; omega)); replace L5 := Aside0.mk (so_ hwz L5.out (by have := HG.out; have := Hg5.out; have := HU5.out; omega)); replace L0 := Aside0.mk (sh_ hwz L0.out); replace HGS := Aside0.mk ((HGS.out).keep (hwz ▸ grown_setRow _ _ _) (HFJ.out.1.notIn (by omega)) (HFJ.out.2.notIn (by omega))); (try clear rc0 rc1); obtain ⟨rc0, rc1⟩ := cs2 (L0.out); (try clear oc0 oc1); obtain ⟨oc0, oc1⟩ := cs2 (L1.out); (try clear tc0 tc1); obtain ⟨tc0, tc1⟩ := cs2 (L5.out); clear hwz))
      clear hS ZL1 ZL5
      refine h_last gt_ (by rfl) fun K_ hK_ => ?_
      refine wp_store_row _ _ _ rfl (w.heap.size + 1) #[.int .i64 y.lab, .int .i64 y.num] rfl rfl _ _ L1.out (by kernel_rfl) rfl (by simp [Value.oneCell']) (hK_ _ _ ?_)
      refine named _ ?_
      intro wz hwz
      have HDz := HD.out.over (grown_setRow _ (w.heap.size + 1) #[.int .i64 y.lab, .int .i64 y.num]) (by have := HG.out; have := Hg5.out; have := HU5.out; omega) (by have := HG.out; have := Hg5.out; have := HU5.out; omega)
      rw [← hwz] at HDz
      replace HD := Aside0.mk HDz
      clear HDz
      replace L0 := Aside0.mk (so_ hwz L0.out (by have := HG.out; have := Hg5.out; have := HU5.out; omega))
      replace L5 := Aside0.mk (so_ hwz L5.out (by have := HG.out; have := Hg5.out; have := HU5.out; omega))
      replace L1 := Aside0.mk (sh_ hwz L1.out)
      replace HGS := Aside0.mk ((HGS.out).keep (hwz ▸ grown_setRow _ _ _) (HFJ.out.1.notIn (by omega)) (HFJ.out.2.notIn (by omega)))
      (try clear rc0 rc1)
      obtain ⟨rc0, rc1⟩ := cs2 (L0.out)
      (try clear oc0 oc1)
      obtain ⟨oc0, oc1⟩ := cs2 (L1.out)
      (try clear tc0 tc1)
      obtain ⟨tc0, tc1⟩ := cs2 (L5.out)
      clear hwz
      go_wp2_with (fail)
      exact bodyPost_ret (results_cc rfl _ _ w.heap.size (w.heap.size + 1) _ _ #[.slice (some ad) ns2.length c2, .slice B2 es2.length d2] #[.int .i64 y.lab, .int .i64 y.num] (0, 0) (0, 0) _ _ rfl L0.out Try.underlying26 rfl (by kernel_rfl) rfl L1.out Try.underlying28 rfl (by kernel_rfl)) rfl ⟨⟨(some ad), c2, ns2, B2, d2, es2, y, rfl, HGS.out, HNJ.out.1, HNJ.out.2, HLM.out.1, HLM.out.2⟩, HD.out.mono (by omega)⟩
    · have ZL1 := L1
      have ZL5 := L5
      refine region_ke G (some (w.heap.size)) 4 sSm4 (by kernel_rfl) sSm4_ok (by decide) (fun d _ _ _ _ h => by cases d <;> exact h) ?_
      intro u hb hS
      replace HD := Aside0.mk (HD.out.below hb)
      replace L0 := Aside0.mk (blk_below L0.out hb)
      replace L1 := Aside0.mk (blk_below L1.out hb)
      replace L5 := Aside0.mk (blk_below L5.out hb)
      replace HGS := Aside0.mk (HGS.out.below hb)
      (try clear rc0 rc1)
      obtain ⟨rc0, rc1⟩ := cs2 (L0.out)
      (try clear oc0 oc1)
      obtain ⟨oc0, oc1⟩ := cs2 (L1.out)
      (try clear tc0 tc1)
      obtain ⟨tc0, tc1⟩ := cs2 (L5.out)
      clear hb
      repeat (first | (refine h_off gt_ (by rfl) ?_; intro a_ ha_; (simp only [Act.put, List.setIfInBounds_toArray, List.set_cons_zero, List.set_cons_succ] at ha_); subst ha_) | (refine h_on (v := ?_) gt_ (by rfl) ?_ ?_; rotate_left; (· rintro w_ hS_; obtain ⟨oc0_, oc1_⟩ := cs2 (kb_blk hS_ ZL1.out (by have := HG.out; have := Hg5.out; have := HU5.out; omega) (fun e => by have := Option.some.inj e; have := HG.out; have := Hg5.out; have := HU5.out; omega)); obtain ⟨tc0_, tc1_⟩ := cs2 (kb_blk hS_ ZL5.out (by have := HG.out; have := Hg5.out; have := HU5.out; omega) (fun e => by have := Option.some.inj e; have := HG.out; have := Hg5.out; have := HU5.out; omega)); go_simp; with_reducible rfl); intro a_ ha_; (simp only [Act.put, List.setIfInBounds_toArray, List.set_cons_zero, List.set_cons_succ] at ha_); subst ha_) | (refine h_call2 (f := 112) (args := #[.pointer (some ⟨G, 0, none⟩)]) Try.func112 (by kernel_rfl) rfl gt_ (by rfl) (by rfl) mp_ ?_; (refine (draw_lift (lim := 700000) (fun q hq hl => node_calls _ G q _ hq (by omega)) HD.out (by have := HP.out; omega)).mono ?_); rintro e_ u_ ⟨⟨y, rfl⟩, hd, hg⟩; replace HD := Aside0.mk hd; replace L0 := Aside0.mk (blk_g hg L0.out (by have := HG.out; have := Hg5.out; have := HU5.out; omega)); replace L1 := Aside0.mk (blk_g hg L1.out (by have := HG.out; have := Hg5.out; have := HU5.out; omega)); replace L5 := Aside0.mk (blk_g hg L5.out (by have := HG.out; have := Hg5.out; have := HU5.out; omega)); replace HGS := Aside0.mk (HGS.out.keep hg (HNJ.out.1.notIn (by have := HG.out; omega)) (HNJ.out.2.notIn (by have := HG.out; omega))); (try clear rc0 rc1); obtain ⟨rc0, rc1⟩ := cs2 (L0.out); (try clear oc0 oc1); obtain ⟨oc0, oc1⟩ := cs2 (L1.out); (try clear tc0 tc1); obtain ⟨tc0, tc1⟩ := cs2 (L5.out); replace hS := kb_grown hS hg (fun k _ e => .inl (Option.some.inj e)); refine ⟨_, rfl, hS, fun a_ ha_ => ?_⟩; (simp only [Act.put, List.setIfInBounds_toArray, List.set_cons_zero, List.set_cons_succ] at ha_); subst ha_; clear hd hg) | (refine h_row (w.heap.size) #[.slice (some ad) ns2.length c2, .slice B2 es2.length d2] _ _ L0.out gt_ (by rfl) rfl rfl rfl (by kernel_rfl) rfl (by simp [Value.oneCell']) (kb_grown hS (grown_setRow _ (w.heap.size) #[.slice (some ad) ns2.length c2, .slice B2 es2.length d2]) (fun k hk e => .inr e)) ?_; intro a_ ha_; (simp only [Act.put, List.setIfInBounds_toArray, List.set_cons_zero, List.set_cons_succ] at ha_); subst ha_; refine named _ ?_; intro wz hwz; have hS9 := kb_grown hS (grown_setRow _ (w.heap.size) #[.slice (some ad) ns2.length c2, .slice B2 es2.length d2]) (fun k hk e => .inr e); rw [← hwz] at hS9; replace hS := hS9; clear hS9; have HDz := HD.out.over (grown_setRow _ (w.heap.size) #[.slice (some ad) ns2.length c2, .slice B2 es2.length d2]) (by have := HG.out; have := Hg5.out; have := HU5.out; omega) (by have := HG.out; have := Hg5.out; have := HU5.out; omega); rw [← hwz] at HDz; replace HD := Aside0.mk HDz; clear HDz; replace L1 := Aside0.mk (so_ hwz L1.out (by have := HG.out; have := Hg5.out; have := HU5.out; omega)); replace L5 := Aside0.mk (so_ hwz L5.out (by have := HG.out; have := Hg5.out; have := HU5.out; omega)); replace L0 := Aside0.mk (sh_ hwz L0.out); replace HGS := Aside0.mk ((HGS.out).keep (hwz ▸ grown_setRow _ _ _) (HFJ.out.1.notIn (by omega)) (HFJ.out.2.notIn (by omega))); (try clear rc0 rc1); obtain ⟨rc0, rc1⟩ := cs2 (L0.out); (try clear oc0 oc1); obtain ⟨oc0, oc1⟩ := cs2 (L1.out); (try clear tc0 tc1); obtain ⟨tc0, tc1⟩ := cs2 (L5.out); clear hwz))
      clear hS ZL1 ZL5
      refine h_last gt_ (by rfl) fun K_ hK_ => ?_
      refine wp_store_row _ _ _ rfl (w.heap.size + 1) #[.int .i64 y.lab, .int .i64 y.num] rfl rfl _ _ L1.out (by kernel_rfl) rfl (by simp [Value.oneCell']) (hK_ _ _ ?_)
      refine named _ ?_
      intro wz hwz
      have HDz := HD.out.over (grown_setRow _ (w.heap.size + 1) #[.int .i64 y.lab, .int .i64 y.num]) (by have := HG.out; have := Hg5.out; have := HU5.out; omega) (by have := HG.out; have := Hg5.out; have := HU5.out; omega)
      rw [← hwz] at HDz
      replace HD := Aside0.mk HDz
      clear HDz
      replace L0 := Aside0.mk (so_ hwz L0.out (by have := HG.out; have := Hg5.out; have := HU5.out; omega))
      replace L5 := Aside0.mk (so_ hwz L5.out (by have := HG.out; have := Hg5.out; have := HU5.out; omega))
      replace L1 := Aside0.mk (sh_ hwz L1.out)
      replace HGS := Aside0.mk ((HGS.out).keep (hwz ▸ grown_setRow _ _ _) (HFJ.out.1.notIn (by omega)) (HFJ.out.2.notIn (by omega)))
      (try clear rc0 rc1)
      obtain ⟨rc0, rc1⟩ := cs2 (L0.out)
      (try clear oc0 oc1)
      obtain ⟨oc0, oc1⟩ := cs2 (L1.out)
      (try clear tc0 tc1)
      obtain ⟨tc0, tc1⟩ := cs2 (L5.out)
      clear hwz
      go_wp2_with (fail)
      exact bodyPost_ret (results_cc rfl _ _ w.heap.size (w.heap.size + 1) _ _ #[.slice (some ad) ns2.length c2, .slice B2 es2.length d2] #[.int .i64 y.lab, .int .i64 y.num] (0, 0) (0, 0) _ _ rfl L0.out Try.underlying26 rfl (by kernel_rfl) rfl L1.out Try.underlying28 rfl (by kernel_rfl)) rfl ⟨⟨(some ad), c2, ns2, B2, d2, es2, y, rfl, HGS.out, HNJ.out.1, HNJ.out.2, HLM.out.1, HLM.out.2⟩, HD.out.mono (by omega)⟩
  · have hl1 : ¬ (0 : Int) < (ns2.length : Int) := by omega
    clear hlen
    go_wp2_with (fail)
    have ZL1 := L1
    have ZL5 := L5
    refine region_ke G (some (w.heap.size)) 4 sSm4 (by kernel_rfl) sSm4_ok (by decide) (fun d _ _ _ _ h => by cases d <;> exact h) ?_
    intro u hb hS
    replace HD := Aside0.mk (HD.out.below hb)
    replace L0 := Aside0.mk (blk_below L0.out hb)
    replace L1 := Aside0.mk (blk_below L1.out hb)
    replace L5 := Aside0.mk (blk_below L5.out hb)
    replace HGS := Aside0.mk (HGS.out.below hb)
    (try clear rc0 rc1)
    obtain ⟨rc0, rc1⟩ := cs2 (L0.out)
    (try clear oc0 oc1)
    obtain ⟨oc0, oc1⟩ := cs2 (L1.out)
    (try clear tc0 tc1)
    obtain ⟨tc0, tc1⟩ := cs2 (L5.out)
    clear hb
    repeat (first | (refine h_off gt_ (by rfl) ?_; intro a_ ha_; (simp only [Act.put, List.setIfInBounds_toArray, List.set_cons_zero, List.set_cons_succ] at ha_); subst ha_) | (refine h_on (v := ?_) gt_ (by rfl) ?_ ?_; rotate_left; (· rintro w_ hS_; obtain ⟨oc0_, oc1_⟩ := cs2 (kb_blk hS_ ZL1.out (by have := HG.out; have := Hg5.out; have := HU5.out; omega) (fun e => by have := Option.some.inj e; have := HG.out; have := Hg5.out; have := HU5.out; omega)); obtain ⟨tc0_, tc1_⟩ := cs2 (kb_blk hS_ ZL5.out (by have := HG.out; have := Hg5.out; have := HU5.out; omega) (fun e => by have := Option.some.inj e; have := HG.out; have := Hg5.out; have := HU5.out; omega)); go_simp; with_reducible rfl); intro a_ ha_; (simp only [Act.put, List.setIfInBounds_toArray, List.set_cons_zero, List.set_cons_succ] at ha_); subst ha_) | (refine h_call2 (f := 112) (args := #[.pointer (some ⟨G, 0, none⟩)]) Try.func112 (by kernel_rfl) rfl gt_ (by rfl) (by rfl) mp_ ?_; (refine (draw_lift (lim := 700000) (fun q hq hl => node_calls _ G q _ hq (by omega)) HD.out (by have := HP.out; omega)).mono ?_); rintro e_ u_ ⟨⟨y, rfl⟩, hd, hg⟩; replace HD := Aside0.mk hd; replace L0 := Aside0.mk (blk_g hg L0.out (by have := HG.out; have := Hg5.out; have := HU5.out; omega)); replace L1 := Aside0.mk (blk_g hg L1.out (by have := HG.out; have := Hg5.out; have := HU5.out; omega)); replace L5 := Aside0.mk (blk_g hg L5.out (by have := HG.out; have := Hg5.out; have := HU5.out; omega)); replace HGS := Aside0.mk (HGS.out.keep hg (HNJ.out.1.notIn (by have := HG.out; omega)) (HNJ.out.2.notIn (by have := HG.out; omega))); (try clear rc0 rc1); obtain ⟨rc0, rc1⟩ := cs2 (L0.out); (try clear oc0 oc1); obtain ⟨oc0, oc1⟩ := cs2 (L1.out); (try clear tc0 tc1); obtain ⟨tc0, tc1⟩ := cs2 (L5.out); replace hS := kb_grown hS hg (fun k _ e => .inl (Option.some.inj e)); refine ⟨_, rfl, hS, fun a_ ha_ => ?_⟩; (simp only [Act.put, List.setIfInBounds_toArray, List.set_cons_zero, List.set_cons_succ] at ha_); subst ha_; clear hd hg) | (refine h_row (w.heap.size) #[.slice A2 ns2.length c2, .slice B2 es2.length d2] _ _ L0.out gt_ (by rfl) rfl rfl rfl (by kernel_rfl) rfl (by simp [Value.oneCell']) (kb_grown hS (grown_setRow _ (w.heap.size) #[.slice A2 ns2.length c2, .slice B2 es2.length d2]) (fun k hk e => .inr e)) ?_; intro a_ ha_; (simp only [Act.put, List.setIfInBounds_toArray, List.set_cons_zero, List.set_cons_succ] at ha_); subst ha_; refine named _ ?_; intro wz hwz; have hS9 := kb_grown hS (grown_setRow _ (w.heap.size) #[.slice A2 ns2.length c2, .slice B2 es2.length d2]) (fun k hk e => .inr e); rw [← hwz] at hS9; replace hS := hS9; clear hS9; have HDz := HD.out.over (grown_setRow _ (w.heap.size) #[.slice A2 ns2.length c2, .slice B2 es2.length d2]) (by have := HG.out; have := Hg5.out; have := HU5.out; omega) (by have := HG.out; have := Hg5.out; have := HU5.out; omega); rw [← hwz] at HDz; replace HD := Aside0.mk HDz; clear HDz; replace L1 := Aside0.mk (so_ hwz L1.out (by have := HG.out; have := Hg5.out; have := HU5.out; omega)); replace L5 := Aside0.mk (so_ hwz L5.out (by have := HG.out; have := Hg5.out; have := HU5.out; omega)); replace L0 := Aside0.mk (sh_ hwz L0.out); replace HGS := Aside0.mk ((HGS.out).keep (hwz ▸ grown_setRow _ _ _) (HFJ.out.1.notIn (by omega)) (HFJ.out.2.notIn (by omega))); (try clear rc0 rc1); obtain ⟨rc0, rc1⟩ := cs2 (L0.out); (try clear oc0 oc1); obtain ⟨oc0, oc1⟩ := cs2 (L1.out); (try clear tc0 tc1); obtain ⟨tc0, tc1⟩ := cs2 (L5.out); clear hwz))
    clear hS ZL1 ZL5
    refine h_last gt_ (by rfl) fun K_ hK_ => ?_
    refine wp_store_row _ _ _ rfl (w.heap.size + 1) #[.int .i64 y.lab, .int .i64 y.num] rfl rfl _ _ L1.out (by kernel_rfl) rfl (by simp [Value.oneCell']) (hK_ _ _ ?_)
    refine named _ ?_
    intro wz hwz
    have HDz := HD.out.over (grown_setRow _ (w.heap.size + 1) #[.int .i64 y.lab, .int .i64 y.num]) (by have := HG.out; have := Hg5.out; have := HU5.out; omega) (by have := HG.out; have := Hg5.out; have := HU5.out; omega)
    rw [← hwz] at HDz
    replace HD := Aside0.mk HDz
    clear HDz
    replace L0 := Aside0.mk (so_ hwz L0.out (by have := HG.out; have := Hg5.out; have := HU5.out; omega))
    replace L5 := Aside0.mk (so_ hwz L5.out (by have := HG.out; have := Hg5.out; have := HU5.out; omega))
    replace L1 := Aside0.mk (sh_ hwz L1.out)
    replace HGS := Aside0.mk ((HGS.out).keep (hwz ▸ grown_setRow _ _ _) (HFJ.out.1.notIn (by omega)) (HFJ.out.2.notIn (by omega)))
    (try clear rc0 rc1)
    obtain ⟨rc0, rc1⟩ := cs2 (L0.out)
    (try clear oc0 oc1)
    obtain ⟨oc0, oc1⟩ := cs2 (L1.out)
    (try clear tc0 tc1)
    obtain ⟨tc0, tc1⟩ := cs2 (L5.out)
    clear hwz
    go_wp2_with (fail)
    exact bodyPost_ret (results_cc rfl _ _ w.heap.size (w.heap.size + 1) _ _ #[.slice A2 ns2.length c2, .slice B2 es2.length d2] #[.int .i64 y.lab, .int .i64 y.num] (0, 0) (0, 0) _ _ rfl L0.out Try.underlying26 rfl (by kernel_rfl) rfl L1.out Try.underlying28 rfl (by kernel_rfl)) rfl ⟨⟨A2, c2, ns2, B2, d2, es2, y, rfl, HGS.out, HNJ.out.1, HNJ.out.2, HLM.out.1, HLM.out.2⟩, HD.out.mono (by omega)⟩
end Go.Proofs.Ytogmbeifbjgphaa.R
