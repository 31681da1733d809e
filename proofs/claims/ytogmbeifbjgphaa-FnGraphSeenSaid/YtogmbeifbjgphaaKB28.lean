/- Draws: a graph and what is done to it; What the laws call, by names of what it comes to. -/
import Derived.Test.YtogmbeifbjgphaaKB27
namespace Go.Proofs.Ytogmbeifbjgphaa.R
open Go.RowKit Go.Proofs.YtogmbeifbjgphaaV.PrintWords Go.Proofs.YtogmbeifbjgphaaV.PrintLast Go.Proofs.YtogmbeifbjgphaaV.PrintMore Go.Proofs.Ytogmbeifbjgphaa.M
set_option linter.unusedVariables false
set_option linter.unusedSimpArgs false
attribute [local go_sem high] eqN eqE
abbrev sDg3 : Pl := (.tk 0 (.tk 1 (.tk 2 (.nd .one 3 (.nd .last 4 (.nd .last 5 .fin))))))
theorem sDg3_ok : planB .any (opsOf Try.f30 3) [4, 5] sDg3 (Array.replicate (opsOf Try.f30 3).size false) = true := by kernel_rfl
/-- A graph and what is done to it: whatever they are, of bounded size. -/
def SomeGO (e : Ending) (w' : World) : Prop := ∃ A c ns B d es, ∃ op : M.Op, e = .returned (.tuple #[.agg #[.slice A (ns : List Nd).length c, .slice B (es : List Eg).length d], .agg #[.int .i64 op.kind, .int .i64 op.nd.lab, .int .i64 op.nd.num, .int .i64 op.eg.lab, .int .i64 op.eg.a.lab, .int .i64 op.eg.a.num, .int .i64 op.eg.b.lab, .int .i64 op.eg.b.num]]) ∧ GR w' A c ns B d es ∧ ns.length ≤ 100 ∧ es.length ≤ 100
theorem below_gr {w u v : World} {G : Nat} (h : Below w.heap.size w u) (hg : u.grownBy v (some G)) (hG : w.heap.size ≤ G) : Below w.heap.size w v := h.grown hg h.size (fun k hk => by cases hk; exact hG)
set_option maxHeartbeats 12800000 in
set_option maxRecDepth 100000 in
theorem drawGO_calls (A : Option Addr) (c : Nat) (l : List Int) (w : World) (hl : (Kd.int .u8).C w A l.length l) (hc : l.length ≤ c) (hb : ∀ x ∈ l, 0 ≤ x ∧ x < 256) :
    Calls Try.prog 30 #[.slice A l.length c] w fun e w' => SomeGO e w' ∧ Below w.heap.size w w' := by
  have HL := Aside0.mk hl
  have HC := Aside0.mk hc
  have HY := Aside0.mk hb
  have HP := Aside0.mk (show 0 ≤ 1 by decide)
  clear hl hc hb
  obtain ⟨L0, L1, HB⟩ := al2 w #[.slice none 0 0, .slice none 0 0] #[.int .i64 0, .int .i64 0, .int .i64 0, .int .i64 0, .int .i64 0, .int .i64 0, .int .i64 0, .int .i64 0] 26 32
  go_enter Try.func30, Try.ntmps30
  go_wp2_with (first | (go_at_call 86; go_must ((refine (open_calls A c l _ (Kd.C_below HL.out HB.out) HC.out HY.out).mono ?_); rintro e u ⟨G, rfl, hrd_, hge_, hb⟩; have HB0 := Aside0.mk (below_step HB.out hb); have HG := Aside0.mk (show w.heap.size + 2 ≤ G ∧ G < u.heap.size from ⟨by have := blk_lt L1.out; omega, hrd_.lt.1⟩); replace L0 := Aside0.mk (blk_below L0.out hb); replace L1 := Aside0.mk (blk_below L1.out hb); have HD := Aside0.mk (Dw.refl hrd_ (k := 0)); (try clear rc0 rc1); obtain ⟨rc0, rc1⟩ := cs2 (L0.out); (try clear oc0 oc1 oc2 oc3 oc4 oc5 oc6 oc7); obtain ⟨oc0, oc1, oc2, oc3, oc4, oc5, oc6, oc7⟩ := cs8 (L1.out); clear hrd_ hge_ hb HB)) | (go_at_call 88; go_must ((refine (draw_lift (lim := 600000) (fun q hq hl => graph_calls _ G q _ hq (by omega)) HD.out (by have := HP.out; omega)).mono ?_); rintro e u_ ⟨⟨A1, c1, ns1, B1, d1, es1, rfl, hgr_, hfa_, hfb_, hn_, he_⟩, hd, hg⟩; have HNI := Aside0.mk (show NotIn G A1 ns1.length ∧ NotIn G B1 es1.length from ⟨hfa_.notIn (by have := HD.out.le; have := HG.out; omega), hfb_.notIn (by have := HD.out.le; have := HG.out; omega)⟩); have HGR := Aside0.mk hgr_; have HLN := Aside0.mk (And.intro hn_ he_); clear hgr_ hfa_ hfb_ hn_ he_; replace HD := Aside0.mk hd; replace L0 := Aside0.mk (blk_g hg L0.out (by have := HG.out; omega)); replace L1 := Aside0.mk (blk_g hg L1.out (by have := HG.out; omega)); (try clear rc0 rc1); obtain ⟨rc0, rc1⟩ := cs2 (L0.out); (try clear oc0 oc1 oc2 oc3 oc4 oc5 oc6 oc7); obtain ⟨oc0, oc1, oc2, oc3, oc4, oc5, oc6, oc7⟩ := cs8 (L1.out); clear hd hg)) | (go_at_call 87; go_must ((refine (draw_lift (lim := 600000) (fun q hq hl => bent_calls _ G q A1 c1 ns1 B1 d1 es1 _ hq (by omega) HGR.out HNI.out.1 HNI.out.2 (by have := HLN.out; omega) (by have := HLN.out; omega)) HD.out (by have := HP.out; omega)).mono ?_); rintro e u_ ⟨⟨A2, c2, ns2, B2, d2, es2, rfl, hgr_, hfa_, hfb_, hn_, he_⟩, hd, hg⟩; have HNJ := Aside0.mk (show Fresh u.heap.size A2 ∧ Fresh u.heap.size B2 from ⟨hfa_.mono HD.out.le, hfb_.mono HD.out.le⟩); have HGS := Aside0.mk hgr_; have HLM := Aside0.mk (show ns2.length ≤ 100 ∧ es2.length ≤ 100 by have := HLN.out; omega); clear hgr_ hfa_ hfb_ hn_ he_; replace HD := Aside0.mk hd; replace L0 := Aside0.mk (blk_g hg L0.out (by have := HG.out; omega)); replace L1 := Aside0.mk (blk_g hg L1.out (by have := HG.out; omega)); (try clear rc0 rc1); obtain ⟨rc0, rc1⟩ := cs2 (L0.out); (try clear oc0 oc1 oc2 oc3 oc4 oc5 oc6 oc7); obtain ⟨oc0, oc1, oc2, oc3, oc4, oc5, oc6, oc7⟩ := cs8 (L1.out); clear hd hg)) | ((with_reducible refine gate_dst (N := 5) rfl ?_); go_must ((refine w_new #[.slice none 0 0, .slice none 0 0] 26 rfl (by go_simp; (first | done | rfl)) ?_); intro g5 u_ hge_ hb0_ hb; have HU5 := Aside0.mk (Nat.le_trans HD.out.le hge_); have HNT := Aside0.mk (HGS.out.new hge_); have Hg5 := Aside0.mk (show w.heap.size + 2 ≤ g5 from by have hl0_ := blk_lt L1.out; exact by omega); have L5 := Aside0.mk hb0_; replace HD := Aside0.mk (HD.out.below hb); replace L0 := Aside0.mk (blk_below L0.out hb); replace L1 := Aside0.mk (blk_below L1.out hb); replace HGS := Aside0.mk (HGS.out.below hb); clear hge_ hb0_ hb; (try clear rc0 rc1); obtain ⟨rc0, rc1⟩ := cs2 (L0.out); (try clear oc0 oc1 oc2 oc3 oc4 oc5 oc6 oc7); obtain ⟨oc0, oc1, oc2, oc3, oc4, oc5, oc6, oc7⟩ := cs8 (L1.out); (try clear tc0 tc1); obtain ⟨tc0, tc1⟩ := cs2 (L5.out))) | ((with_reducible refine gate_store (p := 5) rfl ?_); go_must ((refine wpList_plain rfl fun K_ hK_ => wp_store_row _ _ _ rfl (g5) #[.slice A2 ns2.length c2, .slice B2 es2.length d2] rfl rfl _ _ L5.out (by kernel_rfl) rfl (by simp [Value.oneCell']) (hK_ _ _ ?_)); refine named _ ?_; intro wz hwz; have HDz := HD.out.over (grown_setRow _ (g5) #[.slice A2 ns2.length c2, .slice B2 es2.length d2]) (by have := HG.out; have := Hg5.out; have := HU5.out; omega) (by have := HG.out; have := Hg5.out; have := HU5.out; omega); rw [← hwz] at HDz; replace HD := Aside0.mk HDz; clear HDz; replace L0 := Aside0.mk (so_ hwz L0.out (by have := HG.out; have := Hg5.out; have := HU5.out; omega)); replace L1 := Aside0.mk (so_ hwz L1.out (by have := HG.out; have := Hg5.out; have := HU5.out; omega)); replace L5 := Aside0.mk (sh_ hwz L5.out); replace HGS := Aside0.mk (show GR wz A2 c2 ns2 B2 d2 es2 by rw [hwz]; exact (HGS.out).keep (grown_setRow _ _ _) HNT.out.1 HNT.out.2); (try clear rc0 rc1); obtain ⟨rc0, rc1⟩ := cs2 (L0.out); (try clear oc0 oc1 oc2 oc3 oc4 oc5 oc6 oc7); obtain ⟨oc0, oc1, oc2, oc3, oc4, oc5, oc6, oc7⟩ := cs8 (L1.out); (try clear tc0 tc1); obtain ⟨tc0, tc1⟩ := cs2 (L5.out); clear hwz)))
  have ZL5 := L5
  refine region_kp G none [4, 5] sDg3 (by kernel_rfl) sDg3_ok (by decide) (fun d _ _ _ _ h => by cases d <;> exact h) ?_
  intro u hb hS
  replace HD := Aside0.mk (HD.out.below hb)
  replace L0 := Aside0.mk (blk_below L0.out hb)
  replace L1 := Aside0.mk (blk_below L1.out hb)
  replace L5 := Aside0.mk (blk_below L5.out hb)
  replace HGS := Aside0.mk (HGS.out.below hb)
  (try clear rc0 rc1)
  obtain ⟨rc0, rc1⟩ := cs2 (L0.out)
  (try clear oc0 oc1 oc2 oc3 oc4 oc5 oc6 oc7)
  obtain ⟨oc0, oc1, oc2, oc3, oc4, oc5, oc6, oc7⟩ := cs8 (L1.out)
  (try clear tc0 tc1)
  obtain ⟨tc0, tc1⟩ := cs2 (L5.out)
  clear hb
  repeat (first | (refine p_off hS gt_ (by rfl) ?_; intro a_ ha_; (simp only [Act.put, List.setIfInBounds_toArray, List.set_cons_zero, List.set_cons_succ] at ha_); subst ha_) | (refine p_on (v := ?_) hS gt_ (by rfl) ?_ ?_; rotate_left; (· rintro w_ hS_; obtain ⟨tc0_, tc1_⟩ := cs2 (kb_blk hS_ ZL5.out (by have := HG.out; have := Hg5.out; have := HU5.out; omega) (fun e => by cases e)); go_simp; with_reducible rfl); intro a_ ha_; (simp only [Act.put, List.setIfInBounds_toArray, List.set_cons_zero, List.set_cons_succ] at ha_); subst ha_) | (refine p_poff gt_ (by rfl) ?_; intro a_ ha_; (simp only [Act.put, List.setIfInBounds_toArray, List.set_cons_zero, List.set_cons_succ] at ha_); subst ha_) | (refine p_pon (v := ?_) gt_ (by rfl) ?_ ?_; rotate_left; (· go_simp; with_reducible rfl); intro a_ ha_; (simp only [Act.put, List.setIfInBounds_toArray, List.set_cons_zero, List.set_cons_succ] at ha_); subst ha_) | (refine p_ooff hS gt_ (by rfl) ?_; intro a_ ha_; (simp only [Act.put, List.setIfInBounds_toArray, List.set_cons_zero, List.set_cons_succ] at ha_); subst ha_) | (refine p_loff gt_ (by rfl) ?_; intro a_ ha_; (simp only [Act.put, List.setIfInBounds_toArray, List.set_cons_zero, List.set_cons_succ] at ha_); subst ha_) | (refine p_call (f := 89) (args := #[.pointer (some ⟨G, 0, none⟩), .agg #[.slice A2 ns2.length c2, .slice B2 es2.length d2]]) Try.func89 (by kernel_rfl) rfl gt_ (by rfl) (by rfl) mp_ ?_; (refine (draw_lift (lim := 700000) (fun q hq hl => op_calls _ G q A2 c2 ns2 B2 d2 es2 _ hq (by omega) HGS.out (HNJ.out.1.notIn HG.out.2) (HNJ.out.2.notIn HG.out.2) (by have := HLM.out; omega)) HD.out (by have := HP.out; omega)).mono ?_); rintro e_ u_ ⟨⟨o, rfl⟩, hd, hg⟩; replace HD := Aside0.mk hd; replace L0 := Aside0.mk (blk_g hg L0.out (by have := HG.out; have := Hg5.out; have := HU5.out; omega)); replace L1 := Aside0.mk (blk_g hg L1.out (by have := HG.out; have := Hg5.out; have := HU5.out; omega)); replace L5 := Aside0.mk (blk_g hg L5.out (by have := HG.out; have := Hg5.out; have := HU5.out; omega)); replace HGS := Aside0.mk (HGS.out.keep hg (HNJ.out.1.notIn HG.out.2) (HNJ.out.2.notIn HG.out.2)); (try clear rc0 rc1); obtain ⟨rc0, rc1⟩ := cs2 (L0.out); (try clear oc0 oc1 oc2 oc3 oc4 oc5 oc6 oc7); obtain ⟨oc0, oc1, oc2, oc3, oc4, oc5, oc6, oc7⟩ := cs8 (L1.out); (try clear tc0 tc1); obtain ⟨tc0, tc1⟩ := cs2 (L5.out); have HB := Aside0.mk (below_gr HB0.out HD.out.gr (by have := HG.out; omega)); replace hS := kb_grown hS hg (fun k _ e => .inl (Option.some.inj e)); refine ⟨_, rfl, hS, fun a_ ha_ => ?_⟩; (simp only [Act.put, List.setIfInBounds_toArray, List.set_cons_zero, List.set_cons_succ] at ha_); subst ha_; clear hd hg) | (refine p_last gt_ (by rfl) fun K_ hK_ => ?_; refine wp_store_row _ _ _ rfl (w.heap.size) #[.slice A2 ns2.length c2, .slice B2 es2.length d2] rfl rfl _ _ L0.out (by kernel_rfl) rfl (by simp [Value.oneCell']) (hK_ _ _ ?_); (try simp only [Act.put, List.setIfInBounds_toArray, List.set_cons_zero, List.set_cons_succ]); refine named _ ?_; intro wz hwz; replace HB := Aside0.mk (sb_ hwz HB.out (by have := Hg5.out; have := HU5.out; omega)); replace L1 := Aside0.mk (so_ hwz L1.out (by have := Hg5.out; have := HU5.out; omega)); replace L5 := Aside0.mk (so_ hwz L5.out (by have := Hg5.out; have := HU5.out; omega)); replace L0 := Aside0.mk (sh_ hwz L0.out); replace HGS := Aside0.mk (show GR wz A2 c2 ns2 B2 d2 es2 by rw [hwz]; exact (HGS.out).keep (grown_setRow _ _ _) (HNJ.out.1.notIn (by have := HG.out; omega)) (HNJ.out.2.notIn (by have := HG.out; omega))); (try clear rc0 rc1); obtain ⟨rc0, rc1⟩ := cs2 (L0.out); (try clear oc0 oc1 oc2 oc3 oc4 oc5 oc6 oc7); obtain ⟨oc0, oc1, oc2, oc3, oc4, oc5, oc6, oc7⟩ := cs8 (L1.out); (try clear tc0 tc1); obtain ⟨tc0, tc1⟩ := cs2 (L5.out); clear hwz) | (refine p_last gt_ (by rfl) fun K_ hK_ => ?_; refine wp_store_row _ _ _ rfl (w.heap.size + 1) #[.int .i64 o.kind, .int .i64 o.nd.lab, .int .i64 o.nd.num, .int .i64 o.eg.lab, .int .i64 o.eg.a.lab, .int .i64 o.eg.a.num, .int .i64 o.eg.b.lab, .int .i64 o.eg.b.num] rfl rfl _ _ L1.out (by kernel_rfl) rfl (by simp [Value.oneCell']) (hK_ _ _ ?_); (try simp only [Act.put, List.setIfInBounds_toArray, List.set_cons_zero, List.set_cons_succ]); refine named _ ?_; intro wz hwz; replace HB := Aside0.mk (sb_ hwz HB.out (by have := Hg5.out; have := HU5.out; omega)); replace L0 := Aside0.mk (so_ hwz L0.out (by have := Hg5.out; have := HU5.out; omega)); replace L5 := Aside0.mk (so_ hwz L5.out (by have := Hg5.out; have := HU5.out; omega)); replace L1 := Aside0.mk (sh_ hwz L1.out); replace HGS := Aside0.mk (show GR wz A2 c2 ns2 B2 d2 es2 by rw [hwz]; exact (HGS.out).keep (grown_setRow _ _ _) (HNJ.out.1.notIn (by have := HG.out; omega)) (HNJ.out.2.notIn (by have := HG.out; omega))); (try clear rc0 rc1); obtain ⟨rc0, rc1⟩ := cs2 (L0.out); (try clear oc0 oc1 oc2 oc3 oc4 oc5 oc6 oc7); obtain ⟨oc0, oc1, oc2, oc3, oc4, oc5, oc6, oc7⟩ := cs8 (L1.out); (try clear tc0 tc1); obtain ⟨tc0, tc1⟩ := cs2 (L5.out); clear hwz))
  skip
  refine p_fin ?_
  clear hS ZL5
  go_wp2_with (fail)
  exact bodyPost_ret (results_cc rfl _ _ w.heap.size (w.heap.size + 1) _ _ #[.slice A2 ns2.length c2, .slice B2 es2.length d2] #[.int .i64 o.kind, .int .i64 o.nd.lab, .int .i64 o.nd.num, .int .i64 o.eg.lab, .int .i64 o.eg.a.lab, .int .i64 o.eg.a.num, .int .i64 o.eg.b.lab, .int .i64 o.eg.b.num] (0, 0) (0, 0) _ _ rfl L0.out Try.underlying26 rfl (by kernel_rfl) rfl L1.out Try.underlying32 rfl (by kernel_rfl)) rfl ⟨⟨A2, c2, ns2, B2, d2, es2, o, rfl, HGS.out, HLM.out.1, HLM.out.2⟩, HB.out⟩
end Go.Proofs.Ytogmbeifbjgphaa.R
namespace Go.Proofs.Ytogmbeifbjgphaa.R
open Go.RowKit Go.Proofs.YtogmbeifbjgphaaV.PrintWords Go.Proofs.YtogmbeifbjgphaaV.PrintLast Go.Proofs.YtogmbeifbjgphaaV.PrintMore Go.Proofs.Ytogmbeifbjgphaa.M
set_option linter.unusedVariables false
set_option linter.unusedSimpArgs false
attribute [local go_sem high] eqN eqE
theorem region_bp {P : Program} {ops : Array Oper} {Q : Exit → Act → World → Prop} {id : Nat} {a : Act} {w : World} (ds : List Nat) (p : Pl) (hm : P.follows .mixedOrders = true) (hc : planB .any ops ds p (Array.replicate ops.size false) = true) (hl : p.depth ≤ ops.size)
    (hQ : ∀ (d : Option Tmp) (v : Value) (c : _) (a : Act) (w : World), Q (.panic c) (a.put d v) w → Q (.panic c) a w) (h : ∀ u, Below w.heap.size w u → wpP P ops Q (Below w.heap.size w) p a u) : (Code.region id ops true).wp P Q a w :=
  region_pl (Below w.heap.size w) ds p hm hc hl hQ ((Below.refl _ _).drew) fun u hb _ => h u hb
theorem row_C {W : World} {a : Option Addr} {len cap : Nat} {zs : List Int} (h : (a = none ∧ len = 0 ∧ cap = 0 ∧ zs = []) ∨ ∃ x, a = some x ∧ len ≤ cap ∧ cap ≤ maxLen ∧ zs.length = cap ∧ (∀ i, i < zs.length → W.cell? (x.add i) = some (.int .u8 (zs.getD i 0))) ∧ ∀ n ∈ zs, (Lit.int .u8 n).wf = true) :
    ∃ l : List Int, l.length = len ∧ l.length ≤ cap ∧ (Kd.int .u8).C W a l.length l ∧ ∀ x ∈ l, 0 ≤ x ∧ x < 256 := by
  rcases h with ⟨rfl, rfl, rfl, rfl⟩ | ⟨x, rfl, h1, h2, h3, h4, h5⟩
  · exact ⟨[], rfl, Nat.le_refl _, ⟨rfl, by decide, fun h => absurd h (Nat.lt_irrefl 0)⟩, fun x h => by cases h⟩
  · have hl : (zs.take len).length = len := by rw [List.length_take]; omega
    refine ⟨zs.take len, hl, by omega, ⟨rfl, by rw [hl]; unfold maxLen at h2; omega, fun _ => ⟨x, rfl, fun j p hj => ?_⟩⟩, fun n hn => ?_⟩
    · have hjl : j < (zs.take len).length := (List.getElem?_eq_some_iff.1 hj).1
      refine ⟨[.int .u8 p], rfl, rfl, fun i u hi => ?_⟩
      obtain ⟨rfl, rfl⟩ : i = 0 ∧ Value.int .u8 p = u := by
        match i, hi with
        | 0, hi => exact ⟨rfl, Option.some.inj hi⟩
      rw [show j * (Kd.int .u8).sz + 0 = j from Nat.mul_one j, h4 j (by omega)]
      rw [List.getElem?_take] at hj
      split at hj
      · rw [List.getD_eq_getElem?_getD, hj]
        rfl
      · cases hj
    · have := h5 n (List.mem_of_mem_take hn)
      simp [Lit.wf, IntKind.min, IntKind.max, IntKind.bits, IntKind.signed] at this
      omega
theorem graphDo_as (A : Option Addr) (c : Nat) (ns : List Nd) (B : Option Addr) (d : Nat) (es : List Eg) (op : M.Op) (n2 : List Nd) (e2 : List Eg) (q : Int) (w : World) (hr : GR w A c ns B d es) (h : doN ns es op = n2 ∧ doE ns es op = e2 ∧ doC ns es op = q) :
    Calls Try.prog 31 #[.agg #[.slice A ns.length c, .slice B es.length d], .agg #[.int .i64 op.kind, .int .i64 op.nd.lab, .int .i64 op.nd.num, .int .i64 op.eg.lab, .int .i64 op.eg.a.lab, .int .i64 op.eg.a.num, .int .i64 op.eg.b.lab, .int .i64 op.eg.b.num]] w fun e w' => ∃ A' c' B' d', e = .returned (.tuple #[.agg #[.slice A' n2.length c', .slice B' e2.length d'], .int .i64 q]) ∧ GR w' A' c' n2 B' d' e2 ∧ Below w.heap.size w w' := by
  obtain ⟨rfl, rfl, rfl⟩ := h
  exact graphDo_calls A c ns B d es op w hr
theorem sGraphDo_as (A : Option Addr) (c : Nat) (ns : List Nd) (B : Option Addr) (d : Nat) (es : List Eg) (op : M.Op) (n2 : List Nd) (e2 : List Eg) (q : Int) (w : World) (hr : GR w A c ns B d es) (hl : ns.length ≤ 100 ∧ es.length ≤ 100) (h : doN ns es op = n2 ∧ doE ns es op = e2 ∧ doC ns es op = q) :
    Calls Try.prog 32 #[.agg #[.slice A ns.length c, .slice B es.length d], .agg #[.int .i64 op.kind, .int .i64 op.nd.lab, .int .i64 op.nd.num, .int .i64 op.eg.lab, .int .i64 op.eg.a.lab, .int .i64 op.eg.a.num, .int .i64 op.eg.b.lab, .int .i64 op.eg.b.num]] w fun e w' => ∃ A' c' B' d', e = .returned (.tuple #[.agg #[.slice A' n2.length c', .slice B' e2.length d'], .int .i64 q]) ∧ GR w' A' c' n2 B' d' e2 ∧ Below w.heap.size w w' := by
  obtain ⟨rfl, rfl, rfl⟩ := h
  exact sGraphDo_calls A c ns B d es op w hr (by omega) (by omega)
theorem sGraphOk_as (A : Option Addr) (c : Nat) (ns : List Nd) (B : Option Addr) (d : Nat) (es : List Eg) (v : Bool) (w : World) (hr : GR w A c ns B d es) (hl : ns.length ≤ 100 ∧ es.length ≤ 100) (h : okG ns es = v) :
    Calls Try.prog 33 #[.agg #[.slice A ns.length c, .slice B es.length d]] w fun e w' => e = .returned (.bool v) ∧ Below w.heap.size w w' := by
  subst h
  exact sGraphOk_calls A c ns B d es w hr (by omega) (by omega)
end Go.Proofs.Ytogmbeifbjgphaa.R
