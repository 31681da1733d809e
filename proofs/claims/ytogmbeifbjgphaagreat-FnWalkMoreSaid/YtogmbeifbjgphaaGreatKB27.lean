/- Draws: a graph and what is done to it; What the laws call, by names of what it comes to; impl.GraphNear of a node that no edge joins: no node; slices.Compact at nodes, in a row of one's own; slices.SortFunc at nodes: the kit's contract of the sort laid at this program's bodies. -/
import Derived.Shelf.SlSortCmp.NoneTotal
import Derived.Test.YtogmbeifbjgphaaGreatKB22
import Derived.Test.YtogmbeifbjgphaaGreatKB26
import Derived.Test.YtogmbeifbjgphaaGreatKB2
import Derived.Test.YtogmbeifbjgphaaGreatProg
import Derived.Test.YtogmbeifbjgphaaGreatKB8
import Derived.Test.YtogmbeifbjgphaaGreatKB11
import Derived.Test.YtogmbeifbjgphaaGreatKB25
namespace Go.Proofs.YtogmbeifbjgphaaGreat.R
open Go.RowKit Go.Proofs.YtogmbeifbjgphaaGreatV.PrintWords Go.Proofs.YtogmbeifbjgphaaGreatV.PrintLast Go.Proofs.YtogmbeifbjgphaaGreatV.PrintMore Go.Proofs.YtogmbeifbjgphaaGreat.M
set_option linter.unusedVariables false
set_option linter.unusedSimpArgs false
attribute [local go_sem high] eqN eqE
abbrev sDg3 : Pl := (.tk 0 (.tk 1 (.tk 2 (.nd .one 3 (.nd .last 4 (.nd .last 5 .fin))))))
theorem sDg3_ok : planB .any (opsOf Tryz.f9 3) [4, 5] sDg3 (Array.replicate (opsOf Tryz.f9 3).size false) = true := by kernel_rfl
/-- A graph and what is done to it: whatever they are, of bounded size. -/
def SomeGO (e : Ending) (w' : World) : Prop := ∃ A c ns B d es, ∃ op : M.Op, e = .returned (.tuple #[.agg #[.slice A (ns : List Nd).length c, .slice B (es : List Eg).length d], .agg #[.int .i64 op.kind, .int .i64 op.nd.lab, .int .i64 op.nd.num, .int .i64 op.eg.lab, .int .i64 op.eg.a.lab, .int .i64 op.eg.a.num, .int .i64 op.eg.b.lab, .int .i64 op.eg.b.num]]) ∧ GR w' A c ns B d es ∧ ns.length ≤ 100 ∧ es.length ≤ 100
theorem below_gr {w u v : World} {G : Nat} (h : Below w.heap.size w u) (hg : u.grownBy v (some G)) (hG : w.heap.size ≤ G) : Below w.heap.size w v := h.grown hg h.size (fun k hk => by cases hk; exact hG)
set_option maxHeartbeats 12800000 in
set_option maxRecDepth 100000 in
theorem drawGO_calls (A : Option Addr) (c : Nat) (l : List Int) (w : World) (hl : (Kd.int .u8).C w A l.length l) (hc : l.length ≤ c) (hb : ∀ x ∈ l, 0 ≤ x ∧ x < 256) :
 Calls Tryz.prog 9 #[.slice A l.length c] w fun e w' => SomeGO e w' ∧ Below w.heap.size w w' := by
 have HL := Aside0.mk hl
 have HC := Aside0.mk hc
 have HY := Aside0.mk hb
 have HP := Aside0.mk (show 0 ≤ 1 by decide)
 clear hl hc hb
 obtain ⟨L0, L1, HB⟩ := al2 w #[.slice none 0 0, .slice none 0 0] #[.int .i64 0, .int .i64 0, .int .i64 0, .int .i64 0, .int .i64 0, .int .i64 0, .int .i64 0, .int .i64 0] 26 32
 go_enter Tryz.func9, Tryz.ntmps9
 go_wp2_with (first | (go_at_call 33; go_must ((refine (open_calls A c l _ (Kd.C_below HL.out HB.out) HC.out HY.out).mono ?_); rintro e u ⟨G, rfl, hrd_, hge_, hb⟩; have HB0 := Aside0.mk (below_step HB.out hb); have HG := Aside0.mk (show w.heap.size + 2 ≤ G ∧ G < u.heap.size from ⟨by have := blk_lt L1.out; omega, hrd_.lt.1⟩); replace L0 := Aside0.mk (blk_below L0.out hb); replace L1 := Aside0.mk (blk_below L1.out hb); have HD := Aside0.mk (Dw.refl hrd_ (k := 0)); (try clear rc0 rc1); obtain ⟨rc0, rc1⟩ := cs2 (L0.out); (try clear oc0 oc1 oc2 oc3 oc4 oc5 oc6 oc7); obtain ⟨oc0, oc1, oc2, oc3, oc4, oc5, oc6, oc7⟩ := cs8 (L1.out); clear hrd_ hge_ hb HB)) | (go_at_call 35; go_must ((refine (draw_lift (lim := 600000) (fun q hq hl => graph_calls _ G q _ hq (by omega)) HD.out (by have := HP.out; omega)).mono ?_); rintro e u_ ⟨⟨A1, c1, ns1, B1, d1, es1, rfl, hgr_, hfa_, hfb_, hn_, he_⟩, hd, hg⟩; have HNI := Aside0.mk (show NotIn G A1 ns1.length ∧ NotIn G B1 es1.length from ⟨hfa_.notIn (by have := HD.out.le; have := HG.out; omega), hfb_.notIn (by have := HD.out.le; have := HG.out; omega)⟩); have HGR := Aside0.mk hgr_; have HLN := Aside0.mk (And.intro hn_ he_); clear hgr_ hfa_ hfb_ hn_ he_; replace HD := Aside0.mk hd; replace L0 := Aside0.mk (blk_g hg L0.out (by have := HG.out; omega)); replace L1 := Aside0.mk (blk_g hg L1.out (by have := HG.out; omega)); (try clear rc0 rc1); obtain ⟨rc0, rc1⟩ := cs2 (L0.out); (try clear oc0 oc1 oc2 oc3 oc4 oc5 oc6 oc7); obtain ⟨oc0, oc1, oc2, oc3, oc4, oc5, oc6, oc7⟩ := cs8 (L1.out); clear hd hg)) | (go_at_call 34; go_must ((refine (draw_lift (lim := 600000) (fun q hq hl => bent_calls _ G q A1 c1 ns1 B1 d1 es1 _ hq (by omega) HGR.out HNI.out.1 HNI.out.2 (by have := HLN.out; omega) (by have := HLN.out; omega)) HD.out (by have := HP.out; omega)).mono ?_); rintro e u_ ⟨⟨A2, c2, ns2, B2, d2, es2, rfl, hgr_, hfa_, hfb_, hn_, he_⟩, hd, hg⟩; have HNJ := Aside0.mk (show Fresh u.heap.size A2 ∧ Fresh u.heap.size B2 from ⟨hfa_.mono HD.out.le, hfb_.mono HD.out.le⟩); have HGS := Aside0.mk hgr_; have HLM := Aside0.mk (show ns2.length ≤ 100 ∧ es2.length ≤ 100 by have := HLN.out; omega); clear hgr_ hfa_ hfb_ hn_ he_; replace HD := Aside0.mk hd; replace L0 := Aside0.mk (blk_g hg L0.out (by have := HG.out; omega)); replace L1 := Aside0.mk (blk_g hg L1.out (by have := HG.out; omega)); (try clear rc0 rc1); obtain ⟨rc0, rc1⟩ := cs2 (L0.out); (try clear oc0 oc1 oc2 oc3 oc4 oc5 oc6 oc7); obtain ⟨oc0, oc1, oc2, oc3, oc4, oc5, oc6, oc7⟩ := cs8 (L1.out); clear hd hg)) | ((with_reducible refine gate_dst (N := 5) rfl ?_); go_must ((refine w_new #[.slice none 0 0, .slice none 0 0] 26 rfl (by go_simp; (first | done | rfl)) ?_); intro g5 u_ hge_ hb0_ hb; have HU5 := Aside0.mk (Nat.le_trans HD.out.le hge_); have HNT := Aside0.mk (HGS.out.new hge_); have Hg5 := Aside0.mk (show w.heap.size + 2 ≤ g5 from by have hl0_ := blk_lt L1.out; exact by omega); have L5 := Aside0.mk hb0_; replace HD := Aside0.mk (HD.out.below hb); replace L0 := Aside0.mk (blk_below L0.out hb); replace L1 := Aside0.mk (blk_below L1.out hb); replace HGS := Aside0.mk (HGS.out.below hb); clear hge_ hb0_ hb; (try clear rc0 rc1); obtain ⟨rc0, rc1⟩ := cs2 (L0.out); (try clear oc0 oc1 oc2 oc3 oc4 oc5 oc6 oc7); obtain ⟨oc0, oc1, oc2, oc3, oc4, oc5, oc6, oc7⟩ := cs8 (L1.out); (try clear tc0 tc1); obtain ⟨tc0, tc1⟩ := cs2 (L5.out))) | ((with_reducible refine gate_store (p := 5) rfl ?_); go_must ((refine wpList_plain rfl fun K_ hK_ => wp_store_row _ _ _ rfl (g5) #[.slice A2 ns2.length c2, .slice B2 es2.length d2] rfl rfl _ _ L5.out (by kernel_rfl) rfl (by simp [Value.oneCell']) (hK_ _ _ ?_)); refine named _ ?_; intro wz hwz; have HDz := HD.out.over (grown_setRow _ (g5) #[.slice A2 ns2.length c2, .slice B2 es2.length d2]) (by have := HG.out; have := Hg5.out; have := HU5.out; omega) (by have := HG.out; have := Hg5.out; have := HU5.out; omega); rw [← hwz] at HDz; replace HD := Aside0.mk HDz; clear HDz; replace L0 := Aside0.mk (so_ hwz L0.out (by have := HG.out; have := Hg5.out; have := HU5.out; omega)); replace L1 := Aside0.mk (so_ hwz L1.out (by have := HG.out; have := Hg5.out; have := HU5.out; omega)); replace L5 := Aside0.mk (sh_ hwz L5.out); replace HGS := Aside0.mk (show GR wz A2 c2 ns2 B2 d2 es2 by rw [hwz]; exact (HGS.out).keep (grown_setRow _ _ _) HNT.out.1 HNT.out.2); (try clear rc0 rc1); obtain ⟨rc0, rc1⟩ := cs2 (L0.out); (try clear oc0 oc1 oc2 oc3 oc4 oc5 oc6 oc7); obtain ⟨oc0, oc1, oc2, oc3, oc4, oc5, oc6, oc7⟩ := cs8 (L1.out); (try clear tc0 tc1); obtain ⟨tc0, tc1⟩ := cs2 (L5.out); clear hwz)))
 have ZL5 := L5
 refine region_kp G none [4, 5] sDg3 (by kernel_rfl) sDg3_ok (by decide) (fun d _ _ _ _ h => by cases d <;> exact h) ?_
 intro u hb hS
 replace HD := Aside0.mk (HD.out.below hb)
 replace L0 := Aside0.mk (blk_below L0.out hb)
 replace L1 := Aside0.mk (blk_below L1.out hb)
 replace L5 := Aside0.mk (blk_below L5.out hb)
 replace HGS := Aside0.mk (HGS.out.below hb)
 (try clear rc0 rc1)
 obtain ⟨rc0, rc1⟩ := cs2 (L0.out)
 (try clear oc0 oc1 oc2 oc3 oc4 oc5 oc6 oc7)
 obtain ⟨oc0, oc1, oc2, oc3, oc4, oc5, oc6, oc7⟩ := cs8 (L1.out)
 (try clear tc0 tc1)
 obtain ⟨tc0, tc1⟩ := cs2 (L5.out)
 clear hb
 repeat (first | (refine p_off hS gt_ (by rfl) ?_; intro a_ ha_; (simp only [Act.put, pu1, pu2, pu3] at ha_); subst ha_) | (refine p_on (v := ?_) hS gt_ (by rfl) ?_ ?_; rotate_left; (· rintro w_ hS_; obtain ⟨tc0_, tc1_⟩ := cs2 (kb_blk hS_ ZL5.out (by have := HG.out; have := Hg5.out; have := HU5.out; omega) (fun e => by cases e)); go_simp; with_reducible rfl); intro a_ ha_; (simp only [Act.put, pu1, pu2, pu3] at ha_); subst ha_) | (refine p_poff gt_ (by rfl) ?_; intro a_ ha_; (simp only [Act.put, pu1, pu2, pu3] at ha_); subst ha_) | (refine p_pon (v := ?_) gt_ (by rfl) ?_ ?_; rotate_left; (· go_simp; with_reducible rfl); intro a_ ha_; (simp only [Act.put, pu1, pu2, pu3] at ha_); subst ha_) | (refine p_ooff hS gt_ (by rfl) ?_; intro a_ ha_; (simp only [Act.put, pu1, pu2, pu3] at ha_); subst ha_) | (refine p_loff gt_ (by rfl) ?_; intro a_ ha_; (simp only [Act.put, pu1, pu2, pu3] at ha_); subst ha_) | (refine p_call (f := 36) (args := #[.pointer (some ⟨G, 0, none⟩), .agg #[.slice A2 ns2.length c2, .slice B2 es2.length d2]]) Tryz.func36 (by kernel_rfl) rfl gt_ (by rfl) (by rfl) mp_ ?_; (refine (draw_lift (lim := 700000) (fun q hq hl => op_calls _ G q A2 c2 ns2 B2 d2 es2 _ hq (by omega) HGS.out (HNJ.out.1.notIn HG.out.2) (HNJ.out.2.notIn HG.out.2) (by have := HLM.out; omega)) HD.out (by have := HP.out; omega)).mono ?_); rintro e_ u_ ⟨⟨o, rfl⟩, hd, hg⟩; replace HD := Aside0.mk hd; replace L0 := Aside0.mk (blk_g hg L0.out (by have := HG.out; have := Hg5.out; have := HU5.out; omega)); replace L1 := Aside0.mk (blk_g hg L1.out (by have := HG.out; have := Hg5.out; have := HU5.out; omega)); replace L5 := Aside0.mk (blk_g hg L5.out (by have := HG.out; have := Hg5.out; have := HU5.out; omega)); replace HGS := Aside0.mk (HGS.out.keep hg (HNJ.out.1.notIn HG.out.2) (HNJ.out.2.notIn HG.out.2)); (try clear rc0 rc1); obtain ⟨rc0, rc1⟩ := cs2 (L0.out); (try clear oc0 oc1 oc2 oc3 oc4 oc5 oc6 oc7); obtain ⟨oc0, oc1, oc2, oc3, oc4, oc5, oc6, oc7⟩ := cs8 (L1.out); (try clear tc0 tc1); obtain ⟨tc0, tc1⟩ := cs2 (L5.out); have HB := Aside0.mk (below_gr HB0.out HD.out.gr (by have := HG.out; omega)); replace hS := kb_grown hS hg (fun k _ e => .inl (Option.some.inj e)); refine ⟨_, rfl, hS, fun a_ ha_ => ?_⟩; (simp only [Act.put, pu1, pu2, pu3] at ha_); subst ha_; clear hd hg) | (refine p_last gt_ (by rfl) fun K_ hK_ => ?_; refine wp_store_row _ _ _ rfl (w.heap.size) #[.slice A2 ns2.length c2, .slice B2 es2.length d2] rfl rfl _ _ L0.out (by kernel_rfl) rfl (by simp [Value.oneCell']) (hK_ _ _ ?_); (try simp only [Act.put, pu1, pu2, pu3]); refine named _ ?_; intro wz hwz; replace HB := Aside0.mk (sb_ hwz HB.out (by have := Hg5.out; have := HU5.out; omega)); replace L1 := Aside0.mk (so_ hwz L1.out (by have := Hg5.out; have := HU5.out; omega)); replace L5 := Aside0.mk (so_ hwz L5.out (by have := Hg5.out; have := HU5.out; omega)); replace L0 := Aside0.mk (sh_ hwz L0.out); replace HGS := Aside0.mk (show GR wz A2 c2 ns2 B2 d2 es2 by rw [hwz]; exact (HGS.out).keep (grown_setRow _ _ _) (HNJ.out.1.notIn (by have := HG.out; omega)) (HNJ.out.2.notIn (by have := HG.out; omega))); (try clear rc0 rc1); obtain ⟨rc0, rc1⟩ := cs2 (L0.out); (try clear oc0 oc1 oc2 oc3 oc4 oc5 oc6 oc7); obtain ⟨oc0, oc1, oc2, oc3, oc4, oc5, oc6, oc7⟩ := cs8 (L1.out); (try clear tc0 tc1); obtain ⟨tc0, tc1⟩ := cs2 (L5.out); clear hwz) | (refine p_last gt_ (by rfl) fun K_ hK_ => ?_; refine wp_store_row _ _ _ rfl (w.heap.size + 1) #[.int .i64 o.kind, .int .i64 o.nd.lab, .int .i64 o.nd.num, .int .i64 o.eg.lab, .int .i64 o.eg.a.lab, .int .i64 o.eg.a.num, .int .i64 o.eg.b.lab, .int .i64 o.eg.b.num] rfl rfl _ _ L1.out (by kernel_rfl) rfl (by simp [Value.oneCell']) (hK_ _ _ ?_); (try simp only [Act.put, pu1, pu2, pu3]); refine named _ ?_; intro wz hwz; replace HB := Aside0.mk (sb_ hwz HB.out (by have := Hg5.out; have := HU5.out; omega)); replace L0 := Aside0.mk (so_ hwz L0.out (by have := Hg5.out; have := HU5.out; omega)); replace L5 := Aside0.mk (so_ hwz L5.out (by have := Hg5.out; have := HU5.out; omega)); replace L1 := Aside0.mk (sh_ hwz L1.out); replace HGS := Aside0.mk (show GR wz A2 c2 ns2 B2 d2 es2 by rw [hwz]; exact (HGS.out).keep (grown_setRow _ _ _) (HNJ.out.1.notIn (by have := HG.out; omega)) (HNJ.out.2.notIn (by have := HG.out; omega))); (try clear rc0 rc1); obtain ⟨rc0, rc1⟩ := cs2 (L0.out); (try clear oc0 oc1 oc2 oc3 oc4 oc5 oc6 oc7); obtain ⟨oc0, oc1, oc2, oc3, oc4, oc5, oc6, oc7⟩ := cs8 (L1.out); (try clear tc0 tc1); obtain ⟨tc0, tc1⟩ := cs2 (L5.out); clear hwz))
 skip
 refine p_fin ?_
 clear hS ZL5
 go_wp2_with (fail)
 exact bodyPost_ret (results_cc rfl _ _ w.heap.size (w.heap.size + 1) _ _ #[.slice A2 ns2.length c2, .slice B2 es2.length d2] #[.int .i64 o.kind, .int .i64 o.nd.lab, .int .i64 o.nd.num, .int .i64 o.eg.lab, .int .i64 o.eg.a.lab, .int .i64 o.eg.a.num, .int .i64 o.eg.b.lab, .int .i64 o.eg.b.num] (0, 0) (0, 0) _ _ rfl L0.out Tryz.underlying26 rfl (by kernel_rfl) rfl L1.out Tryz.underlying32 rfl (by kernel_rfl)) rfl ⟨⟨A2, c2, ns2, B2, d2, es2, o, rfl, HGS.out, HLM.out.1, HLM.out.2⟩, HB.out⟩
end Go.Proofs.YtogmbeifbjgphaaGreat.R
namespace Go.Proofs.YtogmbeifbjgphaaGreat.R
open Go.RowKit Go.Proofs.YtogmbeifbjgphaaGreatV.PrintWords Go.Proofs.YtogmbeifbjgphaaGreatV.PrintLast Go.Proofs.YtogmbeifbjgphaaGreatV.PrintMore Go.Proofs.YtogmbeifbjgphaaGreat.M
set_option linter.unusedVariables false
set_option linter.unusedSimpArgs false
attribute [local go_sem high] eqN eqE
theorem region_bp {P : Program} {ops : Array Oper} {Q : Exit → Act → World → Prop} {id : Nat} {a : Act} {w : World} (ds : List Nat) (p : Pl) (hm : P.follows .mixedOrders = true) (hc : planB .any ops ds p (Array.replicate ops.size false) = true) (hl : p.depth ≤ ops.size)
 (hQ : ∀ (d : Option Tmp) (v : Value) (c : _) (a : Act) (w : World), Q (.panic c) (a.put d v) w → Q (.panic c) a w) (h : ∀ u, Below w.heap.size w u → wpP P ops Q (Below w.heap.size w) p a u) : (Code.region id ops true).wp P Q a w :=
 region_pl (Below w.heap.size w) ds p hm hc hl hQ ((Below.refl _ _).drew) fun u hb _ => h u hb
theorem row_C {W : World} {a : Option Addr} {len cap : Nat} {zs : List Int} (h : (a = none ∧ len = 0 ∧ cap = 0 ∧ zs = []) ∨ ∃ x, a = some x ∧ len ≤ cap ∧ cap ≤ maxLen ∧ zs.length = cap ∧ (∀ i, i < zs.length → W.cell? (x.add i) = some (.int .u8 (zs.getD i 0))) ∧ ∀ n ∈ zs, (Lit.int .u8 n).wf = true) :
 ∃ l : List Int, l.length = len ∧ l.length ≤ cap ∧ (Kd.int .u8).C W a l.length l ∧ ∀ x ∈ l, 0 ≤ x ∧ x < 256 := by
 rcases h with ⟨rfl, rfl, rfl, rfl⟩ | ⟨x, rfl, h1, h2, h3, h4, h5⟩
 ·exact ⟨[], rfl, Nat.le_refl _, ⟨rfl, by decide, fun h => absurd h (Nat.lt_irrefl 0)⟩, fun x h => by cases h⟩
 ·have hl : (zs.take len).length = len := by rw [List.length_take]; omega
  refine ⟨zs.take len, hl, by omega, ⟨rfl, by rw [hl]; unfold maxLen at h2; omega, fun _ => ⟨x, rfl, fun j p hj => ?_⟩⟩, fun n hn => ?_⟩
  ·have hjl : j < (zs.take len).length := (List.getElem?_eq_some_iff.1 hj).1
   refine ⟨[.int .u8 p], rfl, rfl, fun i u hi => ?_⟩
   obtain ⟨rfl, rfl⟩ : i = 0 ∧ Value.int .u8 p = u := by
    match i, hi with
    | 0, hi => exact ⟨rfl, Option.some.inj hi⟩
   rw [show j * (Kd.int .u8).sz + 0 = j from Nat.mul_one j, h4 j (by omega)]
   rw [List.getElem?_take] at hj
   split at hj
   ·rw [List.getD_eq_getElem?_getD, hj]
    rfl
   ·cases hj
  ·have := h5 n (List.mem_of_mem_take hn)
   simp [Lit.wf, IntKind.min, IntKind.max, IntKind.bits, IntKind.signed] at this
   omega
theorem graphDo_as (A : Option Addr) (c : Nat) (ns : List Nd) (B : Option Addr) (d : Nat) (es : List Eg) (op : M.Op) (n2 : List Nd) (e2 : List Eg) (q : Int) (w : World) (hr : GR w A c ns B d es) (h : doN ns es op = n2 ∧ doE ns es op = e2 ∧ doC ns es op = q) :
 Calls Tryz.prog 10 #[.agg #[.slice A ns.length c, .slice B es.length d], .agg #[.int .i64 op.kind, .int .i64 op.nd.lab, .int .i64 op.nd.num, .int .i64 op.eg.lab, .int .i64 op.eg.a.lab, .int .i64 op.eg.a.num, .int .i64 op.eg.b.lab, .int .i64 op.eg.b.num]] w fun e w' => ∃ A' c' B' d', e = .returned (.tuple #[.agg #[.slice A' n2.length c', .slice B' e2.length d'], .int .i64 q]) ∧ GR w' A' c' n2 B' d' e2 ∧ Below w.heap.size w w' := by
 obtain ⟨rfl, rfl, rfl⟩ := h
 exact graphDo_calls A c ns B d es op w hr
theorem sGraphDo_as (A : Option Addr) (c : Nat) (ns : List Nd) (B : Option Addr) (d : Nat) (es : List Eg) (op : M.Op) (n2 : List Nd) (e2 : List Eg) (q : Int) (w : World) (hr : GR w A c ns B d es) (hl : ns.length ≤ 100 ∧ es.length ≤ 100) (h : doN ns es op = n2 ∧ doE ns es op = e2 ∧ doC ns es op = q) :
 Calls Tryz.prog 11 #[.agg #[.slice A ns.length c, .slice B es.length d], .agg #[.int .i64 op.kind, .int .i64 op.nd.lab, .int .i64 op.nd.num, .int .i64 op.eg.lab, .int .i64 op.eg.a.lab, .int .i64 op.eg.a.num, .int .i64 op.eg.b.lab, .int .i64 op.eg.b.num]] w fun e w' => ∃ A' c' B' d', e = .returned (.tuple #[.agg #[.slice A' n2.length c', .slice B' e2.length d'], .int .i64 q]) ∧ GR w' A' c' n2 B' d' e2 ∧ Below w.heap.size w w' := by
 obtain ⟨rfl, rfl, rfl⟩ := h
 exact sGraphDo_calls A c ns B d es op w hr (by omega) (by omega)
theorem sGraphOk_as (A : Option Addr) (c : Nat) (ns : List Nd) (B : Option Addr) (d : Nat) (es : List Eg) (v : Bool) (w : World) (hr : GR w A c ns B d es) (hl : ns.length ≤ 100 ∧ es.length ≤ 100) (h : okG ns es = v) :
 Calls Tryz.prog 19 #[.agg #[.slice A ns.length c, .slice B es.length d]] w fun e w' => e = .returned (.bool v) ∧ Below w.heap.size w w' := by
 subst h
 exact sGraphOk_calls A c ns B d es w hr (by omega) (by omega)
end Go.Proofs.YtogmbeifbjgphaaGreat.R
namespace Go.Proofs.YtogmbeifbjgphaaGreat.R
open Go.RowKit Go.Proofs.YtogmbeifbjgphaaGreatV.PrintWords Go.Proofs.YtogmbeifbjgphaaGreatV.PrintLast Go.Proofs.YtogmbeifbjgphaaGreatV.PrintMore Go.Proofs.YtogmbeifbjgphaaGreat.M
set_option linter.unusedVariables false
set_option linter.unusedSimpArgs false
attribute [local go_sem high] eqN eqE
theorem insSort0 (w : World) : Calls Tryz.prog 133 #[.slice none 0 0, .int .i64 0, .int .i64 0, .func (.func 59) #[] #[]] w fun e w' => e = .returned (.tuple #[]) ∧ w = w' := by
 go_enter Tryz.func133, Tryz.ntmps133
 go_wp2_with (fail)
 go_loopw [8, 9] (fun s _ wr => s = .int .i64 1 ∧ w = wr) (fun _ _ _ => 0)
 case atStart => exact ⟨rfl, rfl⟩
 case round =>
  obtain ⟨rfl, rfl⟩ := hrel
  go_wp2_with (fail)
  go_end0
  exact ⟨rfl, rfl⟩
theorem pdq0 (k : Int) (w : World) : Calls Tryz.prog 110 #[.slice none 0 0, .int .i64 0, .int .i64 0, .int .i64 k, .func (.func 59) #[] #[]] w fun e w' => e = .returned (.tuple #[]) ∧ w = w' := by
 go_enter Tryz.func110, Tryz.ntmps110
 go_wp2_with (fail)
 go_loopw [1, 2, 3, 10, 11, 12, 13, 14, 15, 16, 17, 18, 19, 20] (fun s1 s2 s3 _ _ _ _ _ _ _ _ _ _ _ wr => s1 = .int .i64 0 ∧ s2 = .int .i64 0 ∧ w = wr) (fun _ _ _ _ _ _ _ _ _ _ _ _ _ _ _ => 0)
 case atStart => exact ⟨rfl, rfl, rfl⟩
 case round =>
  obtain ⟨rfl, rfl, rfl⟩ := hrel
  go_wp2_with (first | (go_at_call 133; go_must ((refine (insSort0 _).mono ?_); rintro e u_ ⟨rfl, rfl⟩)))
  exact bodyPost_ret (results_none rfl _ _ _) rfl ⟨rfl, rfl⟩
set_option maxRecDepth 100000 in
theorem bitsLen64_0 (w : World) : Calls Tryz.prog 142 #[.int .u64 0] w fun e w' => ∃ k, e = .returned (.int .i64 k) ∧ w = w' := by
 go_enter Tryz.func142, Tryz.ntmps142
 go_wp2_with (fail)
 go_ret
 exact ⟨_, rfl, rfl⟩
theorem bitsLen_0 (w : World) : Calls Tryz.prog 111 #[.int .u64 0] w fun e w' => ∃ k, e = .returned (.int .i64 k) ∧ w = w' := by
 go_enter Tryz.func111, Tryz.ntmps111
 go_wp2_with (first | (go_at_call 142; go_must ((refine (bitsLen64_0 _).mono ?_); rintro e u_ ⟨k, rfl, rfl⟩)))
 go_ret
 exact ⟨_, rfl, rfl⟩
theorem sortFunc0 (w : World) : Calls Tryz.prog 58 #[.slice none 0 0, .func (.func 59) #[] #[]] w fun e w' => e = .returned (.tuple #[]) ∧ w = w' := by
 go_enter Tryz.func58, Tryz.ntmps58
 go_wp2_with (first | (go_at_call 111; go_must ((refine (bitsLen_0 _).mono ?_); rintro e u_ ⟨k, rfl, rfl⟩)) | (go_at_call 110; go_must ((refine (pdq0 _ _).mono ?_); rintro e u_ ⟨rfl, rfl⟩)))
 go_end0
 exact ⟨rfl, rfl⟩
theorem compact0 (w : World) : Calls Tryz.prog 60 #[.slice none 0 0] w fun e w' => e = .returned (.slice none 0 0) ∧ w = w' := by
 go_enter Tryz.func60, Tryz.ntmps60
 go_wp2_with (fail)
 go_ret
 exact ⟨rfl, rfl⟩
end Go.Proofs.YtogmbeifbjgphaaGreat.R
namespace Go.Proofs.YtogmbeifbjgphaaGreat.R
open Go.RowKit Go.Proofs.YtogmbeifbjgphaaGreatV.PrintWords Go.Proofs.YtogmbeifbjgphaaGreatV.PrintLast Go.Proofs.YtogmbeifbjgphaaGreatV.PrintMore Go.Proofs.YtogmbeifbjgphaaGreat.M
set_option linter.unusedVariables false
set_option linter.unusedSimpArgs false
attribute [local go_sem high] eqN eqE
abbrev sCo6 : Pl := (.tk 0 (.tk 1 (.tk 2 (.tk 3 (.tk 4 (.tk 5 (.tk 6 (.tk 7 (.tk 8 (.tk 9 .fin))))))))))
theorem sCo6_ok : planB .any (opsOf Tryz.f60 6) [] sCo6 (Array.replicate (opsOf Tryz.f60 6).size false) = true := by kernel_rfl
abbrev sCo11 : Pl := (.tk 0 (.tk 1 (.tk 2 (.tk 3 (.tk 4 (.tk 5 (.tk 6 (.tk 7 (.tk 8 (.tk 9 .fin))))))))))
theorem sCo11_ok : planB .any (opsOf Tryz.f60 11) [] sCo11 (Array.replicate (opsOf Tryz.f60 11).size false) = true := by kernel_rfl
section
variable {P : Program} {ops : Array Oper} {rest : List Oper} {o : Oper} {a : Act} {Q : Exit → Act → World → Prop}
/-- A node is stored into a row of nodes. -/
theorem store_nd {W : World} {base g n cap : Nat} {e : TypeId} {xs : List Nd} (i : Nat) (x : Nd) (hN : o.dst = none) (hgd : o.guard = none) (t : TypeId) (p y : Operand) (ho : o.op = .store t p y) (haddr : a.eval p = .pointer (some ⟨g, i * 2, none⟩)) (hx : a.eval y = .agg #[.int .i64 x.lab, .int .i64 x.num]) (ht : (P.info? t).map (·.size) = some 2)
 (HO : kN.R e W base (fun _ => True) (.slice (some ⟨g, 0, none⟩) n cap) xs) (hi : i < n) (h : ∀ w1, kN.R e w1 base (fun _ => True) (.slice (some ⟨g, 0, none⟩) n cap) (xs.set i x) → W.grownBy w1 (some g) → wpList P ops Q rest a w1) : wpList P ops Q (o :: rest) a W := by
 obtain ⟨hn, hnc, hC⟩ := Kd.R_reads' HO
 obtain ⟨ad, e1, r0, r1⟩ := nd_at hC i (by omega)
 cases e1
 rw [add_plain] at r0 r1
 have HO2 := R_okN HO (ok' := fun k => True) (fun k _ => trivial)
 refine Kd.R_store kN (w0 := W) base hN hgd t p y ho e (i : Int) 0 xs x (.agg #[.int .i64 x.lab, .int .i64 x.num]) (cN x) (cN (at_ xs i)) (fun _ => True) (fun k => k ≠ g) haddr (by simp [kN, Kd.iso, Kd.pair]; try rfl) hx rfl ht (by simp [Value.oneCell']) HO2 (by omega) (by omega) rfl ?_ (Nat.le_refl 2) (kN_mkM _ _ _ x) (fun k hk => ⟨trivial, hk⟩) (Below.refl _ _) fun w1 h1 h2 h3 => h w1 (by simpa using h1) h3
 intro j u hj
 show W.cell? ⟨g, (i : Int).toNat * 2 + j, none⟩ = some u
 rw [Int.toNat_natCast]
 match j, hj with
 | 0, hj => injection hj with hj; subst hj; exact r0
 | 1, hj => injection hj with hj; subst hj; exact r1
end
theorem at_drop {l m : List Nd} {j i : Nat} (h : l.drop j = m.drop j) (hj : j ≤ i) (hi : i < m.length) : at_ l i = at_ m i := by
 unfold at_
 rw [List.getD_eq_getElem?_getD, List.getD_eq_getElem?_getD, show l[i]? = (l.drop j)[i - j]? by rw [List.getElem?_drop]; congr 1; omega, show m[i]? = (m.drop j)[i - j]? by rw [List.getElem?_drop]; congr 1; omega, h]
theorem take_snN' {l : List Nd} {j : Nat} (h : j < l.length) : l.take (j + 1) = l.take j ++ [at_ l j] := by
 rw [List.take_add_one, List.getElem?_eq_getElem h, at_lt h]
 rfl
theorem row_takeN {e : TypeId} {w : World} {base g n c m : Nat} {xs : List Nd} (h : kN.R e w base (fun _ => True) (.slice (some ⟨g, 0, none⟩) n c) xs) (hm : m ≤ n) : kN.R e w base (fun _ => True) (.slice (some ⟨g, 0, none⟩) m c) (xs.take m) := by
 obtain ⟨cs, cur, hn, hr, hcl, hb, hh, hnc, hcm, hcs, htk⟩ := flat_open flatN.1 h
 refine flat_close flatN (Kd.reps_take hr (by omega)) (by rw [List.length_take]; omega) hb hh (by omega) hcm hcs ?_
 rw [← htk, List.take_take]
 congr 1
 exact (Nat.min_eq_left (Nat.mul_le_mul_right _ hm)).symm
/-- The first j of a row, less each that is as the one ahead of it. -/
def ddT (l : List Nd) : Nat → List Nd
 | 0 => []
 | j + 1 => if 0 < j ∧ at_ l j = at_ l (j - 1) then ddT l j else ddT l j ++ [at_ l j]
def dd (l : List Nd) : List Nd := ddT l l.length
theorem ddT_same {l : List Nd} {j : Nat} (h0 : 0 < j) (h : at_ l j = at_ l (j - 1)) : ddT l (j + 1) = ddT l j := if_pos ⟨h0, h⟩
theorem ddT_more {l : List Nd} {j : Nat} (h : at_ l j ≠ at_ l (j - 1)) : ddT l (j + 1) = ddT l j ++ [at_ l j] := if_neg fun q => h q.2
theorem ddT_one {l : List Nd} (h : 0 < l.length) : ddT l 1 = l.take 1 := by
 rw [take_snN' h]
 rfl
set_option maxHeartbeats 6400000 in
set_option maxRecDepth 100000 in
theorem compactN_calls (base g c : Nat) (l : List Nd) (w : World) (hr : kN.R 28 w base (fun _ => True) (.slice (some ⟨g, 0, none⟩) l.length c) l) (hl : l.length ≤ 1000000) :
 Calls Tryz.prog 60 #[.slice (some ⟨g, 0, none⟩) l.length c] w fun e w' => e = .returned (.slice (some ⟨g, 0, none⟩) (dd l).length c) ∧ kN.R 28 w' base (fun _ => True) (.slice (some ⟨g, 0, none⟩) (dd l).length c) (dd l) ∧ w.grownBy w' (some g) := by
 have HR := Aside0.mk hr
 have HL := Aside0.mk hl
 clear hr
 by_cases hl2 : l.length < 2
 ·have hq : (l.length : Int) < 2 := by omega
  have HD := Aside0.mk (show dd l = l by
   unfold dd
   rcases Nat.lt_or_ge 0 l.length with h | h
   ·rw [show l.length = 1 by omega, ddT_one h, show (1 : Nat) = l.length by omega, List.take_length]
   ·rw [show l.length = 0 by omega, List.length_eq_zero_iff.1 (show l.length = 0 by omega)]
    rfl)
  go_enter Tryz.func60, Tryz.ntmps60
  go_wp2_with (fail)
  go_ret
  exact ⟨by rw [HD.out]; rfl, by rw [HD.out]; exact HR.out, grown_of (Below.refl _ _) _⟩
 have hq : ¬ (l.length : Int) < 2 := by omega
 go_enter Tryz.func60, Tryz.ntmps60
 go_wp2_with (fail)
 go_loopw [3, 4, 5] (fun s3 _ _ wr => ∃ k : Nat, 1 ≤ k ∧ k ≤ l.length ∧ s3 = .int .i64 (k : Int) ∧ Aside0 (ddT l k = l.take k) ∧ Aside0 (Below w.heap.size w wr)) (fun s3 _ _ _ => (l.length - intOf s3).toNat)
 case atStart => exact ⟨1, Nat.le_refl _, by omega, rfl, ⟨ddT_one (by omega)⟩, ⟨Below.refl _ _⟩⟩
 case round =>
  obtain ⟨k, hk1, hkl, rfl, HT, HB⟩ := hrel
  by_cases hlt : k < l.length
  ·have hjl : (k : Int) < (l.length : Int) := by omega
   have hk2 : k - 1 < l.length := by omega
   have hw1 : IntKind.i64.wrap ((k : Int) - 1) = ((k - 1 : Nat) : Int) := by rw [IntKind.wrap_i64]; omega
   have HTS := Aside0.mk (take_snN' hlt)
   have HRC := Aside0.mk (Kd.C_below (Kd.R_reads' HR.out).2.2 HB.out)
   obtain ⟨ad, e1, r0, r1⟩ := nd_at HRC.out k hlt
   cases e1
   obtain ⟨ad2, e2, t0, t1⟩ := nd_at HRC.out (k - 1) hk2
   cases e2
   simp only [add_plain] at r0 r1 t0 t1
   have HNE := Aside0.mk (ddT_more (l := l) (j := k))
   have HSM := Aside0.mk (ddT_same (l := l) (j := k) (by omega))
   generalize hx : at_ l k = x at r0 r1 HTS HNE HSM
   generalize hy : at_ l (k - 1) = y at t0 t1 HNE HSM
   clear hx hy
   obtain ⟨v, hv⟩ : ∃ v, (x.lab == y.lab && (x.num == y.num)) = v := ⟨_, rfl⟩
   have HV := Aside0.mk ((nd_eq x y).symm.trans hv)
   cases v
   ·go_wp2_with (fail)
    refine region_bp [] sCo6 (by kernel_rfl) sCo6_ok (by decide) (fun d _ _ _ _ h => by cases d <;> exact h) ?_
    intro u hb
    have hS := hb
    replace HB := Aside0.mk (below_step HB.out hb)
    clear hb
    repeat (first | (refine p_off hS gt_ (by rfl) ?_; intro a_ ha_; (simp only [Act.put, pu1, pu2, pu3] at ha_); subst ha_) | (refine p_on (v := ?_) hS gt_ (by rfl) ?_ ?_; rotate_left; (· rintro w_ hS_; have r0_ := pw_cell_below hS_ r0; have r1_ := pw_cell_below hS_ r1; have t0_ := pw_cell_below hS_ t0; have t1_ := pw_cell_below hS_ t1; go_simp; with_reducible rfl); intro a_ ha_; (simp only [Act.put, pu1, pu2, pu3] at ha_); subst ha_) | (refine p_poff gt_ (by rfl) ?_; intro a_ ha_; (simp only [Act.put, pu1, pu2, pu3] at ha_); subst ha_) | (refine p_pon (v := ?_) gt_ (by rfl) ?_ ?_; rotate_left; (· go_simp; with_reducible rfl); intro a_ ha_; (simp only [Act.put, pu1, pu2, pu3] at ha_); subst ha_) | (refine p_ooff hS gt_ (by rfl) ?_; intro a_ ha_; (simp only [Act.put, pu1, pu2, pu3] at ha_); subst ha_) | (refine p_loff gt_ (by rfl) ?_; intro a_ ha_; (simp only [Act.put, pu1, pu2, pu3] at ha_); subst ha_))
    refine p_fin ?_
    clear hS 
    clear hw1
    go_wp2
    go_roundw
    case rel => exact ⟨k + 1, by omega, by omega, by go_num, ⟨by rw [HNE.out (of_decide_eq_false HV.out), HT.out, HTS.out]⟩, HB⟩
    case measure => simp [intOf]; omega
   ·have HS1 := Aside0.mk (HSM.out (of_decide_eq_true HV.out))
    have p2 : ¬ c = k := by have := (Kd.R_reads' HR.out).2.1; omega
    have p3 : k ≤ c := by have := (Kd.R_reads' HR.out).2.1; omega
    have p1 : k ≤ l.length := by omega
    go_wp2_with (fail)
    refine region_bp [] sCo6 (by kernel_rfl) sCo6_ok (by decide) (fun d _ _ _ _ h => by cases d <;> exact h) ?_
    intro u hb
    have hS := hb
    replace HB := Aside0.mk (below_step HB.out hb)
    clear hb
    repeat (first | (refine p_off hS gt_ (by rfl) ?_; intro a_ ha_; (simp only [Act.put, pu1, pu2, pu3] at ha_); subst ha_) | (refine p_on (v := ?_) hS gt_ (by rfl) ?_ ?_; rotate_left; (· rintro w_ hS_; have r0_ := pw_cell_below hS_ r0; have r1_ := pw_cell_below hS_ r1; have t0_ := pw_cell_below hS_ t0; have t1_ := pw_cell_below hS_ t1; go_simp; with_reducible rfl); intro a_ ha_; (simp only [Act.put, pu1, pu2, pu3] at ha_); subst ha_) | (refine p_poff gt_ (by rfl) ?_; intro a_ ha_; (simp only [Act.put, pu1, pu2, pu3] at ha_); subst ha_) | (refine p_pon (v := ?_) gt_ (by rfl) ?_ ?_; rotate_left; (· go_simp; with_reducible rfl); intro a_ ha_; (simp only [Act.put, pu1, pu2, pu3] at ha_); subst ha_) | (refine p_ooff hS gt_ (by rfl) ?_; intro a_ ha_; (simp only [Act.put, pu1, pu2, pu3] at ha_); subst ha_) | (refine p_loff gt_ (by rfl) ?_; intro a_ ha_; (simp only [Act.put, pu1, pu2, pu3] at ha_); subst ha_))
    refine p_fin ?_
    clear hS 
    clear hw1 HTS HNE HSM
    go_wp2_with (fail)
    go_loopw [3, 5] (fun s3 s5 wr => ∃ (i m : Nat) (xs : List Nd), i ≤ k + m - 1 ∧ 1 ≤ m ∧ k + m ≤ l.length ∧ s3 = .int .i64 (i : Int) ∧ s5 = .int .i64 (m : Int) ∧ Aside0 (kN.R 28 wr base (fun _ => True) (.slice (some ⟨g, 0, none⟩) l.length c) xs) ∧ Aside0 (xs.take i = ddT l (k + m)) ∧ Aside0 (xs.drop (k + m - 1) = l.drop (k + m - 1)) ∧ Aside0 (w.grownBy wr (some g))) (fun _ s5 _ => (l.length - intOf s5).toNat)
    case atStart => exact ⟨k, 1, l, by omega, by omega, by omega, rfl, rfl, ⟨Kd.R_below HR.out HB.out⟩, ⟨by rw [HS1.out, HT.out]⟩, ⟨rfl⟩, ⟨grown_of HB.out _⟩⟩
    case round =>
     clear HB
     obtain ⟨i, m, xs, him, hm1, hml, rfl, rfl, HX, H1, H2, HG⟩ := hrel
     have HXL := Aside0.mk (Kd.R_reads' HX.out).1
     have hlc : l.length ≤ c := (Kd.R_reads' HX.out).2.1
     by_cases hlt2 : k + m < l.length
     ·have hjl2 : (m : Int) < ((l.length - k : Nat) : Int) := by omega
      have hm0 : m < l.length - k := by omega
      have hm3 : m - 1 < l.length - k := by omega
      have hw2 : IntKind.i64.wrap ((m : Int) - 1) = ((m - 1 : Nat) : Int) := by rw [IntKind.wrap_i64]; omega
      have HRC := Aside0.mk (Kd.R_reads' HX.out).2.2
      obtain ⟨ad, e1, r0, r1⟩ := nd_at HRC.out (k + m) (by have := HXL.out; omega)
      cases e1
      obtain ⟨ad2, e2, t0, t1⟩ := nd_at HRC.out (k + m - 1) (by have := HXL.out; omega)
      cases e2
      rw [at_drop H2.out (by omega) hlt2] at r0 r1
      rw [at_drop H2.out (by omega) (by omega)] at t0 t1
      simp only [add_plain, show (k + m) * 2 = k * 2 + m * 2 by omega] at r0 r1
      simp only [add_plain, show (k + m - 1) * 2 = k * 2 + (m - 1) * 2 by omega] at t0 t1
      have HD2 := Aside0.mk (show xs.drop (k + m) = l.drop (k + m) by
       have h2 := congrArg (List.drop 1) H2.out
       rw [List.drop_drop, List.drop_drop, show k + m - 1 + 1 = k + m by omega] at h2
       exact h2)
      have HNE := Aside0.mk (ddT_more (l := l) (j := k + m))
      have HSM := Aside0.mk (ddT_same (l := l) (j := k + m) (by omega))
      generalize hx : at_ l (k + m) = x at r0 r1 HNE HSM
      generalize hy : at_ l (k + m - 1) = y at t0 t1 HNE HSM
      clear hx hy
      obtain ⟨v, hv⟩ : ∃ v, (x.lab == y.lab && (x.num == y.num)) = v := ⟨_, rfl⟩
      have HV := Aside0.mk ((nd_eq x y).symm.trans hv)
      have HB := Aside0.mk (Below.refl wr.heap.size wr)
      cases v
      ·have HN1 := Aside0.mk (HNE.out (of_decide_eq_false HV.out))
       have hil : i < l.length := by omega
       go_wp2_with (fail)
       refine region_bp [] sCo11 (by kernel_rfl) sCo11_ok (by decide) (fun d _ _ _ _ h => by cases d <;> exact h) ?_
       intro u hb
       have hS := hb
       replace HB := Aside0.mk (below_step HB.out hb)
       replace HX := Aside0.mk (Kd.R_below (HX.out) hb)
       replace HG := Aside0.mk (grown_then (HG.out) (grown_of hb _))
       have R0n := Aside0.mk (pw_cell_below hb r0)
       have R1n := Aside0.mk (pw_cell_below hb r1)
       clear hb
       repeat (first | (refine p_off hS gt_ (by rfl) ?_; intro a_ ha_; (simp only [Act.put, pu1, pu2, pu3] at ha_); subst ha_) | (refine p_on (v := ?_) hS gt_ (by rfl) ?_ ?_; rotate_left; (· rintro w_ hS_; have r0_ := pw_cell_below hS_ r0; have r1_ := pw_cell_below hS_ r1; have t0_ := pw_cell_below hS_ t0; have t1_ := pw_cell_below hS_ t1; go_simp; with_reducible rfl); intro a_ ha_; (simp only [Act.put, pu1, pu2, pu3] at ha_); subst ha_) | (refine p_poff gt_ (by rfl) ?_; intro a_ ha_; (simp only [Act.put, pu1, pu2, pu3] at ha_); subst ha_) | (refine p_pon (v := ?_) gt_ (by rfl) ?_ ?_; rotate_left; (· go_simp; with_reducible rfl); intro a_ ha_; (simp only [Act.put, pu1, pu2, pu3] at ha_); subst ha_) | (refine p_ooff hS gt_ (by rfl) ?_; intro a_ ha_; (simp only [Act.put, pu1, pu2, pu3] at ha_); subst ha_) | (refine p_loff gt_ (by rfl) ?_; intro a_ ha_; (simp only [Act.put, pu1, pu2, pu3] at ha_); subst ha_))
       refine p_fin ?_
       clear hS 
       replace r0 := R0n.out
       replace r1 := R1n.out
       clear hw2
       go_wp2_with (first | ((with_reducible refine gate_store (p := 51) rfl ?_); go_must (refine store_nd i x rfl rfl 28 _ _ rfl rfl rfl (by kernel_rfl) HX.out (by omega) ?_); intro w3 hr3 hg3; have HX3 := Aside0.mk hr3; have HG3 := Aside0.mk (grown_then HG.out hg3); clear hr3 hg3))
       go_roundw
       case rel => exact ⟨i + 1, m + 1, xs.set i x, by omega, by omega, by omega, by go_num, by go_num, HX3, ⟨by rw [take_set (by have := HXL.out; omega), H1.out, ← HN1.out]; rfl⟩, ⟨by rw [show k + (m + 1) - 1 = k + m by omega, List.drop_set_of_lt (by omega)]; exact HD2.out⟩, HG3⟩
       case measure => simp [intOf]; omega
      ·have HN1 := Aside0.mk (HSM.out (of_decide_eq_true HV.out))
       go_wp2_with (fail)
       refine region_bp [] sCo11 (by kernel_rfl) sCo11_ok (by decide) (fun d _ _ _ _ h => by cases d <;> exact h) ?_
       intro u hb
       have hS := hb
       replace HB := Aside0.mk (below_step HB.out hb)
       replace HX := Aside0.mk (Kd.R_below (HX.out) hb)
       replace HG := Aside0.mk (grown_then (HG.out) (grown_of hb _))
       have R0n := Aside0.mk (pw_cell_below hb r0)
       have R1n := Aside0.mk (pw_cell_below hb r1)
       clear hb
       repeat (first | (refine p_off hS gt_ (by rfl) ?_; intro a_ ha_; (simp only [Act.put, pu1, pu2, pu3] at ha_); subst ha_) | (refine p_on (v := ?_) hS gt_ (by rfl) ?_ ?_; rotate_left; (· rintro w_ hS_; have r0_ := pw_cell_below hS_ r0; have r1_ := pw_cell_below hS_ r1; have t0_ := pw_cell_below hS_ t0; have t1_ := pw_cell_below hS_ t1; go_simp; with_reducible rfl); intro a_ ha_; (simp only [Act.put, pu1, pu2, pu3] at ha_); subst ha_) | (refine p_poff gt_ (by rfl) ?_; intro a_ ha_; (simp only [Act.put, pu1, pu2, pu3] at ha_); subst ha_) | (refine p_pon (v := ?_) gt_ (by rfl) ?_ ?_; rotate_left; (· go_simp; with_reducible rfl); intro a_ ha_; (simp only [Act.put, pu1, pu2, pu3] at ha_); subst ha_) | (refine p_ooff hS gt_ (by rfl) ?_; intro a_ ha_; (simp only [Act.put, pu1, pu2, pu3] at ha_); subst ha_) | (refine p_loff gt_ (by rfl) ?_; intro a_ ha_; (simp only [Act.put, pu1, pu2, pu3] at ha_); subst ha_))
       refine p_fin ?_
       clear hS 
       replace r0 := R0n.out
       replace r1 := R1n.out
       clear hw2
       go_wp2_with (fail)
       go_roundw
       case rel => exact ⟨i, m + 1, xs, by omega, by omega, by omega, rfl, by go_num, HX, ⟨by rw [H1.out]; exact HN1.out.symm⟩, ⟨by rw [show k + (m + 1) - 1 = k + m by omega]; exact HD2.out⟩, HG⟩
       case measure => simp [intOf]; omega
     ·have hjl2 : ¬ (m : Int) < ((l.length - k : Nat) : Int) := by omega
      have hkm : k + m = l.length := by omega
      rw [hkm] at H1
      have HR4 := Aside0.mk (row_takeN HX.out (m := i) (by omega))
      have HL4 := Aside0.mk (show (xs.take i).length = i by have := HXL.out; rw [List.length_take]; omega)
      have HF := Aside0.mk (show xs.take i = dd l from H1.out)
      have q1 : i ≤ l.length := by omega
      have q2 : ¬ c = i := by omega
      have q3 : i ≤ c := by omega
      go_wp2_with (first | ((with_reducible refine gate_builtin (b := .clear) rfl ?_); go_must (refine clear_tail flatN rfl _ 23 rfl Tryz.underlying23 (.agg #[(.int .i64 0), (.int .i64 0)]) 16 infoN rfl zoneN (off := i * 2) (m := l.length - i) rfl rfl HR4.out (by omega) (by omega) ?_); intro w4 hr4 hg4; have HR5 := Aside0.mk hr4; have HG4 := Aside0.mk (grown_then HG.out hg4); clear hr4 hg4))
      go_ret
      exact ⟨by rw [← HF.out, HL4.out]; rfl, by rw [← HF.out, HL4.out]; exact HR5.out, HG4.out⟩

  ·have hjl : ¬ (k : Int) < (l.length : Int) := by omega
   obtain rfl : k = l.length := by omega
   have HD := Aside0.mk (show dd l = l by unfold dd; rw [HT.out, List.take_length])
   go_wp2_with (fail)
   go_ret
   exact ⟨by rw [HD.out]; rfl, by rw [HD.out]; exact Kd.R_below HR.out HB.out, grown_of HB.out _⟩
end Go.Proofs.YtogmbeifbjgphaaGreat.R
namespace Go.Proofs.YtogmbeifbjgphaaGreat.R
open Go.Shelf
def sortRen : Ren := ⟨fun | 6 => 58 | 15 => 111 | 14 => 110 | 28 => 141 | 29 => 142 | 20 => 133 | 21 => 134 | 22 => 135 | 23 => 136 | 24 => 137 | 25 => 138 | 26 => 139 | 27 => 140 | 46 => 155 | 47 => 156 | 48 => 157 | 49 => 158 | 50 => 159 | 57 => 172 | n => n, fun | 22 => 23 | 24 => 28 | 25 => 79 | 3 => 3 | 39 => 133 | 0 => 0 | 53 => 161 | 55 => 163 | 4 => 4 | 46 => 155 | 45 => 154 | 50 => 113 | 5 => 5 | 9 => 9 | 66 => 171 | 70 => 175 | 76 => 185 | 77 => 186 | n => n, fun n => n⟩
theorem sortLays : SlLaysF0.n6 Tryz.prog sortRen := { mixed := by kernel_rfl, f6 := ⟨Tryz.f58.name, by decide, Tryz.func58.trans (congrArg some (by kernel_rfl))⟩, f14 := ⟨Tryz.f110.name, by decide, Tryz.func110.trans (congrArg some (by kernel_rfl))⟩, f15 := Tryz.func111.trans (congrArg some (by kernel_rfl)), f20 := ⟨Tryz.f133.name, by decide, Tryz.func133.trans (congrArg some (by kernel_rfl))⟩, f21 := ⟨Tryz.f134.name, by decide, Tryz.func134.trans (congrArg some (by kernel_rfl))⟩, f22 := ⟨Tryz.f135.name, by decide, Tryz.func135.trans (congrArg some (by kernel_rfl))⟩, f23 := ⟨Tryz.f136.name, by decide, Tryz.func136.trans (congrArg some (by kernel_rfl))⟩, f24 := ⟨Tryz.f137.name, by decide, Tryz.func137.trans (congrArg some (by kernel_rfl))⟩, f25 := ⟨Tryz.f138.name, by decide, Tryz.func138.trans (congrArg some (by kernel_rfl))⟩, f26 := ⟨Tryz.f139.name, by decide, Tryz.func139.trans (congrArg some (by kernel_rfl))⟩, f27 := ⟨Tryz.f140.name, by decide, Tryz.func140.trans (congrArg some (by kernel_rfl))⟩, f28 := Tryz.func141.trans (congrArg some (by kernel_rfl)), f29 := Tryz.func142.trans (congrArg some (by kernel_rfl)), f46 := ⟨Tryz.f155.name, by decide, Tryz.func155.trans (congrArg some (by kernel_rfl))⟩, f47 := Tryz.func156.trans (congrArg some (by kernel_rfl)), f48 := Tryz.func157.trans (congrArg some (by kernel_rfl)), f49 := ⟨Tryz.f158.name, by decide, Tryz.func158.trans (congrArg some (by kernel_rfl))⟩, f50 := ⟨Tryz.f159.name, by decide, Tryz.func159.trans (congrArg some (by kernel_rfl))⟩, f57 := ⟨Tryz.f172.name, by decide, Tryz.func172.trans (congrArg some (by kernel_rfl))⟩, t0 := Tryz.underlying0, a0 := Tryz.isAgg0, z0 := Tryz.sizeOf0, v0 := Tryz.zeroValue0, t3 := Tryz.underlying3, a3 := Tryz.isAgg3, z3 := Tryz.sizeOf3, v3 := Tryz.zeroValue3, t4 := Tryz.underlying4, a4 := Tryz.isAgg4, z4 := Tryz.sizeOf4, v4 := Tryz.zeroValue4, t5 := Tryz.underlying5, a5 := Tryz.isAgg5, z5 := Tryz.sizeOf5, v5 := Tryz.zeroValue5, t9 := Tryz.underlying9, a9 := Tryz.isAgg9, z9 := Tryz.sizeOf9, v9 := Tryz.zeroValue9, t22 := Tryz.underlying23, a22 := Tryz.isAgg23, z22 := Tryz.sizeOf23, v22 := Tryz.zeroValue23, t25 := Tryz.underlying79, a25 := Tryz.isAgg79, z25 := Tryz.sizeOf79, v25 := Tryz.zeroValue79, t39 := Tryz.underlying133, a39 := Tryz.isAgg133, z39 := Tryz.sizeOf133, v39 := Tryz.zeroValue133, t45 := Tryz.underlying154, a45 := Tryz.isAgg154, z45 := Tryz.sizeOf154, v45 := Tryz.zeroValue154, t46 := Tryz.underlying155, a46 := Tryz.isAgg155, z46 := Tryz.sizeOf155, v46 := Tryz.zeroValue155, t50 := Tryz.underlying113, a50 := Tryz.isAgg113, z50 := Tryz.sizeOf113, v50 := Tryz.zeroValue113, t53 := Tryz.underlying161, a53 := Tryz.isAgg161, z53 := Tryz.sizeOf161, v53 := Tryz.zeroValue161, t55 := Tryz.underlying163, a55 := Tryz.isAgg163, z55 := Tryz.sizeOf163, v55 := Tryz.zeroValue163, t66 := Tryz.underlying171, a66 := Tryz.isAgg171, z66 := Tryz.sizeOf171, v66 := Tryz.zeroValue171, t70 := Tryz.underlying175, a70 := Tryz.isAgg175, z70 := Tryz.sizeOf175, v70 := Tryz.zeroValue175, t76 := Tryz.underlying185, a76 := Tryz.isAgg185, z76 := Tryz.sizeOf185, v76 := Tryz.zeroValue185, t77 := Tryz.underlying186, a77 := Tryz.isAgg186, z77 := Tryz.sizeOf186, v77 := Tryz.zeroValue186 }
end Go.Proofs.YtogmbeifbjgphaaGreat.R
