/- The reference: GraphDo; Draws: a number of a list, the reader's begin, a node; labels mixed; Draws: a node. -/
import Derived.Test.YtogmbeifbjgphaaGreatKB21
namespace Go.Proofs.YtogmbeifbjgphaaGreat.R
open Go.RowKit Go.Proofs.YtogmbeifbjgphaaGreatV.PrintWords Go.Proofs.YtogmbeifbjgphaaGreatV.PrintLast Go.Proofs.YtogmbeifbjgphaaGreatV.PrintMore Go.Proofs.YtogmbeifbjgphaaGreat.M
set_option linter.unusedVariables false
set_option linter.unusedSimpArgs false
attribute [local go_sem high] eqN eqE
theorem okG_lens {ns : List Nd} {es : List Eg} (h : OkG ns es) : ns.length ≤ 40 ∧ es.length ≤ 56 := ⟨NsOk.len ⟨h.nok, h.nasc, h.nfew⟩, EsOk.len (ns := ns) ⟨h.eok, h.easc, h.efew, h.ends⟩⟩
abbrev sGd : List (Nat × Bool) := [(0, true), (2, true)]
abbrev sGdT : Sch := (.fork 1 [] (.fork 3 [(4, true), (5, true), (6, true), (7, false), (8, false), (9, true)] .fin 7 [(3, false), (4, true), (5, true), (6, true), (8, false), (9, true)] .fin) 7 [(1, false), (3, false), (4, true), (5, true), (6, true), (8, false), (9, true)] .fin)
theorem sGd_ok : schedT .any (opsOf Tryz.f11 3) sGdT sGd (Array.replicate (opsOf Tryz.f11 3).size false) = true := by kernel_rfl
set_option maxHeartbeats 6400000 in
set_option maxRecDepth 100000 in
theorem sGraphDo_bad (A : Option Addr) (c : Nat) (ns : List Nd) (B : Option Addr) (d : Nat) (es : List Eg) (op : M.Op) (w : World) (hr : GR w A c ns B d es) (hn : ns.length ≤ 1000000) (he : es.length ≤ 1000000) (hg : okG ns es = false) :
 Calls Tryz.prog 11 #[.agg #[.slice A ns.length c, .slice B es.length d], .agg #[.int .i64 op.kind, .int .i64 op.nd.lab, .int .i64 op.nd.num, .int .i64 op.eg.lab, .int .i64 op.eg.a.lab, .int .i64 op.eg.a.num, .int .i64 op.eg.b.lab, .int .i64 op.eg.b.num]] w fun e w' => ∃ A' c' B' d', e = .returned (.tuple #[.agg #[.slice A' (doN ns es op).length c', .slice B' (doE ns es op).length d'], .int .i64 (doC ns es op)]) ∧ GR w' A' c' (doN ns es op) B' d' (doE ns es op) ∧ Below w.heap.size w w' := by
 have HR := Aside0.mk hr
 have HNL := Aside0.mk hn
 have HEL := Aside0.mk he
 have HG := Aside0.mk hg
 clear hr hn he hg
 have HD := Aside0.mk (do_bad (op := op) HG.out)
 obtain ⟨h1, h2, h3⟩ := HD.out
 rw [h1, h2, h3]
 clear h1 h2 h3
 obtain ⟨L0, L1, L2, HB⟩ := al3 w #[.slice A ns.length c, .slice B es.length d] #[.int .i64 op.kind, .int .i64 op.nd.lab, .int .i64 op.nd.num, .int .i64 op.eg.lab, .int .i64 op.eg.a.lab, .int .i64 op.eg.a.num, .int .i64 op.eg.b.lab, .int .i64 op.eg.b.num] #[.slice none 0 0, .slice none 0 0] 26 32 26
 go_enter Tryz.func11, Tryz.ntmps11
 go_wp2_with (first | (go_at_call 19; go_must ((refine (sGraphOk_calls A c ns B d es _ (HR.out.below HB.out) HNL.out HEL.out).mono ?_); rintro e u_ ⟨rfl, hb⟩; rw [HG.out]; replace HB := Aside0.mk (below_step HB.out hb); replace L0 := Aside0.mk (blk_below L0.out hb); replace L1 := Aside0.mk (blk_below L1.out hb); replace L2 := Aside0.mk (blk_below L2.out hb); (try clear g0 g1); obtain ⟨g0, g1⟩ := cs2 (L0.out); (try clear o0 o1 o2 o3 o4 o5 o6 o7); obtain ⟨o0, o1, o2, o3, o4, o5, o6, o7⟩ := cs8 (L1.out); (try clear r0 r1); obtain ⟨r0, r1⟩ := cs2 (L2.out); clear hb)) | ((with_reducible refine gate_store (p := 4) rfl ?_); go_must ((refine wpList_plain rfl fun K_ hK_ => wp_store_row _ _ _ rfl (w.heap.size + 2) #[.slice none 0 0, .slice none 0 0] rfl rfl _ _ L2.out (by kernel_rfl) rfl (by simp [Value.oneCell']) (hK_ _ _ ?_)); refine named _ ?_; intro wz hwz; replace L0 := Aside0.mk (so_ hwz L0.out (by omega)); replace L1 := Aside0.mk (so_ hwz L1.out (by omega)); replace L2 := Aside0.mk (sh_ hwz L2.out); replace HB := Aside0.mk (sb_ hwz HB.out (by omega)); (try clear g0 g1); obtain ⟨g0, g1⟩ := cs2 (L0.out); (try clear o0 o1 o2 o3 o4 o5 o6 o7); obtain ⟨o0, o1, o2, o3, o4, o5, o6, o7⟩ := cs8 (L1.out); (try clear r0 r1); obtain ⟨r0, r1⟩ := cs2 (L2.out); clear hwz)))
 refine bodyPost_ret (results_ct rfl _ _ (w.heap.size + 2) _ #[.slice none 0 0, .slice none 0 0] (0, 0) _ rfl L2.out Tryz.underlying26 rfl (by kernel_rfl)) rfl ⟨none, 0, none, 0, rfl, gr_nil _, HB.out⟩
set_option maxHeartbeats 25600000 in
set_option maxRecDepth 100000 in
theorem sGraphDo_ok (A : Option Addr) (c : Nat) (ns : List Nd) (B : Option Addr) (d : Nat) (es : List Eg) (op : M.Op) (w : World) (hr : GR w A c ns B d es) (hn : ns.length ≤ 1000000) (he : es.length ≤ 1000000) (hg : okG ns es = true) :
 Calls Tryz.prog 11 #[.agg #[.slice A ns.length c, .slice B es.length d], .agg #[.int .i64 op.kind, .int .i64 op.nd.lab, .int .i64 op.nd.num, .int .i64 op.eg.lab, .int .i64 op.eg.a.lab, .int .i64 op.eg.a.num, .int .i64 op.eg.b.lab, .int .i64 op.eg.b.num]] w fun e w' => ∃ A' c' B' d', e = .returned (.tuple #[.agg #[.slice A' (doN ns es op).length c', .slice B' (doE ns es op).length d'], .int .i64 (doC ns es op)]) ∧ GR w' A' c' (doN ns es op) B' d' (doE ns es op) ∧ Below w.heap.size w w' := by
 have HR := Aside0.mk hr
 have HNL := Aside0.mk hn
 have HEL := Aside0.mk he
 have HG := Aside0.mk hg
 clear hr hn he hg
 obtain ⟨L0, L1, L2, HB⟩ := al3 w #[.slice A ns.length c, .slice B es.length d] #[.int .i64 op.kind, .int .i64 op.nd.lab, .int .i64 op.nd.num, .int .i64 op.eg.lab, .int .i64 op.eg.a.lab, .int .i64 op.eg.a.num, .int .i64 op.eg.b.lab, .int .i64 op.eg.b.num] #[.slice none 0 0, .slice none 0 0] 26 32 26
 go_enter Tryz.func11, Tryz.ntmps11
 go_wp2_with (first | (go_at_call 19; go_must ((refine (sGraphOk_calls A c ns B d es _ (HR.out.below HB.out) HNL.out HEL.out).mono ?_); rintro e u_ ⟨rfl, hb⟩; rw [HG.out]; replace HB := Aside0.mk (below_step HB.out hb); replace L0 := Aside0.mk (blk_below L0.out hb); replace L1 := Aside0.mk (blk_below L1.out hb); replace L2 := Aside0.mk (blk_below L2.out hb); (try clear g0 g1); obtain ⟨g0, g1⟩ := cs2 (L0.out); (try clear o0 o1 o2 o3 o4 o5 o6 o7); obtain ⟨o0, o1, o2, o3, o4, o5, o6, o7⟩ := cs8 (L1.out); (try clear r0 r1); obtain ⟨r0, r1⟩ := cs2 (L2.out); clear hb)))
 refine region_tb _ (Nat.le_refl _) sGd sGdT (by kernel_rfl) sGd_ok (by decide) (fun d _ _ _ _ h => by cases d <;> exact h) ?_
 intro u hS
 repeat' (first | (refine h_off gt_ (by rfl) ?_; intro a_ ha_; (simp only [Act.put, pu1, pu2, pu3] at ha_); subst ha_) | (refine h_on (v := ?_) gt_ (by rfl) ?_ ?_; rotate_left; (· rintro w_ hS_; obtain ⟨g0_, g1_⟩ := cs2 (blk_below L0.out hS_); obtain ⟨o0_, o1_, o2_, o3_, o4_, o5_, o6_, o7_⟩ := cs8 (blk_below L1.out hS_); go_simp; with_reducible rfl); intro a_ ha_; (simp only [Act.put, pu1, pu2, pu3] at ha_); subst ha_) | (refine h_call2 (f := 43) (args := #[.agg #[.slice A ns.length c, .slice B es.length d]]) Tryz.func43 (by kernel_rfl) rfl gt_ (by rfl) (by rfl) mp_ ?_; (refine (l2Copy_calls A c ns B d es _ (HR.out.below (below_step HB.out hS)) HNL.out HEL.out).mono ?_); rintro e_ u_ ⟨A1, c1, B1, d1, rfl, hgr_, hrn_, hre_, -, hb_⟩; have HG1 := Aside0.mk hgr_; have RN := Aside0.mk hrn_; have RE := Aside0.mk hre_; (first | (have HA1 := Aside0.mk (show (∀ a, A1 = some a → a.block ≠ g) ∧ (∀ a, B1 = some a → a.block ≠ g) from ⟨fun a ha => by have := Kd.R_base RN.out a.block (by rw [ha]; rfl); have := blk_lt HT.out; omega, fun a ha => by have := Kd.R_base RE.out a.block (by rw [ha]; rfl); have := blk_lt HT.out; omega⟩)) | skip); replace hS := below_step hS hb_; (first | (replace HT := Aside0.mk (blk_below HT.out hb_)) | skip); clear hgr_ hrn_ hre_ hb_; refine ⟨_, rfl, hS, fun a_ ha_ => ?_⟩; (simp only [Act.put, pu1, pu2, pu3] at ha_); subst ha_) | (refine h_call2 (f := 42) (args := #[.agg #[.slice A1 ns.length c1, .slice B1 es.length d1], .agg #[.int .i64 op.kind, .int .i64 op.nd.lab, .int .i64 op.nd.num, .int .i64 op.eg.lab, .int .i64 op.eg.a.lab, .int .i64 op.eg.a.num, .int .i64 op.eg.b.lab, .int .i64 op.eg.b.num]]) Tryz.func42 (by kernel_rfl) rfl gt_ (by rfl) (by rfl) mp_ ?_; (refine (l2Do_calls A1 c1 ns B1 d1 es op _ HG1.out HNL.out HEL.out).mono ?_); rintro e_ u_ ⟨⟨A2, c2, B2, d2, ns2, es2, q2, rfl, hgr_, hfar_, -, -, hok_⟩, hb_⟩; obtain ⟨rfl, rfl, rfl⟩ := hok_ HG.out; have HG2 := Aside0.mk hgr_; (first | (have HN2 := Aside0.mk (show NotIn g A2 (doN ns es op).length ∧ NotIn g B2 (doE ns es op).length from ⟨notIn_far hfar_.1 HA1.out.1 (blk_lt HT.out), notIn_far hfar_.2 HA1.out.2 (blk_lt HT.out)⟩)) | skip); replace hS := below_step hS hb_; (first | (replace HT := Aside0.mk (blk_below HT.out hb_)) | skip); clear hgr_ hfar_ hok_ hb_; refine ⟨_, rfl, hS, fun a_ ha_ => ?_⟩; (simp only [Act.put, pu1, pu2, pu3] at ha_); subst ha_) | (refine h_new #[.slice none 0 0, .slice none 0 0] 26 gt_ (by rfl) (by go_simp; (first | done | rfl)) (below_step hS (below_alloc (Below.refl _ _) _)) ?_; intro g u_ hge_ hb0_ hb_ hS_ a_ ha_; (simp only [Act.put, pu1, pu2, pu3] at ha_); subst ha_; have HT := Aside0.mk hb0_; (first | (have HN2 := Aside0.mk (HG2.out.new hge_)) | (have HA1 := Aside0.mk (show (∀ a, A1 = some a → a.block ≠ g) ∧ (∀ a, B1 = some a → a.block ≠ g) from ⟨fun a ha => by have := Kd.R_lt RN.out a.block (by rw [ha]; rfl); omega, fun a ha => by have := Kd.R_lt RE.out a.block (by rw [ha]; rfl); omega⟩)) | skip); have HGE := Aside0.mk (Nat.le_trans hS.size hge_); replace hS := hS_; (first | (replace HG2 := Aside0.mk (HG2.out.below hb_)) | (replace HG1 := Aside0.mk (HG1.out.below hb_)) | skip); clear hb0_ hb_ hge_ hS_) | (refine h_row g #[.slice A2 (doN ns es op).length c2, .slice B2 (doE ns es op).length d2] _ _ HT.out gt_ (by rfl) rfl rfl rfl (by kernel_rfl) rfl (by simp [Value.oneCell']) (hS.trans (below_setRow (Below.refl _ _) HGE.out _)) ?_; intro a_ ha_; (simp only [Act.put, pu1, pu2, pu3] at ha_); subst ha_; refine named _ ?_; intro uz huz; replace hS := hS.trans (show Below _ _ uz by rw [huz]; exact below_setRow (Below.refl _ _) HGE.out _); have HT2 := Aside0.mk (show uz.heap[g]? = some (.cells #[.slice A2 (doN ns es op).length c2, .slice B2 (doE ns es op).length d2] 26 (0, 0)) by rw [huz]; exact setRow_heap _ _ _ _ _ _ HT.out); replace HG2 := Aside0.mk (show GR uz A2 c2 (doN ns es op) B2 d2 (doE ns es op) by rw [huz]; exact HG2.out.keep (grown_setRow _ _ _) HN2.out.1 HN2.out.2); clear huz HT) | refine h_fork ?_ ?_)
 all_goals
  refine h_fin ?_
  replace HB := Aside0.mk (below_step HB.out hS); replace L0 := Aside0.mk (blk_below L0.out hS); replace L1 := Aside0.mk (blk_below L1.out hS); replace L2 := Aside0.mk (blk_below L2.out hS); (try clear g0 g1); obtain ⟨g0, g1⟩ := cs2 (L0.out); (try clear o0 o1 o2 o3 o4 o5 o6 o7); obtain ⟨o0, o1, o2, o3, o4, o5, o6, o7⟩ := cs8 (L1.out); (try clear r0 r1); obtain ⟨r0, r1⟩ := cs2 (L2.out)
  obtain ⟨t0, t1⟩ := cs2 HT2.out
  clear hS
  go_wp2_with (first | (go_at_call 43; go_must ((refine (l2Copy_calls A2 c2 (doN ns es op) B2 d2 (doE ns es op) _ HG2.out (by have := okG_lens (do_ok (op := op) (okG_true.1 HG.out)); omega) (by have := okG_lens (do_ok (op := op) (okG_true.1 HG.out)); omega)).mono ?_); rintro e u_ ⟨A3, c3, B3, d3, rfl, hgr_, hrn_, hre_, -, hb⟩; have HG3 := Aside0.mk hgr_; have HN3 := Aside0.mk (show NotIn (w.heap.size + 2) A3 (doN ns es op).length ∧ NotIn (w.heap.size + 2) B3 (doE ns es op).length from ⟨notIn_fresh (fun a ha => Kd.R_base hrn_ a.block (by rw [ha]; rfl)) (blk_lt L2.out), notIn_fresh (fun a ha => Kd.R_base hre_ a.block (by rw [ha]; rfl)) (blk_lt L2.out)⟩); clear hgr_ hrn_ hre_; replace HB := Aside0.mk (below_step HB.out hb); replace L0 := Aside0.mk (blk_below L0.out hb); replace L1 := Aside0.mk (blk_below L1.out hb); replace L2 := Aside0.mk (blk_below L2.out hb); (try clear g0 g1); obtain ⟨g0, g1⟩ := cs2 (L0.out); (try clear o0 o1 o2 o3 o4 o5 o6 o7); obtain ⟨o0, o1, o2, o3, o4, o5, o6, o7⟩ := cs8 (L1.out); (try clear r0 r1); obtain ⟨r0, r1⟩ := cs2 (L2.out); clear hb)) | ((with_reducible refine gate_store (p := 4) rfl ?_); go_must ((refine wpList_plain rfl fun K_ hK_ => wp_store_row _ _ _ rfl (w.heap.size + 2) #[.slice A3 (doN ns es op).length c3, .slice B3 (doE ns es op).length d3] rfl rfl _ _ L2.out (by kernel_rfl) rfl (by simp [Value.oneCell']) (hK_ _ _ ?_)); refine named _ ?_; intro wz hwz; replace L0 := Aside0.mk (so_ hwz L0.out (by omega)); replace L1 := Aside0.mk (so_ hwz L1.out (by omega)); replace L2 := Aside0.mk (sh_ hwz L2.out); replace HG3 := Aside0.mk (show GR wz A3 c3 (doN ns es op) B3 d3 (doE ns es op) by rw [hwz]; exact (HG3.out).keep (grown_setRow _ _ _) HN3.out.1 HN3.out.2); replace HB := Aside0.mk (sb_ hwz HB.out (by omega)); (try clear g0 g1); obtain ⟨g0, g1⟩ := cs2 (L0.out); (try clear o0 o1 o2 o3 o4 o5 o6 o7); obtain ⟨o0, o1, o2, o3, o4, o5, o6, o7⟩ := cs8 (L1.out); (try clear r0 r1); obtain ⟨r0, r1⟩ := cs2 (L2.out); clear hwz)))
  refine bodyPost_ret (results_ct rfl _ _ (w.heap.size + 2) _ #[.slice A3 (doN ns es op).length c3, .slice B3 (doE ns es op).length d3] (0, 0) _ rfl L2.out Tryz.underlying26 rfl (by kernel_rfl)) rfl ⟨A3, c3, B3, d3, rfl, HG3.out, HB.out⟩
theorem sGraphDo_calls (A : Option Addr) (c : Nat) (ns : List Nd) (B : Option Addr) (d : Nat) (es : List Eg) (op : M.Op) (w : World) (hr : GR w A c ns B d es) (hn : ns.length ≤ 1000000) (he : es.length ≤ 1000000) :
 Calls Tryz.prog 11 #[.agg #[.slice A ns.length c, .slice B es.length d], .agg #[.int .i64 op.kind, .int .i64 op.nd.lab, .int .i64 op.nd.num, .int .i64 op.eg.lab, .int .i64 op.eg.a.lab, .int .i64 op.eg.a.num, .int .i64 op.eg.b.lab, .int .i64 op.eg.b.num]] w fun e w' => ∃ A' c' B' d', e = .returned (.tuple #[.agg #[.slice A' (doN ns es op).length c', .slice B' (doE ns es op).length d'], .int .i64 (doC ns es op)]) ∧ GR w' A' c' (doN ns es op) B' d' (doE ns es op) ∧ Below w.heap.size w w' := by
 cases h : okG ns es with
 | false => exact sGraphDo_bad A c ns B d es op w hr hn he h
 | true => exact sGraphDo_ok A c ns B d es op w hr hn he h
end Go.Proofs.YtogmbeifbjgphaaGreat.R
namespace Go.Proofs.YtogmbeifbjgphaaGreat.R
open Go.RowKit Go.Proofs.YtogmbeifbjgphaaGreatV.PrintWords Go.Proofs.YtogmbeifbjgphaaGreatV.PrintLast Go.Proofs.YtogmbeifbjgphaaGreatV.PrintMore Go.Proofs.YtogmbeifbjgphaaGreat.M
set_option linter.unusedVariables false
set_option linter.unusedSimpArgs false
attribute [local go_sem high] eqN eqE
theorem blk_g {w u : World} {g G : Nat} {o : Obj} (hg : w.grownBy u (some G)) (h : w.heap[g]? = some o) (hne : g ≠ G) : u.heap[g]? = some o := (hg.block g (blk_lt h) (fun e => hne (Option.some.inj e))).trans h
theorem Dw.more {b : Nat} {w u v : World} {G p q k j : Nat} (h : w.grownBy u (some G)) (h1 : p ≤ q) (h2 : q ≤ p + k) (hd : Dw b u v G q j) : Dw b w v G p (k + j) := by
 obtain ⟨r, r1, r2, r3⟩ := hd.rd
 exact ⟨⟨r, by omega, by omega, r3⟩, grown_trans h hd.gr⟩
/-- A draw's contract, told of the world where the drawing began. -/
theorem draw_lift {b : Nat} {P : Program} {f : FuncId} {args : Array Value} {w0 w : World} {G p0 k j lim : Nat} {Q : Ending → World → Prop} (h : ∀ q, Rd b w G q → q ≤ lim → Calls P f args w fun e w' => Q e w' ∧ Dw b w w' G q j) (hd : Dw b w0 w G p0 k) (hl : p0 + k ≤ lim) :
 Calls P f args w fun e w' => Q e w' ∧ Dw b w0 w' G p0 (k + j) ∧ w.grownBy w' (some G) := by
 obtain ⟨q, q1, q2, q3⟩ := hd.rd
 exact (h q q3 (by omega)).mono fun e w' hh => ⟨hh.1, Dw.more hd.gr q1 q2 hh.2, hh.2.gr⟩
theorem Dw.alloc {b : Nat} {w u : World} {G p k : Nat} (h : Dw b w u G p k) (o : Obj) : Dw b w (u.alloc o) G p k := h.below (below_alloc (Below.refl _ _) o)
/-- A block of another's is written. -/
theorem Dw.over {b : Nat} {w u v : World} {G p k g : Nat} (h : Dw b w u G p k) (hg : u.grownBy v (some g)) (hb : b ≤ g) (hw : w.heap.size ≤ g) : Dw b w v G p k := by
 obtain ⟨q, q1, q2, A, c, bs, h3⟩ := h.rd
 have hl := h3.low
 refine ⟨⟨q, q1, q2, A, c, bs, blk_g hg h3.blk (by omega), C_over (flatI .u8) h3.row hg fun hn ad e he => by have := hl.2.2 hn ad e; have := Option.some.inj he; omega, h3.far, h3.few, h3.byt, hl.1, Nat.le_trans hl.2.1 hg.size, hl.2.2⟩, grown_over h.gr hg fun k hk _ e => by have := Option.some.inj e; omega⟩
/-- A row of numbers just laid. -/
theorem C_lit {k : IntKind} {w : World} {g : Nat} {t : TypeId} (xs : List Int) {cs : Array Value} (h : w.heap[g]? = some (.cells cs t (0, 0))) (hc : cs.toList = xs.map (Value.int k)) (hl : xs.length ≤ 1000) : (Kd.int k).C w (some ⟨g, 0, none⟩) xs.length xs := by
 refine ⟨rfl, by omega, fun _ => ⟨_, rfl, fun j p hj => ⟨[.int k p], rfl, rfl, fun i u hi => ?_⟩⟩⟩
 obtain ⟨rfl, rfl⟩ : i = 0 ∧ Value.int k p = u := by
  match i, hi with
  | 0, hi => exact ⟨rfl, Option.some.inj hi⟩
 rw [show j * (Kd.int k).sz + 0 = j from Nat.mul_one j, add_plain, blk_cell h j, ← Array.getElem?_toList, hc, List.getElem?_map, hj]
 rfl
section
variable {P : Program} {ops : Array Oper} {rest : List Oper} {o : Oper} {a : Act} {Q : Exit → Act → World → Prop} {w : World}
/-- A block of its own for a struct. -/
theorem w_new (cs : Array Value) (t : TypeId) (hgd : o.guard = none) (hrun : (execOp a.eval o).run P w = .ok (.value (.pointer (some ⟨w.heap.size, 0, none⟩))) (w.alloc (.cells cs t)))
 (h : ∀ g u, w.heap.size ≤ g → u.heap[g]? = some (.cells cs t (0, 0)) → Below w.heap.size w u → wpList P ops Q rest (a.put o.dst (.pointer (some ⟨g, 0, none⟩))) u) : wpList P ops Q (o :: rest) a w :=
 Kd.event_run hgd hrun (h _ _ (Nat.le_refl _) (blk_new w _) (below_alloc (Below.refl _ _) _))
/-- A row of its own, told cell by cell. -/
theorem w_lit (cs : Array Value) (t : TypeId) (n : Nat) (hgd : o.guard = none) (hrun : (execOp a.eval o).run P w = .ok (.value (.slice (some ⟨w.heap.size, 0, none⟩) n n)) (w.alloc (.cells cs t)))
 (h : ∀ g u, w.heap.size ≤ g → u.heap[g]? = some (.cells cs t (0, 0)) → Below w.heap.size w u → wpList P ops Q rest (a.put o.dst (.slice (some ⟨g, 0, none⟩) n n)) u) : wpList P ops Q (o :: rest) a w :=
 Kd.event_run hgd hrun (h _ _ (Nat.le_refl _) (blk_new w _) (below_alloc (Below.refl _ _) _))
end
/-- A number drawn below n (0, if there is none). -/
def PickedN (n : Int) (e : Ending) : Prop := ∃ k : Nat, e = .returned (.int .i64 (k : Int)) ∧ (1 ≤ n → (k : Int) < n)
theorem pick_any (b G p : Nat) (n : Int) (w : World) (hr : Rd b w G p) (hp : p ≤ 1000000) : Calls Tryz.prog 81 #[.pointer (some ⟨G, 0, none⟩), .int .i64 n] w fun e w' => PickedN n e ∧ Dw b w w' G p 1 :=
 (pick_calls b G p n w hr hp).mono fun e w' ⟨k, h1, h2, h3⟩ => ⟨⟨k, h1, h2⟩, h3⟩
section
variable {P : Program} {ops : Array Oper} {Q : Exit → Act → World → Prop}
/-- A region that turns nothing but blocks G and 'row' of what was there. -/
theorem region_kb {id : Nat} {a : Act} {w : World} (G : Nat) (row : Option Nat) (sched : List (Nat × Bool)) (hm : P.follows .mixedOrders = true) (hc : schedB .any ops sched (Array.replicate ops.size false) = true) (hl : sched.length = ops.size)
 (hQ : ∀ (d : Option Tmp) (v : Value) (c : _) (a : Act) (w : World), Q (.panic c) (a.put d v) w → Q (.panic c) a w) (h : ∀ u, Below w.heap.size w u → KeepBut w u G row → wpH P ops Q (fun u => KeepBut w u G row) (Q .normal) sched a u) : (Code.region id ops true).wp P Q a w :=
 have hk : KeepBut w w.drew G row := ⟨Nat.le_refl _, fun _ _ _ _ => rfl⟩
 wp_region_last hm (last_of_wpH hQ sched ops.size _ a w.drew hc (Nat.le_of_eq hl) hk (h _ ((Below.refl _ _).drew) hk))
/-- The same where the last operation (number d) turns what the others read. -/
theorem region_ke {id : Nat} {a : Act} {w : World} (G : Nat) (row : Option Nat) (d : Nat) (sched : List (Nat × Bool)) (hm : P.follows .mixedOrders = true) (hc : schedE .any ops d sched (Array.replicate ops.size false) = true) (hl : sched.length < ops.size)
 (hQ : ∀ (d : Option Tmp) (v : Value) (c : _) (a : Act) (w : World), Q (.panic c) (a.put d v) w → Q (.panic c) a w) (h : ∀ u, Below w.heap.size w u → KeepBut w u G row → wpH P ops Q (fun u => KeepBut w u G row) (lastE P ops Q d) sched a u) : (Code.region id ops true).wp P Q a w :=
 have hk : KeepBut w w.drew G row := ⟨Nat.le_refl _, fun _ _ _ _ => rfl⟩
 wp_region_last hm (last_of_wpE hQ sched ops.size _ a w.drew hc hl hk (h _ ((Below.refl _ _).drew) hk))
theorem region_kt {id : Nat} {a : Act} {w : World} (G : Nat) (row : Option Nat) (sched : List (Nat × Bool)) (T : Sch) (hm : P.follows .mixedOrders = true) (hc : schedT .any ops T sched (Array.replicate ops.size false) = true) (hl : sched.length + depthT T ≤ ops.size)
 (hQ : ∀ (d : Option Tmp) (v : Value) (c : _) (a : Act) (w : World), Q (.panic c) (a.put d v) w → Q (.panic c) a w) (h : ∀ u, Below w.heap.size w u → KeepBut w u G row → wpH P ops Q (fun u => KeepBut w u G row) (EndT P ops Q (fun u => KeepBut w u G row) T) sched a u) : (Code.region id ops true).wp P Q a w :=
 have hk : KeepBut w w.drew G row := ⟨Nat.le_refl _, fun _ _ _ _ => rfl⟩
 wp_region_last hm (last_of_wpT hQ T sched ops.size _ a w.drew hc hl hk (h _ ((Below.refl _ _).drew) hk))
end
theorem kb_blk {w u : World} {g G : Nat} {row : Option Nat} {o : Obj} (hk : KeepBut w u G row) (h : w.heap[g]? = some o) (hG : g ≠ G) (hr : some g ≠ row) : u.heap[g]? = some o := (hk.2 g (blk_lt h) hG hr).trans h
theorem kb_cell {w u : World} {G : Nat} {row : Option Nat} {a : Addr} {v : Value} (hk : KeepBut w u G row) (h : w.cell? a = some v) (hG : a.block ≠ G) (hr : some a.block ≠ row) : u.cell? a = some v := by
 rw [World.cell?_of_block (w := w) (hk.2 a.block (World.block_lt_of_cell? w _ h) hG hr)]
 exact h
theorem kb_nd {w u : World} {G : Nat} {row : Option Nat} {a : Addr} {x y : Value} (hk : KeepBut w u G row) (h : w.cell? a = some x) (h1 : w.cell? ⟨a.block, a.off + 1, none⟩ = some y) (hG : a.block ≠ G) (hr : some a.block ≠ row) : u.cell? a = some x ∧ u.cell? ⟨a.block, a.off + 1, none⟩ = some y := ⟨kb_cell hk h hG hr, kb_cell hk h1 hG hr⟩
theorem kb_grown {w u v : World} {G : Nat} {row r : Option Nat} (hk : KeepBut w u G row) (hg : u.grownBy v r) (hr : ∀ k, k < w.heap.size → some k = r → k = G ∨ some k = row) : KeepBut w v G row :=
 ⟨Nat.le_trans hk.1 hg.size, fun i hi h1 h2 => (hg.block i (Nat.lt_of_lt_of_le hi hk.1) fun e => by rcases hr i hi e with e | e; exact h1 e; exact h2 e).trans (hk.2 i hi h1 h2)⟩
/-- One of a list. -/
def OneOf (l : List Int) (e : Ending) : Prop := ∃ v, v ∈ l ∧ e = .returned (.int .i64 v)
set_option maxHeartbeats 6400000 in
set_option maxRecDepth 100000 in
theorem num_calls (b G p : Nat) (A : Option Addr) (c : Nat) (l : List Int) (w : World) (hr : Rd b w G p) (hp : p ≤ 1000000) (hl : (Kd.int .i64).C w A l.length l) (h0 : 0 < l.length) (h1 : l.length ≤ 1000) (hA : ∀ ad, A = some ad → ad.block ≠ G) :
 Calls Tryz.prog 82 #[.pointer (some ⟨G, 0, none⟩), .slice A l.length c] w fun e w' => OneOf l e ∧ Dw b w w' G p 1 := by
 have HR := Aside0.mk hr
 have HL := Aside0.mk hl
 have HA := Aside0.mk hA
 clear hr hl hA
 have HX := Aside0.mk (show (1 : Int) ≤ (l.length : Int) by omega)
 go_enter Tryz.func82, Tryz.ntmps82
 go_wp2_with (first | (go_at_call 81; go_must ((refine (pick_calls b G p _ _ HR.out hp).mono ?_); rintro e u ⟨m, rfl, hm, hd⟩; have HM := Aside0.mk (hm HX.out); have HD := Aside0.mk hd; obtain ⟨ad, e1, r0⟩ := int_at (C_over (flatI .i64) HL.out hd.gr fun _ ad e he => HA.out ad e (Option.some.inj he)) m (by have := HM.out; omega); cases e1; have hm1 := HM.out; clear hm hd)))
 go_ret
 exact ⟨⟨_, by have h9 : m < l.length := (by have := HM.out; omega); simp [List.getElem?_eq_getElem h9], rfl⟩, HD.out⟩
theorem num_any (b G p : Nat) (A : Option Addr) (c : Nat) (l : List Int) (n : Nat) (w : World) (hr : Rd b w G p) (hp : p ≤ 1000000) (hl : (Kd.int .i64).C w A l.length l) (hn : l.length = n) (h0 : 0 < n) (h1 : n ≤ 1000) (hA : ∀ ad, A = some ad → ad.block ≠ G) :
 Calls Tryz.prog 82 #[.pointer (some ⟨G, 0, none⟩), .slice A n c] w fun e w' => OneOf l e ∧ Dw b w w' G p 1 := by
 subst hn
 exact num_calls b G p A c l w hr hp hl h0 h1 hA
set_option maxHeartbeats 6400000 in
set_option maxRecDepth 100000 in
theorem open_calls (A : Option Addr) (c : Nat) (l : List Int) (w : World) (hl : (Kd.int .u8).C w A l.length l) (hc : l.length ≤ c) (hb : ∀ x ∈ l, 0 ≤ x ∧ x < 256) :
 Calls Tryz.prog 33 #[.slice A l.length c] w fun e w' => ∃ g, e = .returned (.pointer (some ⟨g, 0, none⟩)) ∧ Rd w'.heap.size w' g 0 ∧ w.heap.size ≤ g ∧ Below w.heap.size w w' := by
 have HL := Aside0.mk hl
 have HB := Aside0.mk hb
 have HC := Aside0.mk hc
 clear hl hb hc
 by_cases h : l.length ≤ 2000
 ·go_enter Tryz.func33, Tryz.ntmps33
  go_wp2_with (fail)
  go_ret
  exact ⟨_, rfl, ⟨A, c, l, blk_new w _, Kd.C_below HL.out (below_alloc (Below.refl _ _) _), fun hn ad e => by have := C_lt (flatI .u8) HL.out hn ad e; omega, h, HB.out, by simp, Nat.le_refl _, fun hn ad e => by have := C_lt (flatI .u8) HL.out hn ad e; simp; omega⟩, Nat.le_refl _, below_alloc (Below.refl _ _) _⟩
 ·have h2 : (2000 : Int) ≤ (c : Int) := by have := HC.out; omega
  go_enter Tryz.func33, Tryz.ntmps33
  go_wp2_with (fail)
  go_ret
  have h3 : (l.take 2000).length = 2000 := by rw [List.length_take]; omega
  have h4 : (Kd.int .u8).C w A (l.take 2000).length (l.take 2000) := Kd.C_take HL.out (by omega)
  refine ⟨_, rfl, ⟨A, c, l.take 2000, by rw [h3]; exact blk_new w _, Kd.C_below h4 (below_alloc (Below.refl _ _) _), fun hn ad e => by have := C_lt (flatI .u8) h4 hn ad e; omega, by omega, fun x hx => HB.out x (List.mem_of_mem_take hx), by simp, Nat.le_refl _, fun hn ad e => by have := C_lt (flatI .u8) h4 hn ad e; simp; omega⟩, Nat.le_refl _, below_alloc (Below.refl _ _) _⟩
def MixR (s7 s8 : Value) : Prop := ∃ (x : Int) (i : Nat), i ≤ 3 ∧ s7 = .int .i64 x ∧ s8 = .int .i64 ((i : Int) - 1)
theorem has_any (a : Int) (i : Nat) (hi : i ≤ 2) (w : World) : Calls Tryz.prog 132 #[.int .i64 a, .int .i64 (i : Int)] w fun e w' => (∃ b, e = .returned (.bool b)) ∧ w = w' := (has_calls a i hi w).mono fun e w' h => ⟨⟨_, h.1.choose_spec.2⟩, h.2⟩
set_option maxHeartbeats 6400000 in
set_option maxRecDepth 100000 in
theorem mix_calls (a b : Int) (c : Bool) (w : World) : Calls Tryz.prog 122 #[.int .i64 a, .int .i64 b, .bool c] w fun e w' => (∃ v, e = .returned (.int .i64 v)) ∧ w = w' := by
 cases c
 all_goals
  go_enter Tryz.func122, Tryz.ntmps122
  go_wp2_with (fail)
  go_loop [7, 8] (fun s7 s8 => MixR s7 s8) (fun _ s8 => (intOf s8 + 1).toNat)
  case atStart => exact ⟨0, 3, Nat.le_refl _, rfl, by simp⟩
  case round =>
   obtain ⟨x, i, hi, rfl, rfl⟩ := hrel
   have HH := Aside0.mk (has_calls a)
   have HJ := Aside0.mk (has_calls b)
   match i, hi with
   | 0, _ =>
     go_wp2_with (fail)
     go_ret
     exact ⟨⟨_, rfl⟩, rfl⟩
   | j + 1, hj =>
     have HI := Aside0.mk (show j ≤ 2 by omega)
     go_wp2_with (first | (go_at_call 132; go_must ((refine (has_any _ j HI.out _).mono ?_); rintro e w1 ⟨⟨b1, rfl⟩, rfl⟩; cases b1)))
     all_goals
      go_round
      case rel => exact ⟨_, j, by omega, rfl, by go_num⟩
      case measure => simp [intOf]
end Go.Proofs.YtogmbeifbjgphaaGreat.R
namespace Go.Proofs.YtogmbeifbjgphaaGreat.R
open Go.RowKit Go.Proofs.YtogmbeifbjgphaaGreatV.PrintWords Go.Proofs.YtogmbeifbjgphaaGreatV.PrintLast Go.Proofs.YtogmbeifbjgphaaGreatV.PrintMore Go.Proofs.YtogmbeifbjgphaaGreat.M
set_option linter.unusedVariables false
set_option linter.unusedSimpArgs false
attribute [local go_sem high] eqN eqE
def SomeN (e : Ending) : Prop := ∃ x : Nd, e = .returned (.agg #[.int .i64 x.lab, .int .i64 x.num])
set_option maxHeartbeats 6400000 in
set_option maxRecDepth 100000 in
theorem node_calls (b G p : Nat) (w : World) (hr : Rd b w G p) (hp : p + 2 ≤ 1000000) :
 Calls Tryz.prog 84 #[.pointer (some ⟨G, 0, none⟩)] w fun e w' => SomeN e ∧ Dw b w w' G p 2 := by
 have HG := Aside0.mk hr.lt
 have HP := Aside0.mk hp
 have HD := Aside0.mk ((Dw.refl hr (k := 0)).alloc (.cells #[.int .i64 0, .int .i64 0] 28))
 clear hr hp
 obtain ⟨L0, HB⟩ := al1 w #[.int .i64 0, .int .i64 0] 28
 clear HB
 go_enter Tryz.func84, Tryz.ntmps84
 go_wp2_with (first | (go_at_call 82; (with_reducible refine gate_calls #[_, .slice _ 8 _] ?_); go_must ((refine (draw_lift (lim := 1000000) (fun q hq hl => num_any b G q _ _ [0, 1, 2, 3, 0, 1, 4, 7] 8 _ hq hl (C_lit [0, 1, 2, 3, 0, 1, 4, 7] (by first | exact blk_new _ _ | simpa using blk_new (w.alloc _) _ | simpa using blk_new ((w.alloc _).alloc _) _) rfl (by decide)) rfl (by decide) (by decide) (fun ad e => by cases e; have := HG.out; have := HD.out.le; simp; omega)) (by first | exact HD.out | exact HD.out.alloc _ | exact (HD.out.alloc _).alloc _) (by have := HP.out; omega)).mono ?_); rintro e u_ ⟨⟨a1, hv_, rfl⟩, hd, hg⟩; clear hv_; replace HD := Aside0.mk hd; replace L0 := Aside0.mk (blk_g hg (by first | exact L0.out | exact blk_alloc L0.out _ | exact blk_alloc (blk_alloc L0.out _) _) (by have := HG.out; omega)); (try clear r0 r1); obtain ⟨r0, r1⟩ := cs2 (L0.out); clear hd hg)) | (go_at_call 82; (with_reducible refine gate_calls #[_, .slice _ 5 _] ?_); go_must ((refine (draw_lift (lim := 1000000) (fun q hq hl => num_any b G q _ _ [0, 1, 2, 3, 40] 5 _ hq hl (C_lit [0, 1, 2, 3, 40] (by first | exact blk_new _ _ | simpa using blk_new (w.alloc _) _ | simpa using blk_new ((w.alloc _).alloc _) _) rfl (by decide)) rfl (by decide) (by decide) (fun ad e => by cases e; have := HG.out; have := HD.out.le; simp; omega)) (by first | exact HD.out | exact HD.out.alloc _ | exact (HD.out.alloc _).alloc _) (by have := HP.out; omega)).mono ?_); rintro e u_ ⟨⟨a2, hv_, rfl⟩, hd, hg⟩; clear hv_; replace HD := Aside0.mk hd; replace L0 := Aside0.mk (blk_g hg (by first | exact L0.out | exact blk_alloc L0.out _ | exact blk_alloc (blk_alloc L0.out _) _) (by have := HG.out; omega)); (try clear r0 r1); obtain ⟨r0, r1⟩ := cs2 (L0.out); clear hd hg)) | ((with_reducible refine gate_store (p := 2) rfl ?_); go_must ((refine wpList_plain rfl fun K_ hK_ => wp_store_row _ _ _ rfl (w.heap.size) #[.int .i64 a1, .int .i64 a2] rfl rfl _ _ L0.out (by kernel_rfl) rfl (by simp [Value.oneCell']) (hK_ _ _ ?_)); refine named _ ?_; intro wz hwz; replace L0 := Aside0.mk (sh_ hwz L0.out); have HDz := HD.out.over (grown_setRow _ (w.heap.size) #[.int .i64 a1, .int .i64 a2]) (by have := HG.out; omega) (by omega); rw [← hwz] at HDz; replace HD := Aside0.mk HDz; clear HDz; (try clear r0 r1); obtain ⟨r0, r1⟩ := cs2 (L0.out); clear hwz)))
 refine bodyPost_ret (results_cell_row rfl _ _ (w.heap.size) _ #[.int .i64 a1, .int .i64 a2] (0, 0) _ rfl L0.out Tryz.underlying28 rfl (by kernel_rfl)) rfl ⟨⟨⟨a1, a2⟩, rfl⟩, HD.out⟩
end Go.Proofs.YtogmbeifbjgphaaGreat.R
