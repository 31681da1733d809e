/- impl.GraphDo: its rows are new. -/
import Derived.Test.YtogmbeifbjgphaaGreatKB11
namespace Go.Proofs.YtogmbeifbjgphaaGreat.R
open Go.RowKit Go.Proofs.YtogmbeifbjgphaaGreatV.PrintWords Go.Proofs.YtogmbeifbjgphaaGreatV.PrintLast Go.Proofs.YtogmbeifbjgphaaGreatV.PrintMore Go.Proofs.YtogmbeifbjgphaaGreat.M
set_option linter.unusedVariables false
set_option linter.unusedSimpArgs false
attribute [local go_sem high] eqN eqE
theorem Own.newA {w : World} {base G b : Nat} {A B : Option Addr} {c d : Nat} {ns : List Nd} {es : List Eg} (h : Own w base G A c ns B d es) (hb : b ≤ base) : ∀ ad, A = some ad → b ≤ ad.block := fun ad e => by
 have := Kd.R_base h.rn ad.block (by rw [e]; rfl)
 omega
theorem Own.newB {w : World} {base G b : Nat} {A B : Option Addr} {c d : Nat} {ns : List Nd} {es : List Eg} (h : Own w base G A c ns B d es) (hb : b ≤ base) : ∀ ad, B = some ad → b ≤ ad.block := fun ad e => by
 have := Kd.R_base h.re ad.block (by rw [e]; rfl)
 omega
set_option maxHeartbeats 6400000 in
set_option maxRecDepth 100000 in
theorem graphDo_far (A : Option Addr) (c : Nat) (ns : List Nd) (B : Option Addr) (d : Nat) (es : List Eg) (op : M.Op) (w : World) (hr : GR w A c ns B d es) :
 Calls Tryz.prog 10 #[.agg #[.slice A ns.length c, .slice B es.length d], .agg #[.int .i64 op.kind, .int .i64 op.nd.lab, .int .i64 op.nd.num, .int .i64 op.eg.lab, .int .i64 op.eg.a.lab, .int .i64 op.eg.a.num, .int .i64 op.eg.b.lab, .int .i64 op.eg.b.num]] w fun e w' => ∃ A' c' B' d', e = .returned (.tuple #[.agg #[.slice A' (doN ns es op).length c', .slice B' (doE ns es op).length d'], .int .i64 (doC ns es op)]) ∧ GR w' A' c' (doN ns es op) B' d' (doE ns es op) ∧ (∀ ad, A' = some ad → w.heap.size ≤ ad.block) ∧ (∀ ad, B' = some ad → w.heap.size ≤ ad.block) ∧ Below w.heap.size w w' := by
 obtain ⟨k, n, x⟩ := op
 dsimp only
 have HR := Aside0.mk hr
 clear hr
 obtain ⟨B0, B1, B2, W1⟩ := al3 w #[.slice A ns.length c, .slice B es.length d] #[.int .i64 k, .int .i64 n.lab, .int .i64 n.num, .int .i64 x.lab, .int .i64 x.a.lab, .int .i64 x.a.num, .int .i64 x.b.lab, .int .i64 x.b.num] #[.slice none 0 0, .slice none 0 0] 26 32 26
 obtain ⟨v, hg⟩ : ∃ v, okG ns es = v := ⟨_, rfl⟩
 have HG := Aside0.mk hg
 cases v
 case' false =>
  obtain ⟨h1, h2, h3⟩ := do_bad (op := ⟨k, n, x⟩) hg
  rw [h1, h2, h3]
  clear h1 h2 h3 hg
 case' true =>
  have HGG := Aside0.mk (Bool.and_eq_true_iff.1 ((okG_parts ns es).symm.trans hg))
  have HNS := Aside0.mk (nsOk_true.1 HGG.out.1)
  have HES := Aside0.mk (esOk_true.1 HGG.out.2)
  have HN1 := Aside0.mk (show ns.length ≤ 1000000 by have := HNS.out.len; omega)
  have HE1 := Aside0.mk (show es.length ≤ 1000000 by have := HES.out.len; omega)
  by_cases hl : 0 ≤ opLabel ⟨k, n, x⟩
  case' neg =>
   have hlab : opLabel ⟨k, n, x⟩ < 0 := by omega
   obtain ⟨h1, h2, h3⟩ := do_form (op := ⟨k, n, x⟩) hg hlab
   rw [h1, h2, h3]
   clear h1 h2 h3 hg hl
  case' pos =>
   have hlab : ¬ opLabel ⟨k, n, x⟩ < 0 := by omega
   generalize hN : doN ns es ⟨k, n, x⟩ = NN
   generalize hE : doE ns es ⟨k, n, x⟩ = EE
   generalize hC : doC ns es ⟨k, n, x⟩ = CC
   rcases opLabel_kind hl with e | e | e | e
   all_goals
    have e' : k = _ := e
    subst e'
    clear e
    first
    | (with_reducible have hd := do1 hg hl
       have HOK := Aside0.mk (opLabel_node (op := ⟨1, n, x⟩) hl (.inl rfl)).1)
    | (with_reducible have hd := do2 hg hl
       have HOK := Aside0.mk (opLabel_edge (op := ⟨2, n, x⟩) hl (.inl rfl)).1)
    | (with_reducible have hd := do3 hg hl
       have HOK := Aside0.mk (opLabel_edge (op := ⟨3, n, x⟩) hl (.inr rfl)).1)
    | (with_reducible have hd := do4 hg hl
       have HOK := Aside0.mk (opLabel_node (op := ⟨4, n, x⟩) hl (.inr rfl)).1)
    rw [hN, hE, hC] at hd
    have HD := Aside0.mk hd
    clear hd hN hE hC hg hl
 all_goals
  go_enter Tryz.func10, Tryz.ntmps10
  go_wp2_with (first | (go_at_call 29; go_must ((refine (graphOk_calls A c ns B d es _ (Kd.C_below HR.out.cn W1.out) (Kd.C_below HR.out.ce W1.out)).mono ?_); rintro e w1 ⟨rfl, hb⟩; rw [HG.out]; have HB1 := Aside0.mk (below_step W1.out hb); have D1 := Aside0.mk (blk_below B1.out hb); have C2 := Aside0.mk (blk_below B2.out hb); obtain ⟨c0, c1⟩ := cs2 (blk_below B0.out hb); clear hb)) | (go_at_call 37; go_must ((refine (graphCopy_calls A c ns B d es _ (Kd.C_below HR.out.cn HB1.out) (Kd.C_below HR.out.ce HB1.out) HR.out.hc HR.out.hd HN1.out HE1.out).mono ?_); rintro e w2 ⟨A1, B1', rfl, hr1, hr2, hoff, hb⟩; have D2 := Aside0.mk (blk_alloc (blk_below D1.out hb) (.cells #[.slice A1 ns.length ns.length, .slice B1' es.length es.length] 26)); have E2 := Aside0.mk (blk_alloc (blk_below C2.out hb) (.cells #[.slice A1 ns.length ns.length, .slice B1' es.length es.length] 26)); have HW := Aside0.mk (show Own (w2.alloc (.cells #[.slice A1 ns.length ns.length, .slice B1' es.length es.length] 26)) w1.heap.size w2.heap.size A1 ns.length ns B1' es.length es from ⟨blk_new w2 _, Kd.R_alloc hr1 _, Kd.R_alloc hr2 _, hoff, fun k h1 e => by have := Kd.R_lt hr1 k h1; omega, fun k h1 e => by have := Kd.R_lt hr2 k h1; omega, hb.size⟩); have HB2 := Aside0.mk (below_alloc (below_step HB1.out hb) (.cells #[.slice A1 ns.length ns.length, .slice B1' es.length es.length] 26)); have HS1 := Aside0.mk (blk_lt C2.out); obtain ⟨e0, e1, e2, e3, e4, e5, e6, e7⟩ := cs8 D2.out; clear hb hr1 hr2 hoff)) | (go_at_call 30; go_must ((refine (opLabel_calls _ n x _).mono ?_); rintro e w3 ⟨rfl, hb⟩; have HW3 := Aside0.mk (HW.out.below hb); have F2 := Aside0.mk (blk_below E2.out hb); have HB3 := Aside0.mk (below_step HB2.out hb); have g0 := HW3.out.c0; have g1 := HW3.out.c1; obtain ⟨f0, f1, f2, f3, f4, f5, f6, f7⟩ := cs8 (blk_below D2.out hb); clear hb)) | (go_at_call 38; (refine (putNode_calls w1.heap.size w2.heap.size A1 ns B1' es.length es n _ HW3.out HNS.out HOK.out).mono ?_); rintro e w4 ⟨A', c', rfl, hO, hb⟩; obtain ⟨A9, c9, B9, d9, h9⟩ := hO.any HD.out.1 HD.out.2.1; have HW4 := Aside0.mk h9; have G2 := Aside0.mk ((hb.block _ HS1.out).trans F2.out); have HB4 := Aside0.mk (below_over HB3.out hb HS1.out); have k0 := HW4.out.c0; have k1 := HW4.out.c1; clear hb hO h9) | (go_at_call 40; (refine (putEdge_calls w1.heap.size w2.heap.size A1 ns.length ns B1' es x _ HW3.out HNS.out HES.out.ok HES.out.asc HE1.out HOK.out).mono ?_); rintro e w4 ⟨B', d', rfl, hO, hb⟩; obtain ⟨A9, c9, B9, d9, h9⟩ := hO.any HD.out.1 HD.out.2.1; have HW4 := Aside0.mk h9; have G2 := Aside0.mk ((hb.block _ HS1.out).trans F2.out); have HB4 := Aside0.mk (below_over HB3.out hb HS1.out); have k0 := HW4.out.c0; have k1 := HW4.out.c1; clear hb hO h9) | (go_at_call 41; (refine (takeEdge_calls w1.heap.size w2.heap.size A1 ns.length ns B1' es.length es x _ HW3.out HES.out.ok HES.out.asc HE1.out HOK.out).mono ?_); rintro e w4 ⟨B', d', rfl, hO, hb⟩; obtain ⟨A9, c9, B9, d9, h9⟩ := hO.any HD.out.1 HD.out.2.1; have HW4 := Aside0.mk h9; have G2 := Aside0.mk ((hb.block _ HS1.out).trans F2.out); have HB4 := Aside0.mk (below_over HB3.out hb HS1.out); have k0 := HW4.out.c0; have k1 := HW4.out.c1; clear hb hO h9) | (go_at_call 39; (refine (takeNode_calls w1.heap.size w2.heap.size A1 ns.length ns B1' es.length es n _ HW3.out HNS.out HE1.out HOK.out).mono ?_); rintro e w4 ⟨A', c', B', d', rfl, hO, hb⟩; obtain ⟨A9, c9, B9, d9, h9⟩ := hO.any HD.out.1 HD.out.2.1; have HW4 := Aside0.mk h9; have G2 := Aside0.mk ((hb.block _ HS1.out).trans F2.out); have HB4 := Aside0.mk (below_over HB3.out hb HS1.out); have k0 := HW4.out.c0; have k1 := HW4.out.c1; clear hb hO h9) | ((with_reducible refine gate_store (p := 4) rfl ?_); (refine wpList_plain rfl fun K_ hK_ => wp_store_row _ _ _ rfl (w.heap.size + 2) #[.slice A9 NN.length c9, .slice B9 EE.length d9] rfl rfl _ _ G2.out (by kernel_rfl) rfl (by simp [Value.oneCell']) (hK_ _ _ ?_)); refine named _ ?_; intro wz hwz; have R2 := Aside0.mk (show wz.heap[w.heap.size + 2]? = some (.cells #[.slice A9 NN.length c9, .slice B9 EE.length d9] 26 (0, 0)) by rw [hwz]; exact setRow_heap _ _ _ _ _ _ G2.out); have HBR := Aside0.mk (show Below w.heap.size w wz by rw [hwz]; exact below_setRow HB4.out (by omega) _); have HWR := Aside0.mk (show Own wz w1.heap.size w2.heap.size A9 c9 NN B9 d9 EE by rw [hwz]; exact HW4.out.far (grown_setRow _ _ _) (fun k e => by have := Option.some.inj e; have := HS1.out; omega)); clear hwz) | ((with_reducible refine gate_store (p := 4) rfl ?_); (refine wpList_plain rfl fun K_ hK_ => wp_store_row _ _ _ rfl (w.heap.size + 2) #[.slice A1 ns.length ns.length, .slice B1' es.length es.length] rfl rfl _ _ F2.out (by kernel_rfl) rfl (by simp [Value.oneCell']) (hK_ _ _ ?_)); refine named _ ?_; intro wz hwz; have R2 := Aside0.mk (show wz.heap[w.heap.size + 2]? = some (.cells #[.slice A1 ns.length ns.length, .slice B1' es.length es.length] 26 (0, 0)) by rw [hwz]; exact setRow_heap _ _ _ _ _ _ F2.out); have HBR := Aside0.mk (show Below w.heap.size w wz by rw [hwz]; exact below_setRow HB3.out (by omega) _); have HWR := Aside0.mk (show Own wz w1.heap.size w2.heap.size A1 ns.length ns B1' es.length es by rw [hwz]; exact HW3.out.far (grown_setRow _ _ _) (fun k e => by have := Option.some.inj e; have := HS1.out; omega)); clear hwz) | ((with_reducible refine gate_store (p := 4) rfl ?_); (refine wpList_plain rfl fun K_ hK_ => wp_store_row _ _ _ rfl (w.heap.size + 2) #[.slice none 0 0, .slice none 0 0] rfl rfl _ _ C2.out (by kernel_rfl) rfl (by simp [Value.oneCell']) (hK_ _ _ ?_)); refine named _ ?_; intro wz hwz; have R2 := Aside0.mk (show wz.heap[w.heap.size + 2]? = some (.cells #[.slice none 0 0, .slice none 0 0] 26 (0, 0)) by rw [hwz]; exact setRow_heap _ _ _ _ _ _ C2.out); have HBR := Aside0.mk (show Below w.heap.size w wz by rw [hwz]; exact below_setRow HB1.out (by omega) _); clear hwz))
  first
  | exact bodyPost_ret (results_ct rfl _ _ (w.heap.size + 2) _ #[.slice A9 NN.length c9, .slice B9 EE.length d9] (0, 0) _ rfl R2.out Tryz.underlying26 rfl (by kernel_rfl)) rfl ⟨A9, c9, B9, d9, by rw [HD.out.2.2]; rfl, HWR.out.gr, HWR.out.newA (by have := HS1.out; omega), HWR.out.newB (by have := HS1.out; omega), HBR.out⟩
  | exact bodyPost_ret (results_ct rfl _ _ (w.heap.size + 2) _ #[.slice A1 ns.length ns.length, .slice B1' es.length es.length] (0, 0) _ rfl R2.out Tryz.underlying26 rfl (by kernel_rfl)) rfl ⟨A1, ns.length, B1', es.length, rfl, HWR.out.gr, HWR.out.newA (by have := HS1.out; omega), HWR.out.newB (by have := HS1.out; omega), HBR.out⟩
  | exact bodyPost_ret (results_ct rfl _ _ (w.heap.size + 2) _ #[.slice none 0 0, .slice none 0 0] (0, 0) _ rfl R2.out Tryz.underlying26 rfl (by kernel_rfl)) rfl ⟨none, 0, none, 0, rfl, gr_nil _, (fun _ e => nomatch e), (fun _ e => nomatch e), HBR.out⟩
end Go.Proofs.YtogmbeifbjgphaaGreat.R
