/- Walks: a region at whose end a store and what only takes a part of a value may come up in either order; Draws: a graph; Draws: one number of a row of one's own is turned; rows laid within regions; Walks: a region's orders by a plan: what is taken first, what comes up alone, where two may come up; Draws: append in a region behind which nothing is shown of the worlds. -/
import Derived.Test.YtogmbeifbjgphaaGreatKB24
import Derived.Test.YtogmbeifbjgphaaGreatKB20
namespace Go.Proofs.YtogmbeifbjgphaaGreat.R
open Go.RowKit Go.Proofs.YtogmbeifbjgphaaGreatV.PrintWords Go.Proofs.YtogmbeifbjgphaaGreatV.PrintLast Go.Proofs.YtogmbeifbjgphaaGreatV.PrintMore Go.Proofs.YtogmbeifbjgphaaGreat.M
set_option linter.unusedVariables false
section
variable {P : Program} {ops : Array Oper} {Q : Exit → Act → World → Prop} {md : Region.Mode} {S : World → Prop} {ds : List Nat}
/-- What an operation comes to that leaves the world. -/
def PureAt (P : Program) (ops : Array Oper) (o : Oper) (v : Value) (a : Act) (w : World) : Prop :=
 (Region.wanted o (yielded ops a.tmps) = true ∧ (execOp a.eval o).run P w = .ok (.value v) w) ∨ (Region.wanted o (yielded ops a.tmps) = false ∧ v = undef)
theorem AllReadyL.cons_pure {fuel : Nat} {listed : Array Bool} {a : Act} {w : World} {i : Nat} {o : Oper} {v : Value} {rs : List Nat} (ho : ops[i]? = some o) (hp : PureAt P ops o v a w)
 (h : wpAnyLast P md ops Q S ds fuel (listed.setIfInBounds i true) (a.put o.dst v) w) (hs : AllReadyL P md ops Q S ds fuel listed a w rs) : AllReadyL P md ops Q S ds fuel listed a w (i :: rs) := fun j hj => by
 rcases List.mem_cons.1 hj with rfl | hj
 ·refine wpOp_step ho fun K' hK => ?_
  rcases hp with ⟨h1, h2⟩ | ⟨h1, rfl⟩
  ·exact value_ h1 rfl h2 (hK _ _ ⟨fun _ h => h, h⟩)
  ·rw [h1]
   exact hK _ _ ⟨fun _ h => h, h⟩
 ·exact hs j hj
/-- Operations that leave the world, one behind the other. -/
def tailP (P : Program) (ops : Array Oper) (Q : Exit → Act → World → Prop) : List Nat → Act → World → Prop
 | [], a, w => Q .normal a w
 | i :: r, a, w => ∃ o v, ops[i]? = some o ∧ PureAt P ops o v a w ∧ tailP P ops Q r (a.put o.dst v) w
def lastT (P : Program) (ops : Array Oper) (Q : Exit → Act → World → Prop) (d : Nat) (post : List Nat) (a : Act) (w : World) : Prop :=
 ∃ o, ops[d]? = some o ∧ ∀ K : Act → World → Prop, Shut (∀ a' w', tailP P ops Q post a' w' → K a' w') → if Region.wanted o (yielded ops a.tmps) = true then Oper.wp P o a w K Q else K (a.put o.dst undef) w
/-- The store (number d) and the other (number i), in either order. -/
def lastF (P : Program) (ops : Array Oper) (Q : Exit → Act → World → Prop) (i d : Nat) (a : Act) (w : World) : Prop :=
 (∃ o v, ops[i]? = some o ∧ PureAt P ops o v a w ∧ lastT P ops Q d [] (a.put o.dst v) w) ∧ lastT P ops Q d [i] a w
def postB (md : Region.Mode) (ops : Array Oper) : List Nat → Array Bool → Bool
 | [], l => Region.ready md ops l == []
 | i :: r, l => (Region.ready md ops l == [i]) && postB md ops r (l.setIfInBounds i true)
def schedF (md : Region.Mode) (ops : Array Oper) (i d : Nat) : List (Nat × Bool) → Array Bool → Bool
 | [], l => (Region.ready md ops l == [i, d]) && (decide (i ≠ d) && ((Region.ready md ops (l.setIfInBounds i true) == [d]) && (postB md ops [] ((l.setIfInBounds i true).setIfInBounds d true) && postB md ops [i] (l.setIfInBounds d true))))
 | (k, true) :: r, l => takeB md ops [d] l (l.setIfInBounds k true) k && schedF md ops i d r (l.setIfInBounds k true)
 | (k, false) :: r, l => (readyB md ops l (l.setIfInBounds k true) k && decide (k ≠ d)) && schedF md ops i d r (l.setIfInBounds k true)
theorem tail_last : ∀ (post : List Nat) (fuel : Nat) (l : Array Bool) (a : Act) (w : World), postB md ops post l = true → post.length ≤ fuel → tailP P ops Q post a w → wpAnyLast P md ops Q S ds fuel l a w
 | [], fuel, l, a, w, hc, _, h => done_ hc h
 | i :: r, 0, l, a, w, hc, hf, _ => by simp at hf
 | i :: r, fuel + 1, l, a, w, hc, hf, h => by
   obtain ⟨o, v, ho, hp, h⟩ := h
   simp only [postB, Bool.and_eq_true, beq_iff_eq] at hc
   exact wpAnyLast_ready hc.1 (by simp) (AllReadyL.cons_pure ho hp (tail_last r fuel _ _ w hc.2 (by simpa using hf) h) AllReadyL.nil)
theorem last_of_wpF {i d : Nat} (hQ : ∀ (d : Option Tmp) (v : Value) (c : _) (a : Act) (w : World), Q (.panic c) (a.put d v) w → Q (.panic c) a w) :
 ∀ (sched : List (Nat × Bool)) (fuel : Nat) (l : Array Bool) (a : Act) (w : World), schedF md ops i d sched l = true → sched.length + 2 ≤ fuel → S w → wpH P ops Q S (lastF P ops Q i d) sched a w → wpAnyLast P md ops Q S [d] fuel l a w
 | [], 0, l, a, w, _, hf, _, _ => by simp at hf
 | [], 1, l, a, w, _, hf, _, _ => by simp at hf
 | [], fuel + 2, l, a, w, hc, hf, hS, h => by
   obtain ⟨⟨o1, v1, ho1, hp1, o2, ho2, h2⟩, o3, ho3, h3⟩ := h
   simp only [schedF, Bool.and_eq_true, beq_iff_eq, decide_eq_true_eq] at hc
   obtain ⟨c1, c2, c3, c4, c5⟩ := hc
   refine wpAnyLast_ready c1 (by simp) (AllReadyL.cons_pure ho1 hp1 ?_ (AllReadyL.cons_last ho3 (by simp) (fun K hK => h3 K fun a' w' ht => hK a' w' (tail_last [i] (fuel + 1) _ _ w' c5 (by simp) ht)) AllReadyL.nil))
   exact wpAnyLast_ready c3 (by simp) (AllReadyL.cons_last ho2 (by simp) (fun K hK => h2 K fun a' w' ht => hK a' w' (tail_last [] fuel _ _ w' c4 (by simp) ht)) AllReadyL.nil)
 | (k, true) :: r, 0, l, a, w, hc, hf, _, _ => by simp at hf
 | (k, true) :: r, fuel + 1, l, a, w, hc, hf, hS, h => by
   obtain ⟨o, v, ho, hy, h⟩ := h
   simp only [schedF, Bool.and_eq_true] at hc
   exact take_ _ ho rfl hc.1 (fun c a w => hQ o.dst v c a w) hy hS rfl (last_of_wpF hQ r fuel _ _ w hc.2 (by simp at hf ⊢; omega) hS h)
 | (k, false) :: r, 0, l, a, w, hc, hf, _, _ => by simp at hf
 | (k, false) :: r, fuel + 1, l, a, w, hc, hf, hS, h => by
   obtain ⟨o, ho, h⟩ := h
   simp only [schedF, Bool.and_eq_true, decide_eq_true_eq] at hc
   exact one_ _ ho rfl hc.1.1 (by simp [hc.1.2]) fun K hK => h K fun a' w' hS' hr => hK a' w' hS' fun hS'' => last_of_wpF hQ r fuel _ _ w' hc.2 (by simp at hf ⊢; omega) hS'' (hr hS'')
theorem region_kf {id : Nat} {a : Act} {w : World} (G : Nat) (row : Option Nat) (i d : Nat) (sched : List (Nat × Bool)) (hm : P.follows .mixedOrders = true) (hc : schedF .any ops i d sched (Array.replicate ops.size false) = true) (hl : sched.length + 2 ≤ ops.size)
 (hQ : ∀ (d : Option Tmp) (v : Value) (c : _) (a : Act) (w : World), Q (.panic c) (a.put d v) w → Q (.panic c) a w) (h : ∀ u, Below w.heap.size w u → KeepBut w u G row → wpH P ops Q (fun u => KeepBut w u G row) (lastF P ops Q i d) sched a u) : (Code.region id ops true).wp P Q a w :=
 have hk : KeepBut w w.drew G row := ⟨Nat.le_refl _, fun _ _ _ _ => rfl⟩
 wp_region_last hm (last_of_wpF hQ sched ops.size _ a w.drew hc hl hk (h _ ((Below.refl _ _).drew) hk))
theorem h_lastF {i d : Nat} {a : Act} {w : World} {oi od : Oper} {v : Value} (hi : ops[i]? = some oi) (hd : ops[d]? = some od) (hwi : Region.wanted oi (yielded ops a.tmps) = true) (hwd : Region.wanted od (yielded ops a.tmps) = true) (hwd2 : Region.wanted od (yielded ops (a.put oi.dst v).tmps) = true)
 (hv : ∀ w', (execOp a.eval oi).run P w' = .ok (.value v) w') (hwi2 : Region.wanted oi (yielded ops (a.put od.dst undef).tmps) = true) (hv2 : ∀ w', (execOp (a.put od.dst undef).eval oi).run P w' = .ok (.value v) w')
 (h1 : ∀ K : Act → World → Prop, (∀ a' w', Q .normal a' w' → K a' w') → Oper.wp P od (a.put oi.dst v) w K Q)
 (h2 : ∀ K : Act → World → Prop, (∀ w', Q .normal ((a.put od.dst undef).put oi.dst v) w' → K (a.put od.dst undef) w') → Oper.wp P od a w K Q) : wpH P ops Q S (lastF P ops Q i d) [] a w :=
 ⟨⟨oi, v, hi, .inl ⟨hwi, hv w⟩, od, hd, fun K hK => by rw [if_pos hwd2]; exact h1 K fun a' w' h => hK a' w' h⟩, od, hd, fun K hK => by rw [if_pos hwd]; exact h2 K fun w' h => hK _ w' ⟨oi, v, hi, .inl ⟨hwi2, hv2 w'⟩, h⟩⟩
theorem h_lastF_row {i d : Nat} {a : Act} {w : World} {oi od : Oper} {v : Value} {ty : TypeId} {x y : Operand} (g : Nat) (new : Array Value) (t : TypeId) (old : Array Value) (hg : w.heap[g]? = some (.cells old t (0, 0)))
 (hi : ops[i]? = some oi) (hd : ops[d]? = some od) (hwi : Region.wanted oi (yielded ops a.tmps) = true) (hwd : Region.wanted od (yielded ops a.tmps) = true) (hwd2 : Region.wanted od (yielded ops (a.put oi.dst v).tmps) = true)
 (hv : ∀ w', (execOp a.eval oi).run P w' = .ok (.value v) w') (hn : od.dst = none) (hop : od.op = .store ty x y) (hx : a.eval x = .pointer (some ⟨g, 0, none⟩)) (hy : a.eval y = .agg new) (hx2 : (a.put oi.dst v).eval x = .pointer (some ⟨g, 0, none⟩)) (hy2 : (a.put oi.dst v).eval y = .agg new)
 (hs : (P.info? ty).map (·.size) = some new.size) (hold : old.size = new.size) (h1 : new.all (·.oneCell') = true) (h : ∀ a', a.put oi.dst v = a' → Q .normal a' (w.setRow g new)) : wpH P ops Q S (lastF P ops Q i d) [] a w := by
 have hp : ∀ b : Act, b.put od.dst undef = b := fun b => by rw [hn]; rfl
 refine h_lastF (v := v) hi hd hwi hwd hwd2 hv (by rw [hp]; exact hwi) (fun w' => by rw [hp]; exact hv w') (fun K hK => wp_store_row ty x y hop g new hx2 hy2 t old hg hs hold h1 (hK _ _ ?_)) (fun K hK => wp_store_row ty x y hop g new hx hy t old hg hs hold h1 (hK _ ?_))
 ·rw [hp]
  exact h _ rfl
 ·rw [hp]
  exact h _ rfl
end
end Go.Proofs.YtogmbeifbjgphaaGreat.R
namespace Go.Proofs.YtogmbeifbjgphaaGreat.R
open Go.RowKit Go.Proofs.YtogmbeifbjgphaaGreatV.PrintWords Go.Proofs.YtogmbeifbjgphaaGreatV.PrintLast Go.Proofs.YtogmbeifbjgphaaGreatV.PrintMore Go.Proofs.YtogmbeifbjgphaaGreat.M
set_option linter.unusedVariables false
set_option linter.unusedSimpArgs false
attribute [local go_sem high] eqN eqE
abbrev sGr5 : List (Nat × Bool) := [(0, true), (1, true), (2, true), (3, false), (4, false), (5, true), (6, true)]
theorem sGr5_ok : schedF .any (opsOf Tryz.f35 5) 7 8 sGr5 (Array.replicate (opsOf Tryz.f35 5).size false) = true := by kernel_rfl
/-- Lies a row at or behind block b? -/
def Fresh (b : Nat) (A : Option Addr) : Prop := ∀ a, A = some a → b ≤ a.block
theorem Fresh.none (b : Nat) : Fresh b none := fun a h => by cases h
theorem Fresh.notIn {b g n : Nat} {A : Option Addr} (h : Fresh b A) (hg : g < b) : NotIn g A n := fun _ ad e => by have := h ad e; omega
theorem Fresh.far {b c : Nat} {A A' : Option Addr} (hA : Fresh c A) (h : FarO b A A') (hb : c ≤ b) : Fresh c A' := fun a e => by
 rcases h with h | h
 ·exact hA a (h ▸ e)
 ·exact Nat.le_trans hb (h a e)
theorem Fresh.mono {b c : Nat} {A : Option Addr} (h : Fresh b A) (hc : c ≤ b) : Fresh c A := fun a e => Nat.le_trans hc (h a e)
theorem fresh_RN {e : TypeId} {w : World} {base : Nat} {ok : Nat → Prop} {A : Option Addr} {n c : Nat} {xs : List Nd} (h : kN.R e w base ok (.slice A n c) xs) : Fresh base A := fun a ha => Kd.R_base h a.block (by rw [ha]; rfl)
theorem fresh_RE {e : TypeId} {w : World} {base : Nat} {ok : Nat → Prop} {A : Option Addr} {n c : Nat} {xs : List Eg} (h : kE.R e w base ok (.slice A n c) xs) : Fresh base A := fun a ha => Kd.R_base h a.block (by rw [ha]; rfl)
/-- A graph that comes back: of at most m nodes, m edges, behind block b. -/
def SomeG (b m : Nat) (e : Ending) (w' : World) : Prop := ∃ A c ns B d es, e = .returned (.agg #[.slice A ns.length c, .slice B es.length d]) ∧ GR w' A c ns B d es ∧ Fresh b A ∧ Fresh b B ∧ (ns : List Nd).length ≤ m ∧ (es : List Eg).length ≤ m
def GrI (b : Nat) (w : World) (G p : Nat) (s4 : Value) (wr : World) : Prop :=
 ∃ (i j : Nat) (A : Option Addr) (c : Nat) (ns : List Nd) (B : Option Addr) (d : Nat) (es : List Eg), i + j ≤ 60 ∧ s4 = .int .i64 (i : Int) ∧ wr.heap[w.heap.size]? = some (.cells #[.slice none 0 0, .slice none 0 0] 26 (0, 0)) ∧ wr.heap[w.heap.size + 1]? = some (.cells #[.slice A ns.length c, .slice B es.length d] 26 (0, 0)) ∧ GR wr A c ns B d es ∧ Fresh (w.heap.size + 2) A ∧ Fresh (w.heap.size + 2) B ∧ ns.length ≤ j ∧ es.length ≤ j ∧ Dw b w wr G p (1 + 13 * j)
set_option maxHeartbeats 12800000 in
set_option maxRecDepth 100000 in
theorem graph_calls (b G p : Nat) (w : World) (hr : Rd b w G p) (hp : p + 800 ≤ 700000) :
 Calls Tryz.prog 35 #[.pointer (some ⟨G, 0, none⟩)] w fun e w' => SomeG w.heap.size 60 e w' ∧ Dw b w w' G p 800 := by
 have HG := Aside0.mk hr.lt
 have HP := Aside0.mk hp
 have HD := Aside0.mk (((Dw.refl hr (k := 0)).alloc (.cells #[.slice none 0 0, .slice none 0 0] 26)).alloc (.cells #[.slice none 0 0, .slice none 0 0] 26))
 clear hr hp
 obtain ⟨L0, L1, HB⟩ := al2 w #[.slice none 0 0, .slice none 0 0] #[.slice none 0 0, .slice none 0 0] 26 26
 clear HB
 go_enter Tryz.func35, Tryz.ntmps35
 go_wp2_with (first | ((with_reducible refine gate_dst (N := 7) rfl ?_); go_must ((refine w_lit #[.int .i64 12, .int .i64 24, .int .i64 36, .int .i64 48, .int .i64 60, .int .i64 5, .int .i64 0] 3 7 rfl (by go_simp; (first | done | rfl)) ?_); intro gl u_ hge_ hb0_ hb; have Hgl := Aside0.mk (show w.heap.size ≤ gl from Nat.le_trans (HD.out.le) hge_); have LT := Aside0.mk hb0_; replace HD := Aside0.mk (HD.out.below hb); replace L0 := Aside0.mk (blk_below L0.out hb); replace L1 := Aside0.mk (blk_below L1.out hb); (try clear r0 r1); obtain ⟨r0, r1⟩ := cs2 (L0.out); (try clear g0 g1); obtain ⟨g0, g1⟩ := cs2 (L1.out); clear hge_ hb0_ hb)) | (go_at_call 82; (with_reducible refine gate_calls #[_, .slice _ 7 _] ?_); go_must ((refine (draw_lift (lim := 999980) (fun q hq hl => num_any b G q _ _ [12, 24, 36, 48, 60, 5, 0] 7 _ hq (by omega) (C_lit [12, 24, 36, 48, 60, 5, 0] LT.out rfl (by decide)) rfl (by decide) (by decide) (fun ad e => by cases e; show gl ≠ G; have := HG.out; have := Hgl.out; omega)) HD.out (by have := HP.out; omega)).mono ?_); rintro e u_ ⟨⟨v, hv_, rfl⟩, hd, hg⟩; have HV := Aside0.mk hv_; clear hv_; replace HD := Aside0.mk hd; replace L0 := Aside0.mk (blk_g hg L0.out (by have := HG.out; omega)); replace L1 := Aside0.mk (blk_g hg L1.out (by have := HG.out; omega)); (try clear r0 r1); obtain ⟨r0, r1⟩ := cs2 (L0.out); (try clear g0 g1); obtain ⟨g0, g1⟩ := cs2 (L1.out); clear hd hg)))
 go_loopw [4] (fun s4 wr => GrI b w G p s4 wr) (fun s4 _ => (intOf s4).toNat)
 case atStart =>
  obtain ⟨i, rfl⟩ : ∃ i : Nat, v = (i : Int) := ⟨v.toNat, by have := HV.out; simp at this; omega⟩
  exact ⟨i, 0, none, 0, [], none, 0, [], by have := HV.out; simp at this; omega, rfl, L0.out, L1.out, gr_nil _, Fresh.none _, Fresh.none _, Nat.le_refl _, Nat.le_refl _, HD.out⟩
 case round =>
  clear HD L0 L1
  obtain ⟨i, j, A, c, ns, B, d, es, hij, rfl, l0_, l1_, hgr_, hfa_, hfb_, hn_, he_, hd_⟩ := hrel
  have L0 := Aside0.mk l0_
  have L1 := Aside0.mk l1_
  have HGR := Aside0.mk hgr_
  have HFA := Aside0.mk hfa_
  have HFB := Aside0.mk hfb_
  have HD := Aside0.mk hd_
  have HLN := Aside0.mk (show ns.length ≤ 60 by omega)
  have HLE := Aside0.mk (show es.length ≤ 60 by omega)
  have HLJ := Aside0.mk (And.intro hn_ he_)
  obtain ⟨r0, r1⟩ := cs2 (L0.out)
  obtain ⟨g0, g1⟩ := cs2 (L1.out)
  clear l0_ l1_ hgr_ hfa_ hfb_ hd_ hn_ he_
  by_cases hlt : 0 < i
  ·obtain ⟨k, rfl⟩ : ∃ k, i = k + 1 := ⟨i - 1, by omega⟩
   have HIJ := Aside0.mk hij
   replace HP := Aside0.mk (show p + (1 + 13 * j) + 20 ≤ 700000 by have := HP.out; omega)
   have hk60 : (k : Int) ≤ 100 := by omega
   clear hij
   go_wp2_with (fail)
   have ZL0 := L0
   have ZL1 := L1
   refine region_kf G none 7 8 sGr5 (by kernel_rfl) sGr5_ok (by decide) (fun d _ _ _ _ h => by cases d <;> exact h) ?_
   intro u hb hS
   replace HD := Aside0.mk (HD.out.below hb)
   replace L0 := Aside0.mk (blk_below L0.out hb)
   replace L1 := Aside0.mk (blk_below L1.out hb)
   replace HGR := Aside0.mk (HGR.out.below hb)
   (try clear r0 r1)
   obtain ⟨r0, r1⟩ := cs2 (L0.out)
   (try clear g0 g1)
   obtain ⟨g0, g1⟩ := cs2 (L1.out)
   clear hb
   repeat (first | (refine h_off gt_ (by rfl) ?_; intro a_ ha_; (simp only [Act.put, pu1, pu2, pu3] at ha_); subst ha_) | (refine h_on (v := ?_) gt_ (by rfl) ?_ ?_; rotate_left; (· rintro w_ hS_; obtain ⟨r0_, r1_⟩ := cs2 (kb_blk hS_ ZL0.out (by have := HG.out; omega) (fun e => by cases e)); obtain ⟨g0_, g1_⟩ := cs2 (kb_blk hS_ ZL1.out (by have := HG.out; omega) (fun e => by cases e)); go_simp; with_reducible rfl); intro a_ ha_; (simp only [Act.put, pu1, pu2, pu3] at ha_); subst ha_) | (refine h_call2 (f := 36) (args := #[.pointer (some ⟨G, 0, none⟩), .agg #[.slice A ns.length c, .slice B es.length d]]) Tryz.func36 (by kernel_rfl) rfl gt_ (by rfl) (by rfl) mp_ ?_; (refine (draw_lift (lim := 700000) (fun q hq hl => op_calls b G q A c ns B d es _ hq (by omega) HGR.out (HFA.out.notIn (by have := HG.out; omega)) (HFB.out.notIn (by have := HG.out; omega)) (by have := HLN.out; omega)) HD.out (by have := HP.out; omega)).mono ?_); rintro e_ u_ ⟨⟨o, rfl⟩, hd, hg⟩; replace HD := Aside0.mk hd; replace L0 := Aside0.mk (blk_g hg L0.out (by have := HG.out; omega)); replace L1 := Aside0.mk (blk_g hg L1.out (by have := HG.out; omega)); replace HGR := Aside0.mk (HGR.out.keep hg (HFA.out.notIn (by have := HG.out; omega)) (HFB.out.notIn (by have := HG.out; omega))); (try clear r0 r1); obtain ⟨r0, r1⟩ := cs2 (L0.out); (try clear g0 g1); obtain ⟨g0, g1⟩ := cs2 (L1.out); replace hS := kb_grown hS hg (fun k _ e => .inl (Option.some.inj e)); refine ⟨_, rfl, hS, fun a_ ha_ => ?_⟩; (simp only [Act.put, pu1, pu2, pu3] at ha_); subst ha_; clear hd hg) | (refine h_call2 (f := 42) (args := #[.agg #[.slice A ns.length c, .slice B es.length d], .agg #[.int .i64 o.kind, .int .i64 o.nd.lab, .int .i64 o.nd.num, .int .i64 o.eg.lab, .int .i64 o.eg.a.lab, .int .i64 o.eg.a.num, .int .i64 o.eg.b.lab, .int .i64 o.eg.b.num]]) Tryz.func42 (by kernel_rfl) rfl gt_ (by rfl) (by rfl) mp_ ?_; (refine (l2Do_calls A c ns B d es o _ HGR.out (by have := HLN.out; omega) (by have := HLE.out; omega)).mono ?_); rintro e_ u_ ⟨⟨A2, c2, B2, d2, ns2, es2, q2, rfl, hgr_, hfar_, hn2_, he2_, -⟩, hb⟩; have HG2 := Aside0.mk hgr_; have HF2 := Aside0.mk (show Fresh (w.heap.size + 2) A2 ∧ Fresh (w.heap.size + 2) B2 from ⟨HFA.out.far hfar_.1 (by have := blk_lt L1.out; omega), HFB.out.far hfar_.2 (by have := blk_lt L1.out; omega)⟩); have HL2 := Aside0.mk (And.intro hn2_ he2_); clear hgr_ hfar_ hn2_ he2_; replace HD := Aside0.mk (HD.out.below hb); replace L0 := Aside0.mk (blk_below L0.out hb); replace L1 := Aside0.mk (blk_below L1.out hb); (try clear r0 r1); obtain ⟨r0, r1⟩ := cs2 (L0.out); (try clear g0 g1); obtain ⟨g0, g1⟩ := cs2 (L1.out); replace hS := kb_grown hS (grown_of_below hb none) (fun k _ e => by cases e); refine ⟨_, rfl, hS, fun a_ ha_ => ?_⟩; (simp only [Act.put, pu1, pu2, pu3] at ha_); subst ha_; clear hb))
   clear hS ZL0 ZL1
   refine h_lastF_row (v := ?_) (w.heap.size + 1) #[.slice A2 ns2.length c2, .slice B2 es2.length d2] _ _ L1.out gt_ gt_ (by rfl) (by rfl) (by rfl) ?_ rfl rfl rfl rfl rfl rfl (by kernel_rfl) rfl (by simp [Value.oneCell']) ?_
   rotate_left
   ·intro w_
    go_simp
    with_reducible rfl
   intro a_ ha_
   simp only [Act.put, pu1, pu2, pu3] at ha_
   subst ha_
   refine named _ ?_
   intro wz hwz
   have HDz := HD.out.over (grown_setRow _ (w.heap.size + 1) #[.slice A2 ns2.length c2, .slice B2 es2.length d2]) (by have := HG.out; omega) (by have := HG.out; omega)
   rw [← hwz] at HDz
   replace HD := Aside0.mk HDz
   clear HDz
   replace L0 := Aside0.mk (so_ hwz L0.out (by have := HG.out; omega))
   replace L1 := Aside0.mk (sh_ hwz L1.out)
   replace HG2 := Aside0.mk (show GR wz A2 c2 ns2 B2 d2 es2 by rw [hwz]; exact (HG2.out).keep (grown_setRow _ _ _) (HF2.out.1.notIn (by omega)) (HF2.out.2.notIn (by omega)))
   (try clear r0 r1)
   obtain ⟨r0, r1⟩ := cs2 (L0.out)
   (try clear g0 g1)
   obtain ⟨g0, g1⟩ := cs2 (L1.out)
   clear hwz
   go_wp2
   go_roundw
   case rel => exact ⟨k, j + 1, A2, c2, ns2, B2, d2, es2, by have := HIJ.out; omega, by go_num, L0.out, L1.out, HG2.out, HF2.out.1, HF2.out.2, by have := HL2.out; have := HLJ.out; omega, by have := HL2.out; have := HLJ.out; omega, HD.out⟩
   case measure => simp [intOf]
  ·obtain rfl : i = 0 := by omega
   go_wp2_with (first | (go_at_call 43; go_must ((refine (l2Copy_calls A c ns B d es _ HGR.out (by have := HLN.out; omega) (by have := HLE.out; omega)).mono ?_); rintro e u_ ⟨A3, c3, B3, d3, rfl, hgr_, hrn_, hre_, -, hb⟩; have HG3 := Aside0.mk hgr_; have HF3 := Aside0.mk (show Fresh (w.heap.size + 1) A3 ∧ Fresh (w.heap.size + 1) B3 from ⟨(fresh_RN hrn_).mono (by have := blk_lt L1.out; omega), (fresh_RE hre_).mono (by have := blk_lt L1.out; omega)⟩); clear hgr_ hrn_ hre_; replace HD := Aside0.mk (HD.out.below hb); replace L0 := Aside0.mk (blk_below L0.out hb); replace L1 := Aside0.mk (blk_below L1.out hb); (try clear r0 r1); obtain ⟨r0, r1⟩ := cs2 (L0.out); (try clear g0 g1); obtain ⟨g0, g1⟩ := cs2 (L1.out); clear hb)) | ((with_reducible refine gate_store (p := 2) rfl ?_); go_must ((refine wpList_plain rfl fun K_ hK_ => wp_store_row _ _ _ rfl (w.heap.size) #[.slice A3 ns.length c3, .slice B3 es.length d3] rfl rfl _ _ L0.out (by kernel_rfl) rfl (by simp [Value.oneCell']) (hK_ _ _ ?_)); refine named _ ?_; intro wz hwz; have HDz := HD.out.over (grown_setRow _ (w.heap.size) #[.slice A3 ns.length c3, .slice B3 es.length d3]) (by have := HG.out; omega) (by have := HG.out; omega); rw [← hwz] at HDz; replace HD := Aside0.mk HDz; clear HDz; replace L1 := Aside0.mk (so_ hwz L1.out (by have := HG.out; omega)); replace L0 := Aside0.mk (sh_ hwz L0.out); replace HG3 := Aside0.mk (show GR wz A3 c3 ns B3 d3 es by rw [hwz]; exact (HG3.out).keep (grown_setRow _ _ _) (HF3.out.1.notIn (by omega)) (HF3.out.2.notIn (by omega))); (try clear r0 r1); obtain ⟨r0, r1⟩ := cs2 (L0.out); (try clear g0 g1); obtain ⟨g0, g1⟩ := cs2 (L1.out); clear hwz)))
   refine bodyPost_ret (results_cell_row rfl _ _ (w.heap.size) _ #[.slice A3 ns.length c3, .slice B3 es.length d3] (0, 0) _ rfl L0.out Tryz.underlying26 rfl (by kernel_rfl)) rfl ⟨⟨A3, c3, ns, B3, d3, es, rfl, HG3.out, HF3.out.1.mono (by omega), HF3.out.2.mono (by omega), HLN.out, HLE.out⟩, HD.out.mono (by omega)⟩
end Go.Proofs.YtogmbeifbjgphaaGreat.R
namespace Go.Proofs.YtogmbeifbjgphaaGreat.R
open Go.RowKit Go.Proofs.YtogmbeifbjgphaaGreatV.PrintWords Go.Proofs.YtogmbeifbjgphaaGreatV.PrintLast Go.Proofs.YtogmbeifbjgphaaGreatV.PrintMore Go.Proofs.YtogmbeifbjgphaaGreat.M
set_option linter.unusedVariables false
theorem own_addrE {e : TypeId} {w : World} {base n c : Nat} {ok : Nat → Prop} {A : Option Addr} {xs : List Eg} (h : kE.R e w base ok (.slice A n c) xs) (hn : 0 < n) : ∃ g, A = some ⟨g, 0, none⟩ := by
 obtain ⟨inner, ho⟩ := Kd.R_own h
 rcases ho.2 with ⟨hv, h0⟩ | ⟨g, cap, cur, hv, _⟩
 ·cases hv
  omega
 ·cases hv
  exact ⟨g, rfl⟩
theorem at_getD (xs : List Nd) (k : Nat) : xs.getD k zN = at_ xs k := rfl
theorem setN {e : TypeId} {W : World} {base g n cap : Nat} {xs : List Nd} (h : kN.R e W base (fun _ => True) (.slice (some ⟨g, 0, none⟩) n cap) xs) (k : Nat) (hk : k < n) (v : Int) :
 kN.R e (W.setCell ⟨g, k * 2 + 1, none⟩ (.int .i64 v)) base (fun _ => True) (.slice (some ⟨g, 0, none⟩) n cap) (xs.set k ⟨(at_ xs k).lab, v⟩) ∧ W.grownBy (W.setCell ⟨g, k * 2 + 1, none⟩ (.int .i64 v)) (some g) := by
 obtain ⟨c, hcl, hM, hcc, _⟩ := Kd.R_elem h zN (k : Int) (by omega) (by omega)
 rw [Int.toNat_natCast] at hM hcc
 have hK := kN_open (kN.K_of_M hM)
 rw [at_getD] at hK
 have h1 := Kd.R_seg (okp := fun k => k ≠ g) h (k : Int) (by omega) (by omega) (c := c) (seg := [.int .i64 v]) (j := 1) hcl (by rw [Int.toNat_natCast]; exact hcc) (show 1 + 1 ≤ 2 by decide) (x' := ⟨(at_ xs k).lab, v⟩) (by rw [hK]; exact kN_mkM W base _ ⟨(at_ xs k).lab, v⟩) (fun k hk => ⟨trivial, hk⟩)
 rw [Int.toNat_natCast] at h1
 exact h1
theorem setE {e : TypeId} {W : World} {base g n cap : Nat} {xs : List Eg} (h : kE.R e W base (fun _ => True) (.slice (some ⟨g, 0, none⟩) n cap) xs) (k : Nat) (hk : k < n) (v : Int) :
 kE.R e (W.setCell ⟨g, k * 5, none⟩ (.int .i64 v)) base (fun _ => True) (.slice (some ⟨g, 0, none⟩) n cap) (xs.set k ⟨v, (eat xs k).a, (eat xs k).b⟩) ∧ W.grownBy (W.setCell ⟨g, k * 5, none⟩ (.int .i64 v)) (some g) := by
 obtain ⟨c, hcl, hM, hcc, _⟩ := Kd.R_elem h zE (k : Int) (by omega) (by omega)
 rw [Int.toNat_natCast] at hM hcc
 have hK := kE_open (kE.K_of_M hM)
 have hK' : c = cE (eat xs k) := hK
 have h1 := Kd.R_seg (okp := fun k => k ≠ g) h (k : Int) (by omega) (by omega) (c := c) (seg := [.int .i64 v]) (j := 0) hcl (by rw [Int.toNat_natCast]; exact hcc) (show 0 + 1 ≤ 5 by decide) (x' := ⟨v, (eat xs k).a, (eat xs k).b⟩) (by rw [hK']; exact kE_mkM W base _ ⟨v, (eat xs k).a, (eat xs k).b⟩) (fun k hk => ⟨trivial, hk⟩)
 rw [Int.toNat_natCast] at h1
 exact h1
section
variable {P : Program} {ops : Array Oper} {Q : Exit → Act → World → Prop} {S : World → Prop} {E : Act → World → Prop} {i : Nat} {r : List (Nat × Bool)} {o : Oper} {a : Act} {w : World}
theorem h_lit (cs : Array Value) (t : TypeId) (n : Nat) (ho : ops[i]? = some o) (hw : Region.wanted o (yielded ops a.tmps) = true) (hrun : (execOp a.eval o).run P w = .ok (.value (.slice (some ⟨w.heap.size, 0, none⟩) n n)) (w.alloc (.cells cs t))) (hS : S (w.alloc (.cells cs t)))
 (h : ∀ g u, w.heap.size ≤ g → u.heap[g]? = some (.cells cs t (0, 0)) → Below w.heap.size w u → S u → ∀ a', a.put o.dst (.slice (some ⟨g, 0, none⟩) n n) = a' → wpH P ops Q S E r a' u) : wpH P ops Q S E ((i, false) :: r) a w :=
 ⟨o, ho, fun K hK => value_ hw rfl hrun (hK _ _ hS fun _ => h _ _ (Nat.le_refl _) (blk_new w _) (below_alloc (Below.refl _ _) _) hS _ rfl)⟩
theorem h_cellI {ty : TypeId} {x y : Operand} (g j : Nat) (k : IntKind) (n : Int) (ho : ops[i]? = some o) (hw : Region.wanted o (yielded ops a.tmps) = true) (hop : o.op = .store ty x y) (hx : a.eval x = .pointer (some ⟨g, j, none⟩)) (hy : a.eval y = .int k n) (hc : ∃ u, w.cell? ⟨g, j, none⟩ = some u) (hf : w.frozen? ⟨g, j, none⟩ = false) (hi : (P.info? ty).map (·.size) = some 1)
 (hS : S (w.setCell ⟨g, j, none⟩ (.int k n))) (h : ∀ a', a.put o.dst undef = a' → wpH P ops Q S E r a' (w.setCell ⟨g, j, none⟩ (.int k n))) : wpH P ops Q S E ((i, false) :: r) a w :=
 ⟨o, ho, fun K hK => by
  rw [hw, if_pos rfl]
  exact wp_cellI g j k n hop hx hy hc hf hi (hK _ _ hS fun _ => h _ rfl)⟩
end
theorem own_cellN {e : TypeId} {W : World} {base g n cap : Nat} {xs : List Nd} (h : kN.R e W base (fun _ => True) (.slice (some ⟨g, 0, none⟩) n cap) xs) (k : Nat) (hk : k < n) : (∃ u, W.cell? ⟨g, k * 2 + 1, none⟩ = some u) ∧ W.frozen? ⟨g, k * 2 + 1, none⟩ = false := by
 obtain ⟨c, hcl, hM, hcc, hf⟩ := Kd.R_elem h zN (k : Int) (by omega) (by omega)
 rw [Int.toNat_natCast] at hM hcc hf
 obtain rfl := kN_open (kN.K_of_M hM)
 exact ⟨⟨_, hcc 1 _ rfl⟩, hf 1⟩
theorem own_cellE {e : TypeId} {W : World} {base g n cap : Nat} {xs : List Eg} (h : kE.R e W base (fun _ => True) (.slice (some ⟨g, 0, none⟩) n cap) xs) (k : Nat) (hk : k < n) : (∃ u, W.cell? ⟨g, k * 5, none⟩ = some u) ∧ W.frozen? ⟨g, k * 5, none⟩ = false := by
 obtain ⟨c, hcl, hM, hcc, hf⟩ := Kd.R_elem h zE (k : Int) (by omega) (by omega)
 rw [Int.toNat_natCast] at hM hcc hf
 obtain rfl := kE_open (kE.K_of_M hM)
 exact ⟨⟨_, hcc 0 _ rfl⟩, hf 0⟩
end Go.Proofs.YtogmbeifbjgphaaGreat.R
namespace Go.Proofs.YtogmbeifbjgphaaGreat.R
open Go.RowKit Go.Proofs.YtogmbeifbjgphaaGreatV.PrintWords Go.Proofs.YtogmbeifbjgphaaGreatV.PrintLast Go.Proofs.YtogmbeifbjgphaaGreatV.PrintMore Go.Proofs.YtogmbeifbjgphaaGreat.M
set_option linter.unusedVariables false
/-- How an operation is met: one: S is shown behind it; pure: it leaves the world; last: nothing is shown behind it. -/
inductive Kn where | one | pure | last
inductive Pl where
 | fin : Pl
 | tk (i : Nat) (p : Pl) : Pl
 | nd (k : Kn) (i : Nat) (p : Pl) : Pl
 | f2 (k : Kn) (i : Nat) (p : Pl) (k' : Kn) (j : Nat) (q : Pl) : Pl
section
variable {P : Program} {ops : Array Oper} {Q : Exit → Act → World → Prop} {md : Region.Mode} {S : World → Prop} {ds : List Nat}
def metK (P : Program) (ops : Array Oper) (Q : Exit → Act → World → Prop) (S : World → Prop) (E : Act → World → Prop) (k : Kn) (i : Nat) (a : Act) (w : World) : Prop :=
 match k with
 | .one => ∃ o, ops[i]? = some o ∧ ∀ K : Act → World → Prop, Shut (∀ a' w', S w' → E a' w' → K a' w') → if Region.wanted o (yielded ops a.tmps) = true then Oper.wp P o a w K Q else K (a.put o.dst undef) w
 | .pure => ∃ o v, ops[i]? = some o ∧ PureAt P ops o v a w ∧ E (a.put o.dst v) w
 | .last => ∃ o, ops[i]? = some o ∧ ∀ K : Act → World → Prop, Shut (∀ a' w', E a' w' → K a' w') → if Region.wanted o (yielded ops a.tmps) = true then Oper.wp P o a w K Q else K (a.put o.dst undef) w
def wpP (P : Program) (ops : Array Oper) (Q : Exit → Act → World → Prop) (S : World → Prop) : Pl → Act → World → Prop
 | .fin => Q .normal
 | .tk i p => fun a w => S w ∧ ∃ o v, ops[i]? = some o ∧ YieldsIf P ops S o v a ∧ wpP P ops Q S p (a.put o.dst v) w
 | .nd k i p => metK P ops Q S (wpP P ops Q S p) k i
 | .f2 k i p k' j q => fun a w => metK P ops Q S (wpP P ops Q S p) k i a w ∧ metK P ops Q S (wpP P ops Q S q) k' j a w
def Pl.depth : Pl → Nat
 | .fin => 0
 | .tk _ p => p.depth + 1
 | .nd _ _ p => p.depth + 1
 | .f2 _ _ p _ _ q => max p.depth q.depth + 1
def Kn.ok (ds : List Nat) : Kn → Nat → Bool
 | .one, i => !ds.contains i
 | .pure, _ => true
 | .last, i => ds.contains i
def planB (md : Region.Mode) (ops : Array Oper) (ds : List Nat) : Pl → Array Bool → Bool
 | .fin, l => Region.ready md ops l == []
 | .tk i p, l => takeB md ops ds l (l.setIfInBounds i true) i && planB md ops ds p (l.setIfInBounds i true)
 | .nd k i p, l => ((Region.ready md ops l == [i]) && k.ok ds i) && planB md ops ds p (l.setIfInBounds i true)
 | .f2 k i p k' j q, l => ((Region.ready md ops l == [i, j]) && (k.ok ds i && k'.ok ds j)) && (planB md ops ds p (l.setIfInBounds i true) && planB md ops ds q (l.setIfInBounds j true))
theorem ready_met {fuel : Nat} {l : Array Bool} {a : Act} {w : World} {k : Kn} {i : Nat} {E : Act → World → Prop} {rs : List Nat} (hk : k.ok ds i = true) (h : metK P ops Q S E k i a w)
 (hE : ∀ a' w', E a' w' → wpAnyLast P md ops Q S ds fuel (l.setIfInBounds i true) a' w') (hs : AllReadyL P md ops Q S ds fuel l a w rs) : AllReadyL P md ops Q S ds fuel l a w (i :: rs) := by
 cases k with
 | one =>
   obtain ⟨o, ho, h⟩ := h
   exact AllReadyL.cons ho (by simpa [Kn.ok] using hk) (fun K hK => h K fun a' w' hS he => hK a' w' hS fun _ => hE a' w' he) hs
 | pure =>
   obtain ⟨o, v, ho, hp, h⟩ := h
   exact AllReadyL.cons_pure ho hp (hE _ _ h) hs
 | last =>
   obtain ⟨o, ho, h⟩ := h
   exact AllReadyL.cons_last ho (by simpa [Kn.ok] using hk) (fun K hK => h K fun a' w' he => hK a' w' (hE a' w' he)) hs
theorem any_of_plan (hQ : ∀ (d : Option Tmp) (v : Value) (c : _) (a : Act) (w : World), Q (.panic c) (a.put d v) w → Q (.panic c) a w) :
 ∀ (p : Pl) (fuel : Nat) (l : Array Bool) (a : Act) (w : World), planB md ops ds p l = true → p.depth ≤ fuel → wpP P ops Q S p a w → wpAnyLast P md ops Q S ds fuel l a w
 | .fin, fuel, l, a, w, hc, _, h => done_ hc h
 | .tk i p, 0, l, a, w, _, hf, _ => by simp [Pl.depth] at hf
 | .tk i p, fuel + 1, l, a, w, hc, hf, h => by
   obtain ⟨hS, o, v, ho, hy, h⟩ := h
   simp only [planB, Bool.and_eq_true] at hc
   exact take_ _ ho rfl hc.1 (fun c a w => hQ o.dst v c a w) hy hS rfl (any_of_plan hQ p fuel _ _ w hc.2 (by simpa [Pl.depth] using hf) h)
 | .nd k i p, 0, l, a, w, _, hf, _ => by simp [Pl.depth] at hf
 | .nd k i p, fuel + 1, l, a, w, hc, hf, h => by
   simp only [planB, Bool.and_eq_true, beq_iff_eq] at hc
   exact wpAnyLast_ready hc.1.1 (by simp) (ready_met hc.1.2 h (fun a' w' he => any_of_plan hQ p fuel _ _ w' hc.2 (by simpa [Pl.depth] using hf) he) AllReadyL.nil)
 | .f2 k i p k' j q, 0, l, a, w, _, hf, _ => by simp [Pl.depth] at hf
 | .f2 k i p k' j q, fuel + 1, l, a, w, hc, hf, h => by
   simp only [planB, Bool.and_eq_true, beq_iff_eq] at hc
   simp only [Pl.depth] at hf
   exact wpAnyLast_ready hc.1.1 (by simp) (ready_met hc.1.2.1 h.1 (fun a' w' he => any_of_plan hQ p fuel _ _ w' hc.2.1 (by omega) he)
    (ready_met hc.1.2.2 h.2 (fun a' w' he => any_of_plan hQ q fuel _ _ w' hc.2.2 (by omega) he) AllReadyL.nil))
theorem region_pl {id : Nat} {a : Act} {w : World} (S : World → Prop) (ds : List Nat) (p : Pl) (hm : P.follows .mixedOrders = true) (hc : planB .any ops ds p (Array.replicate ops.size false) = true) (hl : p.depth ≤ ops.size)
 (hQ : ∀ (d : Option Tmp) (v : Value) (c : _) (a : Act) (w : World), Q (.panic c) (a.put d v) w → Q (.panic c) a w) (hS : S w.drew) (h : ∀ u, Below w.heap.size w u → S u → wpP P ops Q S p a u) : (Code.region id ops true).wp P Q a w :=
 wp_region_last hm (any_of_plan hQ p ops.size _ a w.drew hc hl (h _ ((Below.refl _ _).drew) hS))
/-- The same with S: all but blocks G and 'row' of what was there stays. -/
theorem region_kp {id : Nat} {a : Act} {w : World} (G : Nat) (row : Option Nat) (ds : List Nat) (p : Pl) (hm : P.follows .mixedOrders = true) (hc : planB .any ops ds p (Array.replicate ops.size false) = true) (hl : p.depth ≤ ops.size)
 (hQ : ∀ (d : Option Tmp) (v : Value) (c : _) (a : Act) (w : World), Q (.panic c) (a.put d v) w → Q (.panic c) a w) (h : ∀ u, Below w.heap.size w u → KeepBut w u G row → wpP P ops Q (fun u => KeepBut w u G row) p a u) : (Code.region id ops true).wp P Q a w :=
 region_pl (fun u => KeepBut w u G row) ds p hm hc hl hQ ⟨Nat.le_refl _, fun _ _ _ _ => rfl⟩ h
variable {i : Nat} {p : Pl} {o : Oper} {v : Value} {a : Act} {w : World}
theorem p_off (hS : S w) (ho : ops[i]? = some o) (hw : Region.wanted o (yielded ops a.tmps) = false) (h : ∀ a', a.put o.dst undef = a' → wpP P ops Q S p a' w) : wpP P ops Q S (.tk i p) a w := ⟨hS, o, undef, ho, .inr ⟨hw, rfl⟩, h _ rfl⟩
theorem p_on (hS : S w) (ho : ops[i]? = some o) (hw : Region.wanted o (yielded ops a.tmps) = true) (hv : ∀ w', S w' → (execOp a.eval o).run P w' = .ok (.value v) w') (h : ∀ a', a.put o.dst v = a' → wpP P ops Q S p a' w) : wpP P ops Q S (.tk i p) a w := ⟨hS, o, v, ho, .inl ⟨hw, hv⟩, h _ rfl⟩
theorem p_pon (ho : ops[i]? = some o) (hw : Region.wanted o (yielded ops a.tmps) = true) (hv : (execOp a.eval o).run P w = .ok (.value v) w) (h : ∀ a', a.put o.dst v = a' → wpP P ops Q S p a' w) : wpP P ops Q S (.nd .pure i p) a w := ⟨o, v, ho, .inl ⟨hw, hv⟩, h _ rfl⟩
theorem p_two {k k' : Kn} {j : Nat} {q : Pl} (h1 : wpP P ops Q S (.nd k i p) a w) (h2 : wpP P ops Q S (.nd k' j q) a w) : wpP P ops Q S (.f2 k i p k' j q) a w := ⟨h1, h2⟩
theorem p_fin (h : Q .normal a w) : wpP P ops Q S .fin a w := h
theorem p_ooff (hS : S w) (ho : ops[i]? = some o) (hw : Region.wanted o (yielded ops a.tmps) = false) (h : ∀ a', a.put o.dst undef = a' → wpP P ops Q S p a' w) : wpP P ops Q S (.nd .one i p) a w := ⟨o, ho, fun K hK => by rw [hw, if_neg (by decide)]; exact hK _ _ hS (h _ rfl)⟩
/-- One that does something: by what its run comes to. -/
theorem p_one (ho : ops[i]? = some o) (hw : Region.wanted o (yielded ops a.tmps) = true) (h : ∀ K : Act → World → Prop, (∀ a' w', S w' → wpP P ops Q S p a' w' → K a' w') → Oper.wp P o a w K Q) : wpP P ops Q S (.nd .one i p) a w := ⟨o, ho, fun K hK => by rw [if_pos hw]; exact h K hK⟩
theorem p_last (ho : ops[i]? = some o) (hw : Region.wanted o (yielded ops a.tmps) = true) (h : ∀ K : Act → World → Prop, (∀ a' w', wpP P ops Q S p a' w' → K a' w') → Oper.wp P o a w K Q) : wpP P ops Q S (.nd .last i p) a w := ⟨o, ho, fun K hK => by rw [if_pos hw]; exact h K hK⟩
theorem p_call {f : FuncId} {fn : Func} {as_ : Array Operand} {ts : Array TypeId} (hf : P.funcs[f]? = some fn) (hname : (fn.name == "runtime.NumGoroutine") = false) (hb : fn.body.isSome = true) (ho : ops[i]? = some o) (hop : o.op = .call { callee := .value (.func f), args := as_, argTypes := ts })
 (hw : Region.wanted o (yielded ops a.tmps) = true) {args : Array Value} (hargs : as_.map a.eval = args) (h : Calls P f args w fun e w' => ∃ v, e = .returned v ∧ S w' ∧ ∀ a', a.put o.dst v = a' → wpP P ops Q S p a' w') : wpP P ops Q S (.nd .one i p) a w :=
 p_one ho hw fun K hK => goes_ hf hname hb args hw rfl hop hargs (h.mono fun e w' hh => by
  obtain ⟨v, he, hS', hr⟩ := hh
  exact ⟨v, he, hK _ _ hS' (hr _ rfl)⟩) |> fun h => by rw [if_pos hw] at h; exact h
end
end Go.Proofs.YtogmbeifbjgphaaGreat.R
namespace Go.Proofs.YtogmbeifbjgphaaGreat.R
open Go.RowKit Go.Proofs.YtogmbeifbjgphaaGreatV.PrintWords Go.Proofs.YtogmbeifbjgphaaGreatV.PrintLast Go.Proofs.YtogmbeifbjgphaaGreatV.PrintMore Go.Proofs.YtogmbeifbjgphaaGreat.M
set_option linter.unusedVariables false
section
variable {α : Type} {d : Kd α} {P : Program} {ops : Array Oper} {Q : Exit → Act → World → Prop} {S : World → Prop} {i : Nat} {p : Pl} {o : Oper} {a : Act}
theorem p_appendL (hf : Flat d) {W : World} {base e : Nat} {t : TypeId} {s x : Operand} (z : Value) (bytes : Nat) (v : Value) (xs ys : List α) (A : Option Addr) (m c : Nat)
 (ho : ops[i]? = some o) (hw : Region.wanted o (yielded ops a.tmps) = true) (hop : o.op = .call { callee := .builtin .append, args := #[s, x], argTypes := #[t, t] })
 (ht : P.underlying t = some (.slice e)) (hinfo : (P.info? e).map (fun i => (i.zero, i.size, i.bytes)) = some (some z, d.sz, bytes)) (hz : z.cells.size = d.sz) (hb0 : 0 < bytes)
 (hs : a.eval s = v) (hx : a.eval x = .slice A m c) (HO : d.R e W base (fun _ => True) v xs) (HC : d.C W A m ys) (hbase : base ≤ W.heap.size) (hl : (xs.length + m) * bytes ≤ 140737488355328)
 (h : ∀ B n cp w1, n = (xs ++ ys).length → n ≤ cp → d.R e w1 base (fun _ => True) (.slice B n cp) (xs ++ ys) → W.grownBy w1 v.ownBlock → ((Value.slice B n cp).ownBlock = v.ownBlock ∨ ∃ b, (Value.slice B n cp).ownBlock = some b ∧ W.heap.size ≤ b) → ∀ a', a.put o.dst (.slice B n cp) = a' → wpP P ops Q S p a' w1) : wpP P ops Q S (.nd .last i p) a W := by
 refine ⟨o, ho, fun K hK => ?_⟩
 refine Kd.R_append_rows_step d (Rr := d.K W) (w0 := W) base hw s x t e z bytes hop ht hinfo hz hf.1 hb0 v xs ys A m c (fun _ => True) (fun _ => False) hs hx HO HC (fun y cs hy => hf.2 y cs W hy W base _) (fun k hk => hk.elim) (fun _ _ => trivial) (Below.refl _ _) hbase hl fun v1 w1 h1 h2 h3 h4 => ?_
 obtain ⟨B, cp, rfl, hn, -⟩ := Kd.R_reads h1
 exact hK _ _ (h B _ cp w1 rfl hn h1 h3 h4 _ rfl)
theorem p_lit (cs : Array Value) (t : TypeId) (n : Nat) {w : World} (ho : ops[i]? = some o) (hw : Region.wanted o (yielded ops a.tmps) = true) (hrun : (execOp a.eval o).run P w = .ok (.value (.slice (some ⟨w.heap.size, 0, none⟩) n n)) (w.alloc (.cells cs t))) (hS : S (w.alloc (.cells cs t)))
 (h : ∀ g u, w.heap.size ≤ g → u.heap[g]? = some (.cells cs t (0, 0)) → Below w.heap.size w u → S u → ∀ a', a.put o.dst (.slice (some ⟨g, 0, none⟩) n n) = a' → wpP P ops Q S p a' u) : wpP P ops Q S (.nd .one i p) a w :=
 ⟨o, ho, fun K hK => by exact value_ hw rfl hrun (hK _ _ hS (h _ _ (Nat.le_refl _) (blk_new w _) (below_alloc (Below.refl _ _) _) hS _ rfl))⟩
end
end Go.Proofs.YtogmbeifbjgphaaGreat.R
