/- The reference: a graph in new memory; The reference: numbers and order of whatever nodes and edges; how something ends. -/
import Derived.Test.YtogmbeifbjgphaaGreatKB13
namespace Go.Proofs.YtogmbeifbjgphaaGreat.R
open Go.RowKit Go.Proofs.YtogmbeifbjgphaaGreatV.PrintWords Go.Proofs.YtogmbeifbjgphaaGreatV.PrintLast Go.Proofs.YtogmbeifbjgphaaGreatV.PrintMore Go.Proofs.YtogmbeifbjgphaaGreat.M
set_option linter.unusedVariables false
set_option linter.unusedSimpArgs false
attribute [local go_sem high] eqN eqE
section
variable {α : Type} {d : Kd α} {P : Program} {ops : Array Oper} {Q : Exit → Act → World → Prop} {S : World → Prop} {E : Act → World → Prop} {i : Nat} {r : List (Nat × Bool)} {o : Oper} {a : Act}
/-- append to a row of the call's own, as one operation of a region. -/
theorem h_append (hf : Flat d) {w0 W : World} {base e : Nat} {t : TypeId} {s x : Operand} (z : Value) (bytes : Nat) (v : Value) (xs ys : List α) (A : Option Addr) (m c : Nat)
 (ho : ops[i]? = some o) (hw : Region.wanted o (yielded ops a.tmps) = true) (hop : o.op = .call { callee := .builtin .append, args := #[s, x], argTypes := #[t, t] })
 (ht : P.underlying t = some (.slice e)) (hinfo : (P.info? e).map (fun i => (i.zero, i.size, i.bytes)) = some (some z, d.sz, bytes)) (hz : z.cells.size = d.sz) (hb0 : 0 < bytes)
 (hs : a.eval s = v) (hx : a.eval x = .slice A m c) (HO : d.R e W base (fun _ => True) v xs) (HC : d.C W A m ys) (HB : Below base w0 W) (hbase : base ≤ W.heap.size) (hl : (xs.length + m) * bytes ≤ 140737488355328) (hSk : ∀ w1, Below base w0 w1 → S w1)
 (h : ∀ B n cp w1, n = (xs ++ ys).length → n ≤ cp → d.R e w1 base (fun _ => True) (.slice B n cp) (xs ++ ys) → Below base w0 w1 → W.grownBy w1 v.ownBlock → ((Value.slice B n cp).ownBlock = v.ownBlock ∨ ∃ b, (Value.slice B n cp).ownBlock = some b ∧ W.heap.size ≤ b) → ∀ a', a.put o.dst (.slice B n cp) = a' → wpH P ops Q S E r a' w1) : wpH P ops Q S E ((i, false) :: r) a W := by
 refine ⟨o, ho, fun K hK => ?_⟩
 refine Kd.R_append_rows_step d (Rr := d.K W) (w0 := w0) base hw s x t e z bytes hop ht hinfo hz hf.1 hb0 v xs ys A m c (fun _ => True) (fun _ => False) hs hx HO HC (fun y cs hy => hf.2 y cs W hy W base _) (fun k hk => hk.elim) (fun _ _ => trivial) HB hbase hl fun v1 w1 h1 h2 h3 h4 => ?_
 obtain ⟨B, cp, rfl, hn, -⟩ := Kd.R_reads h1
 exact hK _ _ (hSk w1 h2) fun _ => h B _ cp w1 rfl hn h1 h2 h3 h4 _ rfl
theorem h_lit0 (hf : Flat d) {w0 W : World} {base e : Nat} (ho : ops[i]? = some o) (hw : Region.wanted o (yielded ops a.tmps) = true) (hbase : base ≤ W.heap.size) (HB : Below base w0 W)
 (hrun : (execOp a.eval o).run P W = .ok (.value (.slice (some ⟨W.heap.size, 0, none⟩) 0 0)) (W.alloc (.cells #[] e))) (hR : d.R e (W.alloc (.cells #[] e)) base (fun _ => True) (.slice (some ⟨W.heap.size, 0, none⟩) 0 0) []) (hSk : ∀ w1, Below base w0 w1 → S w1)
 (h : ∀ g w1, W.heap.size ≤ g → d.R e w1 base (fun _ => True) (.slice (some ⟨g, 0, none⟩) 0 0) [] → Below base w0 w1 → Below W.heap.size W w1 → ∀ a', a.put o.dst (.slice (some ⟨g, 0, none⟩) 0 0) = a' → wpH P ops Q S E r a' w1) : wpH P ops Q S E ((i, false) :: r) a W :=
 ⟨o, ho, fun K hK => by
  have hb := HB.alloc hbase (.cells #[] e)
  exact value_ hw rfl hrun (hK _ _ (hSk _ hb) fun _ => h W.heap.size _ (Nat.le_refl _) hR hb (below_alloc (Below.refl _ _) _) _ rfl)⟩
theorem R_empty (hf : Flat d) {W : World} {base e : Nat} (hb : base ≤ W.heap.size) : d.R e (W.alloc (.cells #[] e)) base (fun _ => True) (.slice (some ⟨W.heap.size, 0, none⟩) 0 0) [] :=
 flat_close (W := W) hf (cs := []) (cur := #[]) (Reps.none _ _) rfl hb (blk_new W _) (Nat.le_refl _) (Nat.zero_le _) (by simp) (by simp)
end
theorem off_fresh {u v : Value} {n : Nat} (h1 : ∀ k, u.ownBlock = some k → k < n) (h2 : ∀ k, v.ownBlock = some k → n ≤ k) : Off u v := fun k hu hv => by have := h1 k hu; have := h2 k hv; omega
theorem off_fresh2 {u v : Value} {n : Nat} (h1 : ∀ k, v.ownBlock = some k → k < n) (h2 : ∀ k, u.ownBlock = some k → n ≤ k) : Off u v := fun k hu hv => by have := h1 k hv; have := h2 k hu; omega
theorem off_left {u u' v : Value} {n : Nat} (h : Off u v) (hu : u'.ownBlock = u.ownBlock ∨ ∃ b, u'.ownBlock = some b ∧ n ≤ b) (hv : ∀ k, v.ownBlock = some k → k < n) : Off u' v := by
 rcases hu with e | ⟨b, e, hb⟩
 ·exact fun k h1 h2 => h k (e ▸ h1) h2
 ·exact fun k h1 h2 => by have := hv k h2; rw [e] at h1; have := Option.some.inj h1; omega
theorem off_right {u v v' : Value} {n : Nat} (h : Off u v) (hv : v'.ownBlock = v.ownBlock ∨ ∃ b, v'.ownBlock = some b ∧ n ≤ b) (hu : ∀ k, u.ownBlock = some k → k < n) : Off u v' := by
 rcases hv with e | ⟨b, e, hb⟩
 ·exact fun k h1 h2 => h k h1 (e ▸ h2)
 ·exact fun k h1 h2 => by have := hu k h1; rw [e] at h2; have := Option.some.inj h2; omega
abbrev sCp : List (Nat × Bool) := [(1, true), (2, true), (5, true), (6, true)]
abbrev tCp : Sch := .fork 0 [] (.fork 3 [(4, false), (7, false), (8, true), (9, false)] .fin 4 [(3, false), (7, false), (8, true), (9, false)] .fin) 4 [(0, false), (3, false), (7, false), (8, true), (9, false)] .fin
theorem sCp_ok : schedT .any (opsOf Tryz.f43 1) tCp sCp (Array.replicate (opsOf Tryz.f43 1).size false) = true := by kernel_rfl
set_option maxHeartbeats 6400000 in
set_option maxRecDepth 100000 in
theorem l2Copy_calls (A : Option Addr) (c : Nat) (ns : List Nd) (B : Option Addr) (d : Nat) (es : List Eg) (w : World) (hr : GR w A c ns B d es) (hn : ns.length ≤ 1000000) (he : es.length ≤ 1000000) :
 Calls Tryz.prog 43 #[.agg #[.slice A ns.length c, .slice B es.length d]] w fun e w' => ∃ A' c' B' d', e = .returned (.agg #[.slice A' ns.length c', .slice B' es.length d']) ∧ GR w' A' c' ns B' d' es ∧ kN.R 28 w' w.heap.size (fun _ => True) (.slice A' ns.length c') ns ∧ kE.R 30 w' w.heap.size (fun _ => True) (.slice B' es.length d') es ∧ Off (.slice A' ns.length c') (.slice B' es.length d') ∧ Below w.heap.size w w' := by
 have HR := Aside0.mk hr
 have HNL := Aside0.mk hn
 have HEL := Aside0.mk he
 clear hr hn he
 go_enter Tryz.func43, Tryz.ntmps43
 go_wp2_with (fail)
 refine named _ ?_
 intro W hW
 have c0 : W.cell? ⟨w.heap.size, 0, none⟩ = some (.slice A ns.length c) := by subst hW; simp
 have c1 : W.cell? ⟨w.heap.size, 1, none⟩ = some (.slice B es.length d) := by subst hW; simp
 have HG := Aside0.mk (show W.heap[w.heap.size + 1]? = some (.cells #[.slice none 0 0, .slice none 0 0] 26 (0, 0)) by subst hW; simpa using heap_alloc_new (w.alloc (.cells #[.slice A ns.length c, .slice B es.length d] 26)) (.cells #[.slice none 0 0, .slice none 0 0] 26))
 have HW0 := Aside0.mk (show Below w.heap.size w W by subst hW; exact below_alloc (below_alloc (Below.refl _ _) _) _)
 have HSZ := Aside0.mk (show W.heap.size = w.heap.size + 2 by subst hW; simp)
 clear hW
 have HS := Aside0.mk (show ∀ u, Below (w.heap.size + 1) W u → (fun u_ => Below (w.heap.size + 1) W u_ ∧ u_.cell? ⟨w.heap.size, 0, none⟩ = some (.slice A ns.length c) ∧ u_.cell? ⟨w.heap.size, 1, none⟩ = some (.slice B es.length d)) u from fun u h => ⟨h, (h.cell (show w.heap.size < w.heap.size + 1 by omega)).trans c0, (h.cell (show w.heap.size < w.heap.size + 1 by omega)).trans c1⟩)
 have HK_ := Aside0.mk (show Reg (fun u_ => Below (w.heap.size + 1) W u_ ∧ u_.cell? ⟨w.heap.size, 0, none⟩ = some (.slice A ns.length c) ∧ u_.cell? ⟨w.heap.size, 1, none⟩ = some (.slice B es.length d)) from ⟨fun u u' hb hu => HS.out u' (hu.1.trans (hb.mono (by have := hu.1.size; have := HSZ.out; omega)))⟩)
 have HSK := Aside0.mk (show ∀ u, Below (w.heap.size + 2) W u → (fun u_ => Below (w.heap.size + 1) W u_ ∧ u_.cell? ⟨w.heap.size, 0, none⟩ = some (.slice A ns.length c) ∧ u_.cell? ⟨w.heap.size, 1, none⟩ = some (.slice B es.length d)) u from fun u h => HS.out u (h.mono (by omega)))
 have HWW := Aside0.mk (show ∀ u, Below (w.heap.size + 2) W u → Below w.heap.size w u from fun u h => HW0.out.trans (h.mono (by omega)))
 have HZZ := Aside0.mk (show ∀ u, Below (w.heap.size + 2) W u → w.heap.size + 2 ≤ u.heap.size from fun u h => by have := h.size; have := HSZ.out; omega)
 refine region_tree (fun u_ => Below (w.heap.size + 1) W u_ ∧ u_.cell? ⟨w.heap.size, 0, none⟩ = some (.slice A ns.length c) ∧ u_.cell? ⟨w.heap.size, 1, none⟩ = some (.slice B es.length d)) sCp tCp (by kernel_rfl) sCp_ok (by decide) (fun d _ _ _ _ h => by cases d <;> exact h) HK_.out (HS.out W (Below.refl _ _)) ?_
 intro u hS hbu
 have HB := Aside0.mk (hbu.mono (show w.heap.size + 2 ≤ W.heap.size by have := HSZ.out; omega))
 clear c0 c1 hbu
 repeat (first | (refine h_off gt_ (by rfl) ?_; intro a_ ha_; (simp only [Act.put, pu1, pu2, pu3] at ha_); subst ha_) | (refine h_on (v := ?_) gt_ (by rfl) ?_ ?_; rotate_left; (· rintro w_ ⟨-, s0_, s1_⟩; go_simp; with_reducible rfl); intro a_ ha_; (simp only [Act.put, pu1, pu2, pu3] at ha_); subst ha_))
 refine h_fork ?_ ?_
 ·refine h_lit0 flatN (base := w.heap.size + 2) (w0 := W) (e := 28) gt_ (by rfl) (HZZ.out u HB.out) HB.out ?_ (R_empty flatN (HZZ.out u HB.out)) HSK.out ?_
  ·go_simp
   first | done | rfl
  intro gN u1 hg_ hr_ hb_ hbu_ a_ ha_
  simp only [Act.put, pu1, pu2, pu3] at ha_
  subst ha_
  have HB1 := Aside0.mk hb_
  clear hb_
  have HN1 := Aside0.mk hr_
  refine h_fork ?_ ?_
  ·clear hr_ hbu_ hg_
   refine h_append flatN (w0 := W) (base := w.heap.size + 2) (.agg #[(.int .i64 0), (.int .i64 0)]) 16 (.slice (some ⟨gN, 0, none⟩) 0 0) [] ns A ns.length c gt_ (by rfl) rfl Tryz.underlying23 infoN rfl (by decide) rfl rfl HN1.out (Kd.C_below HR.out.cn (HWW.out u1 HB1.out)) HB1.out (HZZ.out u1 HB1.out) (by have := HNL.out; simp; omega) HSK.out ?_
   intro BN nN pN u2 hn_ hnc_ hr_ hb_ hg_ hv_ a_ ha_
   obtain rfl : nN = ns.length := hn_
   simp only [Act.put, pu1, pu2, pu3] at ha_
   subst ha_
   have HB2 := Aside0.mk hb_
   clear hb_
   have HN2 := Aside0.mk hr_
   clear hg_ hv_
   refine h_lit0 flatE (base := w.heap.size + 2) (w0 := W) (e := 30) gt_ (by rfl) (HZZ.out u2 HB2.out) HB2.out ?_ (R_empty flatE (HZZ.out u2 HB2.out)) HSK.out ?_
   ·go_simp
    first | done | rfl
   intro gE u3 hg_ hr_ hb_ hbu_ a_ ha_
   simp only [Act.put, pu1, pu2, pu3] at ha_
   subst ha_
   have HB3 := Aside0.mk hb_
   clear hb_
   have HOF := Aside0.mk (show Off (.slice BN ns.length pN) (.slice (some ⟨gE, 0, none⟩) 0 0) from off_fresh (Kd.R_lt HN2.out) (fun k hk => by have : gE = k := Option.some.inj hk; omega))
   have HN3 := Aside0.mk (Kd.R_below HN2.out hbu_)
   have HE3 := Aside0.mk hr_
   clear hr_ hbu_ hg_
   refine h_append flatE (w0 := W) (base := w.heap.size + 2) (.agg #[(.int .i64 0), (.int .i64 0), (.int .i64 0), (.int .i64 0), (.int .i64 0)]) 40 (.slice (some ⟨gE, 0, none⟩) 0 0) [] es B es.length d gt_ (by rfl) rfl Tryz.underlying24 infoE rfl (by decide) rfl rfl HE3.out (Kd.C_below HR.out.ce (HWW.out u3 HB3.out)) HB3.out (HZZ.out u3 HB3.out) (by have := HEL.out; simp; omega) HSK.out ?_
   intro BE nE pE u4 hn_ hnc_ hr_ hb_ hg_ hv_ a_ ha_
   obtain rfl : nE = es.length := hn_
   simp only [Act.put, pu1, pu2, pu3] at ha_
   subst ha_
   have HB4 := Aside0.mk hb_
   clear hb_
   have HN9 := Aside0.mk (R_farN HN3.out hg_ (fun k hk e => HOF.out k hk e.symm))
   have HE9 := Aside0.mk hr_
   have HO9 := Aside0.mk (off_right HOF.out hv_ (Kd.R_lt HN3.out))
   clear hr_ hg_ hv_
   repeat (first | (refine h_off gt_ (by rfl) ?_; intro a_ ha_; (simp only [Act.put, pu1, pu2, pu3] at ha_); subst ha_) | (refine h_on (v := ?_) gt_ (by rfl) ?_ ?_; rotate_left; (· rintro w_ ⟨-, s0_, s1_⟩; go_simp; with_reducible rfl); intro a_ ha_; (simp only [Act.put, pu1, pu2, pu3] at ha_); subst ha_))
   have HG9 := Aside0.mk ((HB4.out.block _ (show w.heap.size + 1 < w.heap.size + 2 by omega)).trans HG.out)
   refine h_row (w.heap.size + 1) #[.slice BN ns.length pN, .slice BE es.length pE] _ _ HG9.out gt_ (by rfl) rfl rfl rfl (by kernel_rfl) rfl (by simp [Value.oneCell']) (HS.out _ (below_setRow (HB4.out.mono (by omega)) (Nat.le_refl _) _)) ?_
   intro a_ ha_
   simp only [Act.put] at ha_
   subst ha_
   refine h_fin ?_
   have HF1 := Aside0.mk (setRow_heap _ _ _ #[.slice BN ns.length pN, .slice BE es.length pE] _ _ HG9.out)
   have HF2 := Aside0.mk (R_farN HN9.out (grown_setRow _ (w.heap.size + 1) #[.slice BN ns.length pN, .slice BE es.length pE]) fun k hk he => by have := Kd.R_base HN9.out k hk; injection he; omega)
   have HF3 := Aside0.mk (R_farE HE9.out (grown_setRow _ (w.heap.size + 1) #[.slice BN ns.length pN, .slice BE es.length pE]) fun k hk he => by have := Kd.R_base HE9.out k hk; injection he; omega)
   have HF4 := Aside0.mk (below_setRow (HWW.out _ HB4.out) (show w.heap.size ≤ w.heap.size + 1 by omega) #[.slice BN ns.length pN, .slice BE es.length pE])
   clear HN9 HE9 HG9 HS HK_ HSK HWW HZZ hS
   go_wp2
   refine bodyPost_ret (results_cell_row rfl _ _ (w.heap.size + 1) _ #[.slice BN ns.length pN, .slice BE es.length pE] (0, 0) _ rfl HF1.out Tryz.underlying26 rfl (by kernel_rfl)) rfl ⟨BN, pN, BE, pE, rfl, ⟨(Kd.R_reads' HF2.out).2.2, (Kd.R_reads' HF3.out).2.2, (Kd.R_reads' HF2.out).2.1, (Kd.R_reads' HF3.out).2.1⟩, Kd.R_lower HF2.out (by omega), Kd.R_lower HF3.out (by omega), HO9.out, HF4.out⟩
  ·clear hr_ hbu_ hg_
   refine h_lit0 flatE (base := w.heap.size + 2) (w0 := W) (e := 30) gt_ (by rfl) (HZZ.out u1 HB1.out) HB1.out ?_ (R_empty flatE (HZZ.out u1 HB1.out)) HSK.out ?_
   ·go_simp
    first | done | rfl
   intro gE u2 hg_ hr_ hb_ hbu_ a_ ha_
   simp only [Act.put, pu1, pu2, pu3] at ha_
   subst ha_
   have HB2 := Aside0.mk hb_
   clear hb_
   have HOF := Aside0.mk (show Off (.slice (some ⟨gN, 0, none⟩) 0 0) (.slice (some ⟨gE, 0, none⟩) 0 0) from off_fresh (Kd.R_lt HN1.out) (fun k hk => by have : gE = k := Option.some.inj hk; omega))
   have HN2 := Aside0.mk (Kd.R_below HN1.out hbu_)
   have HE2 := Aside0.mk hr_
   clear hr_ hbu_ hg_
   refine h_append flatN (w0 := W) (base := w.heap.size + 2) (.agg #[(.int .i64 0), (.int .i64 0)]) 16 (.slice (some ⟨gN, 0, none⟩) 0 0) [] ns A ns.length c gt_ (by rfl) rfl Tryz.underlying23 infoN rfl (by decide) rfl rfl HN2.out (Kd.C_below HR.out.cn (HWW.out u2 HB2.out)) HB2.out (HZZ.out u2 HB2.out) (by have := HNL.out; simp; omega) HSK.out ?_
   intro BN nN pN u3 hn_ hnc_ hr_ hb_ hg_ hv_ a_ ha_
   obtain rfl : nN = ns.length := hn_
   simp only [Act.put, pu1, pu2, pu3] at ha_
   subst ha_
   have HB3 := Aside0.mk hb_
   clear hb_
   have HN3 := Aside0.mk hr_
   have HE3 := Aside0.mk (R_farE HE2.out hg_ (fun k hk e => HOF.out k e.symm hk))
   have HOF3 := Aside0.mk (off_left HOF.out hv_ (Kd.R_lt HE2.out))
   clear hr_ hg_ hv_ HOF hnc_
   have HOF := Aside0.mk HOF3.out
   refine h_append flatE (w0 := W) (base := w.heap.size + 2) (.agg #[(.int .i64 0), (.int .i64 0), (.int .i64 0), (.int .i64 0), (.int .i64 0)]) 40 (.slice (some ⟨gE, 0, none⟩) 0 0) [] es B es.length d gt_ (by rfl) rfl Tryz.underlying24 infoE rfl (by decide) rfl rfl HE3.out (Kd.C_below HR.out.ce (HWW.out u3 HB3.out)) HB3.out (HZZ.out u3 HB3.out) (by have := HEL.out; simp; omega) HSK.out ?_
   intro BE nE pE u4 hn_ hnc_ hr_ hb_ hg_ hv_ a_ ha_
   obtain rfl : nE = es.length := hn_
   simp only [Act.put, pu1, pu2, pu3] at ha_
   subst ha_
   have HB4 := Aside0.mk hb_
   clear hb_
   have HN9 := Aside0.mk (R_farN HN3.out hg_ (fun k hk e => HOF.out k hk e.symm))
   have HE9 := Aside0.mk hr_
   have HO9 := Aside0.mk (off_right HOF.out hv_ (Kd.R_lt HN3.out))
   clear hr_ hg_ hv_
   repeat (first | (refine h_off gt_ (by rfl) ?_; intro a_ ha_; (simp only [Act.put, pu1, pu2, pu3] at ha_); subst ha_) | (refine h_on (v := ?_) gt_ (by rfl) ?_ ?_; rotate_left; (· rintro w_ ⟨-, s0_, s1_⟩; go_simp; with_reducible rfl); intro a_ ha_; (simp only [Act.put, pu1, pu2, pu3] at ha_); subst ha_))
   have HG9 := Aside0.mk ((HB4.out.block _ (show w.heap.size + 1 < w.heap.size + 2 by omega)).trans HG.out)
   refine h_row (w.heap.size + 1) #[.slice BN ns.length pN, .slice BE es.length pE] _ _ HG9.out gt_ (by rfl) rfl rfl rfl (by kernel_rfl) rfl (by simp [Value.oneCell']) (HS.out _ (below_setRow (HB4.out.mono (by omega)) (Nat.le_refl _) _)) ?_
   intro a_ ha_
   simp only [Act.put] at ha_
   subst ha_
   refine h_fin ?_
   have HF1 := Aside0.mk (setRow_heap _ _ _ #[.slice BN ns.length pN, .slice BE es.length pE] _ _ HG9.out)
   have HF2 := Aside0.mk (R_farN HN9.out (grown_setRow _ (w.heap.size + 1) #[.slice BN ns.length pN, .slice BE es.length pE]) fun k hk he => by have := Kd.R_base HN9.out k hk; injection he; omega)
   have HF3 := Aside0.mk (R_farE HE9.out (grown_setRow _ (w.heap.size + 1) #[.slice BN ns.length pN, .slice BE es.length pE]) fun k hk he => by have := Kd.R_base HE9.out k hk; injection he; omega)
   have HF4 := Aside0.mk (below_setRow (HWW.out _ HB4.out) (show w.heap.size ≤ w.heap.size + 1 by omega) #[.slice BN ns.length pN, .slice BE es.length pE])
   clear HN9 HE9 HG9 HS HK_ HSK HWW HZZ hS
   go_wp2
   refine bodyPost_ret (results_cell_row rfl _ _ (w.heap.size + 1) _ #[.slice BN ns.length pN, .slice BE es.length pE] (0, 0) _ rfl HF1.out Tryz.underlying26 rfl (by kernel_rfl)) rfl ⟨BN, pN, BE, pE, rfl, ⟨(Kd.R_reads' HF2.out).2.2, (Kd.R_reads' HF3.out).2.2, (Kd.R_reads' HF2.out).2.1, (Kd.R_reads' HF3.out).2.1⟩, Kd.R_lower HF2.out (by omega), Kd.R_lower HF3.out (by omega), HO9.out, HF4.out⟩
 ·refine h_lit0 flatE (base := w.heap.size + 2) (w0 := W) (e := 30) gt_ (by rfl) (HZZ.out u HB.out) HB.out ?_ (R_empty flatE (HZZ.out u HB.out)) HSK.out ?_
  ·go_simp
   first | done | rfl
  intro gE u1 hg_ hr_ hb_ hbu_ a_ ha_
  simp only [Act.put, pu1, pu2, pu3] at ha_
  subst ha_
  have HB1 := Aside0.mk hb_
  clear hb_
  have HE1 := Aside0.mk hr_
  clear hr_ hbu_ hg_
  refine h_lit0 flatN (base := w.heap.size + 2) (w0 := W) (e := 28) gt_ (by rfl) (HZZ.out u1 HB1.out) HB1.out ?_ (R_empty flatN (HZZ.out u1 HB1.out)) HSK.out ?_
  ·go_simp
   first | done | rfl
  intro gN u2 hg_ hr_ hb_ hbu_ a_ ha_
  simp only [Act.put, pu1, pu2, pu3] at ha_
  subst ha_
  have HB2 := Aside0.mk hb_
  clear hb_
  have HOF := Aside0.mk (show Off (.slice (some ⟨gN, 0, none⟩) 0 0) (.slice (some ⟨gE, 0, none⟩) 0 0) from off_fresh2 (Kd.R_lt HE1.out) (fun k hk => by have : gN = k := Option.some.inj hk; omega))
  have HN2 := Aside0.mk hr_
  have HE2 := Aside0.mk (Kd.R_below HE1.out hbu_)
  clear hr_ hbu_ hg_
  refine h_append flatN (w0 := W) (base := w.heap.size + 2) (.agg #[(.int .i64 0), (.int .i64 0)]) 16 (.slice (some ⟨gN, 0, none⟩) 0 0) [] ns A ns.length c gt_ (by rfl) rfl Tryz.underlying23 infoN rfl (by decide) rfl rfl HN2.out (Kd.C_below HR.out.cn (HWW.out u2 HB2.out)) HB2.out (HZZ.out u2 HB2.out) (by have := HNL.out; simp; omega) HSK.out ?_
  intro BN nN pN u3 hn_ hnc_ hr_ hb_ hg_ hv_ a_ ha_
  obtain rfl : nN = ns.length := hn_
  simp only [Act.put, pu1, pu2, pu3] at ha_
  subst ha_
  have HB3 := Aside0.mk hb_
  clear hb_
  have HN3 := Aside0.mk hr_
  have HE3 := Aside0.mk (R_farE HE2.out hg_ (fun k hk e => HOF.out k e.symm hk))
  have HOF3 := Aside0.mk (off_left HOF.out hv_ (Kd.R_lt HE2.out))
  clear hr_ hg_ hv_ HOF hnc_
  have HOF := Aside0.mk HOF3.out
  refine h_append flatE (w0 := W) (base := w.heap.size + 2) (.agg #[(.int .i64 0), (.int .i64 0), (.int .i64 0), (.int .i64 0), (.int .i64 0)]) 40 (.slice (some ⟨gE, 0, none⟩) 0 0) [] es B es.length d gt_ (by rfl) rfl Tryz.underlying24 infoE rfl (by decide) rfl rfl HE3.out (Kd.C_below HR.out.ce (HWW.out u3 HB3.out)) HB3.out (HZZ.out u3 HB3.out) (by have := HEL.out; simp; omega) HSK.out ?_
  intro BE nE pE u4 hn_ hnc_ hr_ hb_ hg_ hv_ a_ ha_
  obtain rfl : nE = es.length := hn_
  simp only [Act.put, pu1, pu2, pu3] at ha_
  subst ha_
  have HB4 := Aside0.mk hb_
  clear hb_
  have HN9 := Aside0.mk (R_farN HN3.out hg_ (fun k hk e => HOF.out k hk e.symm))
  have HE9 := Aside0.mk hr_
  have HO9 := Aside0.mk (off_right HOF.out hv_ (Kd.R_lt HN3.out))
  clear hr_ hg_ hv_
  repeat (first | (refine h_off gt_ (by rfl) ?_; intro a_ ha_; (simp only [Act.put, pu1, pu2, pu3] at ha_); subst ha_) | (refine h_on (v := ?_) gt_ (by rfl) ?_ ?_; rotate_left; (· rintro w_ ⟨-, s0_, s1_⟩; go_simp; with_reducible rfl); intro a_ ha_; (simp only [Act.put, pu1, pu2, pu3] at ha_); subst ha_))
  have HG9 := Aside0.mk ((HB4.out.block _ (show w.heap.size + 1 < w.heap.size + 2 by omega)).trans HG.out)
  refine h_row (w.heap.size + 1) #[.slice BN ns.length pN, .slice BE es.length pE] _ _ HG9.out gt_ (by rfl) rfl rfl rfl (by kernel_rfl) rfl (by simp [Value.oneCell']) (HS.out _ (below_setRow (HB4.out.mono (by omega)) (Nat.le_refl _) _)) ?_
  intro a_ ha_
  simp only [Act.put] at ha_
  subst ha_
  refine h_fin ?_
  have HF1 := Aside0.mk (setRow_heap _ _ _ #[.slice BN ns.length pN, .slice BE es.length pE] _ _ HG9.out)
  have HF2 := Aside0.mk (R_farN HN9.out (grown_setRow _ (w.heap.size + 1) #[.slice BN ns.length pN, .slice BE es.length pE]) fun k hk he => by have := Kd.R_base HN9.out k hk; injection he; omega)
  have HF3 := Aside0.mk (R_farE HE9.out (grown_setRow _ (w.heap.size + 1) #[.slice BN ns.length pN, .slice BE es.length pE]) fun k hk he => by have := Kd.R_base HE9.out k hk; injection he; omega)
  have HF4 := Aside0.mk (below_setRow (HWW.out _ HB4.out) (show w.heap.size ≤ w.heap.size + 1 by omega) #[.slice BN ns.length pN, .slice BE es.length pE])
  clear HN9 HE9 HG9 HS HK_ HSK HWW HZZ hS
  go_wp2
  refine bodyPost_ret (results_cell_row rfl _ _ (w.heap.size + 1) _ #[.slice BN ns.length pN, .slice BE es.length pE] (0, 0) _ rfl HF1.out Tryz.underlying26 rfl (by kernel_rfl)) rfl ⟨BN, pN, BE, pE, rfl, ⟨(Kd.R_reads' HF2.out).2.2, (Kd.R_reads' HF3.out).2.2, (Kd.R_reads' HF2.out).2.1, (Kd.R_reads' HF3.out).2.1⟩, Kd.R_lower HF2.out (by omega), Kd.R_lower HF3.out (by omega), HO9.out, HF4.out⟩
end Go.Proofs.YtogmbeifbjgphaaGreat.R
namespace Go.Proofs.YtogmbeifbjgphaaGreat.R
open Go.RowKit Go.Proofs.YtogmbeifbjgphaaGreatV.PrintWords Go.Proofs.YtogmbeifbjgphaaGreatV.PrintLast Go.Proofs.YtogmbeifbjgphaaGreatV.PrintMore Go.Proofs.YtogmbeifbjgphaaGreat.M
set_option linter.unusedVariables false
set_option linter.unusedSimpArgs false
attribute [local go_sem high] eqN eqE
set_option maxHeartbeats 800000 in
theorem sCode_any (n : Nd) (w : World) : Calls Tryz.prog 52 #[.agg #[.int .i64 n.lab, .int .i64 n.num]] w fun e w' => (∃ r, (okN n = true → r = code n) ∧ e = .returned (.int .i64 r)) ∧ Below w.heap.size w w' := by
 go_enter Tryz.func52, Tryz.ntmps52
 go_wp2
 go_ret
 refine ⟨⟨_, fun h => ?_, rfl⟩, below_alloc (Below.refl _ _) _⟩
 obtain ⟨⟨h0, h7⟩, n0, n40⟩ := okN_iff.1 h
 unfold code wrap64
 omega
set_option maxHeartbeats 3200000 in
set_option maxRecDepth 100000 in
theorem sLess_any (a b : Eg) (w : World) : Calls Tryz.prog 54 #[.agg #[.int .i64 a.lab, .int .i64 a.a.lab, .int .i64 a.a.num, .int .i64 a.b.lab, .int .i64 a.b.num], .agg #[.int .i64 b.lab, .int .i64 b.a.lab, .int .i64 b.a.num, .int .i64 b.b.lab, .int .i64 b.b.num]] w fun e w' => (∃ r, (okE a = true → okE b = true → r = decide (key a < key b)) ∧ e = .returned (.bool r)) ∧ Below w.heap.size w w' := by
 by_cases hok : okE a = true ∧ okE b = true
 ·exact (sLess_calls a b hok.1 hok.2 w).mono fun e w' h => ⟨⟨_, fun _ _ => rfl, h.1⟩, h.2⟩
 ·have HOK := Aside0.mk hok
  clear hok
  cases q1 : (a.lab == b.lab) with
  | true =>
    cases q2 : (!a.a.lab == b.a.lab || !a.a.num == b.a.num) with
    | false =>
      go_enter Tryz.func54, Tryz.ntmps54
      go_wp2_with (fail)
      refine named _ ?_
      intro W hW
      obtain ⟨c0, c1, c2, c3, c4, c5, c6, c7, c8, c9, hB⟩ := two_eg hW
      have HB := Aside0.mk hB
      clear hW hB
      have HK_ := Aside0.mk (show Reg (fun u_ => Below w.heap.size w u_ ∧ u_.cell? ⟨w.heap.size, 0, none⟩ = some (.int .i64 a.lab) ∧ u_.cell? ⟨w.heap.size, 1, none⟩ = some (.int .i64 a.a.lab) ∧ u_.cell? ⟨w.heap.size, 2, none⟩ = some (.int .i64 a.a.num) ∧ u_.cell? ⟨w.heap.size, 3, none⟩ = some (.int .i64 a.b.lab) ∧ u_.cell? ⟨w.heap.size, 4, none⟩ = some (.int .i64 a.b.num) ∧ u_.cell? ⟨w.heap.size + 1, 0, none⟩ = some (.int .i64 b.lab) ∧ u_.cell? ⟨w.heap.size + 1, 1, none⟩ = some (.int .i64 b.a.lab) ∧ u_.cell? ⟨w.heap.size + 1, 2, none⟩ = some (.int .i64 b.a.num) ∧ u_.cell? ⟨w.heap.size + 1, 3, none⟩ = some (.int .i64 b.b.lab) ∧ u_.cell? ⟨w.heap.size + 1, 4, none⟩ = some (.int .i64 b.b.num) ∧ True) from ⟨fun _ _ hb_ ⟨q_, s0_, s1_, s2_, s3_, s4_, s5_, s6_, s7_, s8_, s9_, _⟩ => ⟨below_step q_ hb_, pw_cell_below hb_ s0_, pw_cell_below hb_ s1_, pw_cell_below hb_ s2_, pw_cell_below hb_ s3_, pw_cell_below hb_ s4_, pw_cell_below hb_ s5_, pw_cell_below hb_ s6_, pw_cell_below hb_ s7_, pw_cell_below hb_ s8_, pw_cell_below hb_ s9_, trivial⟩⟩)
      refine region_by _ sLess5 (by kernel_rfl) sLess5_ok rfl (fun d _ _ _ _ h => by cases d <;> exact h) HK_.out ⟨HB.out, c0, c1, c2, c3, c4, c5, c6, c7, c8, c9, trivial⟩ ?_
      intro u hS
      clear c0 c1 c2 c3 c4 c5 c6 c7 c8 c9
      repeat (first | (refine h_off gt_ (by rfl) ?_; intro a_ ha_; (simp only [Act.put, pu1, pu2, pu3] at ha_); subst ha_) | (refine h_on (v := ?_) gt_ (by rfl) ?_ ?_; rotate_left; (· rintro w_ ⟨-, s0_, s1_, s2_, s3_, s4_, s5_, s6_, s7_, s8_, s9_, -⟩; go_simp; with_reducible rfl); intro a_ ha_; (simp only [Act.put, pu1, pu2, pu3] at ha_); subst ha_) | (refine h_offc hS gt_ (by rfl) ?_; intro a_ ha_; (simp only [Act.put, pu1, pu2, pu3] at ha_); subst ha_) | (refine h_call (f := 52) (args := #[.agg #[.int .i64 a.b.lab, .int .i64 a.b.num]]) HK_.out hS Tryz.func52 (by kernel_rfl) rfl gt_ (by rfl) (by rfl) mp_ ?_; (refine (sCode_any a.b _).mono ?_); rintro e_ u_ ⟨⟨r1_, -, rfl⟩, hb_⟩; refine ⟨_, rfl, hb_, fun a_ ha_ hS_ => ?_⟩; (simp only [Act.put, pu1, pu2, pu3] at ha_); subst ha_; clear hS; have hS := hS_; clear hS_ hb_) | (refine h_call (f := 52) (args := #[.agg #[.int .i64 b.b.lab, .int .i64 b.b.num]]) HK_.out hS Tryz.func52 (by kernel_rfl) rfl gt_ (by rfl) (by rfl) mp_ ?_; (refine (sCode_any b.b _).mono ?_); rintro e_ u_ ⟨⟨r2_, -, rfl⟩, hb_⟩; refine ⟨_, rfl, hb_, fun a_ ha_ hS_ => ?_⟩; (simp only [Act.put, pu1, pu2, pu3] at ha_); subst ha_; clear hS; have hS := hS_; clear hS_ hb_))
      refine h_end ?_
      clear HK_ HB
      obtain ⟨hB_, c0, c1, c2, c3, c4, c5, c6, c7, c8, c9, -⟩ := hS
      have HB := Aside0.mk hB_
      clear hB_
      go_wp2
      go_ret
      exact ⟨⟨_, fun h1 h2 => absurd ⟨h1, h2⟩ HOK.out, rfl⟩, HB.out⟩
    | true =>
      go_enter Tryz.func54, Tryz.ntmps54
      go_wp2_with (fail)
      refine named _ ?_
      intro W hW
      obtain ⟨c0, c1, c2, c3, c4, c5, c6, c7, c8, c9, hB⟩ := two_eg hW
      have HB := Aside0.mk hB
      clear hW hB
      have HK_ := Aside0.mk (show Reg (fun u_ => Below w.heap.size w u_ ∧ u_.cell? ⟨w.heap.size, 0, none⟩ = some (.int .i64 a.lab) ∧ u_.cell? ⟨w.heap.size, 1, none⟩ = some (.int .i64 a.a.lab) ∧ u_.cell? ⟨w.heap.size, 2, none⟩ = some (.int .i64 a.a.num) ∧ u_.cell? ⟨w.heap.size, 3, none⟩ = some (.int .i64 a.b.lab) ∧ u_.cell? ⟨w.heap.size, 4, none⟩ = some (.int .i64 a.b.num) ∧ u_.cell? ⟨w.heap.size + 1, 0, none⟩ = some (.int .i64 b.lab) ∧ u_.cell? ⟨w.heap.size + 1, 1, none⟩ = some (.int .i64 b.a.lab) ∧ u_.cell? ⟨w.heap.size + 1, 2, none⟩ = some (.int .i64 b.a.num) ∧ u_.cell? ⟨w.heap.size + 1, 3, none⟩ = some (.int .i64 b.b.lab) ∧ u_.cell? ⟨w.heap.size + 1, 4, none⟩ = some (.int .i64 b.b.num) ∧ True) from ⟨fun _ _ hb_ ⟨q_, s0_, s1_, s2_, s3_, s4_, s5_, s6_, s7_, s8_, s9_, _⟩ => ⟨below_step q_ hb_, pw_cell_below hb_ s0_, pw_cell_below hb_ s1_, pw_cell_below hb_ s2_, pw_cell_below hb_ s3_, pw_cell_below hb_ s4_, pw_cell_below hb_ s5_, pw_cell_below hb_ s6_, pw_cell_below hb_ s7_, pw_cell_below hb_ s8_, pw_cell_below hb_ s9_, trivial⟩⟩)
      refine region_by _ sLess4 (by kernel_rfl) sLess4_ok rfl (fun d _ _ _ _ h => by cases d <;> exact h) HK_.out ⟨HB.out, c0, c1, c2, c3, c4, c5, c6, c7, c8, c9, trivial⟩ ?_
      intro u hS
      clear c0 c1 c2 c3 c4 c5 c6 c7 c8 c9
      repeat (first | (refine h_off gt_ (by rfl) ?_; intro a_ ha_; (simp only [Act.put, pu1, pu2, pu3] at ha_); subst ha_) | (refine h_on (v := ?_) gt_ (by rfl) ?_ ?_; rotate_left; (· rintro w_ ⟨-, s0_, s1_, s2_, s3_, s4_, s5_, s6_, s7_, s8_, s9_, -⟩; go_simp; with_reducible rfl); intro a_ ha_; (simp only [Act.put, pu1, pu2, pu3] at ha_); subst ha_) | (refine h_offc hS gt_ (by rfl) ?_; intro a_ ha_; (simp only [Act.put, pu1, pu2, pu3] at ha_); subst ha_) | (refine h_call (f := 52) (args := #[.agg #[.int .i64 a.a.lab, .int .i64 a.a.num]]) HK_.out hS Tryz.func52 (by kernel_rfl) rfl gt_ (by rfl) (by rfl) mp_ ?_; (refine (sCode_any a.a _).mono ?_); rintro e_ u_ ⟨⟨r1_, -, rfl⟩, hb_⟩; refine ⟨_, rfl, hb_, fun a_ ha_ hS_ => ?_⟩; (simp only [Act.put, pu1, pu2, pu3] at ha_); subst ha_; clear hS; have hS := hS_; clear hS_ hb_) | (refine h_call (f := 52) (args := #[.agg #[.int .i64 b.a.lab, .int .i64 b.a.num]]) HK_.out hS Tryz.func52 (by kernel_rfl) rfl gt_ (by rfl) (by rfl) mp_ ?_; (refine (sCode_any b.a _).mono ?_); rintro e_ u_ ⟨⟨r2_, -, rfl⟩, hb_⟩; refine ⟨_, rfl, hb_, fun a_ ha_ hS_ => ?_⟩; (simp only [Act.put, pu1, pu2, pu3] at ha_); subst ha_; clear hS; have hS := hS_; clear hS_ hb_))
      refine h_end ?_
      clear HK_ HB
      obtain ⟨hB_, c0, c1, c2, c3, c4, c5, c6, c7, c8, c9, -⟩ := hS
      have HB := Aside0.mk hB_
      clear hB_
      go_wp2
      go_ret
      exact ⟨⟨_, fun h1 h2 => absurd ⟨h1, h2⟩ HOK.out, rfl⟩, HB.out⟩
  | false =>
    go_enter Tryz.func54, Tryz.ntmps54
    go_wp2
    go_ret
    exact ⟨⟨_, fun h1 h2 => absurd ⟨h1, h2⟩ HOK.out, rfl⟩, below_alloc (below_alloc (Below.refl _ _) _) _⟩
end Go.Proofs.YtogmbeifbjgphaaGreat.R
