/- A graph of the call's own: a node, an edge is taken away; What is done to a graph, in the words of the model; The cells of a block of known length; blocks laid at a function's entry; impl.GraphDo. -/
import Derived.Laws.CopyOwn
import Derived.Test.YtogmbeifbjgphaaGreatKB9
import Derived.Test.YtogmbeifbjgphaaGreatKB10
import Derived.Test.YtogmbeifbjgphaaGreatKB4
namespace Go.Proofs.YtogmbeifbjgphaaGreat.R
open Go.RowKit Go.Proofs.YtogmbeifbjgphaaGreatV.PrintWords Go.Proofs.YtogmbeifbjgphaaGreatV.PrintLast Go.Proofs.YtogmbeifbjgphaaGreatV.PrintMore Go.Proofs.YtogmbeifbjgphaaGreat.M
set_option linter.unusedVariables false
set_option linter.unusedSimpArgs false
attribute [local go_sem high] eqN eqE
theorem own_addrN {e : TypeId} {w : World} {base n c : Nat} {ok : Nat → Prop} {A : Option Addr} {xs : List Nd} (h : kN.R e w base ok (.slice A n c) xs) (hn : 0 < n) : ∃ g, A = some ⟨g, 0, none⟩ := by
 obtain ⟨h0, cs, hown, hr⟩ := h
 rcases hown.2 with ⟨hv, _⟩ | ⟨g', cap, cur, hv, -⟩
 ·injection hv with _ hn' _
  omega
 ·injection hv with ha _ _
  exact ⟨g', ha⟩
theorem own_len (A : Option Addr) (n m c : Nat) : (Value.slice A n c).ownBlock = (Value.slice A m c).ownBlock := by cases A <;> rfl
section
variable {w w2 : World} {base G g : Nat} {A B : Option Addr} {c d m : Nat} {ns ns2 : List Nd} {es es2 : List Eg}
/-- Nodes, edges have gone, in place. -/
theorem Own.turnN (h : Own w base G A c ns B d es) (hg : w.grownBy w2 (Value.slice A ns.length c).ownBlock) (hr : kN.R 28 w2 base (fun _ => True) (.slice A m c) ns2) (hm : ns2.length = m) : Own (w2.setCell ⟨G, 0, none⟩ (.slice A m c)) base G A c ns2 B d es := by
 subst hm
 have hb : w2.heap[G]? = some (.cells #[.slice A ns.length c, .slice B es.length d] 26 (0, 0)) := (hg.block G (blk_lt h.blk) (fun e => h.gn G e.symm rfl)).trans h.blk
 have he := R_farE h.re hg (fun k hk e => h.off k e.symm hk)
 exact ⟨by have := blk_set hb 0 (.slice A ns2.length c); exact this, R_farN hr (grown_setCell w2 G 0 _) (fun k hk e => h.gn k (own_len A _ _ c ▸ hk) (Option.some.inj e)), R_farE he (grown_setCell w2 G 0 _) (fun k hk e => h.ge k hk (Option.some.inj e)), fun k hk => h.off k (own_len A _ _ c ▸ hk), fun k hk => h.gn k (own_len A _ _ c ▸ hk), h.ge, h.gb⟩
theorem Own.turnE (h : Own w base G A c ns B d es) (hg : w.grownBy w2 (Value.slice B es.length d).ownBlock) (hr : kE.R 30 w2 base (fun _ => True) (.slice B m d) es2) (hm : es2.length = m) : Own (w2.setCell ⟨G, 1, none⟩ (.slice B m d)) base G A c ns B d es2 := by
 subst hm
 have hb : w2.heap[G]? = some (.cells #[.slice A ns.length c, .slice B es.length d] 26 (0, 0)) := (hg.block G (blk_lt h.blk) (fun e => h.ge G e.symm rfl)).trans h.blk
 have hn := R_farN h.rn hg (fun k hk e => h.off k hk e.symm)
 exact ⟨by have := blk_set hb 1 (.slice B es2.length d); exact this, R_farN hn (grown_setCell w2 G 1 _) (fun k hk e => h.gn k hk (Option.some.inj e)), R_farE hr (grown_setCell w2 G 1 _) (fun k hk e => h.ge k (own_len B _ _ d ▸ hk) (Option.some.inj e)), fun k hk hk2 => h.off k hk (own_len B _ _ d ▸ hk2), h.gn, fun k hk => h.ge k (own_len B _ _ d ▸ hk), h.gb⟩
theorem Own.blkN (h : Own w base G A c ns B d es) (hg : w.grownBy w2 (Value.slice A ns.length c).ownBlock) : w2.heap[G]? = some (.cells #[.slice A ns.length c, .slice B es.length d] 26 (0, 0)) := (hg.block G (blk_lt h.blk) (fun e => h.gn G e.symm rfl)).trans h.blk
theorem Own.blkE (h : Own w base G A c ns B d es) (hg : w.grownBy w2 (Value.slice B es.length d).ownBlock) : w2.heap[G]? = some (.cells #[.slice A ns.length c, .slice B es.length d] 26 (0, 0)) := (hg.block G (blk_lt h.blk) (fun e => h.ge G e.symm rfl)).trans h.blk
end
theorem gone_eq {α : Type} [DecidableEq α] {key : α → Int} {l : List α} (h : Asc key l) {x : α} (hx : x ∈ l) : l.eraseIdx (l.countP fun a => decide (key a < key x)) = l.filter (fun a => decide (a ≠ x)) ∧ (l.countP fun a => decide (key a < key x)) < l.length := by
 obtain ⟨i, hi, rfl⟩ := List.getElem_of_mem hx
 rw [h.place hi]
 refine ⟨?_, hi⟩
 rw [List.eraseIdx_eq_take_drop_succ]
 exact erase_eq h.nodup hi
abbrev sTakeN1 : List (Nat × Bool) := [(0, true), (1, true), (2, true), (3, true), (4, true), (5, false), (6, true), (7, true), (8, true), (9, true), (10, true)]
theorem sTakeN1_ok : schedB .any (opsOf Tryz.f39 1) sTakeN1 (Array.replicate (opsOf Tryz.f39 1).size false) = true := by kernel_rfl
def takeNC (ns : List Nd) (x : Nd) : Int := if x ∈ ns then 0 else 3
def takeNN (ns : List Nd) (x : Nd) : List Nd := if x ∈ ns then ns.filter (fun n => decide (n ≠ x)) else ns
def takeNE (ns : List Nd) (es : List Eg) (x : Nd) : List Eg := if x ∈ ns then es.filter (fun e => !endB x e) else es
set_option maxHeartbeats 3200000 in
set_option maxRecDepth 100000 in
theorem takeNode_calls (base G : Nat) (A : Option Addr) (c : Nat) (ns : List Nd) (B : Option Addr) (d : Nat) (es : List Eg) (x : Nd) (w : World) (HO : Own w base G A c ns B d es) (hns : NsOk ns) (hes : es.length ≤ 1000000) (hx : okN x = true) :
 Calls Tryz.prog 39 #[.pointer (some ⟨G, 0, none⟩), .agg #[.int .i64 x.lab, .int .i64 x.num]] w fun e w' => ∃ A' c' B' d', e = .returned (.int .i64 (takeNC ns x)) ∧ Own w' base G A' c' (takeNN ns x) B' d' (takeNE ns es x) ∧ Below base w w' := by
 have HO0 := Aside0.mk HO
 have HNS := Aside0.mk hns
 have HX := Aside0.mk hx
 have HLN := Aside0.mk hns.len
 have HLE := Aside0.mk hes
 clear HO hns hx hes
 cases hm : decide (x ∈ ns) with
 | false =>
   have HM := Aside0.mk hm
   have HC := Aside0.mk (show takeNC ns x = 3 from if_neg (of_decide_eq_false hm))
   have HN := Aside0.mk (show takeNN ns x = ns from if_neg (of_decide_eq_false hm))
   have HE := Aside0.mk (show takeNE ns es x = es from if_neg (of_decide_eq_false hm))
   clear hm
   go_enter Tryz.func39, Tryz.ntmps39
   go_wp2_with (fail)
   refine named _ ?_
   intro W hW
   have HO := Aside0.mk (show Own W base G A c ns B d es by subst hW; exact HO0.out.below (below_alloc (Below.refl _ _) _))
   have g0 := HO.out.c0
   have b0 : W.cell? ⟨w.heap.size, 0, none⟩ = some (.int .i64 x.lab) := by subst hW; simp
   have b1 : W.cell? ⟨w.heap.size, 1, none⟩ = some (.int .i64 x.num) := by subst hW; simp
   have HB := Aside0.mk (show Below w.heap.size w W by subst hW; exact below_alloc (Below.refl _ _) _)
   clear hW
   have HK_ := Aside0.mk (show Reg (fun u_ => Below w.heap.size w u_ ∧ u_.cell? ⟨G, 0, none⟩ = some (.slice A ns.length c) ∧ u_.cell? ⟨w.heap.size, 0, none⟩ = some (.int .i64 x.lab) ∧ u_.cell? ⟨w.heap.size, 1, none⟩ = some (.int .i64 x.num) ∧ True) from ⟨fun _ _ hb_ ⟨q_, s0_, s1_, s2_, _⟩ => ⟨below_step q_ hb_, pw_cell_below hb_ s0_, pw_cell_below hb_ s1_, pw_cell_below hb_ s2_, trivial⟩⟩)
   refine region_by2 _ sTakeN1 (by kernel_rfl) sTakeN1_ok rfl (fun d _ _ _ _ h => by cases d <;> exact h) HK_.out ⟨HB.out, g0, b0, b1, trivial⟩ ?_
   intro u hS hbu_
   have HOx_ := Aside0.mk (Own.below HO.out hbu_)
   clear HO
   have HO := Aside0.mk HOx_.out
   clear HOx_
   clear hbu_
   clear g0 b0 b1
   repeat (first | (refine h_off gt_ (by rfl) ?_; intro a_ ha_; (simp only [Act.put, pu1, pu2, pu3] at ha_); subst ha_) | (refine h_on (v := ?_) gt_ (by rfl) ?_ ?_; rotate_left; (· rintro w_ ⟨-, s0_, s1_, s2_, -⟩; go_simp; with_reducible rfl); intro a_ ha_; (simp only [Act.put, pu1, pu2, pu3] at ha_); subst ha_) | (refine h_offc hS gt_ (by rfl) ?_; intro a_ ha_; (simp only [Act.put, pu1, pu2, pu3] at ha_); subst ha_) | (refine h_call (f := 88) (args := #[.slice A ns.length c, .agg #[.int .i64 x.lab, .int .i64 x.num], .func (.func 59) #[] #[]]) HK_.out hS Tryz.func88 (by kernel_rfl) rfl gt_ (by rfl) (by rfl) mp_ ?_; (refine (bsN_ok A c ns x _ HO.out.cN HNS.out HX.out).mono ?_); rintro e_ u_ ⟨rfl, hb_⟩; rw [HM.out]; have HOx_ := Aside0.mk (Own.below HO.out hb_); clear HO; have HO := Aside0.mk HOx_.out; clear HOx_; refine ⟨_, rfl, hb_, fun a_ ha_ hS_ => ?_⟩; (simp only [Act.put, pu1, pu2, pu3] at ha_); subst ha_; clear hS; have hS := hS_; clear hS_ hb_))
   refine h_end ?_
   clear HK_ HB
   obtain ⟨hB_, g0, b0, b1, -⟩ := hS
   have HB := Aside0.mk hB_
   clear hB_
   go_wp2
   go_ret
   exact ⟨A, c, B, d, retI HC.out.symm, by rw [HN.out, HE.out]; exact HO.out, HB.out.mono HO0.out.base_le⟩
 | true =>
   have HM := Aside0.mk hm
   have HI := Aside0.mk (of_decide_eq_true hm)
   have HC := Aside0.mk (show takeNC ns x = 0 from if_pos HI.out)
   have HN := Aside0.mk (show takeNN ns x = ns.filter (fun n => decide (n ≠ x)) from if_pos HI.out)
   have HE := Aside0.mk (show takeNE ns es x = es.filter (fun e => !endB x e) from if_pos HI.out)
   clear hm
   have HGE := Aside0.mk (gone_eq (key := code) HNS.out.asc HI.out)
   obtain ⟨g, rfl⟩ := own_addrN HO0.out.rn (by have := HGE.out.2; omega)
   have HPL := Aside0.mk (show placeN ns x < ns.length from HGE.out.2)
   have HPE := Aside0.mk (show ns.eraseIdx (placeN ns x) = ns.filter (fun n => decide (n ≠ x)) from HGE.out.1)
   have HLF := Aside0.mk (show (ns.filter (fun n => decide (n ≠ x))).length = ns.length - 1 by rw [← HPE.out, List.length_eraseIdx, if_pos HPL.out])
   clear HGE
   go_enter Tryz.func39, Tryz.ntmps39
   go_wp2_with (fail)
   refine named _ ?_
   intro W hW
   have HO := Aside0.mk (show Own W base G (some ⟨g, 0, none⟩) c ns B d es by subst hW; exact HO0.out.below (below_alloc (Below.refl _ _) _))
   have g0 := HO.out.c0
   have b0 : W.cell? ⟨w.heap.size, 0, none⟩ = some (.int .i64 x.lab) := by subst hW; simp
   have b1 : W.cell? ⟨w.heap.size, 1, none⟩ = some (.int .i64 x.num) := by subst hW; simp
   have HB := Aside0.mk (show Below w.heap.size w W by subst hW; exact below_alloc (Below.refl _ _) _)
   clear hW
   have HK_ := Aside0.mk (show Reg (fun u_ => Below w.heap.size w u_ ∧ u_.cell? ⟨G, 0, none⟩ = some (.slice (some ⟨g, 0, none⟩) ns.length c) ∧ u_.cell? ⟨w.heap.size, 0, none⟩ = some (.int .i64 x.lab) ∧ u_.cell? ⟨w.heap.size, 1, none⟩ = some (.int .i64 x.num) ∧ True) from ⟨fun _ _ hb_ ⟨q_, s0_, s1_, s2_, _⟩ => ⟨below_step q_ hb_, pw_cell_below hb_ s0_, pw_cell_below hb_ s1_, pw_cell_below hb_ s2_, trivial⟩⟩)
   refine region_by2 _ sTakeN1 (by kernel_rfl) sTakeN1_ok rfl (fun d _ _ _ _ h => by cases d <;> exact h) HK_.out ⟨HB.out, g0, b0, b1, trivial⟩ ?_
   intro u hS hbu_
   have HOx_ := Aside0.mk (Own.below HO.out hbu_)
   clear HO
   have HO := Aside0.mk HOx_.out
   clear HOx_
   clear hbu_
   clear g0 b0 b1
   repeat (first | (refine h_off gt_ (by rfl) ?_; intro a_ ha_; (simp only [Act.put, pu1, pu2, pu3] at ha_); subst ha_) | (refine h_on (v := ?_) gt_ (by rfl) ?_ ?_; rotate_left; (· rintro w_ ⟨-, s0_, s1_, s2_, -⟩; go_simp; with_reducible rfl); intro a_ ha_; (simp only [Act.put, pu1, pu2, pu3] at ha_); subst ha_) | (refine h_offc hS gt_ (by rfl) ?_; intro a_ ha_; (simp only [Act.put, pu1, pu2, pu3] at ha_); subst ha_) | (refine h_call (f := 88) (args := #[.slice (some ⟨g, 0, none⟩) ns.length c, .agg #[.int .i64 x.lab, .int .i64 x.num], .func (.func 59) #[] #[]]) HK_.out hS Tryz.func88 (by kernel_rfl) rfl gt_ (by rfl) (by rfl) mp_ ?_; (refine (bsN_ok (some ⟨g, 0, none⟩) c ns x _ HO.out.cN HNS.out HX.out).mono ?_); rintro e_ u_ ⟨rfl, hb_⟩; rw [HM.out]; have HOx_ := Aside0.mk (Own.below HO.out hb_); clear HO; have HO := Aside0.mk HOx_.out; clear HOx_; refine ⟨_, rfl, hb_, fun a_ ha_ hS_ => ?_⟩; (simp only [Act.put, pu1, pu2, pu3] at ha_); subst ha_; clear hS; have hS := hS_; clear hS_ hb_))
   refine h_end ?_
   clear HK_ HB
   obtain ⟨hB_, g0, b0, b1, -⟩ := hS
   have HB := Aside0.mk hB_
   clear hB_
   have hpl : placeN ns x < ns.length := HPL.out
   have hln := HLN.out
   have HQ0 := Aside0.mk b0
   have HQ1 := Aside0.mk b1
   have HXG := Aside0.mk (show w.heap.size ≠ g from fun e => by have := Kd.R_lt HO0.out.rn g rfl; omega)
   have HXG2 := Aside0.mk (show w.heap.size ≠ G from fun e => by have := blk_lt HO0.out.blk; omega)
   have HXB := Aside0.mk (show ∀ k, (Value.slice B es.length d).ownBlock = some k → k ≠ w.heap.size from fun k hk e => by have := Kd.R_lt HO0.out.re k hk; omega)
   have HBB := Aside0.mk (HB.out.mono HO0.out.base_le)
   clear b0 b1 HB
   have b0 := HQ0.out
   have b1 := HQ1.out
   go_wp2_with (first | (go_at_call 90; go_must ((refine (delN_calls base g ns.length c (placeN ns x) ns _ HO.out.rn HPL.out (by have := HLN.out; omega)).mono ?_); rintro e w1 ⟨rfl, hr1, hg1⟩; have HR1 := Aside0.mk hr1; have HG1 := Aside0.mk hg1; have HK1 := Aside0.mk (HO.out.blkN hg1); have HA0 := Aside0.mk (cell_grown HQ0.out hg1 (fun e => HXG.out (Option.some.inj e))); have HA1 := Aside0.mk (cell_grown HQ1.out hg1 (fun e => HXG.out (Option.some.inj e))); have HB1 := Aside0.mk (HBB.out.grown hg1 HO.out.base_le (fun k hk => Kd.R_base HO.out.rn k hk)); clear hr1 hg1)) | ((with_reducible refine gate_store (p := 28) rfl ?_); go_must (refine wpList_plain rfl fun K_ hK_ => wp_cell G 0 (some ⟨g, 0, none⟩) (ns.length - 1) c rfl rfl rfl ⟨_, (blk_cell HK1.out 0).trans rfl⟩ (blk_frozen HK1.out 0) (by kernel_rfl) (hK_ _ _ ?_)); refine named _ ?_; intro w2 hw2; have HO2 := Aside0.mk (show Own w2 base G (some ⟨g, 0, none⟩) c (ns.eraseIdx (placeN ns x)) B d es by subst hw2; exact HO.out.turnN HG1.out HR1.out (by rw [List.length_eraseIdx, if_pos HPL.out])); have HC0 := Aside0.mk (show w2.cell? ⟨w.heap.size, 0, none⟩ = some (.int .i64 x.lab) by subst hw2; exact cell_grown HA0.out (grown_setCell _ G 0 _) (fun e => HXG2.out (Option.some.inj e))); have HC1 := Aside0.mk (show w2.cell? ⟨w.heap.size, 1, none⟩ = some (.int .i64 x.num) by subst hw2; exact cell_grown HA1.out (grown_setCell _ G 0 _) (fun e => HXG2.out (Option.some.inj e))); have HB2 := Aside0.mk (show Below base w w2 by subst hw2; exact HB1.out.setCell HO.out.gb _); have g1 := HO2.out.c1; clear hw2) | (go_at_call 91; go_must (refine (delF_calls base B d es x w.heap.size _ HO2.out.re HLE.out HC0.out HC1.out HXB.out).mono ?_); rintro e w3 ⟨m, rfl, hm3, hr3, hg3⟩; have HR3 := Aside0.mk hr3; have HG3 := Aside0.mk hg3; have HM3 := Aside0.mk hm3; have HK3 := Aside0.mk (HO2.out.blkE hg3); have HB3 := Aside0.mk (HB2.out.grown hg3 HO2.out.base_le (fun k hk => Kd.R_base HO2.out.re k hk)); clear hr3 hg3 hm3) | ((with_reducible refine gate_store (p := 37) rfl ?_); go_must (refine wpList_plain rfl fun K_ hK_ => wp_cell G 1 B m d rfl rfl rfl ⟨_, (blk_cell HK3.out 1).trans rfl⟩ (blk_frozen HK3.out 1) (by kernel_rfl) (hK_ _ _ ?_)); refine named _ ?_; intro w4 hw4; have HO4 := Aside0.mk (show Own w4 base G (some ⟨g, 0, none⟩) c (ns.eraseIdx (placeN ns x)) B d (es.filter (fun e => !endB x e)) by subst hw4; exact HO2.out.turnE HG3.out HR3.out HM3.out.symm); have HB4 := Aside0.mk (show Below base w w4 by subst hw4; exact HB3.out.setCell HO2.out.gb _); clear hw4))
   go_ret
   exact ⟨_, c, B, d, retI HC.out.symm, by rw [HN.out, HE.out, ← HPE.out]; exact HO4.out, HB4.out⟩
abbrev sTakeE1 : List (Nat × Bool) := [(0, true), (1, true), (2, true), (3, true), (4, true), (5, false), (6, true), (7, true), (8, true), (9, true), (10, true)]
theorem sTakeE1_ok : schedB .any (opsOf Tryz.f41 1) sTakeE1 (Array.replicate (opsOf Tryz.f41 1).size false) = true := by kernel_rfl
def takeEC (es : List Eg) (x : Eg) : Int := if x ∈ es then 0 else 3
def takeEE (es : List Eg) (x : Eg) : List Eg := if x ∈ es then es.filter (fun e => decide (e ≠ x)) else es
set_option maxHeartbeats 3200000 in
set_option maxRecDepth 100000 in
theorem takeEdge_calls (base G : Nat) (A : Option Addr) (c : Nat) (ns : List Nd) (B : Option Addr) (d : Nat) (es : List Eg) (x : Eg) (w : World) (HO : Own w base G A c ns B d es) (hok : ∀ y ∈ es, okE y = true) (hasc : Asc key es) (hes : es.length ≤ 1000000) (hx : okE x = true) :
 Calls Tryz.prog 41 #[.pointer (some ⟨G, 0, none⟩), .agg #[.int .i64 x.lab, .int .i64 x.a.lab, .int .i64 x.a.num, .int .i64 x.b.lab, .int .i64 x.b.num]] w fun e w' => ∃ B' d', e = .returned (.int .i64 (takeEC es x)) ∧ Own w' base G A c ns B' d' (takeEE es x) ∧ Below base w w' := by
 have HO0 := Aside0.mk HO
 have HOK := Aside0.mk hok
 have HAS := Aside0.mk hasc
 have HX := Aside0.mk hx
 have HLE := Aside0.mk hes
 clear HO hok hasc hx hes
 cases hm : decide (x ∈ es) with
 | false =>
   have HM := Aside0.mk hm
   have HC := Aside0.mk (show takeEC es x = 3 from if_neg (of_decide_eq_false hm))
   have HE := Aside0.mk (show takeEE es x = es from if_neg (of_decide_eq_false hm))
   clear hm
   go_enter Tryz.func41, Tryz.ntmps41
   go_wp2_with (fail)
   refine named _ ?_
   intro W hW
   have HO := Aside0.mk (show Own W base G A c ns B d es by subst hW; exact HO0.out.below (below_alloc (Below.refl _ _) _))
   have g0 := HO.out.c1
   have b0 : W.cell? ⟨w.heap.size, 0, none⟩ = some (.int .i64 x.lab) := by subst hW; simp
   have b1 : W.cell? ⟨w.heap.size, 1, none⟩ = some (.int .i64 x.a.lab) := by subst hW; simp
   have b2 : W.cell? ⟨w.heap.size, 2, none⟩ = some (.int .i64 x.a.num) := by subst hW; simp
   have b3 : W.cell? ⟨w.heap.size, 3, none⟩ = some (.int .i64 x.b.lab) := by subst hW; simp
   have b4 : W.cell? ⟨w.heap.size, 4, none⟩ = some (.int .i64 x.b.num) := by subst hW; simp
   have HB := Aside0.mk (show Below w.heap.size w W by subst hW; exact below_alloc (Below.refl _ _) _)
   clear hW
   have HK_ := Aside0.mk (show Reg (fun u_ => Below w.heap.size w u_ ∧ u_.cell? ⟨G, 1, none⟩ = some (.slice B es.length d) ∧ u_.cell? ⟨w.heap.size, 0, none⟩ = some (.int .i64 x.lab) ∧ u_.cell? ⟨w.heap.size, 1, none⟩ = some (.int .i64 x.a.lab) ∧ u_.cell? ⟨w.heap.size, 2, none⟩ = some (.int .i64 x.a.num) ∧ u_.cell? ⟨w.heap.size, 3, none⟩ = some (.int .i64 x.b.lab) ∧ u_.cell? ⟨w.heap.size, 4, none⟩ = some (.int .i64 x.b.num) ∧ True) from ⟨fun _ _ hb_ ⟨q_, s0_, s1_, s2_, s3_, s4_, s5_, _⟩ => ⟨below_step q_ hb_, pw_cell_below hb_ s0_, pw_cell_below hb_ s1_, pw_cell_below hb_ s2_, pw_cell_below hb_ s3_, pw_cell_below hb_ s4_, pw_cell_below hb_ s5_, trivial⟩⟩)
   refine region_by2 _ sTakeE1 (by kernel_rfl) sTakeE1_ok rfl (fun d _ _ _ _ h => by cases d <;> exact h) HK_.out ⟨HB.out, g0, b0, b1, b2, b3, b4, trivial⟩ ?_
   intro u hS hbu_
   have HOx_ := Aside0.mk (Own.below HO.out hbu_)
   clear HO
   have HO := Aside0.mk HOx_.out
   clear HOx_
   clear hbu_
   clear g0 b0 b1 b2 b3 b4
   repeat (first | (refine h_off gt_ (by rfl) ?_; intro a_ ha_; (simp only [Act.put, pu1, pu2, pu3] at ha_); subst ha_) | (refine h_on (v := ?_) gt_ (by rfl) ?_ ?_; rotate_left; (· rintro w_ ⟨-, s0_, s1_, s2_, s3_, s4_, s5_, -⟩; go_simp; with_reducible rfl); intro a_ ha_; (simp only [Act.put, pu1, pu2, pu3] at ha_); subst ha_) | (refine h_offc hS gt_ (by rfl) ?_; intro a_ ha_; (simp only [Act.put, pu1, pu2, pu3] at ha_); subst ha_) | (refine h_call (f := 93) (args := #[.slice B es.length d, .agg #[.int .i64 x.lab, .int .i64 x.a.lab, .int .i64 x.a.num, .int .i64 x.b.lab, .int .i64 x.b.num], .func (.func 94) #[] #[]]) HK_.out hS Tryz.func93 (by kernel_rfl) rfl gt_ (by rfl) (by rfl) mp_ ?_; (refine (bsE_ok B d es x _ HO.out.cE HOK.out HAS.out HLE.out HX.out).mono ?_); rintro e_ u_ ⟨rfl, hb_⟩; rw [HM.out]; have HOx_ := Aside0.mk (Own.below HO.out hb_); clear HO; have HO := Aside0.mk HOx_.out; clear HOx_; refine ⟨_, rfl, hb_, fun a_ ha_ hS_ => ?_⟩; (simp only [Act.put, pu1, pu2, pu3] at ha_); subst ha_; clear hS; have hS := hS_; clear hS_ hb_))
   refine h_end ?_
   clear HK_ HB
   obtain ⟨hB_, g0, b0, b1, b2, b3, b4, -⟩ := hS
   have HB := Aside0.mk hB_
   clear hB_
   go_wp2
   go_ret
   exact ⟨B, d, retI HC.out.symm, by rw [HE.out]; exact HO.out, HB.out.mono HO0.out.base_le⟩
 | true =>
   have HM := Aside0.mk hm
   have HI := Aside0.mk (of_decide_eq_true hm)
   have HC := Aside0.mk (show takeEC es x = 0 from if_pos HI.out)
   have HE := Aside0.mk (show takeEE es x = es.filter (fun e => decide (e ≠ x)) from if_pos HI.out)
   clear hm
   have HGE := Aside0.mk (gone_eq (key := key) HAS.out HI.out)
   obtain ⟨g, rfl⟩ := own_addr HO0.out.re (by have := HGE.out.2; omega)
   have HPL := Aside0.mk (show placeE es x < es.length from HGE.out.2)
   have HPE := Aside0.mk (show es.eraseIdx (placeE es x) = es.filter (fun n => decide (n ≠ x)) from HGE.out.1)
   clear HGE
   go_enter Tryz.func41, Tryz.ntmps41
   go_wp2_with (fail)
   refine named _ ?_
   intro W hW
   have HO := Aside0.mk (show Own W base G A c ns (some ⟨g, 0, none⟩) d es by subst hW; exact HO0.out.below (below_alloc (Below.refl _ _) _))
   have g0 := HO.out.c1
   have b0 : W.cell? ⟨w.heap.size, 0, none⟩ = some (.int .i64 x.lab) := by subst hW; simp
   have b1 : W.cell? ⟨w.heap.size, 1, none⟩ = some (.int .i64 x.a.lab) := by subst hW; simp
   have b2 : W.cell? ⟨w.heap.size, 2, none⟩ = some (.int .i64 x.a.num) := by subst hW; simp
   have b3 : W.cell? ⟨w.heap.size, 3, none⟩ = some (.int .i64 x.b.lab) := by subst hW; simp
   have b4 : W.cell? ⟨w.heap.size, 4, none⟩ = some (.int .i64 x.b.num) := by subst hW; simp
   have HB := Aside0.mk (show Below w.heap.size w W by subst hW; exact below_alloc (Below.refl _ _) _)
   clear hW
   have HK_ := Aside0.mk (show Reg (fun u_ => Below w.heap.size w u_ ∧ u_.cell? ⟨G, 1, none⟩ = some (.slice (some ⟨g, 0, none⟩) es.length d) ∧ u_.cell? ⟨w.heap.size, 0, none⟩ = some (.int .i64 x.lab) ∧ u_.cell? ⟨w.heap.size, 1, none⟩ = some (.int .i64 x.a.lab) ∧ u_.cell? ⟨w.heap.size, 2, none⟩ = some (.int .i64 x.a.num) ∧ u_.cell? ⟨w.heap.size, 3, none⟩ = some (.int .i64 x.b.lab) ∧ u_.cell? ⟨w.heap.size, 4, none⟩ = some (.int .i64 x.b.num) ∧ True) from ⟨fun _ _ hb_ ⟨q_, s0_, s1_, s2_, s3_, s4_, s5_, _⟩ => ⟨below_step q_ hb_, pw_cell_below hb_ s0_, pw_cell_below hb_ s1_, pw_cell_below hb_ s2_, pw_cell_below hb_ s3_, pw_cell_below hb_ s4_, pw_cell_below hb_ s5_, trivial⟩⟩)
   refine region_by2 _ sTakeE1 (by kernel_rfl) sTakeE1_ok rfl (fun d _ _ _ _ h => by cases d <;> exact h) HK_.out ⟨HB.out, g0, b0, b1, b2, b3, b4, trivial⟩ ?_
   intro u hS hbu_
   have HOx_ := Aside0.mk (Own.below HO.out hbu_)
   clear HO
   have HO := Aside0.mk HOx_.out
   clear HOx_
   clear hbu_
   clear g0 b0 b1 b2 b3 b4
   repeat (first | (refine h_off gt_ (by rfl) ?_; intro a_ ha_; (simp only [Act.put, pu1, pu2, pu3] at ha_); subst ha_) | (refine h_on (v := ?_) gt_ (by rfl) ?_ ?_; rotate_left; (· rintro w_ ⟨-, s0_, s1_, s2_, s3_, s4_, s5_, -⟩; go_simp; with_reducible rfl); intro a_ ha_; (simp only [Act.put, pu1, pu2, pu3] at ha_); subst ha_) | (refine h_offc hS gt_ (by rfl) ?_; intro a_ ha_; (simp only [Act.put, pu1, pu2, pu3] at ha_); subst ha_) | (refine h_call (f := 93) (args := #[.slice (some ⟨g, 0, none⟩) es.length d, .agg #[.int .i64 x.lab, .int .i64 x.a.lab, .int .i64 x.a.num, .int .i64 x.b.lab, .int .i64 x.b.num], .func (.func 94) #[] #[]]) HK_.out hS Tryz.func93 (by kernel_rfl) rfl gt_ (by rfl) (by rfl) mp_ ?_; (refine (bsE_ok (some ⟨g, 0, none⟩) d es x _ HO.out.cE HOK.out HAS.out HLE.out HX.out).mono ?_); rintro e_ u_ ⟨rfl, hb_⟩; rw [HM.out]; have HOx_ := Aside0.mk (Own.below HO.out hb_); clear HO; have HO := Aside0.mk HOx_.out; clear HOx_; refine ⟨_, rfl, hb_, fun a_ ha_ hS_ => ?_⟩; (simp only [Act.put, pu1, pu2, pu3] at ha_); subst ha_; clear hS; have hS := hS_; clear hS_ hb_))
   refine h_end ?_
   clear HK_ HB
   obtain ⟨hB_, g0, b0, b1, b2, b3, b4, -⟩ := hS
   have HB := Aside0.mk hB_
   clear hB_
   have hpl : placeE es x < es.length := HPL.out
   have hln := HLE.out
   have HBB := Aside0.mk (HB.out.mono HO0.out.base_le)
   clear HB
   go_wp2_with (first | (go_at_call 97; go_must ((refine (delE_calls base g es.length d (placeE es x) es _ HO.out.re HPL.out HLE.out).mono ?_); rintro e w1 ⟨rfl, hr1, hg1⟩; have HR1 := Aside0.mk hr1; have HG1 := Aside0.mk hg1; have HK1 := Aside0.mk (HO.out.blkE hg1); have HB1 := Aside0.mk (HBB.out.grown hg1 HO.out.base_le (fun k hk => Kd.R_base HO.out.re k hk)); clear hr1 hg1)) | ((with_reducible refine gate_store (p := 28) rfl ?_); go_must (refine wpList_plain rfl fun K_ hK_ => wp_cell G 1 (some ⟨g, 0, none⟩) (es.length - 1) d rfl rfl rfl ⟨_, (blk_cell HK1.out 1).trans rfl⟩ (blk_frozen HK1.out 1) (by kernel_rfl) (hK_ _ _ ?_)); refine named _ ?_; intro w2 hw2; have HO2 := Aside0.mk (show Own w2 base G A c ns (some ⟨g, 0, none⟩) d (es.eraseIdx (placeE es x)) by subst hw2; exact HO.out.turnE HG1.out HR1.out (by rw [List.length_eraseIdx, if_pos HPL.out])); have HB2 := Aside0.mk (show Below base w w2 by subst hw2; exact HB1.out.setCell HO.out.gb _); clear hw2))
   go_ret
   exact ⟨_, d, retI HC.out.symm, by rw [HE.out, ← HPE.out]; exact HO2.out, HB2.out⟩
end Go.Proofs.YtogmbeifbjgphaaGreat.R
namespace Go.Proofs.YtogmbeifbjgphaaGreat.R
open Go.RowKit Go.Proofs.YtogmbeifbjgphaaGreatV.PrintWords Go.Proofs.YtogmbeifbjgphaaGreatV.PrintLast Go.Proofs.YtogmbeifbjgphaaGreatV.PrintMore Go.Proofs.YtogmbeifbjgphaaGreat.M
set_option linter.unusedVariables false
set_option linter.unusedSimpArgs false
theorem do1 {ns : List Nd} {es : List Eg} {n : Nd} {x : Eg} (h : okG ns es = true) (hl : 0 ≤ opLabel ⟨1, n, x⟩) : doN ns es ⟨1, n, x⟩ = putNN ns n ∧ doE ns es ⟨1, n, x⟩ = es ∧ doC ns es ⟨1, n, x⟩ = putNC ns n := by
 have he : endOf ns es ⟨1, n, x⟩ = putNC ns n := by simp [endOf, putNC]
 refine ⟨?_, ?_, ?_⟩
 ·unfold doN putNN
  rw [if_pos h, he]
  by_cases h0 : putNC ns n = 0
  ·rw [if_pos ⟨hl, h0⟩, if_pos h0]
   simp [nodesAfter]
  ·rw [if_neg (fun h => h0 h.2), if_neg h0]
 ·unfold doE
  rw [if_pos h]
  split
  ·simp [edgesAfter]
  ·rfl
 ·unfold doC
  rw [if_pos h, if_pos hl, he]
theorem do2 {ns : List Nd} {es : List Eg} {n : Nd} {x : Eg} (h : okG ns es = true) (hl : 0 ≤ opLabel ⟨2, n, x⟩) : doN ns es ⟨2, n, x⟩ = ns ∧ doE ns es ⟨2, n, x⟩ = putEE ns es x ∧ doC ns es ⟨2, n, x⟩ = putEC ns es x := by
 have he : endOf ns es ⟨2, n, x⟩ = putEC ns es x := by simp [endOf, putEC]
 refine ⟨?_, ?_, ?_⟩
 ·unfold doN
  rw [if_pos h]
  split
  ·simp [nodesAfter]
  ·rfl
 ·unfold doE putEE
  rw [if_pos h, he]
  by_cases h0 : putEC ns es x = 0
  ·rw [if_pos ⟨hl, h0⟩, if_pos h0]
   simp [edgesAfter]
  ·rw [if_neg (fun h => h0 h.2), if_neg h0]
 ·unfold doC
  rw [if_pos h, if_pos hl, he]
theorem do3 {ns : List Nd} {es : List Eg} {n : Nd} {x : Eg} (h : okG ns es = true) (hl : 0 ≤ opLabel ⟨3, n, x⟩) : doN ns es ⟨3, n, x⟩ = ns ∧ doE ns es ⟨3, n, x⟩ = takeEE es x ∧ doC ns es ⟨3, n, x⟩ = takeEC es x := by
 have he : endOf ns es ⟨3, n, x⟩ = takeEC es x := by simp [endOf, takeEC]
 refine ⟨?_, ?_, ?_⟩
 ·unfold doN
  rw [if_pos h]
  split
  ·simp [nodesAfter]
  ·rfl
 ·unfold doE takeEE
  rw [if_pos h, he]
  unfold takeEC
  by_cases h0 : x ∈ es
  ·rw [if_pos h0, if_pos h0, if_pos ⟨hl, rfl⟩]
   simp [edgesAfter]
  ·rw [if_neg h0, if_neg h0, if_neg (fun h => by simp at h)]
 ·unfold doC
  rw [if_pos h, if_pos hl, he]
theorem do4 {ns : List Nd} {es : List Eg} {n : Nd} {x : Eg} (h : okG ns es = true) (hl : 0 ≤ opLabel ⟨4, n, x⟩) : doN ns es ⟨4, n, x⟩ = takeNN ns n ∧ doE ns es ⟨4, n, x⟩ = takeNE ns es n ∧ doC ns es ⟨4, n, x⟩ = takeNC ns n := by
 have he : endOf ns es ⟨4, n, x⟩ = takeNC ns n := by simp [endOf, takeNC]
 refine ⟨?_, ?_, ?_⟩
 ·unfold doN takeNN
  rw [if_pos h, he]
  unfold takeNC
  by_cases h0 : n ∈ ns
  ·rw [if_pos h0, if_pos h0, if_pos ⟨hl, rfl⟩]
   simp [nodesAfter]
  ·rw [if_neg h0, if_neg h0, if_neg (fun h => by simp at h)]
 ·unfold doE takeNE
  rw [if_pos h, he]
  unfold takeNC
  by_cases h0 : n ∈ ns
  ·rw [if_pos h0, if_pos h0, if_pos ⟨hl, rfl⟩]
   simp only [edgesAfter]
   rw [if_neg (by decide), if_neg (by decide), if_pos (by trivial)]
   apply List.filter_congr
   intro e _
   simp [endB]
  ·rw [if_neg h0, if_neg h0, if_neg (fun h => by simp at h)]
 ·unfold doC
  rw [if_pos h, if_pos hl, he]
theorem do_bad {ns : List Nd} {es : List Eg} {op : M.Op} (h : okG ns es = false) : doN ns es op = [] ∧ doE ns es op = [] ∧ doC ns es op = 1 := by simp [doN, doE, doC, h]
theorem do_form {ns : List Nd} {es : List Eg} {op : M.Op} (h : okG ns es = true) (hl : opLabel op < 0) : doN ns es op = ns ∧ doE ns es op = es ∧ doC ns es op = 1 := by
 have : ¬ 0 ≤ opLabel op := by omega
 simp [doN, doE, doC, h, this]
theorem EsOk.len {ns : List Nd} {l : List Eg} (h : EsOk ns l) : l.length ≤ 56 := by
 have key : ∀ m : Nat, m ≤ 8 → (l.countP fun n => decide (n.lab < (m : Int))) ≤ 7 * m := by
  intro m
  induction m with
  | zero =>
    intro _
    rw [List.countP_eq_zero.2]
    ·omega
    ·intro n hn
     have := (okE_iff.1 (h.ok n hn)).1.1
     simp only [decide_eq_true_eq]
     omega
  | succ m ih =>
    intro hm
    have h1 := ih (by omega)
    have h2 := h.few (m : Int)
    have h3 : (l.countP fun n => decide (n.lab < ((m + 1 : Nat) : Int))) ≤ (l.countP fun n => decide (n.lab < (m : Int))) + (l.countP fun n => n.lab == (m : Int)) := countP_or (fun n hn => by
     simp only [decide_eq_true_eq, beq_iff_eq] at *
     omega) l
    omega
 have h8 := key 8 (Nat.le_refl _)
 rw [List.countP_eq_length.2] at h8
 ·omega
 ·intro n hn
  have := (okE_iff.1 (h.ok n hn)).1.2
  simp only [decide_eq_true_eq]
  omega
/-- A graph that is read. -/
structure GR (w : World) (A : Option Addr) (c : Nat) (ns : List Nd) (B : Option Addr) (d : Nat) (es : List Eg) : Prop where
 cn : kN.C w A ns.length ns
 ce : kE.C w B es.length es
 hc : ns.length ≤ c
 hd : es.length ≤ d
theorem GR.below {w u : World} {A B : Option Addr} {c d : Nat} {ns : List Nd} {es : List Eg} (h : GR w A c ns B d es) (hb : Below w.heap.size w u) : GR u A c ns B d es := ⟨Kd.C_below h.cn hb, Kd.C_below h.ce hb, h.hc, h.hd⟩
theorem Own.gr {w : World} {base G : Nat} {A B : Option Addr} {c d : Nat} {ns : List Nd} {es : List Eg} (h : Own w base G A c ns B d es) : GR w A c ns B d es := ⟨h.cN, h.cE, (Kd.R_reads' h.rn).2.1, (Kd.R_reads' h.re).2.1⟩
theorem gr_nil (w : World) : GR w none 0 [] none 0 [] := ⟨⟨rfl, by decide, fun h => absurd h (Nat.lt_irrefl 0)⟩, ⟨rfl, by decide, fun h => absurd h (Nat.lt_irrefl 0)⟩, Nat.le_refl _, Nat.le_refl _⟩
end Go.Proofs.YtogmbeifbjgphaaGreat.R
namespace Go.Proofs.YtogmbeifbjgphaaGreat.R
open Go.RowKit Go.Proofs.YtogmbeifbjgphaaGreatV.PrintWords Go.Proofs.YtogmbeifbjgphaaGreatV.PrintLast Go.Proofs.YtogmbeifbjgphaaGreatV.PrintMore
set_option linter.unusedVariables false
section
variable {w u : World} {g : Nat} {t : TypeId} {a b c d e f i j : Value}
theorem cs2 (h : w.heap[g]? = some (.cells #[a, b] t (0, 0))) : w.cell? ⟨g, 0, none⟩ = some a ∧ w.cell? ⟨g, 1, none⟩ = some b := ⟨(blk_cell h 0).trans rfl, (blk_cell h 1).trans rfl⟩
theorem cs5 (h : w.heap[g]? = some (.cells #[a, b, c, d, e] t (0, 0))) : w.cell? ⟨g, 0, none⟩ = some a ∧ w.cell? ⟨g, 1, none⟩ = some b ∧ w.cell? ⟨g, 2, none⟩ = some c ∧ w.cell? ⟨g, 3, none⟩ = some d ∧ w.cell? ⟨g, 4, none⟩ = some e :=
 ⟨(blk_cell h 0).trans rfl, (blk_cell h 1).trans rfl, (blk_cell h 2).trans rfl, (blk_cell h 3).trans rfl, (blk_cell h 4).trans rfl⟩
theorem cs8 (h : w.heap[g]? = some (.cells #[a, b, c, d, e, f, i, j] t (0, 0))) : w.cell? ⟨g, 0, none⟩ = some a ∧ w.cell? ⟨g, 1, none⟩ = some b ∧ w.cell? ⟨g, 2, none⟩ = some c ∧ w.cell? ⟨g, 3, none⟩ = some d ∧ w.cell? ⟨g, 4, none⟩ = some e ∧ w.cell? ⟨g, 5, none⟩ = some f ∧ w.cell? ⟨g, 6, none⟩ = some i ∧ w.cell? ⟨g, 7, none⟩ = some j :=
 ⟨(blk_cell h 0).trans rfl, (blk_cell h 1).trans rfl, (blk_cell h 2).trans rfl, (blk_cell h 3).trans rfl, (blk_cell h 4).trans rfl, (blk_cell h 5).trans rfl, (blk_cell h 6).trans rfl, (blk_cell h 7).trans rfl⟩
end
section
variable (w : World) (a b c d : Array Value) (p q r s : TypeId)
theorem al1 : Aside0 ((w.alloc (.cells a p)).heap[w.heap.size]? = some (.cells a p (0, 0))) ∧ Aside0 (Below w.heap.size w (w.alloc (.cells a p))) := ⟨⟨blk_new w _⟩, ⟨below_alloc (Below.refl _ _) _⟩⟩
theorem al2 : Aside0 (((w.alloc (.cells a p)).alloc (.cells b q)).heap[w.heap.size]? = some (.cells a p (0, 0))) ∧ Aside0 (((w.alloc (.cells a p)).alloc (.cells b q)).heap[w.heap.size + 1]? = some (.cells b q (0, 0))) ∧ Aside0 (Below w.heap.size w ((w.alloc (.cells a p)).alloc (.cells b q))) :=
 ⟨⟨blk_alloc (blk_new w _) _⟩, ⟨by have h := blk_new (w.alloc (.cells a p)) (.cells b q); simpa using h⟩, ⟨below_alloc (below_alloc (Below.refl _ _) _) _⟩⟩
theorem al3 : Aside0 ((((w.alloc (.cells a p)).alloc (.cells b q)).alloc (.cells c r)).heap[w.heap.size]? = some (.cells a p (0, 0))) ∧ Aside0 ((((w.alloc (.cells a p)).alloc (.cells b q)).alloc (.cells c r)).heap[w.heap.size + 1]? = some (.cells b q (0, 0))) ∧ Aside0 ((((w.alloc (.cells a p)).alloc (.cells b q)).alloc (.cells c r)).heap[w.heap.size + 2]? = some (.cells c r (0, 0))) ∧ Aside0 (Below w.heap.size w (((w.alloc (.cells a p)).alloc (.cells b q)).alloc (.cells c r))) := by
 obtain ⟨h1, h2, h3⟩ := al2 w a b p q
 exact ⟨⟨blk_alloc h1.out _⟩, ⟨blk_alloc h2.out _⟩, ⟨by have h := blk_new ((w.alloc (.cells a p)).alloc (.cells b q)) (.cells c r); simpa using h⟩, ⟨below_alloc h3.out _⟩⟩
end
section
variable {w u v : World} {g k B : Nat} {cs old : Array Value} {t : TypeId} {o : Obj}
theorem so_ (e : u = w.setRow g cs) (h : w.heap[k]? = some o) (hne : k ≠ g) : u.heap[k]? = some o := by
 rw [e]
 exact (setRow_other w g k cs hne).trans h
theorem sh_ (e : u = w.setRow g cs) (h : w.heap[g]? = some (.cells old t (0, 0))) : u.heap[g]? = some (.cells cs t (0, 0)) := by
 rw [e]
 exact setRow_heap _ _ _ _ _ _ h
theorem sb_ (e : u = w.setRow g cs) (h : Below B v w) (hg : B ≤ g) : Below B v u := by
 rw [e]
 exact below_setRow h hg _
end
end Go.Proofs.YtogmbeifbjgphaaGreat.R
namespace Go.Proofs.YtogmbeifbjgphaaGreat.R
open Go.RowKit Go.Proofs.YtogmbeifbjgphaaGreatV.PrintWords Go.Proofs.YtogmbeifbjgphaaGreatV.PrintLast Go.Proofs.YtogmbeifbjgphaaGreatV.PrintMore Go.Proofs.YtogmbeifbjgphaaGreat.M
set_option linter.unusedVariables false
set_option linter.unusedSimpArgs false
attribute [local go_sem high] eqN eqE
theorem Own.far {w u : World} {base G : Nat} {A B : Option Addr} {c d : Nat} {ns : List Nd} {es : List Eg} (h : Own w base G A c ns B d es) {row : Option Nat} (hg : w.grownBy u row) (hk : ∀ k, row = some k → k < base) : Own u base G A c ns B d es :=
 ⟨(hg.block G (blk_lt h.blk) (fun e => by have := hk G e.symm; have := h.gb; omega)).trans h.blk, R_farN h.rn hg (fun k h1 e => by have := hk k e.symm; have := Kd.R_base h.rn k h1; omega), R_farE h.re hg (fun k h1 e => by have := hk k e.symm; have := Kd.R_base h.re k h1; omega), h.off, h.gn, h.ge, h.gb⟩
theorem Own.any {w : World} {base G : Nat} {A B : Option Addr} {c d : Nat} {ns ns' : List Nd} {es es' : List Eg} (h : Own w base G A c ns B d es) (hn : ns' = ns) (he : es' = es) : ∃ A c B d, Own w base G A c ns' B d es' := by
 subst hn he
 exact ⟨A, c, B, d, h⟩
theorem below_over {w u v : World} {base : Nat} (h : Below w.heap.size w u) (h' : Below base u v) (hk : w.heap.size + 2 < base) : Below w.heap.size w v := h.trans (h'.mono (by omega))
set_option maxHeartbeats 6400000 in
set_option maxRecDepth 100000 in
theorem graphDo_calls (A : Option Addr) (c : Nat) (ns : List Nd) (B : Option Addr) (d : Nat) (es : List Eg) (op : M.Op) (w : World) (hr : GR w A c ns B d es) :
 Calls Tryz.prog 10 #[.agg #[.slice A ns.length c, .slice B es.length d], .agg #[.int .i64 op.kind, .int .i64 op.nd.lab, .int .i64 op.nd.num, .int .i64 op.eg.lab, .int .i64 op.eg.a.lab, .int .i64 op.eg.a.num, .int .i64 op.eg.b.lab, .int .i64 op.eg.b.num]] w fun e w' => ∃ A' c' B' d', e = .returned (.tuple #[.agg #[.slice A' (doN ns es op).length c', .slice B' (doE ns es op).length d'], .int .i64 (doC ns es op)]) ∧ GR w' A' c' (doN ns es op) B' d' (doE ns es op) ∧ Below w.heap.size w w' := by
 obtain ⟨k, n, x⟩ := op
 dsimp only
 have HR := Aside0.mk hr
 clear hr
 obtain ⟨B0, B1, B2, W1⟩ := al3 w #[.slice A ns.length c, .slice B es.length d] #[.int .i64 k, .int .i64 n.lab, .int .i64 n.num, .int .i64 x.lab, .int .i64 x.a.lab, .int .i64 x.a.num, .int .i64 x.b.lab, .int .i64 x.b.num] #[.slice none 0 0, .slice none 0 0] 26 32 26
 obtain ⟨v, hg⟩ : ∃ v, okG ns es = v := ⟨_, rfl⟩
 have HG := Aside0.mk hg
 cases v
 case' false =>
  obtain ⟨h1, h2, h3⟩ := do_bad (op := ⟨k, n, x⟩) hg
  rw [h1, h2, h3]
  clear h1 h2 h3 hg
 case' true =>
  have HGG := Aside0.mk (Bool.and_eq_true_iff.1 ((okG_parts ns es).symm.trans hg))
  have HNS := Aside0.mk (nsOk_true.1 HGG.out.1)
  have HES := Aside0.mk (esOk_true.1 HGG.out.2)
  have HN1 := Aside0.mk (show ns.length ≤ 1000000 by have := HNS.out.len; omega)
  have HE1 := Aside0.mk (show es.length ≤ 1000000 by have := HES.out.len; omega)
  by_cases hl : 0 ≤ opLabel ⟨k, n, x⟩
  case' neg =>
   have hlab : opLabel ⟨k, n, x⟩ < 0 := by omega
   obtain ⟨h1, h2, h3⟩ := do_form (op := ⟨k, n, x⟩) hg hlab
   rw [h1, h2, h3]
   clear h1 h2 h3 hg hl
  case' pos =>
   have hlab : ¬ opLabel ⟨k, n, x⟩ < 0 := by omega
   generalize hN : doN ns es ⟨k, n, x⟩ = NN
   generalize hE : doE ns es ⟨k, n, x⟩ = EE
   generalize hC : doC ns es ⟨k, n, x⟩ = CC
   rcases opLabel_kind hl with e | e | e | e
   all_goals
    have e' : k = _ := e
    subst e'
    clear e
    first
    | (with_reducible have hd := do1 hg hl
       have HOK := Aside0.mk (opLabel_node (op := ⟨1, n, x⟩) hl (.inl rfl)).1)
    | (with_reducible have hd := do2 hg hl
       have HOK := Aside0.mk (opLabel_edge (op := ⟨2, n, x⟩) hl (.inl rfl)).1)
    | (with_reducible have hd := do3 hg hl
       have HOK := Aside0.mk (opLabel_edge (op := ⟨3, n, x⟩) hl (.inr rfl)).1)
    | (with_reducible have hd := do4 hg hl
       have HOK := Aside0.mk (opLabel_node (op := ⟨4, n, x⟩) hl (.inr rfl)).1)
    rw [hN, hE, hC] at hd
    have HD := Aside0.mk hd
    clear hd hN hE hC hg hl
 all_goals
  go_enter Tryz.func10, Tryz.ntmps10
  go_wp2_with (first | (go_at_call 29; go_must ((refine (graphOk_calls A c ns B d es _ (Kd.C_below HR.out.cn W1.out) (Kd.C_below HR.out.ce W1.out)).mono ?_); rintro e w1 ⟨rfl, hb⟩; rw [HG.out]; have HB1 := Aside0.mk (below_step W1.out hb); have D1 := Aside0.mk (blk_below B1.out hb); have C2 := Aside0.mk (blk_below B2.out hb); obtain ⟨c0, c1⟩ := cs2 (blk_below B0.out hb); clear hb)) | (go_at_call 37; go_must ((refine (graphCopy_calls A c ns B d es _ (Kd.C_below HR.out.cn HB1.out) (Kd.C_below HR.out.ce HB1.out) HR.out.hc HR.out.hd HN1.out HE1.out).mono ?_); rintro e w2 ⟨A1, B1', rfl, hr1, hr2, hoff, hb⟩; have D2 := Aside0.mk (blk_alloc (blk_below D1.out hb) (.cells #[.slice A1 ns.length ns.length, .slice B1' es.length es.length] 26)); have E2 := Aside0.mk (blk_alloc (blk_below C2.out hb) (.cells #[.slice A1 ns.length ns.length, .slice B1' es.length es.length] 26)); have HW := Aside0.mk (show Own (w2.alloc (.cells #[.slice A1 ns.length ns.length, .slice B1' es.length es.length] 26)) w1.heap.size w2.heap.size A1 ns.length ns B1' es.length es from ⟨blk_new w2 _, Kd.R_alloc hr1 _, Kd.R_alloc hr2 _, hoff, fun k h1 e => by have := Kd.R_lt hr1 k h1; omega, fun k h1 e => by have := Kd.R_lt hr2 k h1; omega, hb.size⟩); have HB2 := Aside0.mk (below_alloc (below_step HB1.out hb) (.cells #[.slice A1 ns.length ns.length, .slice B1' es.length es.length] 26)); have HS1 := Aside0.mk (blk_lt C2.out); obtain ⟨e0, e1, e2, e3, e4, e5, e6, e7⟩ := cs8 D2.out; clear hb hr1 hr2 hoff)) | (go_at_call 30; go_must ((refine (opLabel_calls _ n x _).mono ?_); rintro e w3 ⟨rfl, hb⟩; have HW3 := Aside0.mk (HW.out.below hb); have F2 := Aside0.mk (blk_below E2.out hb); have HB3 := Aside0.mk (below_step HB2.out hb); have g0 := HW3.out.c0; have g1 := HW3.out.c1; obtain ⟨f0, f1, f2, f3, f4, f5, f6, f7⟩ := cs8 (blk_below D2.out hb); clear hb)) | (go_at_call 38; (refine (putNode_calls w1.heap.size w2.heap.size A1 ns B1' es.length es n _ HW3.out HNS.out HOK.out).mono ?_); rintro e w4 ⟨A', c', rfl, hO, hb⟩; obtain ⟨A9, c9, B9, d9, h9⟩ := hO.any HD.out.1 HD.out.2.1; have HW4 := Aside0.mk h9; have G2 := Aside0.mk ((hb.block _ HS1.out).trans F2.out); have HB4 := Aside0.mk (below_over HB3.out hb HS1.out); have k0 := HW4.out.c0; have k1 := HW4.out.c1; clear hb hO h9) | (go_at_call 40; (refine (putEdge_calls w1.heap.size w2.heap.size A1 ns.length ns B1' es x _ HW3.out HNS.out HES.out.ok HES.out.asc HE1.out HOK.out).mono ?_); rintro e w4 ⟨B', d', rfl, hO, hb⟩; obtain ⟨A9, c9, B9, d9, h9⟩ := hO.any HD.out.1 HD.out.2.1; have HW4 := Aside0.mk h9; have G2 := Aside0.mk ((hb.block _ HS1.out).trans F2.out); have HB4 := Aside0.mk (below_over HB3.out hb HS1.out); have k0 := HW4.out.c0; have k1 := HW4.out.c1; clear hb hO h9) | (go_at_call 41; (refine (takeEdge_calls w1.heap.size w2.heap.size A1 ns.length ns B1' es.length es x _ HW3.out HES.out.ok HES.out.asc HE1.out HOK.out).mono ?_); rintro e w4 ⟨B', d', rfl, hO, hb⟩; obtain ⟨A9, c9, B9, d9, h9⟩ := hO.any HD.out.1 HD.out.2.1; have HW4 := Aside0.mk h9; have G2 := Aside0.mk ((hb.block _ HS1.out).trans F2.out); have HB4 := Aside0.mk (below_over HB3.out hb HS1.out); have k0 := HW4.out.c0; have k1 := HW4.out.c1; clear hb hO h9) | (go_at_call 39; (refine (takeNode_calls w1.heap.size w2.heap.size A1 ns.length ns B1' es.length es n _ HW3.out HNS.out HE1.out HOK.out).mono ?_); rintro e w4 ⟨A', c', B', d', rfl, hO, hb⟩; obtain ⟨A9, c9, B9, d9, h9⟩ := hO.any HD.out.1 HD.out.2.1; have HW4 := Aside0.mk h9; have G2 := Aside0.mk ((hb.block _ HS1.out).trans F2.out); have HB4 := Aside0.mk (below_over HB3.out hb HS1.out); have k0 := HW4.out.c0; have k1 := HW4.out.c1; clear hb hO h9) | ((with_reducible refine gate_store (p := 4) rfl ?_); (refine wpList_plain rfl fun K_ hK_ => wp_store_row _ _ _ rfl (w.heap.size + 2) #[.slice A9 NN.length c9, .slice B9 EE.length d9] rfl rfl _ _ G2.out (by kernel_rfl) rfl (by simp [Value.oneCell']) (hK_ _ _ ?_)); refine named _ ?_; intro wz hwz; have R2 := Aside0.mk (show wz.heap[w.heap.size + 2]? = some (.cells #[.slice A9 NN.length c9, .slice B9 EE.length d9] 26 (0, 0)) by rw [hwz]; exact setRow_heap _ _ _ _ _ _ G2.out); have HBR := Aside0.mk (show Below w.heap.size w wz by rw [hwz]; exact below_setRow HB4.out (by omega) _); have HWR := Aside0.mk (show Own wz w1.heap.size w2.heap.size A9 c9 NN B9 d9 EE by rw [hwz]; exact HW4.out.far (grown_setRow _ _ _) (fun k e => by have := Option.some.inj e; have := HS1.out; omega)); clear hwz) | ((with_reducible refine gate_store (p := 4) rfl ?_); (refine wpList_plain rfl fun K_ hK_ => wp_store_row _ _ _ rfl (w.heap.size + 2) #[.slice A1 ns.length ns.length, .slice B1' es.length es.length] rfl rfl _ _ F2.out (by kernel_rfl) rfl (by simp [Value.oneCell']) (hK_ _ _ ?_)); refine named _ ?_; intro wz hwz; have R2 := Aside0.mk (show wz.heap[w.heap.size + 2]? = some (.cells #[.slice A1 ns.length ns.length, .slice B1' es.length es.length] 26 (0, 0)) by rw [hwz]; exact setRow_heap _ _ _ _ _ _ F2.out); have HBR := Aside0.mk (show Below w.heap.size w wz by rw [hwz]; exact below_setRow HB3.out (by omega) _); have HWR := Aside0.mk (show Own wz w1.heap.size w2.heap.size A1 ns.length ns B1' es.length es by rw [hwz]; exact HW3.out.far (grown_setRow _ _ _) (fun k e => by have := Option.some.inj e; have := HS1.out; omega)); clear hwz) | ((with_reducible refine gate_store (p := 4) rfl ?_); (refine wpList_plain rfl fun K_ hK_ => wp_store_row _ _ _ rfl (w.heap.size + 2) #[.slice none 0 0, .slice none 0 0] rfl rfl _ _ C2.out (by kernel_rfl) rfl (by simp [Value.oneCell']) (hK_ _ _ ?_)); refine named _ ?_; intro wz hwz; have R2 := Aside0.mk (show wz.heap[w.heap.size + 2]? = some (.cells #[.slice none 0 0, .slice none 0 0] 26 (0, 0)) by rw [hwz]; exact setRow_heap _ _ _ _ _ _ C2.out); have HBR := Aside0.mk (show Below w.heap.size w wz by rw [hwz]; exact below_setRow HB1.out (by omega) _); clear hwz))
  first
  | exact bodyPost_ret (results_ct rfl _ _ (w.heap.size + 2) _ #[.slice A9 NN.length c9, .slice B9 EE.length d9] (0, 0) _ rfl R2.out Tryz.underlying26 rfl (by kernel_rfl)) rfl ⟨A9, c9, B9, d9, by rw [HD.out.2.2]; rfl, HWR.out.gr, HBR.out⟩
  | exact bodyPost_ret (results_ct rfl _ _ (w.heap.size + 2) _ #[.slice A1 ns.length ns.length, .slice B1' es.length es.length] (0, 0) _ rfl R2.out Tryz.underlying26 rfl (by kernel_rfl)) rfl ⟨A1, ns.length, B1', es.length, rfl, HWR.out.gr, HBR.out⟩
  | exact bodyPost_ret (results_ct rfl _ _ (w.heap.size + 2) _ #[.slice none 0 0, .slice none 0 0] (0, 0) _ rfl R2.out Tryz.underlying26 rfl (by kernel_rfl)) rfl ⟨none, 0, none, 0, rfl, gr_nil _, HBR.out⟩
end Go.Proofs.YtogmbeifbjgphaaGreat.R
