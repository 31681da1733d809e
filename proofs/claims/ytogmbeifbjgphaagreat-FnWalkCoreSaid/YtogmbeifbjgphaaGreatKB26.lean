/- Draws: a graph, now and then bent. -/
import Derived.Test.YtogmbeifbjgphaaGreatKB25
namespace Go.Proofs.YtogmbeifbjgphaaGreat.R
open Go.RowKit Go.Proofs.YtogmbeifbjgphaaGreatV.PrintWords Go.Proofs.YtogmbeifbjgphaaGreatV.PrintLast Go.Proofs.YtogmbeifbjgphaaGreatV.PrintMore Go.Proofs.YtogmbeifbjgphaaGreat.M
set_option linter.unusedVariables false
set_option linter.unusedSimpArgs false
attribute [local go_sem high] eqN eqE
abbrev sBe7 : List (Nat × Bool) := [(0, true), (1, true), (2, true), (3, true), (5, true)]
abbrev sBe7T : Sch := (.fork 4 [(6, false), (7, false), (8, true), (9, true), (10, false)] .fin 6 [(4, false), (7, false), (8, true), (9, true), (10, false)] .fin)
theorem sBe7_ok : schedT .any (opsOf Tryz.f34 7) sBe7T sBe7 (Array.replicate (opsOf Tryz.f34 7).size false) = true := by kernel_rfl
abbrev sBe16 : List (Nat × Bool) := [(0, true), (1, true), (2, true), (3, true), (5, true)]
abbrev sBe16T : Sch := (.fork 4 [(6, false), (7, false), (8, true), (9, true), (10, false)] .fin 6 [(4, false), (7, false), (8, true), (9, true), (10, false)] .fin)
theorem sBe16_ok : schedT .any (opsOf Tryz.f34 16) sBe16T sBe16 (Array.replicate (opsOf Tryz.f34 16).size false) = true := by kernel_rfl
abbrev sBe10 : Pl := (.tk 0 (.tk 1 (.tk 2 (.tk 3 (.tk 4 (.tk 5 (.nd .one 6 (.nd .last 7 (.nd .pure 8 (.nd .last 9 .fin))))))))))
theorem sBe10_ok : planB .any (opsOf Tryz.f34 10) [7, 9] sBe10 (Array.replicate (opsOf Tryz.f34 10).size false) = true := by kernel_rfl
abbrev sBe19 : Pl := (.tk 0 (.tk 1 (.tk 2 (.tk 3 (.tk 4 (.tk 5 (.nd .one 6 (.nd .last 7 (.nd .pure 8 (.nd .last 9 .fin))))))))))
theorem sBe19_ok : planB .any (opsOf Tryz.f34 19) [7, 9] sBe19 (Array.replicate (opsOf Tryz.f34 19).size false) = true := by kernel_rfl
/-- What a change leaves: a graph in rows that lie apart. -/
def BentC (b : Nat) (w : World) (G p g5 : Nat) (A : Option Addr) (c : Nat) (ns : List Nd) (B : Option Addr) (d : Nat) (es : List Eg) (wx : World) : Prop :=
 ∃ A' c' ns' B' d' es', wx.heap[w.heap.size]? = some (.cells #[.slice A ns.length c, .slice B es.length d] 26 (0, 0)) ∧ wx.heap[w.heap.size + 1]? = some (.cells #[.slice none 0 0, .slice none 0 0] 26 (0, 0)) ∧ wx.heap[g5]? = some (.cells #[.slice A' (ns' : List Nd).length c', .slice B' (es' : List Eg).length d'] 26 (0, 0)) ∧
  GR wx A' c' ns' B' d' es' ∧ Fresh (w.heap.size + 2) A' ∧ Fresh (w.heap.size + 2) B' ∧ ns'.length ≤ ns.length + 6 ∧ es'.length ≤ es.length + 6 ∧ Dw b w wx G p 3
theorem bent_of {b : Nat} {w : World} {G p g5 : Nat} {A : Option Addr} {c : Nat} {ns : List Nd} {B : Option Addr} {d : Nat} {es : List Eg} {wx : World} {A' B' : Option Addr} {c' d' n' m' k : Nat} {ns' : List Nd} {es' : List Eg}
 (l0 : wx.heap[w.heap.size]? = some (.cells #[.slice A ns.length c, .slice B es.length d] 26 (0, 0))) (l1 : wx.heap[w.heap.size + 1]? = some (.cells #[.slice none 0 0, .slice none 0 0] 26 (0, 0))) (l5 : wx.heap[g5]? = some (.cells #[.slice A' n' c', .slice B' m' d'] 26 (0, 0)))
 (rn : kN.R 28 wx (w.heap.size + 2) (fun _ => True) (.slice A' n' c') ns') (re : kE.R 30 wx (w.heap.size + 2) (fun _ => True) (.slice B' m' d') es') (hn : ns'.length ≤ ns.length + 6) (hm : es'.length ≤ es.length + 6) (hd : Dw b w wx G p k) (hk : k ≤ 3) : BentC b w G p g5 A c ns B d es wx := by
 obtain ⟨n1, n2, n3⟩ := Kd.R_reads' rn
 obtain ⟨e1, e2, e3⟩ := Kd.R_reads' re
 subst n1
 subst e1
 exact ⟨A', c', ns', B', d', es', l0, l1, l5, ⟨n3, e3, n2, e2⟩, fresh_RN rn, fresh_RE re, hn, hm, hd.mono hk⟩
theorem Dw.overO {b : Nat} {w u v : World} {G p k : Nat} {r : Option Nat} (h : Dw b w u G p k) (hg : u.grownBy v r) (hr : ∀ g, r = some g → b ≤ g ∧ w.heap.size ≤ g) : Dw b w v G p k := by
 cases r with
 | none => exact h.below ⟨hg.os, hg.tape, hg.output, hg.size, fun k hk => hg.block k hk (by simp)⟩
 | some g => exact h.over hg (hr g rfl).1 (hr g rfl).2
def BentL (b : Nat) (w : World) (G p g5 : Nat) (A : Option Addr) (c : Nat) (ns : List Nd) (B : Option Addr) (d : Nat) (es : List Eg) (B1 : Option Addr) (d1 : Nat) (s8 : Value) (wr : World) : Prop :=
 ∃ (j : Nat) (A2 : Option Addr) (c2 : Nat) (ms : List Nd), j ≤ 6 ∧ s8 = .int .i64 (30 + (j : Int)) ∧ wr.heap[w.heap.size]? = some (.cells #[.slice A ns.length c, .slice B es.length d] 26 (0, 0)) ∧ wr.heap[w.heap.size + 1]? = some (.cells #[.slice none 0 0, .slice none 0 0] 26 (0, 0)) ∧ wr.heap[g5]? = some (.cells #[.slice A2 ms.length c2, .slice B1 es.length d1] 26 (0, 0)) ∧
  kN.R 28 wr (w.heap.size + 2) (fun _ => True) (.slice A2 ms.length c2) ms ∧ kE.R 30 wr (w.heap.size + 2) (fun _ => True) (.slice B1 es.length d1) es ∧ Off (.slice A2 ms.length c2) (.slice B1 es.length d1) ∧ (∀ k, (Value.slice A2 ms.length c2).ownBlock = some k → k ≠ g5) ∧ ms.length = ns.length + j ∧ Dw b w wr G p 1
set_option maxHeartbeats 12800000 in
set_option maxRecDepth 100000 in
theorem bent_calls (b G p : Nat) (A : Option Addr) (c : Nat) (ns : List Nd) (B : Option Addr) (d : Nat) (es : List Eg) (w : World) (hr : Rd b w G p) (hp : p + 10 ≤ 700000) (hg : GR w A c ns B d es) (hA : NotIn G A ns.length) (hB : NotIn G B es.length) (hn : ns.length ≤ 1000) (he : es.length ≤ 1000) :
 Calls Tryz.prog 34 #[.pointer (some ⟨G, 0, none⟩), .agg #[.slice A ns.length c, .slice B es.length d]] w fun e w' => (∃ A' c' ns' B' d' es', e = .returned (.agg #[.slice A' (ns' : List Nd).length c', .slice B' (es' : List Eg).length d']) ∧ GR w' A' c' ns' B' d' es' ∧ Fresh w.heap.size A' ∧ Fresh w.heap.size B' ∧ ns'.length ≤ ns.length + 6 ∧ es'.length ≤ es.length + 6) ∧ Dw b w w' G p 3 := by
 have HG := Aside0.mk hr.lt
 have HP := Aside0.mk hp
 have HR := Aside0.mk hg
 have HNA := Aside0.mk hA
 have HNB := Aside0.mk hB
 have HNL := Aside0.mk (show ns.length ≤ 1000000 by omega)
 have HEL := Aside0.mk (show es.length ≤ 1000000 by omega)
 have HD := Aside0.mk (((Dw.refl hr (k := 0)).alloc (.cells #[.slice A ns.length c, .slice B es.length d] 26)).alloc (.cells #[.slice none 0 0, .slice none 0 0] 26))
 clear hr hp hg hA hB
 obtain ⟨L0, L1, HB⟩ := al2 w #[.slice A ns.length c, .slice B es.length d] #[.slice none 0 0, .slice none 0 0] 26 26
 clear HB
 go_enter Tryz.func34, Tryz.ntmps34
 go_upto_block 0 with (first | (go_at_call 43; go_must ((refine (l2Copy_calls A c ns B d es _ (HR.out.keep HD.out.gr HNA.out HNB.out) HNL.out HEL.out).mono ?_); rintro e u_ ⟨A1, c1, B1, d1, rfl, -, hrn_, hre_, hof_, hb⟩; have RN := Aside0.mk (Kd.R_lower hrn_ (show w.heap.size + 2 ≤ _ by have := blk_lt L1.out; omega)); have RE := Aside0.mk (Kd.R_lower hre_ (show w.heap.size + 2 ≤ _ by have := blk_lt L1.out; omega)); have OF := Aside0.mk hof_; clear hrn_ hre_ hof_; replace HD := Aside0.mk (HD.out.below hb); replace L0 := Aside0.mk (blk_below L0.out hb); replace L1 := Aside0.mk (blk_below L1.out hb); (try clear gc0 gc1); obtain ⟨gc0, gc1⟩ := cs2 (L0.out); (try clear rc0 rc1); obtain ⟨rc0, rc1⟩ := cs2 (L1.out); clear hb)) | ((with_reducible refine gate_dst (N := 5) rfl ?_); go_must ((refine w_new #[.slice none 0 0, .slice none 0 0] 26 rfl (by go_simp; (first | done | rfl)) ?_); intro g5 u_ hge_ hb0_ hb; have HLT := Aside0.mk (show (∀ k, (Value.slice A1 ns.length c1).ownBlock = some k → k < g5) ∧ (∀ k, (Value.slice B1 es.length d1).ownBlock = some k → k < g5) from ⟨fun k hk => Nat.lt_of_lt_of_le (Kd.R_lt RN.out k hk) hge_, fun k hk => Nat.lt_of_lt_of_le (Kd.R_lt RE.out k hk) hge_⟩); have Hg5 := Aside0.mk (show w.heap.size + 2 ≤ g5 from by have hl0_ := blk_lt L1.out; exact by omega); have L5 := Aside0.mk hb0_; replace HD := Aside0.mk (HD.out.below hb); replace L0 := Aside0.mk (blk_below L0.out hb); replace L1 := Aside0.mk (blk_below L1.out hb); replace RN := Aside0.mk (Kd.R_below (RN.out) hb); replace RE := Aside0.mk (Kd.R_below (RE.out) hb); clear hge_ hb0_ hb; (try clear gc0 gc1); obtain ⟨gc0, gc1⟩ := cs2 (L0.out); (try clear rc0 rc1); obtain ⟨rc0, rc1⟩ := cs2 (L1.out); (try clear lc0 lc1); obtain ⟨lc0, lc1⟩ := cs2 (L5.out))) | ((with_reducible refine gate_store (p := 5) rfl ?_); go_must ((refine wpList_plain rfl fun K_ hK_ => wp_store_row _ _ _ rfl (g5) #[.slice A1 ns.length c1, .slice B1 es.length d1] rfl rfl _ _ L5.out (by kernel_rfl) rfl (by simp [Value.oneCell']) (hK_ _ _ ?_)); refine named _ ?_; intro wz hwz; have HDz := HD.out.over (grown_setRow _ (g5) #[.slice A1 ns.length c1, .slice B1 es.length d1]) (by have := HG.out; have := Hg5.out; omega) (by have := HG.out; have := Hg5.out; omega); rw [← hwz] at HDz; replace HD := Aside0.mk HDz; clear HDz; replace L0 := Aside0.mk (so_ hwz L0.out (by have := HG.out; have := Hg5.out; omega)); replace L1 := Aside0.mk (so_ hwz L1.out (by have := HG.out; have := Hg5.out; omega)); replace L5 := Aside0.mk (sh_ hwz L5.out); replace RN := Aside0.mk (show kN.R 28 wz (w.heap.size + 2) (fun _ => True) (.slice A1 ns.length c1) ns by rw [hwz]; exact R_farN (RN.out) (grown_setRow _ _ _) (fun k hk e => by have := HLT.out.1 k hk; have := Option.some.inj e; omega)); replace RE := Aside0.mk (show kE.R 30 wz (w.heap.size + 2) (fun _ => True) (.slice B1 es.length d1) es by rw [hwz]; exact R_farE (RE.out) (grown_setRow _ _ _) (fun k hk e => by have := HLT.out.2 k hk; have := Option.some.inj e; omega)); (try clear gc0 gc1); obtain ⟨gc0, gc1⟩ := cs2 (L0.out); (try clear rc0 rc1); obtain ⟨rc0, rc1⟩ := cs2 (L1.out); (try clear lc0 lc1); obtain ⟨lc0, lc1⟩ := cs2 (L5.out); clear hwz)) | (go_at_call 81; go_must ((refine (draw_lift (lim := 999980) (fun q hq hl => pick_any b G q _ _ hq (by omega)) HD.out (by have := HP.out; omega)).mono ?_); rintro e u_ ⟨⟨m, rfl, -⟩, hd, hg⟩; generalize (m : Int) = z; replace HD := Aside0.mk hd; replace L0 := Aside0.mk (blk_g hg L0.out (by have := HG.out; have := Hg5.out; omega)); replace L1 := Aside0.mk (blk_g hg L1.out (by have := HG.out; have := Hg5.out; omega)); replace L5 := Aside0.mk (blk_g hg L5.out (by have := HG.out; have := Hg5.out; omega)); replace RN := Aside0.mk (R_farN (RN.out) hg (fun k hk e => by have h1 := Kd.R_base (RN.out) k hk; have := Option.some.inj e; have := HG.out; omega)); replace RE := Aside0.mk (R_farE (RE.out) hg (fun k hk e => by have h1 := Kd.R_base (RE.out) k hk; have := Option.some.inj e; have := HG.out; omega)); (try clear gc0 gc1); obtain ⟨gc0, gc1⟩ := cs2 (L0.out); (try clear rc0 rc1); obtain ⟨rc0, rc1⟩ := cs2 (L1.out); (try clear lc0 lc1); obtain ⟨lc0, lc1⟩ := cs2 (L5.out); clear hd hg)))
 go_cut [] (fun wx => BentC b w G p g5 A c ns B d es wx)
 case first =>
  by_cases z0 : z = 0
  ·subst z0
   by_cases hlen : 0 < ns.length
   ·have hl1 : (0 : Int) < (ns.length : Int) := by omega
    obtain ⟨g1, rfl⟩ := own_addrN RN.out hlen
    have HG1 := Aside0.mk (show w.heap.size + 2 ≤ g1 ∧ g1 < g5 from ⟨Kd.R_base RN.out g1 rfl, HLT.out.1 g1 rfl⟩)
    have HX1 := Aside0.mk (show (1 : Int) ≤ (ns.length : Int) by omega)
    go_wp2_with (fail)
    have ZL0 := L0
    have ZL1 := L1
    have ZL5 := L5
    refine region_kt G (some g1) sBe7 sBe7T (by kernel_rfl) sBe7_ok (by decide) (fun d _ _ _ _ h => by cases d <;> exact h) ?_
    intro u hb hS
    replace HD := Aside0.mk (HD.out.below hb)
    replace L0 := Aside0.mk (blk_below L0.out hb)
    replace L1 := Aside0.mk (blk_below L1.out hb)
    replace L5 := Aside0.mk (blk_below L5.out hb)
    replace RN := Aside0.mk (Kd.R_below (RN.out) hb)
    replace RE := Aside0.mk (Kd.R_below (RE.out) hb)
    (try clear gc0 gc1)
    obtain ⟨gc0, gc1⟩ := cs2 (L0.out)
    (try clear rc0 rc1)
    obtain ⟨rc0, rc1⟩ := cs2 (L1.out)
    (try clear lc0 lc1)
    obtain ⟨lc0, lc1⟩ := cs2 (L5.out)
    clear hb
    repeat' (first | (refine h_off gt_ (by rfl) ?_; intro a_ ha_; (simp only [Act.put, pu1, pu2, pu3] at ha_); subst ha_) | (refine h_on (v := ?_) gt_ (by rfl) ?_ ?_; rotate_left; (· rintro w_ hS_; obtain ⟨gc0_, gc1_⟩ := cs2 (kb_blk hS_ ZL0.out (by have := HG.out; have := Hg5.out; have := HG1.out; omega) (fun e => by have := Option.some.inj e; have := HG.out; have := Hg5.out; have := HG1.out; omega)); obtain ⟨rc0_, rc1_⟩ := cs2 (kb_blk hS_ ZL1.out (by have := HG.out; have := Hg5.out; have := HG1.out; omega) (fun e => by have := Option.some.inj e; have := HG.out; have := Hg5.out; have := HG1.out; omega)); obtain ⟨lc0_, lc1_⟩ := cs2 (kb_blk hS_ ZL5.out (by have := HG.out; have := Hg5.out; have := HG1.out; omega) (fun e => by have := Option.some.inj e; have := HG.out; have := Hg5.out; have := HG1.out; omega)); go_simp; with_reducible rfl); intro a_ ha_; (simp only [Act.put, pu1, pu2, pu3] at ha_); subst ha_) | (refine h_call2 (f := 81) (args := #[.pointer (some ⟨G, 0, none⟩), .int .i64 (ns.length : Int)]) Tryz.func81 (by kernel_rfl) rfl gt_ (by rfl) (by rfl) mp_ ?_; (refine (draw_lift (lim := 999980) (fun q hq hl => pick_any b G q _ _ hq (by omega)) HD.out (by have := HP.out; omega)).mono ?_); rintro e_ u_ ⟨⟨k, rfl, hm_⟩, hd, hg⟩; have HM := Aside0.mk (hm_ HX1.out); clear hm_; (first | (replace LT := Aside0.mk (blk_g hg LT.out (by have := HG.out; have := Hgl.out; omega))) | skip); have q1_ : (k : Int) < (ns.length : Int) := HM.out; have hap_ : (⟨g1, 0, none⟩ : Addr).add (k * 2) = ⟨g1, k * 2, none⟩ := add_plain g1 (k * 2); replace HD := Aside0.mk hd; replace L0 := Aside0.mk (blk_g hg L0.out (by have := HG.out; have := Hg5.out; have := HG1.out; omega)); replace L1 := Aside0.mk (blk_g hg L1.out (by have := HG.out; have := Hg5.out; have := HG1.out; omega)); replace L5 := Aside0.mk (blk_g hg L5.out (by have := HG.out; have := Hg5.out; have := HG1.out; omega)); replace RN := Aside0.mk (R_farN (RN.out) hg (fun k hk e => by have h1 := Kd.R_base (RN.out) k hk; have := Option.some.inj e; have := HG.out; omega)); replace RE := Aside0.mk (R_farE (RE.out) hg (fun k hk e => by have h1 := Kd.R_base (RE.out) k hk; have := Option.some.inj e; have := HG.out; omega)); (try clear gc0 gc1); obtain ⟨gc0, gc1⟩ := cs2 (L0.out); (try clear rc0 rc1); obtain ⟨rc0, rc1⟩ := cs2 (L1.out); (try clear lc0 lc1); obtain ⟨lc0, lc1⟩ := cs2 (L5.out); replace hS := kb_grown hS hg (fun k _ e => .inl (Option.some.inj e)); refine ⟨_, rfl, hS, fun a_ ha_ => ?_⟩; (simp only [Act.put, pu1, pu2, pu3] at ha_); subst ha_; clear hd hg) | (refine h_lit #[.int .i64 (-1), .int .i64 41, .int .i64 39] 3 3 gt_ (by rfl) (by go_simp; (first | done | rfl)) (kb_grown hS (grown_of_below (below_alloc (Below.refl _ _) _) none) (fun k _ e => by cases e)) ?_; intro gl u_ hge_ hb0_ hb hS_ a_ ha_; (simp only [Act.put, pu1, pu2, pu3] at ha_); subst ha_; have Hgl := Aside0.mk (show w.heap.size ≤ gl from Nat.le_trans HD.out.le hge_); have LT := Aside0.mk hb0_; replace HD := Aside0.mk (HD.out.below hb); replace L0 := Aside0.mk (blk_below L0.out hb); replace L1 := Aside0.mk (blk_below L1.out hb); replace L5 := Aside0.mk (blk_below L5.out hb); replace RN := Aside0.mk (Kd.R_below (RN.out) hb); replace RE := Aside0.mk (Kd.R_below (RE.out) hb); (try clear gc0 gc1); obtain ⟨gc0, gc1⟩ := cs2 (L0.out); (try clear rc0 rc1); obtain ⟨rc0, rc1⟩ := cs2 (L1.out); (try clear lc0 lc1); obtain ⟨lc0, lc1⟩ := cs2 (L5.out); replace hS := hS_; clear hge_ hb0_ hb hS_) | (refine h_call2 (f := 82) (args := #[.pointer (some ⟨G, 0, none⟩), .slice (some ⟨gl, 0, none⟩) 3 3]) Tryz.func82 (by kernel_rfl) rfl gt_ (by rfl) (by rfl) mp_ ?_; (refine (draw_lift (lim := 999980) (fun q hq hl => num_any b G q _ _ [(-1), 41, 39] 3 _ hq (by omega) (C_lit [(-1), 41, 39] LT.out rfl (by decide)) rfl (by decide) (by decide) (fun ad e => by cases e; show gl ≠ G; have := HG.out; have := Hgl.out; omega)) HD.out (by have := HP.out; omega)).mono ?_); rintro e_ u_ ⟨⟨v, -, rfl⟩, hd, hg⟩; replace HD := Aside0.mk hd; replace L0 := Aside0.mk (blk_g hg L0.out (by have := HG.out; have := Hg5.out; have := HG1.out; omega)); replace L1 := Aside0.mk (blk_g hg L1.out (by have := HG.out; have := Hg5.out; have := HG1.out; omega)); replace L5 := Aside0.mk (blk_g hg L5.out (by have := HG.out; have := Hg5.out; have := HG1.out; omega)); replace RN := Aside0.mk (R_farN (RN.out) hg (fun k hk e => by have h1 := Kd.R_base (RN.out) k hk; have := Option.some.inj e; have := HG.out; omega)); replace RE := Aside0.mk (R_farE (RE.out) hg (fun k hk e => by have h1 := Kd.R_base (RE.out) k hk; have := Option.some.inj e; have := HG.out; omega)); (try clear gc0 gc1); obtain ⟨gc0, gc1⟩ := cs2 (L0.out); (try clear rc0 rc1); obtain ⟨rc0, rc1⟩ := cs2 (L1.out); (try clear lc0 lc1); obtain ⟨lc0, lc1⟩ := cs2 (L5.out); replace hS := kb_grown hS hg (fun k _ e => .inl (Option.some.inj e)); refine ⟨_, rfl, hS, fun a_ ha_ => ?_⟩; (simp only [Act.put, pu1, pu2, pu3] at ha_); subst ha_; clear hd hg) | (refine h_cellI g1 (k * 2 + 1) .i64 v gt_ (by rfl) rfl (by first | rfl | (go_simp; done)) rfl (own_cellN RN.out k (by have := HM.out; omega)).1 (own_cellN RN.out k (by have := HM.out; omega)).2 (by kernel_rfl) (kb_grown hS (grown_setCell _ g1 (k * 2 + 1) (.int .i64 v)) (fun k hk e => .inr e)) ?_; intro a_ ha_; (simp only [Act.put, pu1, pu2, pu3] at ha_); subst ha_; refine named _ ?_; intro wz hwz; have hS9 := kb_grown hS (grown_setCell _ g1 (k * 2 + 1) (.int .i64 v)) (fun k hk e => .inr e); rw [← hwz] at hS9; replace hS := hS9; clear hS9; have hs_ := setN RN.out k (by have := HM.out; omega) v; rw [← hwz] at hs_; have hg := hs_.2; replace RN := Aside0.mk hs_.1; replace RE := Aside0.mk (R_farE RE.out hg (fun k hk e => OF.out k e.symm hk)); replace L0 := Aside0.mk (blk_g hg L0.out (by have := HG1.out; omega)); replace L1 := Aside0.mk (blk_g hg L1.out (by have := HG1.out; omega)); replace L5 := Aside0.mk (blk_g hg L5.out (by have := HG1.out; omega)); replace HD := Aside0.mk (HD.out.over hg (by have := HG.out; have := HG1.out; omega) (by have := HG1.out; omega)); clear hs_ hg; clear hwz) | refine h_fork ?_ ?_)
    all_goals
     refine h_fin ?_
     go_wp2_with (fail)
     go_meet
     exact bent_of L0.out L1.out L5.out RN.out RE.out (by simp; try omega) (by simp; try omega) HD.out (by omega)
   ·have hl1 : ¬ (0 : Int) < (ns.length : Int) := by omega
    go_wp2_with (fail)
    go_meet
    exact bent_of L0.out L1.out L5.out RN.out RE.out (by omega) (by omega) HD.out (by omega)
  ·by_cases z1 : z = 1
   ·subst z1
    by_cases hlen : 0 < ns.length
    ·have hl1 : (0 : Int) < (ns.length : Int) := by omega
     obtain ⟨g1, rfl⟩ := own_addrN RN.out hlen
     have HG1 := Aside0.mk (show w.heap.size + 2 ≤ g1 ∧ g1 < g5 from ⟨Kd.R_base RN.out g1 rfl, HLT.out.1 g1 rfl⟩)
     obtain ⟨ad_, e_, y0, y1⟩ := nd_at (Kd.R_reads' RN.out).2.2 0 hlen
     obtain rfl : (⟨g1, 0, none⟩ : Addr) = ad_ := Option.some.inj e_
     clear e_
     simp only [Nat.zero_mul, add_plain, Nat.zero_add] at y0 y1
     generalize at_ ns 0 = y at y0 y1
     go_wp2_with (fail)
     have ZL0 := L0
     have ZL1 := L1
     have ZL5 := L5
     refine region_kp G none [7, 9] sBe10 (by kernel_rfl) sBe10_ok (by decide) (fun d _ _ _ _ h => by cases d <;> exact h) ?_
     intro u hb hS
     replace HD := Aside0.mk (HD.out.below hb)
     replace L0 := Aside0.mk (blk_below L0.out hb)
     replace L1 := Aside0.mk (blk_below L1.out hb)
     replace L5 := Aside0.mk (blk_below L5.out hb)
     replace RN := Aside0.mk (Kd.R_below (RN.out) hb)
     replace RE := Aside0.mk (Kd.R_below (RE.out) hb)
     (try clear gc0 gc1)
     obtain ⟨gc0, gc1⟩ := cs2 (L0.out)
     (try clear rc0 rc1)
     obtain ⟨rc0, rc1⟩ := cs2 (L1.out)
     (try clear lc0 lc1)
     obtain ⟨lc0, lc1⟩ := cs2 (L5.out)
     clear hb
     repeat (first | (refine p_off hS gt_ (by rfl) ?_; intro a_ ha_; (simp only [Act.put, pu1, pu2, pu3] at ha_); subst ha_) | (refine p_on (v := ?_) hS gt_ (by rfl) ?_ ?_; rotate_left; (· rintro w_ hS_; obtain ⟨gc0_, gc1_⟩ := cs2 (kb_blk hS_ ZL0.out (by have := HG.out; have := Hg5.out; have := HG1.out; omega) (fun e => by cases e)); obtain ⟨rc0_, rc1_⟩ := cs2 (kb_blk hS_ ZL1.out (by have := HG.out; have := Hg5.out; have := HG1.out; omega) (fun e => by cases e)); obtain ⟨lc0_, lc1_⟩ := cs2 (kb_blk hS_ ZL5.out (by have := HG.out; have := Hg5.out; have := HG1.out; omega) (fun e => by cases e)); have hr_ : w_.cell? ⟨g1, 0, none⟩ = some (.int .i64 y.lab) ∧ w_.cell? ⟨g1, 1, none⟩ = some (.int .i64 y.num) := kb_nd (a := ⟨g1, 0, none⟩) hS_ y0 y1 (show g1 ≠ G by have := HG.out; have := HG1.out; omega) (fun e => by cases e); obtain ⟨y0_, y1_⟩ := hr_; go_simp; with_reducible rfl); intro a_ ha_; (simp only [Act.put, pu1, pu2, pu3] at ha_); subst ha_) | (refine p_poff gt_ (by rfl) ?_; intro a_ ha_; (simp only [Act.put, pu1, pu2, pu3] at ha_); subst ha_) | (refine p_pon (v := ?_) gt_ (by rfl) ?_ ?_; rotate_left; (· go_simp; with_reducible rfl); intro a_ ha_; (simp only [Act.put, pu1, pu2, pu3] at ha_); subst ha_) | (refine p_ooff hS gt_ (by rfl) ?_; intro a_ ha_; (simp only [Act.put, pu1, pu2, pu3] at ha_); subst ha_) | (refine p_loff gt_ (by rfl) ?_; intro a_ ha_; (simp only [Act.put, pu1, pu2, pu3] at ha_); subst ha_) | (refine p_lit #[.int .i64 y.lab, .int .i64 y.num] 28 1 gt_ (by rfl) (by go_simp; (first | done | rfl)) (kb_grown hS (grown_of_below (below_alloc (Below.refl _ _) _) none) (fun k _ e => by cases e)) ?_; intro gl u_ hge_ hb0_ hb hS_ a_ ha_; (simp only [Act.put, pu1, pu2, pu3] at ha_); subst ha_; have LT := Aside0.mk hb0_; replace HD := Aside0.mk (HD.out.below hb); replace L0 := Aside0.mk (blk_below L0.out hb); replace L1 := Aside0.mk (blk_below L1.out hb); replace L5 := Aside0.mk (blk_below L5.out hb); replace RN := Aside0.mk (Kd.R_below (RN.out) hb); replace RE := Aside0.mk (Kd.R_below (RE.out) hb); (try clear gc0 gc1); obtain ⟨gc0, gc1⟩ := cs2 (L0.out); (try clear rc0 rc1); obtain ⟨rc0, rc1⟩ := cs2 (L1.out); (try clear lc0 lc1); obtain ⟨lc0, lc1⟩ := cs2 (L5.out); replace hS := hS_; clear hge_ hb0_ hb hS_) | (refine p_appendL flatN (base := w.heap.size + 2) (.agg #[(.int .i64 0), (.int .i64 0)]) 16 (.slice (some ⟨g1, 0, none⟩) ns.length c1) ns [y] (some ⟨gl, 0, none⟩) 1 1 gt_ (by rfl) rfl Tryz.underlying23 infoN rfl (by decide) rfl rfl RN.out (one_rowN LT.out) (by have := blk_lt L5.out; have := HG1.out; omega) (by omega) ?_; intro A2 n2 p2 w1 hn2_ hc2_ hr_ hg_ ho_ a_ ha_; (simp only [Act.put, pu1, pu2, pu3] at ha_); subst ha_; have hg : World.grownBy _ w1 (some g1) := hg_; replace RE := Aside0.mk (R_farE RE.out hg (fun k hk e => OF.out k e.symm hk)); replace RN := Aside0.mk hr_; have L5z := L5; replace L0 := Aside0.mk (blk_g hg L0.out (by have := HG1.out; omega)); replace L1 := Aside0.mk (blk_g hg L1.out (by have := HG1.out; omega)); replace L5 := Aside0.mk (blk_g hg L5.out (by have := HG1.out; omega)); replace HD := Aside0.mk (HD.out.over (g := g1) hg (by have := HG.out; have := HG1.out; omega) (by have := HG1.out; omega)); have HN2 := Aside0.mk (show ∀ k, (Value.slice A2 n2 p2).ownBlock = some k → k ≠ g5 from fun k hk => by rcases ho_ with e | ⟨b, e, hb⟩; rw [e] at hk; have h9 : g1 = k := Option.some.inj hk; have := HG1.out; omega; rw [e] at hk; have h9 := Option.some.inj hk; have := blk_lt L5z.out; omega); clear hn2_ hc2_ hr_ hg hg_ ho_) | (refine p_last gt_ (by rfl) fun K_ hK_ => ?_; refine wp_part _ _ _ rfl (g5) 0 (.slice A2 n2 p2) rfl rfl _ _ #[.slice A2 n2 p2, .slice B1 es.length d1] L5.out (by kernel_rfl) (by simp [Value.cells]) rfl (by simp [Value.cells]) (by simp [Value.cells, Value.oneCell']) (hK_ _ _ ?_); (try simp only [Act.put, pu1, pu2, pu3]); refine named _ ?_; intro wz hwz; have HDz := HD.out.over (grown_setRow _ (g5) #[.slice A2 n2 p2, .slice B1 es.length d1]) (by have := HG.out; have := Hg5.out; have := HG1.out; omega) (by have := HG.out; have := Hg5.out; have := HG1.out; omega); rw [← hwz] at HDz; replace HD := Aside0.mk HDz; clear HDz; replace L0 := Aside0.mk (so_ hwz L0.out (by have := HG.out; have := Hg5.out; have := HG1.out; omega)); replace L1 := Aside0.mk (so_ hwz L1.out (by have := HG.out; have := Hg5.out; have := HG1.out; omega)); replace L5 := Aside0.mk (sh_ hwz L5.out); replace RN := Aside0.mk (show kN.R 28 wz (w.heap.size + 2) (fun _ => True) (.slice A2 n2 p2) (ns ++ [y]) by rw [hwz]; exact R_farN (RN.out) (grown_setRow _ _ _) (fun k hk e => HN2.out k hk (Option.some.inj e))); replace RE := Aside0.mk (show kE.R 30 wz (w.heap.size + 2) (fun _ => True) (.slice B1 es.length d1) es by rw [hwz]; exact R_farE (RE.out) (grown_setRow _ _ _) (fun k hk e => by have := HLT.out.2 k hk; have := Option.some.inj e; omega)); (try clear gc0 gc1); obtain ⟨gc0, gc1⟩ := cs2 (L0.out); (try clear rc0 rc1); obtain ⟨rc0, rc1⟩ := cs2 (L1.out); (try clear lc0 lc1); obtain ⟨lc0, lc1⟩ := cs2 (L5.out); clear hwz))
     skip
     refine p_fin ?_
     go_wp2_with (fail)
     go_meet
     exact bent_of L0.out L1.out L5.out RN.out RE.out (by simp; try omega) (by simp; try omega) HD.out (by omega)
    ·have hl1 : ¬ (0 : Int) < (ns.length : Int) := by omega
     go_wp2_with (fail)
     go_meet
     exact bent_of L0.out L1.out L5.out RN.out RE.out (by omega) (by omega) HD.out (by omega)
   ·by_cases z2 : z = 2
    ·subst z2
     by_cases hlen : 0 < ns.length
     ·have hl1 : (0 : Int) < (ns.length : Int) := by omega
      obtain ⟨g1, rfl⟩ := own_addrN RN.out hlen
      have HG1 := Aside0.mk (show w.heap.size + 2 ≤ g1 ∧ g1 < g5 from ⟨Kd.R_base RN.out g1 rfl, HLT.out.1 g1 rfl⟩)
      have hcp := (Kd.R_reads' RN.out).2.1
      have HX := Aside0.mk (Kd.C_drop (m := 1) (c := c1) (Kd.R_reads' RN.out).2.2 hlen hcp)
      by_cases hc : c1 = 1
      ·subst hc
       have HGX := Aside0.mk (GR.mk (A := some ⟨g1, 0, none⟩) (c := 0) (ns := []) ⟨rfl, by decide, fun h => absurd h (Nat.lt_irrefl 0)⟩ (Kd.R_reads' RE.out).2.2 (Nat.le_refl _) (Kd.R_reads' RE.out).2.1)
       go_wp2_with (first | ((with_reducible refine gate_store (p := 53) rfl ?_); go_must ((refine wpList_plain rfl fun K_ hK_ => wp_part _ _ _ rfl (g5) 0 (.slice (some ⟨g1, 0, none⟩) (0) (0)) rfl rfl _ _ #[.slice (some ⟨g1, 0, none⟩) (0) (0), .slice B1 es.length d1] L5.out (by kernel_rfl) (by simp [Value.cells]) rfl (by simp [Value.cells]) (by simp [Value.cells, Value.oneCell']) (hK_ _ _ ?_)); refine named _ ?_; intro wz hwz; have HDz := HD.out.over (grown_setRow _ (g5) #[.slice (some ⟨g1, 0, none⟩) (0) (0), .slice B1 es.length d1]) (by have := HG.out; have := Hg5.out; have := HG1.out; omega) (by have := HG.out; have := Hg5.out; have := HG1.out; omega); rw [← hwz] at HDz; replace HD := Aside0.mk HDz; clear HDz; replace L0 := Aside0.mk (so_ hwz L0.out (by have := HG.out; have := Hg5.out; have := HG1.out; omega)); replace L1 := Aside0.mk (so_ hwz L1.out (by have := HG.out; have := Hg5.out; have := HG1.out; omega)); replace L5 := Aside0.mk (sh_ hwz L5.out); replace RE := Aside0.mk (show kE.R 30 wz (w.heap.size + 2) (fun _ => True) (.slice B1 es.length d1) es by rw [hwz]; exact R_farE (RE.out) (grown_setRow _ _ _) (fun k hk e => by have := HLT.out.2 k hk; have := Option.some.inj e; omega)); replace HGX := Aside0.mk (show GR wz (some ⟨g1, 0, none⟩) (0) (([] : List Nd)) B1 d1 es by rw [hwz]; exact (HGX.out).keep (grown_setRow _ _ _) (fun _ ad e => by cases e; show g1 ≠ g5; have := HG1.out; omega) (fun _ ad e => by have := HLT.out.2 ad.block (by rw [e]; rfl); omega)); (try clear gc0 gc1); obtain ⟨gc0, gc1⟩ := cs2 (L0.out); (try clear rc0 rc1); obtain ⟨rc0, rc1⟩ := cs2 (L1.out); (try clear lc0 lc1); obtain ⟨lc0, lc1⟩ := cs2 (L5.out); clear hwz)))
       go_meet
       exact ⟨(some ⟨g1, 0, none⟩), 0, ([] : List Nd), B1, d1, es, L0.out, L1.out, L5.out, HGX.out, fun a e => by cases e; show w.heap.size + 2 ≤ g1; have := HG1.out; omega, fresh_RE RE.out, by simp; try omega, by omega, HD.out.mono (by omega)⟩
      ·have hq : (1 : Int) ≤ (c1 : Int) := by omega
       have HGX := Aside0.mk (GR.mk (A := some ⟨g1, 2, none⟩) (c := c1 - 1) (ns := ns.drop 1) (by have h := HX.out; rw [if_neg hc] at h; exact h) (Kd.R_reads' RE.out).2.2 (by simp; omega) (Kd.R_reads' RE.out).2.1)
       go_wp2_with (first | ((with_reducible refine gate_store (p := 53) rfl ?_); go_must ((refine wpList_plain rfl fun K_ hK_ => wp_part _ _ _ rfl (g5) 0 (.slice (some ⟨g1, 2, none⟩) (ns.length - 1) (c1 - 1)) rfl rfl _ _ #[.slice (some ⟨g1, 2, none⟩) (ns.length - 1) (c1 - 1), .slice B1 es.length d1] L5.out (by kernel_rfl) (by simp [Value.cells]) rfl (by simp [Value.cells]) (by simp [Value.cells, Value.oneCell']) (hK_ _ _ ?_)); refine named _ ?_; intro wz hwz; have HDz := HD.out.over (grown_setRow _ (g5) #[.slice (some ⟨g1, 2, none⟩) (ns.length - 1) (c1 - 1), .slice B1 es.length d1]) (by have := HG.out; have := Hg5.out; have := HG1.out; omega) (by have := HG.out; have := Hg5.out; have := HG1.out; omega); rw [← hwz] at HDz; replace HD := Aside0.mk HDz; clear HDz; replace L0 := Aside0.mk (so_ hwz L0.out (by have := HG.out; have := Hg5.out; have := HG1.out; omega)); replace L1 := Aside0.mk (so_ hwz L1.out (by have := HG.out; have := Hg5.out; have := HG1.out; omega)); replace L5 := Aside0.mk (sh_ hwz L5.out); replace RE := Aside0.mk (show kE.R 30 wz (w.heap.size + 2) (fun _ => True) (.slice B1 es.length d1) es by rw [hwz]; exact R_farE (RE.out) (grown_setRow _ _ _) (fun k hk e => by have := HLT.out.2 k hk; have := Option.some.inj e; omega)); replace HGX := Aside0.mk (show GR wz (some ⟨g1, 2, none⟩) (c1 - 1) (ns.drop 1) B1 d1 es by rw [hwz]; exact (HGX.out).keep (grown_setRow _ _ _) (fun _ ad e => by cases e; show g1 ≠ g5; have := HG1.out; omega) (fun _ ad e => by have := HLT.out.2 ad.block (by rw [e]; rfl); omega)); (try clear gc0 gc1); obtain ⟨gc0, gc1⟩ := cs2 (L0.out); (try clear rc0 rc1); obtain ⟨rc0, rc1⟩ := cs2 (L1.out); (try clear lc0 lc1); obtain ⟨lc0, lc1⟩ := cs2 (L5.out); clear hwz)))
       go_meet
       exact ⟨(some ⟨g1, 2, none⟩), c1 - 1, ns.drop 1, B1, d1, es, L0.out, L1.out, by simpa using L5.out, HGX.out, fun a e => by cases e; show w.heap.size + 2 ≤ g1; have := HG1.out; omega, fresh_RE RE.out, by simp; try omega, by omega, HD.out.mono (by omega)⟩
     ·have hl1 : ¬ (0 : Int) < (ns.length : Int) := by omega
      go_wp2_with (fail)
      go_meet
      exact bent_of L0.out L1.out L5.out RN.out RE.out (by omega) (by omega) HD.out (by omega)
    ·by_cases z3 : z = 3
     ·subst z3
      by_cases hlen : 0 < es.length
      ·have hl1 : (0 : Int) < (es.length : Int) := by omega
       obtain ⟨g1, rfl⟩ := own_addrE RE.out hlen
       have HG1 := Aside0.mk (show w.heap.size + 2 ≤ g1 ∧ g1 < g5 from ⟨Kd.R_base RE.out g1 rfl, HLT.out.2 g1 rfl⟩)
       have HX1 := Aside0.mk (show (1 : Int) ≤ (es.length : Int) by omega)
       go_wp2_with (fail)
       have ZL0 := L0
       have ZL1 := L1
       have ZL5 := L5
       refine region_kt G (some g1) sBe16 sBe16T (by kernel_rfl) sBe16_ok (by decide) (fun d _ _ _ _ h => by cases d <;> exact h) ?_
       intro u hb hS
       replace HD := Aside0.mk (HD.out.below hb)
       replace L0 := Aside0.mk (blk_below L0.out hb)
       replace L1 := Aside0.mk (blk_below L1.out hb)
       replace L5 := Aside0.mk (blk_below L5.out hb)
       replace RN := Aside0.mk (Kd.R_below (RN.out) hb)
       replace RE := Aside0.mk (Kd.R_below (RE.out) hb)
       (try clear gc0 gc1)
       obtain ⟨gc0, gc1⟩ := cs2 (L0.out)
       (try clear rc0 rc1)
       obtain ⟨rc0, rc1⟩ := cs2 (L1.out)
       (try clear lc0 lc1)
       obtain ⟨lc0, lc1⟩ := cs2 (L5.out)
       clear hb
       repeat' (first | (refine h_off gt_ (by rfl) ?_; intro a_ ha_; (simp only [Act.put, pu1, pu2, pu3] at ha_); subst ha_) | (refine h_on (v := ?_) gt_ (by rfl) ?_ ?_; rotate_left; (· rintro w_ hS_; obtain ⟨gc0_, gc1_⟩ := cs2 (kb_blk hS_ ZL0.out (by have := HG.out; have := Hg5.out; have := HG1.out; omega) (fun e => by have := Option.some.inj e; have := HG.out; have := Hg5.out; have := HG1.out; omega)); obtain ⟨rc0_, rc1_⟩ := cs2 (kb_blk hS_ ZL1.out (by have := HG.out; have := Hg5.out; have := HG1.out; omega) (fun e => by have := Option.some.inj e; have := HG.out; have := Hg5.out; have := HG1.out; omega)); obtain ⟨lc0_, lc1_⟩ := cs2 (kb_blk hS_ ZL5.out (by have := HG.out; have := Hg5.out; have := HG1.out; omega) (fun e => by have := Option.some.inj e; have := HG.out; have := Hg5.out; have := HG1.out; omega)); go_simp; with_reducible rfl); intro a_ ha_; (simp only [Act.put, pu1, pu2, pu3] at ha_); subst ha_) | (refine h_call2 (f := 81) (args := #[.pointer (some ⟨G, 0, none⟩), .int .i64 (es.length : Int)]) Tryz.func81 (by kernel_rfl) rfl gt_ (by rfl) (by rfl) mp_ ?_; (refine (draw_lift (lim := 999980) (fun q hq hl => pick_any b G q _ _ hq (by omega)) HD.out (by have := HP.out; omega)).mono ?_); rintro e_ u_ ⟨⟨k, rfl, hm_⟩, hd, hg⟩; have HM := Aside0.mk (hm_ HX1.out); clear hm_; (first | (replace LT := Aside0.mk (blk_g hg LT.out (by have := HG.out; have := Hgl.out; omega))) | skip); have q1_ : (k : Int) < (es.length : Int) := HM.out; have hap_ : (⟨g1, 0, none⟩ : Addr).add (k * 5) = ⟨g1, k * 5, none⟩ := add_plain g1 (k * 5); replace HD := Aside0.mk hd; replace L0 := Aside0.mk (blk_g hg L0.out (by have := HG.out; have := Hg5.out; have := HG1.out; omega)); replace L1 := Aside0.mk (blk_g hg L1.out (by have := HG.out; have := Hg5.out; have := HG1.out; omega)); replace L5 := Aside0.mk (blk_g hg L5.out (by have := HG.out; have := Hg5.out; have := HG1.out; omega)); replace RN := Aside0.mk (R_farN (RN.out) hg (fun k hk e => by have h1 := Kd.R_base (RN.out) k hk; have := Option.some.inj e; have := HG.out; omega)); replace RE := Aside0.mk (R_farE (RE.out) hg (fun k hk e => by have h1 := Kd.R_base (RE.out) k hk; have := Option.some.inj e; have := HG.out; omega)); (try clear gc0 gc1); obtain ⟨gc0, gc1⟩ := cs2 (L0.out); (try clear rc0 rc1); obtain ⟨rc0, rc1⟩ := cs2 (L1.out); (try clear lc0 lc1); obtain ⟨lc0, lc1⟩ := cs2 (L5.out); replace hS := kb_grown hS hg (fun k _ e => .inl (Option.some.inj e)); refine ⟨_, rfl, hS, fun a_ ha_ => ?_⟩; (simp only [Act.put, pu1, pu2, pu3] at ha_); subst ha_; clear hd hg) | (refine h_lit #[.int .i64 0, .int .i64 8, .int .i64 (-1), .int .i64 7] 3 4 gt_ (by rfl) (by go_simp; (first | done | rfl)) (kb_grown hS (grown_of_below (below_alloc (Below.refl _ _) _) none) (fun k _ e => by cases e)) ?_; intro gl u_ hge_ hb0_ hb hS_ a_ ha_; (simp only [Act.put, pu1, pu2, pu3] at ha_); subst ha_; have Hgl := Aside0.mk (show w.heap.size ≤ gl from Nat.le_trans HD.out.le hge_); have LT := Aside0.mk hb0_; replace HD := Aside0.mk (HD.out.below hb); replace L0 := Aside0.mk (blk_below L0.out hb); replace L1 := Aside0.mk (blk_below L1.out hb); replace L5 := Aside0.mk (blk_below L5.out hb); replace RN := Aside0.mk (Kd.R_below (RN.out) hb); replace RE := Aside0.mk (Kd.R_below (RE.out) hb); (try clear gc0 gc1); obtain ⟨gc0, gc1⟩ := cs2 (L0.out); (try clear rc0 rc1); obtain ⟨rc0, rc1⟩ := cs2 (L1.out); (try clear lc0 lc1); obtain ⟨lc0, lc1⟩ := cs2 (L5.out); replace hS := hS_; clear hge_ hb0_ hb hS_) | (refine h_call2 (f := 82) (args := #[.pointer (some ⟨G, 0, none⟩), .slice (some ⟨gl, 0, none⟩) 4 4]) Tryz.func82 (by kernel_rfl) rfl gt_ (by rfl) (by rfl) mp_ ?_; (refine (draw_lift (lim := 999980) (fun q hq hl => num_any b G q _ _ [0, 8, (-1), 7] 4 _ hq (by omega) (C_lit [0, 8, (-1), 7] LT.out rfl (by decide)) rfl (by decide) (by decide) (fun ad e => by cases e; show gl ≠ G; have := HG.out; have := Hgl.out; omega)) HD.out (by have := HP.out; omega)).mono ?_); rintro e_ u_ ⟨⟨v, -, rfl⟩, hd, hg⟩; replace HD := Aside0.mk hd; replace L0 := Aside0.mk (blk_g hg L0.out (by have := HG.out; have := Hg5.out; have := HG1.out; omega)); replace L1 := Aside0.mk (blk_g hg L1.out (by have := HG.out; have := Hg5.out; have := HG1.out; omega)); replace L5 := Aside0.mk (blk_g hg L5.out (by have := HG.out; have := Hg5.out; have := HG1.out; omega)); replace RN := Aside0.mk (R_farN (RN.out) hg (fun k hk e => by have h1 := Kd.R_base (RN.out) k hk; have := Option.some.inj e; have := HG.out; omega)); replace RE := Aside0.mk (R_farE (RE.out) hg (fun k hk e => by have h1 := Kd.R_base (RE.out) k hk; have := Option.some.inj e; have := HG.out; omega)); (try clear gc0 gc1); obtain ⟨gc0, gc1⟩ := cs2 (L0.out); (try clear rc0 rc1); obtain ⟨rc0, rc1⟩ := cs2 (L1.out); (try clear lc0 lc1); obtain ⟨lc0, lc1⟩ := cs2 (L5.out); replace hS := kb_grown hS hg (fun k _ e => .inl (Option.some.inj e)); refine ⟨_, rfl, hS, fun a_ ha_ => ?_⟩; (simp only [Act.put, pu1, pu2, pu3] at ha_); subst ha_; clear hd hg) | (refine h_cellI g1 (k * 5) .i64 v gt_ (by rfl) rfl (by first | rfl | (go_simp; done)) rfl (own_cellE RE.out k (by have := HM.out; omega)).1 (own_cellE RE.out k (by have := HM.out; omega)).2 (by kernel_rfl) (kb_grown hS (grown_setCell _ g1 (k * 5) (.int .i64 v)) (fun k hk e => .inr e)) ?_; intro a_ ha_; (simp only [Act.put, pu1, pu2, pu3] at ha_); subst ha_; refine named _ ?_; intro wz hwz; have hS9 := kb_grown hS (grown_setCell _ g1 (k * 5) (.int .i64 v)) (fun k hk e => .inr e); rw [← hwz] at hS9; replace hS := hS9; clear hS9; have hs_ := setE RE.out k (by have := HM.out; omega) v; rw [← hwz] at hs_; have hg := hs_.2; replace RE := Aside0.mk hs_.1; replace RN := Aside0.mk (R_farN RN.out hg (fun k hk e => OF.out k hk e.symm)); replace L0 := Aside0.mk (blk_g hg L0.out (by have := HG1.out; omega)); replace L1 := Aside0.mk (blk_g hg L1.out (by have := HG1.out; omega)); replace L5 := Aside0.mk (blk_g hg L5.out (by have := HG1.out; omega)); replace HD := Aside0.mk (HD.out.over hg (by have := HG.out; have := HG1.out; omega) (by have := HG1.out; omega)); clear hs_ hg; clear hwz) | refine h_fork ?_ ?_)
       all_goals
        refine h_fin ?_
        go_wp2_with (fail)
        go_meet
        exact bent_of L0.out L1.out L5.out RN.out RE.out (by simp; try omega) (by simp; try omega) HD.out (by omega)
      ·have hl1 : ¬ (0 : Int) < (es.length : Int) := by omega
       go_wp2_with (fail)
       go_meet
       exact bent_of L0.out L1.out L5.out RN.out RE.out (by omega) (by omega) HD.out (by omega)
     ·by_cases z4 : z = 4
      ·subst z4
       by_cases hlen : 0 < es.length
       ·have hl1 : (0 : Int) < (es.length : Int) := by omega
        obtain ⟨g1, rfl⟩ := own_addrE RE.out hlen
        have HG1 := Aside0.mk (show w.heap.size + 2 ≤ g1 ∧ g1 < g5 from ⟨Kd.R_base RE.out g1 rfl, HLT.out.2 g1 rfl⟩)
        obtain ⟨ad_, e_, y0, y1, y2, y3, y4⟩ := eg_at (Kd.R_reads' RE.out).2.2 0 hlen
        obtain rfl : (⟨g1, 0, none⟩ : Addr) = ad_ := Option.some.inj e_
        clear e_
        simp only [Nat.zero_mul, add_plain, Nat.zero_add] at y0 y1 y2 y3 y4
        generalize eat es 0 = y at y0 y1 y2 y3 y4
        go_wp2_with (fail)
        have ZL0 := L0
        have ZL1 := L1
        have ZL5 := L5
        refine region_kp G none [7, 9] sBe19 (by kernel_rfl) sBe19_ok (by decide) (fun d _ _ _ _ h => by cases d <;> exact h) ?_
        intro u hb hS
        replace HD := Aside0.mk (HD.out.below hb)
        replace L0 := Aside0.mk (blk_below L0.out hb)
        replace L1 := Aside0.mk (blk_below L1.out hb)
        replace L5 := Aside0.mk (blk_below L5.out hb)
        replace RN := Aside0.mk (Kd.R_below (RN.out) hb)
        replace RE := Aside0.mk (Kd.R_below (RE.out) hb)
        (try clear gc0 gc1)
        obtain ⟨gc0, gc1⟩ := cs2 (L0.out)
        (try clear rc0 rc1)
        obtain ⟨rc0, rc1⟩ := cs2 (L1.out)
        (try clear lc0 lc1)
        obtain ⟨lc0, lc1⟩ := cs2 (L5.out)
        clear hb
        repeat (first | (refine p_off hS gt_ (by rfl) ?_; intro a_ ha_; (simp only [Act.put, pu1, pu2, pu3] at ha_); subst ha_) | (refine p_on (v := ?_) hS gt_ (by rfl) ?_ ?_; rotate_left; (· rintro w_ hS_; obtain ⟨gc0_, gc1_⟩ := cs2 (kb_blk hS_ ZL0.out (by have := HG.out; have := Hg5.out; have := HG1.out; omega) (fun e => by cases e)); obtain ⟨rc0_, rc1_⟩ := cs2 (kb_blk hS_ ZL1.out (by have := HG.out; have := Hg5.out; have := HG1.out; omega) (fun e => by cases e)); obtain ⟨lc0_, lc1_⟩ := cs2 (kb_blk hS_ ZL5.out (by have := HG.out; have := Hg5.out; have := HG1.out; omega) (fun e => by cases e)); have hr_ : w_.cell? ⟨g1, 0, none⟩ = some (.int .i64 y.lab) ∧ w_.cell? ⟨g1, 1, none⟩ = some (.int .i64 y.a.lab) ∧ w_.cell? ⟨g1, 2, none⟩ = some (.int .i64 y.a.num) ∧ w_.cell? ⟨g1, 3, none⟩ = some (.int .i64 y.b.lab) ∧ w_.cell? ⟨g1, 4, none⟩ = some (.int .i64 y.b.num) := kb_eg (a := ⟨g1, 0, none⟩) hS_ y0 y1 y2 y3 y4 (show g1 ≠ G by have := HG.out; have := HG1.out; omega) (fun e => by cases e); obtain ⟨y0_, y1_, y2_, y3_, y4_⟩ := hr_; go_simp; with_reducible rfl); intro a_ ha_; (simp only [Act.put, pu1, pu2, pu3] at ha_); subst ha_) | (refine p_poff gt_ (by rfl) ?_; intro a_ ha_; (simp only [Act.put, pu1, pu2, pu3] at ha_); subst ha_) | (refine p_pon (v := ?_) gt_ (by rfl) ?_ ?_; rotate_left; (· go_simp; with_reducible rfl); intro a_ ha_; (simp only [Act.put, pu1, pu2, pu3] at ha_); subst ha_) | (refine p_ooff hS gt_ (by rfl) ?_; intro a_ ha_; (simp only [Act.put, pu1, pu2, pu3] at ha_); subst ha_) | (refine p_loff gt_ (by rfl) ?_; intro a_ ha_; (simp only [Act.put, pu1, pu2, pu3] at ha_); subst ha_) | (refine p_lit #[.int .i64 y.lab, .int .i64 y.a.lab, .int .i64 y.a.num, .int .i64 y.b.lab, .int .i64 y.b.num] 30 1 gt_ (by rfl) (by go_simp; (first | done | rfl)) (kb_grown hS (grown_of_below (below_alloc (Below.refl _ _) _) none) (fun k _ e => by cases e)) ?_; intro gl u_ hge_ hb0_ hb hS_ a_ ha_; (simp only [Act.put, pu1, pu2, pu3] at ha_); subst ha_; have LT := Aside0.mk hb0_; replace HD := Aside0.mk (HD.out.below hb); replace L0 := Aside0.mk (blk_below L0.out hb); replace L1 := Aside0.mk (blk_below L1.out hb); replace L5 := Aside0.mk (blk_below L5.out hb); replace RN := Aside0.mk (Kd.R_below (RN.out) hb); replace RE := Aside0.mk (Kd.R_below (RE.out) hb); (try clear gc0 gc1); obtain ⟨gc0, gc1⟩ := cs2 (L0.out); (try clear rc0 rc1); obtain ⟨rc0, rc1⟩ := cs2 (L1.out); (try clear lc0 lc1); obtain ⟨lc0, lc1⟩ := cs2 (L5.out); replace hS := hS_; clear hge_ hb0_ hb hS_) | (refine p_appendL flatE (base := w.heap.size + 2) (.agg #[(.int .i64 0), (.int .i64 0), (.int .i64 0), (.int .i64 0), (.int .i64 0)]) 40 (.slice (some ⟨g1, 0, none⟩) es.length d1) es [y] (some ⟨gl, 0, none⟩) 1 1 gt_ (by rfl) rfl Tryz.underlying24 infoE rfl (by decide) rfl rfl RE.out (one_rowE LT.out) (by have := blk_lt L5.out; have := HG1.out; omega) (by omega) ?_; intro A2 n2 p2 w1 hn2_ hc2_ hr_ hg_ ho_ a_ ha_; (simp only [Act.put, pu1, pu2, pu3] at ha_); subst ha_; have hg : World.grownBy _ w1 (some g1) := hg_; replace RN := Aside0.mk (R_farN RN.out hg (fun k hk e => OF.out k hk e.symm)); replace RE := Aside0.mk hr_; have L5z := L5; replace L0 := Aside0.mk (blk_g hg L0.out (by have := HG1.out; omega)); replace L1 := Aside0.mk (blk_g hg L1.out (by have := HG1.out; omega)); replace L5 := Aside0.mk (blk_g hg L5.out (by have := HG1.out; omega)); replace HD := Aside0.mk (HD.out.over (g := g1) hg (by have := HG.out; have := HG1.out; omega) (by have := HG1.out; omega)); have HN2 := Aside0.mk (show ∀ k, (Value.slice A2 n2 p2).ownBlock = some k → k ≠ g5 from fun k hk => by rcases ho_ with e | ⟨b, e, hb⟩; rw [e] at hk; have h9 : g1 = k := Option.some.inj hk; have := HG1.out; omega; rw [e] at hk; have h9 := Option.some.inj hk; have := blk_lt L5z.out; omega); clear hn2_ hc2_ hr_ hg hg_ ho_) | (refine p_last gt_ (by rfl) fun K_ hK_ => ?_; refine wp_part _ _ _ rfl (g5) 1 (.slice A2 n2 p2) rfl rfl _ _ #[.slice A1 ns.length c1, .slice A2 n2 p2] L5.out (by kernel_rfl) (by simp [Value.cells]) rfl (by simp [Value.cells]) (by simp [Value.cells, Value.oneCell']) (hK_ _ _ ?_); (try simp only [Act.put, pu1, pu2, pu3]); refine named _ ?_; intro wz hwz; have HDz := HD.out.over (grown_setRow _ (g5) #[.slice A1 ns.length c1, .slice A2 n2 p2]) (by have := HG.out; have := Hg5.out; have := HG1.out; omega) (by have := HG.out; have := Hg5.out; have := HG1.out; omega); rw [← hwz] at HDz; replace HD := Aside0.mk HDz; clear HDz; replace L0 := Aside0.mk (so_ hwz L0.out (by have := HG.out; have := Hg5.out; have := HG1.out; omega)); replace L1 := Aside0.mk (so_ hwz L1.out (by have := HG.out; have := Hg5.out; have := HG1.out; omega)); replace L5 := Aside0.mk (sh_ hwz L5.out); replace RE := Aside0.mk (show kE.R 30 wz (w.heap.size + 2) (fun _ => True) (.slice A2 n2 p2) (es ++ [y]) by rw [hwz]; exact R_farE (RE.out) (grown_setRow _ _ _) (fun k hk e => HN2.out k hk (Option.some.inj e))); replace RN := Aside0.mk (show kN.R 28 wz (w.heap.size + 2) (fun _ => True) (.slice A1 ns.length c1) ns by rw [hwz]; exact R_farN (RN.out) (grown_setRow _ _ _) (fun k hk e => by have := HLT.out.1 k hk; have := Option.some.inj e; omega)); (try clear gc0 gc1); obtain ⟨gc0, gc1⟩ := cs2 (L0.out); (try clear rc0 rc1); obtain ⟨rc0, rc1⟩ := cs2 (L1.out); (try clear lc0 lc1); obtain ⟨lc0, lc1⟩ := cs2 (L5.out); clear hwz))
        skip
        refine p_fin ?_
        go_wp2_with (fail)
        go_meet
        exact bent_of L0.out L1.out L5.out RN.out RE.out (by simp; try omega) (by simp; try omega) HD.out (by omega)
       ·have hl1 : ¬ (0 : Int) < (es.length : Int) := by omega
        go_wp2_with (fail)
        go_meet
        exact bent_of L0.out L1.out L5.out RN.out RE.out (by omega) (by omega) HD.out (by omega)
      ·by_cases z5 : z = 5
       ·subst z5
        have HLTB := Aside0.mk HLT.out.2
        go_wp2_with (fail)
        go_loopw [8] (fun s8 wr => BentL b w G p g5 A c ns B d es B1 d1 s8 wr) (fun s8 _ => (36 - intOf s8).toNat)
        case atStart => exact ⟨0, A1, c1, ns, by omega, rfl, L0.out, L1.out, L5.out, RN.out, RE.out, OF.out, fun k hk => by have := HLT.out.1 k hk; omega, rfl, HD.out⟩
        case round =>
         clear L0 L1 L5 RN RE HD OF
         obtain ⟨j, A2, c2, ms, hj, rfl, l0_, l1_, l5_, rn_, re_, of_, n5_, hml_, hd_⟩ := hrel
         have L0 := Aside0.mk l0_
         have L1 := Aside0.mk l1_
         have L5 := Aside0.mk l5_
         have RN := Aside0.mk rn_
         have RE := Aside0.mk re_
         have OF2 := Aside0.mk of_
         have HN5 := Aside0.mk n5_
         have HML := Aside0.mk (show ms.length ≤ 2000 by omega)
         have HMJ := Aside0.mk hml_
         have HD := Aside0.mk hd_
         obtain ⟨gc0, gc1⟩ := cs2 (L0.out)
         obtain ⟨rc0, rc1⟩ := cs2 (L1.out)
         obtain ⟨lc0, lc1⟩ := cs2 (L5.out)
         clear l0_ l1_ l5_ rn_ re_ of_ n5_ hml_ hd_
         by_cases hlt : j < 6
         ·have hq : (30 + (j : Int)) < 36 := by omega
          go_wp2_with (first | (go_at_call 83; go_must ((refine (sPutN_calls (w.heap.size + 2) A2 c2 ms B1 d1 es ⟨5, 30 + (j : Int)⟩ _ RN.out (by have := HML.out; omega) (by have := blk_lt L5.out; have := Hg5.out; omega)).mono ?_); rintro e u_ ⟨A3, c3, i3, hi_, rfl, hr_, -, ho_, hg_⟩; have HLZ := Aside0.mk (blk_lt L5.out); replace RE := Aside0.mk (R_farE RE.out hg_ (fun k hk e => OF2.out k e.symm hk)); replace L0 := Aside0.mk ((hg_.block _ (blk_lt L0.out) (fun e => by have := Kd.R_base RN.out _ e.symm; omega)).trans L0.out); replace L1 := Aside0.mk ((hg_.block _ (blk_lt L1.out) (fun e => by have := Kd.R_base RN.out _ e.symm; omega)).trans L1.out); replace L5 := Aside0.mk ((hg_.block _ (blk_lt L5.out) (fun e => HN5.out _ e.symm rfl)).trans L5.out); replace HD := Aside0.mk (HD.out.overO hg_ (fun g e => by have := Kd.R_base RN.out g e; have := HG.out; omega)); have RN3 := Aside0.mk hr_; have OF3 := Aside0.mk (show Off (.slice A3 (ms.length + 1) c3) (.slice B1 es.length d1) from off_left OF2.out ho_ (fun k hk => by have := HLTB.out k hk; have := HLZ.out; omega)); have HN3 := Aside0.mk (show ∀ k, (Value.slice A3 (ms.length + 1) c3).ownBlock = some k → k ≠ g5 from fun k hk => by rcases ho_ with e | ⟨b, e, hb⟩; exact HN5.out k (e ▸ hk); rw [e] at hk; have h9 := Option.some.inj hk; have := HLZ.out; omega); have HI3 := Aside0.mk hi_; (try clear gc0 gc1); obtain ⟨gc0, gc1⟩ := cs2 (L0.out); (try clear rc0 rc1); obtain ⟨rc0, rc1⟩ := cs2 (L1.out); (try clear lc0 lc1); obtain ⟨lc0, lc1⟩ := cs2 (L5.out); clear hi_ hr_ ho_ hg_)) | ((with_reducible refine gate_store (p := 5) rfl ?_); go_must ((refine wpList_plain rfl fun K_ hK_ => wp_store_row _ _ _ rfl (g5) #[.slice A3 (ms.length + 1) c3, .slice B1 es.length d1] rfl rfl _ _ L5.out (by kernel_rfl) rfl (by simp [Value.oneCell']) (hK_ _ _ ?_)); refine named _ ?_; intro wz hwz; have HDz := HD.out.over (grown_setRow _ (g5) #[.slice A3 (ms.length + 1) c3, .slice B1 es.length d1]) (by have := HG.out; have := Hg5.out; omega) (by have := HG.out; have := Hg5.out; omega); rw [← hwz] at HDz; replace HD := Aside0.mk HDz; clear HDz; replace L0 := Aside0.mk (so_ hwz L0.out (by have := HG.out; have := Hg5.out; omega)); replace L1 := Aside0.mk (so_ hwz L1.out (by have := HG.out; have := Hg5.out; omega)); replace L5 := Aside0.mk (sh_ hwz L5.out); replace RE := Aside0.mk (show kE.R 30 wz (w.heap.size + 2) (fun _ => True) (.slice B1 es.length d1) es by rw [hwz]; exact R_farE (RE.out) (grown_setRow _ _ _) (fun k hk e => by have := HLTB.out k hk; have := Option.some.inj e; omega)); replace RN3 := Aside0.mk (show kN.R 28 wz (w.heap.size + 2) (fun _ => True) (.slice A3 (ms.length + 1) c3) (ms.take i3 ++ ⟨5, 30 + (j : Int)⟩ :: ms.drop i3) by rw [hwz]; exact R_farN (RN3.out) (grown_setRow _ _ _) (fun k hk e => HN3.out k hk (Option.some.inj e))); (try clear gc0 gc1); obtain ⟨gc0, gc1⟩ := cs2 (L0.out); (try clear rc0 rc1); obtain ⟨rc0, rc1⟩ := cs2 (L1.out); (try clear lc0 lc1); obtain ⟨lc0, lc1⟩ := cs2 (L5.out); clear hwz)))
          have HL3 := Aside0.mk (show (ms.take i3 ++ (⟨5, 30 + (j : Int)⟩ : Nd) :: ms.drop i3).length = ms.length + 1 by simp only [List.length_append, List.length_cons, List.length_take, List.length_drop]; have := HI3.out; omega)
          go_roundw
          case rel => exact ⟨j + 1, A3, c3, _, by omega, by go_num, L0.out, L1.out, by rw [HL3.out]; exact L5.out, by rw [HL3.out]; exact RN3.out, RE.out, by rw [HL3.out]; exact OF3.out, by rw [HL3.out]; exact HN3.out, by rw [HL3.out]; have := HMJ.out; omega, HD.out⟩
          case measure => simp [intOf]; omega
         ·obtain rfl : j = 6 := by omega
          go_wp2_with (fail)
          go_meet
          exact bent_of L0.out L1.out L5.out RN.out RE.out (by have := HMJ.out; omega) (by omega) HD.out (by omega)
       ·have y0 : (z == 0) = false := beq_eq_false_iff_ne.2 z0
        have y1 : (z == 1) = false := beq_eq_false_iff_ne.2 z1
        have y2 : (z == 2) = false := beq_eq_false_iff_ne.2 z2
        have y3 : (z == 3) = false := beq_eq_false_iff_ne.2 z3
        have y4 : (z == 4) = false := beq_eq_false_iff_ne.2 z4
        have y5 : (z == 5) = false := beq_eq_false_iff_ne.2 z5
        go_wp2_with (fail)
        go_meet
        exact bent_of L0.out L1.out L5.out RN.out RE.out (by omega) (by omega) HD.out (by omega)
 case rest =>
  obtain ⟨A2, c2, ms, B2, d2, fs, l0_, l1_, l5_, gr_, fa_, fb_, hn_, he_, hd_⟩ := hcut
  have L0 := Aside0.mk l0_
  have L1 := Aside0.mk l1_
  have L5 := Aside0.mk l5_
  have HGR := Aside0.mk gr_
  have HFA := Aside0.mk fa_
  have HFB := Aside0.mk fb_
  have HD := Aside0.mk hd_
  obtain ⟨lc0, lc1⟩ := cs2 (L5.out)
  clear l0_ l1_ l5_ gr_ fa_ fb_ hd_
  go_wp2_with (first | ((with_reducible refine gate_store (p := 4) rfl ?_); go_must ((refine wpList_plain rfl fun K_ hK_ => wp_store_row _ _ _ rfl (w.heap.size + 1) #[.slice A2 ms.length c2, .slice B2 fs.length d2] rfl rfl _ _ L1.out (by kernel_rfl) rfl (by simp [Value.oneCell']) (hK_ _ _ ?_)); refine named _ ?_; intro wz hwz; have HDz := HD.out.over (grown_setRow _ (w.heap.size + 1) #[.slice A2 ms.length c2, .slice B2 fs.length d2]) (by have := HG.out; have := Hg5.out; omega) (by have := HG.out; have := Hg5.out; omega); rw [← hwz] at HDz; replace HD := Aside0.mk HDz; clear HDz; replace L0 := Aside0.mk (so_ hwz L0.out (by have := HG.out; have := Hg5.out; omega)); replace L5 := Aside0.mk (so_ hwz L5.out (by have := HG.out; have := Hg5.out; omega)); replace L1 := Aside0.mk (sh_ hwz L1.out); replace HGR := Aside0.mk (show GR wz A2 c2 ms B2 d2 fs by rw [hwz]; exact (HGR.out).keep (grown_setRow _ _ _) (HFA.out.notIn (by omega)) (HFB.out.notIn (by omega))); (try clear gc0 gc1); obtain ⟨gc0, gc1⟩ := cs2 (L0.out); (try clear rc0 rc1); obtain ⟨rc0, rc1⟩ := cs2 (L1.out); (try clear lc0 lc1); obtain ⟨lc0, lc1⟩ := cs2 (L5.out); clear hwz)))
  exact bodyPost_ret (results_cell_row rfl _ _ (w.heap.size + 1) _ #[.slice A2 ms.length c2, .slice B2 fs.length d2] (0, 0) _ rfl L1.out Tryz.underlying26 rfl (by kernel_rfl)) rfl ⟨⟨A2, c2, ms, B2, d2, fs, rfl, HGR.out, HFA.out.mono (by omega), HFB.out.mono (by omega), hn_, he_⟩, HD.out⟩
end Go.Proofs.YtogmbeifbjgphaaGreat.R
