/- spec.GraphNear. -/
import Derived.Test.YtogmbeifbjgphaaGreatKB28
namespace Go.Proofs.YtogmbeifbjgphaaGreat.R
open Go.RowKit Go.Proofs.YtogmbeifbjgphaaGreatV.PrintWords Go.Proofs.YtogmbeifbjgphaaGreatV.PrintLast Go.Proofs.YtogmbeifbjgphaaGreatV.PrintMore Go.Proofs.YtogmbeifbjgphaaGreat.M
set_option linter.unusedVariables false
set_option linter.unusedSimpArgs false
attribute [local go_sem high] eqN eqE
abbrev sNe8 : Pl := (.tk 0 (.tk 1 (.tk 2 (.tk 3 (.tk 4 (.tk 5 (.tk 6 (.tk 7 .fin))))))))
theorem sNe8_ok : planB .any (opsOf Tryz.f131 8) [] sNe8 (Array.replicate (opsOf Tryz.f131 8).size false) = true := by kernel_rfl
theorem cgx_ {w u : World} {g : Nat} {cs : Array Value} {a : Addr} {v : Value} (e : u = w.setRow g cs) (h : w.cell? a = some v) (hne : a.block ≠ g) : u.cell? a = some v := by
 rw [e]
 exact cell_grownA h (grown_setRow _ _ _) (fun e => hne (Option.some.inj e))
/-- What the reference has after j edges. -/
def NearP (n : Nd) (l : List Eg) (ys : List Nd) : Prop := Asc code ys ∧ ∀ m, m ∈ ys ↔ m ∈ nearL n l
theorem nearP_skip {n : Nd} {l : List Eg} {ys : List Nd} {e : Eg} (h : NearP n l ys) (hs : nearOf n e = [] ∨ ∃ z ∈ ys, nearOf n e = [z]) : NearP n (l ++ [e]) ys := by
 refine ⟨h.1, fun m => ?_⟩
 rw [nearL_snoc, List.mem_append, h.2 m]
 refine ⟨.inl, fun q => q.elim id fun q => ?_⟩
 rcases hs with hs | ⟨z, hz, hs⟩
 ·rw [hs] at q
  cases q
 ·rw [hs] at q
  obtain rfl := List.mem_singleton.1 q
  exact (h.2 m).1 hz
theorem nearP_put {n : Nd} {l : List Eg} {ys : List Nd} {e : Eg} {z : Nd} (h : NearP n l ys) (hok : ∀ y ∈ ys, okN y = true) (hz : okN z = true) (hn : z ∉ ys) (hs : nearOf n e = [z]) : NearP n (l ++ [e]) (ys.take (placeN ys z) ++ z :: ys.drop (placeN ys z)) := by
 have hne : ∀ a ∈ ys, code a ≠ code z := key_ne hok hz (fun _ _ => code_inj) hn
 have hi := ins_eq h.1 hne
 have hi2 : ys.take (placeN ys z) ++ z :: ys.drop (placeN ys z) = ins code ys z := hi.symm
 rw [hi2]
 refine ⟨asc_ins h.1 z, fun m => ?_⟩
 rw [mem_ins_ok hok hz (fun _ _ => code_inj), nearL_snoc, List.mem_append, hs, List.mem_singleton, h.2 m]
 exact Or.comm
theorem nearP_ok {ns : List Nd} {es : List Eg} (hg : OkG ns es) {n : Nd} {ys : List Nd} {j : Nat} (h : NearP n (es.take j) ys) : ∀ y ∈ ys, okN y = true := fun y hy => by
 have h1 := (h.2 y).1 hy
 refine nearL_ok hg (n := n) y ?_
 unfold nearL at *
 obtain ⟨e, he, hm⟩ := List.mem_flatMap.1 h1
 exact List.mem_flatMap.2 ⟨e, List.mem_of_mem_take he, hm⟩
theorem nearP_end {ns : List Nd} {es : List Eg} (hg : OkG ns es) {n : Nd} {ys : List Nd} (h : NearP n es ys) : ys = nearG ns es n := by
 refine asc_ext (key := code) h.1 ?_ fun x => ?_
 ·rw [near_of hg]
  exact hg.nasc.filter _
 ·rw [h.2 x, mem_nearL hg, mem_near hg]
theorem atN_nil (A : Option Addr) (c : Nat) (ns : List Nd) (x : Nd) (w : World) (hr : kN.C w A ns.length ns) (hl : ns.length ≤ 1000000) :
 Calls Tryz.prog 55 #[.agg #[.slice A ns.length c, .slice none 0 0], .agg #[.int .i64 x.lab, .int .i64 x.num]] w fun e w' => (∃ r : Int, -1 ≤ r ∧ (0 ≤ r ↔ x ∈ ns) ∧ e = .returned (.int .i64 r)) ∧ Below w.heap.size w w' :=
 atN_calls A c ns none 0 [] x w hr hl
theorem putN_nil (base : Nat) (A : Option Addr) (c : Nat) (ns : List Nd) (x : Nd) (w : World) (hr : kN.R 28 w base (fun _ => True) (.slice A ns.length c) ns) (hl : ns.length ≤ 1000000) (hbs : base ≤ w.heap.size) :
 Calls Tryz.prog 83 #[.agg #[.slice A ns.length c, .slice none 0 0], .agg #[.int .i64 x.lab, .int .i64 x.num]] w fun e w' => ∃ A' c' i, i ≤ ns.length ∧ e = .returned (.agg #[.slice A' (ns.length + 1) c', .slice none 0 0]) ∧ kN.R 28 w' base (fun _ => True) (.slice A' (ns.length + 1) c') (ns.take i ++ x :: ns.drop i) ∧ ((∀ y ∈ ns, okN y = true) ∧ Asc code ns ∧ okN x = true → i = placeN ns x) ∧ ((Value.slice A' (ns.length + 1) c').ownBlock = (Value.slice A ns.length c).ownBlock ∨ ∃ b, (Value.slice A' (ns.length + 1) c').ownBlock = some b ∧ w.heap.size ≤ b) ∧ w.grownBy w' (Value.slice A ns.length c).ownBlock :=
 sPutN_calls base A c ns none 0 [] x w hr hl hbs
theorem nearOf_a {n : Nd} {e : Eg} (h : e.a = n) : nearOf n e = [e.b] := if_pos h.symm
theorem nearOf_b {n : Nd} {e : Eg} (h : e.a ≠ n) (h2 : e.b = n) : nearOf n e = [e.a] := by
 unfold nearOf
 rw [if_neg (fun q => h q.symm), if_pos h2.symm]
theorem nearOf_no {n : Nd} {e : Eg} (h : e.a ≠ n) (h2 : e.b ≠ n) : nearOf n e = [] := by
 unfold nearOf
 rw [if_neg (fun q => h q.symm), if_neg (fun q => h2 q.symm)]
def NearK (w : World) (g5 : Nat) (A : Option Addr) (c : Nat) (ns : List Nd) (B : Option Addr) (d : Nat) (es : List Eg) (n : Nd) (s6 : Value) (wr : World) : Prop :=
 ∃ (j : Nat) (A2 : Option Addr) (c2 : Nat) (ys : List Nd), j ≤ es.length ∧ NearP n (es.take j) ys ∧ ys.length ≤ j ∧ s6 = .int .i64 (j : Int) ∧ kN.R 28 wr (w.heap.size + 2) (fun _ => True) (.slice A2 ys.length c2) ys ∧ (∀ k, (Value.slice A2 ys.length c2).ownBlock = some k → k ≠ g5) ∧ wr.heap[w.heap.size]? = some (.cells #[.slice A ns.length c, .slice B es.length d] 26 (0, 0)) ∧ wr.heap[w.heap.size + 1]? = some (.cells #[.int .i64 n.lab, .int .i64 n.num] 28 (0, 0)) ∧ wr.heap[g5]? = some (.cells #[.slice A2 ys.length c2, .slice none 0 0] 26 (0, 0)) ∧ Below w.heap.size w wr
set_option maxHeartbeats 12800000 in
set_option maxRecDepth 100000 in
theorem l2Near_callsF (A : Option Addr) (c : Nat) (ns : List Nd) (B : Option Addr) (d : Nat) (es : List Eg) (n : Nd) (w : World) (hr : GR w A c ns B d es) (hg : OkG ns es) :
 Calls Tryz.prog 131 #[.agg #[.slice A ns.length c, .slice B es.length d], .agg #[.int .i64 n.lab, .int .i64 n.num]] w fun e w' => ∃ A' c', e = .returned (.slice A' (nearG ns es n).length c') ∧ kN.C w' A' (nearG ns es n).length (nearG ns es n) ∧ (nearG ns es n).length ≤ c' ∧ (∀ ad, A' = some ad → w.heap.size ≤ ad.block) ∧ Below w.heap.size w w' := by
 have HR := Aside0.mk hr
 have HOG := Aside0.mk hg
 have HLN := Aside0.mk (show es.length ≤ 56 from (EsOk.mk hg.eok hg.easc hg.efew hg.ends).len)
 clear hr hg
 obtain ⟨L0, L1, HB⟩ := al2 w #[.slice A ns.length c, .slice B es.length d] #[.int .i64 n.lab, .int .i64 n.num] 26 28
 go_enter Tryz.func131, Tryz.ntmps131
 go_wp2_with (first | ((with_reducible refine gate_dst (N := 5) rfl ?_); go_must ((refine w_new #[.slice none 0 0, .slice none 0 0] 26 rfl (by go_simp; (first | done | rfl)) ?_); intro g5 u_ hge_ hb0_ hb; have Hg5 := Aside0.mk (show w.heap.size + 2 ≤ g5 from by have hl0_ := blk_lt L1.out; exact by omega); have L5 := Aside0.mk hb0_; replace HB := Aside0.mk (below_step HB.out hb); replace L0 := Aside0.mk (blk_below L0.out hb); replace L1 := Aside0.mk (blk_below L1.out hb); clear hge_ hb0_ hb; (try clear c0 c1); obtain ⟨c0, c1⟩ := cs2 (L0.out); (try clear e0 e1); obtain ⟨e0, e1⟩ := cs2 (L1.out); (try clear f0 f1); obtain ⟨f0, f1⟩ := cs2 (L5.out))) | ((with_reducible refine gate_store (p := 5) rfl ?_); go_must ((refine wpList_plain rfl fun K_ hK_ => wp_store_row _ _ _ rfl (g5) #[.slice none 0 0, .slice none 0 0] rfl rfl _ _ L5.out (by kernel_rfl) rfl (by simp [Value.oneCell']) (hK_ _ _ ?_)); refine named _ ?_; intro wz hwz; replace HB := Aside0.mk (sb_ hwz HB.out (by have := Hg5.out; omega)); replace L0 := Aside0.mk (so_ hwz L0.out (by have := Hg5.out; omega)); replace L1 := Aside0.mk (so_ hwz L1.out (by have := Hg5.out; omega)); replace L5 := Aside0.mk (sh_ hwz L5.out); (try clear c0 c1); obtain ⟨c0, c1⟩ := cs2 (L0.out); (try clear e0 e1); obtain ⟨e0, e1⟩ := cs2 (L1.out); (try clear f0 f1); obtain ⟨f0, f1⟩ := cs2 (L5.out); clear hwz)))
 go_loopw [6, 7] (fun s6 _ wr => NearK w g5 A c ns B d es n s6 wr) (fun s6 _ _ => (es.length - intOf s6).toNat)
 case atStart => exact ⟨0, none, 0, [], Nat.zero_le _, ⟨List.Pairwise.nil, fun m => Iff.rfl⟩, Nat.le_refl _, rfl, Kd.R_nil _ _ _ _ _, fun k h1 => by simp [Value.ownBlock] at h1, L0.out, L1.out, L5.out, HB.out⟩
 case round =>
  clear L0 L1 L5 HB
  obtain ⟨j, A2, c2, ys, hj, hp_, hyl_, rfl, rn_, hn5_, l0_, l1_, l5_, hb_⟩ := hrel
  have HJ := Aside0.mk hj
  have HP := Aside0.mk hp_
  have HYJ := Aside0.mk hyl_
  have HYL := Aside0.mk (show ys.length ≤ 56 by have := HLN.out; omega)
  have RN := Aside0.mk rn_
  have HN5 := Aside0.mk hn5_
  have L0 := Aside0.mk l0_
  have L1 := Aside0.mk l1_
  have L5 := Aside0.mk l5_
  have HB := Aside0.mk hb_
  obtain ⟨c0, c1⟩ := cs2 (L0.out)
  obtain ⟨e0, e1⟩ := cs2 (L1.out)
  obtain ⟨f0, f1⟩ := cs2 (L5.out)
  clear hj hp_ hyl_ rn_ hn5_ l0_ l1_ l5_ hb_
  by_cases hlt : j < es.length
  ·have hjl : (j : Int) < (es.length : Int) := by omega
   have HLTJ := Aside0.mk hlt
   have hjm : (j : Int) ≤ 56 := by have := HLN.out; omega
   have HT := Aside0.mk (takeE_snoc hlt)
   have HOE := Aside0.mk (HOG.out.eok _ (eat_mem hlt))
   have HOY := Aside0.mk (nearP_ok HOG.out HP.out)
   obtain ⟨ad, ea, r0, r1, r2, r3, r4⟩ := eg_at (Kd.C_below HR.out.ce HB.out) j hlt
   cases ea
   have HAD := Aside0.mk (show (ad.add (j * 5)).block < wr.heap.size from World.block_lt_of_cell? _ _ r0)
   generalize eat es j = y at r0 r1 r2 r3 r4 HT HOE
   obtain ⟨v1, hv1⟩ : ∃ v, (y.a.lab == n.lab && (y.a.num == n.num)) = v := ⟨_, rfl⟩
   obtain ⟨v2, hv2⟩ : ∃ v, (y.b.lab == n.lab && (y.b.num == n.num)) = v := ⟨_, rfl⟩
   have HV1 := Aside0.mk ((nd_eq y.a n).symm.trans hv1)
   have HV2 := Aside0.mk ((nd_eq y.b n).symm.trans hv2)
   obtain ⟨vb, hvb⟩ : ∃ v, decide (y.b ∈ ys) = v := ⟨_, rfl⟩
   obtain ⟨va, hva⟩ : ∃ v, decide (y.a ∈ ys) = v := ⟨_, rfl⟩
   have HMB := Aside0.mk hvb
   have HMA := Aside0.mk hva
   clear hvb hva
   cases v1
   all_goals first
   | (have HNO := Aside0.mk (nearOf_a (of_decide_eq_true HV1.out))
      cases vb)
   | (cases v2
      case' false => have HNO := Aside0.mk (nearOf_no (of_decide_eq_false HV1.out) (of_decide_eq_false HV2.out))
      case' true =>
       have HNO := Aside0.mk (nearOf_b (of_decide_eq_false HV1.out) (of_decide_eq_true HV2.out))
       cases va)
   all_goals
    go_wp2_with (first | ((with_reducible refine gate_dst (N := 7) rfl ?_); go_must ((refine w_new #[.int .i64 0, .int .i64 0] 28 rfl (by go_simp; (first | done | rfl)) ?_); intro gx u_ hge_ hb0_ hb; have HGE := Aside0.mk (show wr.heap.size ≤ gx from hge_); have HLT := Aside0.mk (show ∀ k, (Value.slice A2 ys.length c2).ownBlock = some k → k < gx from fun k hk => Nat.lt_of_lt_of_le (Kd.R_lt RN.out k hk) hge_); have Hgx := Aside0.mk (show w.heap.size + 2 ≤ gx ∧ g5 < gx from by have hl0_ := blk_lt L1.out; have hl_g5 := blk_lt L5.out; exact ⟨by omega, by omega⟩); have LX := Aside0.mk hb0_; replace HB := Aside0.mk (below_step HB.out hb); replace L0 := Aside0.mk (blk_below L0.out hb); replace L1 := Aside0.mk (blk_below L1.out hb); replace L5 := Aside0.mk (blk_below L5.out hb); replace RN := Aside0.mk (Kd.R_below (RN.out) hb); replace r0 := pw_cell_below hb r0; replace r1 := pw_cell_below hb r1; replace r2 := pw_cell_below hb r2; replace r3 := pw_cell_below hb r3; replace r4 := pw_cell_below hb r4; clear hge_ hb0_ hb; (try clear c0 c1); obtain ⟨c0, c1⟩ := cs2 (L0.out); (try clear e0 e1); obtain ⟨e0, e1⟩ := cs2 (L1.out); (try clear f0 f1); obtain ⟨f0, f1⟩ := cs2 (L5.out); (try clear x0 x1); obtain ⟨x0, x1⟩ := cs2 (LX.out))) | ((with_reducible refine gate_store (p := 7) rfl ?_); ((refine wpList_plain rfl fun K_ hK_ => wp_store_row _ _ _ rfl (gx) #[.int .i64 y.a.lab, .int .i64 y.a.num] rfl rfl _ _ LX.out (by kernel_rfl) rfl (by simp [Value.oneCell']) (hK_ _ _ ?_)); refine named _ ?_; intro wz hwz; replace HB := Aside0.mk (sb_ hwz HB.out (by have := Hg5.out; have := Hgx.out; omega)); replace L0 := Aside0.mk (so_ hwz L0.out (by have := Hg5.out; have := Hgx.out; omega)); replace L1 := Aside0.mk (so_ hwz L1.out (by have := Hg5.out; have := Hgx.out; omega)); replace L5 := Aside0.mk (so_ hwz L5.out (by have := Hg5.out; have := Hgx.out; omega)); replace LX := Aside0.mk (sh_ hwz LX.out); replace RN := Aside0.mk (R_farN (RN.out) (hwz ▸ grown_setRow _ _ _) (fun k hk e => by have := HLT.out k hk; have := Option.some.inj e; omega)); (try clear c0 c1); obtain ⟨c0, c1⟩ := cs2 (L0.out); (try clear e0 e1); obtain ⟨e0, e1⟩ := cs2 (L1.out); (try clear f0 f1); obtain ⟨f0, f1⟩ := cs2 (L5.out); (try clear x0 x1); obtain ⟨x0, x1⟩ := cs2 (LX.out); replace r0 := cgx_ hwz r0 (by show (ad.add (j * 5)).block ≠ gx; have := HAD.out; have := HGE.out; omega); replace r1 := cgx_ hwz r1 (by show (ad.add (j * 5)).block ≠ gx; have := HAD.out; have := HGE.out; omega); replace r2 := cgx_ hwz r2 (by show (ad.add (j * 5)).block ≠ gx; have := HAD.out; have := HGE.out; omega); replace r3 := cgx_ hwz r3 (by show (ad.add (j * 5)).block ≠ gx; have := HAD.out; have := HGE.out; omega); replace r4 := cgx_ hwz r4 (by show (ad.add (j * 5)).block ≠ gx; have := HAD.out; have := HGE.out; omega); clear hwz)) | ((with_reducible refine gate_store (p := 7) rfl ?_); ((refine wpList_plain rfl fun K_ hK_ => wp_store_row _ _ _ rfl (gx) #[.int .i64 y.b.lab, .int .i64 y.b.num] rfl rfl _ _ LX.out (by kernel_rfl) rfl (by simp [Value.oneCell']) (hK_ _ _ ?_)); refine named _ ?_; intro wz hwz; replace HB := Aside0.mk (sb_ hwz HB.out (by have := Hg5.out; have := Hgx.out; omega)); replace L0 := Aside0.mk (so_ hwz L0.out (by have := Hg5.out; have := Hgx.out; omega)); replace L1 := Aside0.mk (so_ hwz L1.out (by have := Hg5.out; have := Hgx.out; omega)); replace L5 := Aside0.mk (so_ hwz L5.out (by have := Hg5.out; have := Hgx.out; omega)); replace LX := Aside0.mk (sh_ hwz LX.out); replace RN := Aside0.mk (R_farN (RN.out) (hwz ▸ grown_setRow _ _ _) (fun k hk e => by have := HLT.out k hk; have := Option.some.inj e; omega)); (try clear c0 c1); obtain ⟨c0, c1⟩ := cs2 (L0.out); (try clear e0 e1); obtain ⟨e0, e1⟩ := cs2 (L1.out); (try clear f0 f1); obtain ⟨f0, f1⟩ := cs2 (L5.out); (try clear x0 x1); obtain ⟨x0, x1⟩ := cs2 (LX.out); clear hwz)) | (go_at_call 55; ((with_reducible refine (atN_nil A2 c2 ys y.b _ (Kd.R_reads' RN.out).2.2 (by have := HYL.out; omega)).mono ?_); rintro e u_ ⟨⟨r_, -, hr1_, rfl⟩, hb⟩; have hq_ := neg_at hr1_ HMB.out; simp only [Bool.not_true, Bool.not_false] at hq_; clear hr1_; replace HB := Aside0.mk (below_step HB.out hb); replace L0 := Aside0.mk (blk_below L0.out hb); replace L1 := Aside0.mk (blk_below L1.out hb); replace L5 := Aside0.mk (blk_below L5.out hb); replace LX := Aside0.mk (blk_below LX.out hb); replace RN := Aside0.mk (Kd.R_below (RN.out) hb); (try clear c0 c1); obtain ⟨c0, c1⟩ := cs2 (L0.out); (try clear e0 e1); obtain ⟨e0, e1⟩ := cs2 (L1.out); (try clear f0 f1); obtain ⟨f0, f1⟩ := cs2 (L5.out); (try clear x0 x1); obtain ⟨x0, x1⟩ := cs2 (LX.out); clear hb)) | (go_at_call 55; ((with_reducible refine (atN_nil A2 c2 ys y.a _ (Kd.R_reads' RN.out).2.2 (by have := HYL.out; omega)).mono ?_); rintro e u_ ⟨⟨r_, -, hr1_, rfl⟩, hb⟩; have hq_ := neg_at hr1_ HMA.out; simp only [Bool.not_true, Bool.not_false] at hq_; clear hr1_; replace HB := Aside0.mk (below_step HB.out hb); replace L0 := Aside0.mk (blk_below L0.out hb); replace L1 := Aside0.mk (blk_below L1.out hb); replace L5 := Aside0.mk (blk_below L5.out hb); replace LX := Aside0.mk (blk_below LX.out hb); replace RN := Aside0.mk (Kd.R_below (RN.out) hb); (try clear c0 c1); obtain ⟨c0, c1⟩ := cs2 (L0.out); (try clear e0 e1); obtain ⟨e0, e1⟩ := cs2 (L1.out); (try clear f0 f1); obtain ⟨f0, f1⟩ := cs2 (L5.out); (try clear x0 x1); obtain ⟨x0, x1⟩ := cs2 (LX.out); clear hb)) | (go_at_call 83; (with_reducible refine (putN_nil (w.heap.size + 2) A2 c2 ys y.b _ RN.out (by have := HYL.out; omega) (by have := blk_lt L5.out; have := Hg5.out; omega)).mono ?_); rintro e u_ ⟨A3, c3, i3, hi_, rfl, hr_, hpl_, ho_, hg_⟩; have HLZ := Aside0.mk (blk_lt L5.out); replace L0 := Aside0.mk ((hg_.block _ (blk_lt L0.out) (fun e => by have := Kd.R_base RN.out _ e.symm; omega)).trans L0.out); replace L1 := Aside0.mk ((hg_.block _ (blk_lt L1.out) (fun e => by have := Kd.R_base RN.out _ e.symm; omega)).trans L1.out); replace L5 := Aside0.mk ((hg_.block _ (blk_lt L5.out) (fun e => HN5.out _ e.symm rfl)).trans L5.out); replace HB := Aside0.mk (HB.out.grown hg_ HB.out.size (fun k hk => by have := Kd.R_base RN.out k hk; omega)); have RN3 := Aside0.mk hr_; have HPL := Aside0.mk hpl_; have HI3 := Aside0.mk hi_; have HN3 := Aside0.mk (show ∀ k, (Value.slice A3 (ys.length + 1) c3).ownBlock = some k → k ≠ g5 from fun k hk => by rcases ho_ with e | ⟨b, e, hb⟩; exact HN5.out k (e ▸ hk); rw [e] at hk; have h9 := Option.some.inj hk; have := HLZ.out; omega); (try clear c0 c1); obtain ⟨c0, c1⟩ := cs2 (L0.out); (try clear e0 e1); obtain ⟨e0, e1⟩ := cs2 (L1.out); (try clear f0 f1); obtain ⟨f0, f1⟩ := cs2 (L5.out); clear hi_ hr_ hpl_ ho_ hg_) | (go_at_call 83; (with_reducible refine (putN_nil (w.heap.size + 2) A2 c2 ys y.a _ RN.out (by have := HYL.out; omega) (by have := blk_lt L5.out; have := Hg5.out; omega)).mono ?_); rintro e u_ ⟨A3, c3, i3, hi_, rfl, hr_, hpl_, ho_, hg_⟩; have HLZ := Aside0.mk (blk_lt L5.out); replace L0 := Aside0.mk ((hg_.block _ (blk_lt L0.out) (fun e => by have := Kd.R_base RN.out _ e.symm; omega)).trans L0.out); replace L1 := Aside0.mk ((hg_.block _ (blk_lt L1.out) (fun e => by have := Kd.R_base RN.out _ e.symm; omega)).trans L1.out); replace L5 := Aside0.mk ((hg_.block _ (blk_lt L5.out) (fun e => HN5.out _ e.symm rfl)).trans L5.out); replace HB := Aside0.mk (HB.out.grown hg_ HB.out.size (fun k hk => by have := Kd.R_base RN.out k hk; omega)); have RN3 := Aside0.mk hr_; have HPL := Aside0.mk hpl_; have HI3 := Aside0.mk hi_; have HN3 := Aside0.mk (show ∀ k, (Value.slice A3 (ys.length + 1) c3).ownBlock = some k → k ≠ g5 from fun k hk => by rcases ho_ with e | ⟨b, e, hb⟩; exact HN5.out k (e ▸ hk); rw [e] at hk; have h9 := Option.some.inj hk; have := HLZ.out; omega); (try clear c0 c1); obtain ⟨c0, c1⟩ := cs2 (L0.out); (try clear e0 e1); obtain ⟨e0, e1⟩ := cs2 (L1.out); (try clear f0 f1); obtain ⟨f0, f1⟩ := cs2 (L5.out); clear hi_ hr_ hpl_ ho_ hg_) | ((with_reducible refine gate_store (p := 5) rfl ?_); go_must ((refine wpList_plain rfl fun K_ hK_ => wp_store_row _ _ _ rfl (g5) #[.slice A3 (ys.length + 1) c3, .slice none 0 0] rfl rfl _ _ L5.out (by kernel_rfl) rfl (by simp [Value.oneCell']) (hK_ _ _ ?_)); refine named _ ?_; intro wz hwz; replace HB := Aside0.mk (sb_ hwz HB.out (by have := Hg5.out; have := Hgx.out; omega)); replace L0 := Aside0.mk (so_ hwz L0.out (by have := Hg5.out; have := Hgx.out; omega)); replace L1 := Aside0.mk (so_ hwz L1.out (by have := Hg5.out; have := Hgx.out; omega)); replace L5 := Aside0.mk (sh_ hwz L5.out); replace RN3 := Aside0.mk (R_farN (RN3.out) (hwz ▸ grown_setRow _ _ _) (fun k hk e => HN3.out k hk (Option.some.inj e))); (try clear c0 c1); obtain ⟨c0, c1⟩ := cs2 (L0.out); (try clear e0 e1); obtain ⟨e0, e1⟩ := cs2 (L1.out); (try clear f0 f1); obtain ⟨f0, f1⟩ := cs2 (L5.out); clear hwz)))
    try
     have ZL0 := L0
     have ZL1 := L1
     have ZL5 := L5
     have ZLX := LX
     refine region_bp [] sNe8 (by kernel_rfl) sNe8_ok (by decide) (fun d _ _ _ _ h => by cases d <;> exact h) ?_
     intro u hb
     have hS := hb
     replace HB := Aside0.mk (below_step HB.out hb)
     replace L0 := Aside0.mk (blk_below L0.out hb)
     replace L1 := Aside0.mk (blk_below L1.out hb)
     replace L5 := Aside0.mk (blk_below L5.out hb)
     replace LX := Aside0.mk (blk_below LX.out hb)
     replace RN := Aside0.mk (Kd.R_below (RN.out) hb)
     (try clear c0 c1)
     obtain ⟨c0, c1⟩ := cs2 (L0.out)
     (try clear e0 e1)
     obtain ⟨e0, e1⟩ := cs2 (L1.out)
     (try clear f0 f1)
     obtain ⟨f0, f1⟩ := cs2 (L5.out)
     (try clear x0 x1)
     obtain ⟨x0, x1⟩ := cs2 (LX.out)
     clear hb
     repeat (first | (refine p_off hS gt_ (by rfl) ?_; intro a_ ha_; (simp only [Act.put, pu1, pu2, pu3] at ha_); subst ha_) | (refine p_on (v := ?_) hS gt_ (by rfl) ?_ ?_; rotate_left; (· rintro w_ hS_; obtain ⟨c0_, c1_⟩ := cs2 (blk_below ZL0.out hS_); obtain ⟨e0_, e1_⟩ := cs2 (blk_below ZL1.out hS_); obtain ⟨f0_, f1_⟩ := cs2 (blk_below ZL5.out hS_); obtain ⟨x0_, x1_⟩ := cs2 (blk_below ZLX.out hS_); (try (have r0_ := pw_cell_below hS_ r0; have r1_ := pw_cell_below hS_ r1; have r2_ := pw_cell_below hS_ r2; have r3_ := pw_cell_below hS_ r3; have r4_ := pw_cell_below hS_ r4)); go_simp; with_reducible rfl); intro a_ ha_; (simp only [Act.put, pu1, pu2, pu3] at ha_); subst ha_) | (refine p_poff gt_ (by rfl) ?_; intro a_ ha_; (simp only [Act.put, pu1, pu2, pu3] at ha_); subst ha_) | (refine p_pon (v := ?_) gt_ (by rfl) ?_ ?_; rotate_left; (· go_simp; with_reducible rfl); intro a_ ha_; (simp only [Act.put, pu1, pu2, pu3] at ha_); subst ha_) | (refine p_ooff hS gt_ (by rfl) ?_; intro a_ ha_; (simp only [Act.put, pu1, pu2, pu3] at ha_); subst ha_) | (refine p_loff gt_ (by rfl) ?_; intro a_ ha_; (simp only [Act.put, pu1, pu2, pu3] at ha_); subst ha_))
     refine p_fin ?_
     clear hS ZL0 ZL1 ZL5 ZLX
     go_wp2_with (first | ((with_reducible refine gate_dst (N := 7) rfl ?_); go_must ((refine w_new #[.int .i64 0, .int .i64 0] 28 rfl (by go_simp; (first | done | rfl)) ?_); intro gx u_ hge_ hb0_ hb; have HGE := Aside0.mk (show wr.heap.size ≤ gx from hge_); have HLT := Aside0.mk (show ∀ k, (Value.slice A2 ys.length c2).ownBlock = some k → k < gx from fun k hk => Nat.lt_of_lt_of_le (Kd.R_lt RN.out k hk) hge_); have Hgx := Aside0.mk (show w.heap.size + 2 ≤ gx ∧ g5 < gx from by have hl0_ := blk_lt L1.out; have hl_g5 := blk_lt L5.out; exact ⟨by omega, by omega⟩); have LX := Aside0.mk hb0_; replace HB := Aside0.mk (below_step HB.out hb); replace L0 := Aside0.mk (blk_below L0.out hb); replace L1 := Aside0.mk (blk_below L1.out hb); replace L5 := Aside0.mk (blk_below L5.out hb); replace RN := Aside0.mk (Kd.R_below (RN.out) hb); replace r0 := pw_cell_below hb r0; replace r1 := pw_cell_below hb r1; replace r2 := pw_cell_below hb r2; replace r3 := pw_cell_below hb r3; replace r4 := pw_cell_below hb r4; clear hge_ hb0_ hb; (try clear c0 c1); obtain ⟨c0, c1⟩ := cs2 (L0.out); (try clear e0 e1); obtain ⟨e0, e1⟩ := cs2 (L1.out); (try clear f0 f1); obtain ⟨f0, f1⟩ := cs2 (L5.out); (try clear x0 x1); obtain ⟨x0, x1⟩ := cs2 (LX.out))) | ((with_reducible refine gate_store (p := 7) rfl ?_); ((refine wpList_plain rfl fun K_ hK_ => wp_store_row _ _ _ rfl (gx) #[.int .i64 y.a.lab, .int .i64 y.a.num] rfl rfl _ _ LX.out (by kernel_rfl) rfl (by simp [Value.oneCell']) (hK_ _ _ ?_)); refine named _ ?_; intro wz hwz; replace HB := Aside0.mk (sb_ hwz HB.out (by have := Hg5.out; have := Hgx.out; omega)); replace L0 := Aside0.mk (so_ hwz L0.out (by have := Hg5.out; have := Hgx.out; omega)); replace L1 := Aside0.mk (so_ hwz L1.out (by have := Hg5.out; have := Hgx.out; omega)); replace L5 := Aside0.mk (so_ hwz L5.out (by have := Hg5.out; have := Hgx.out; omega)); replace LX := Aside0.mk (sh_ hwz LX.out); replace RN := Aside0.mk (R_farN (RN.out) (hwz ▸ grown_setRow _ _ _) (fun k hk e => by have := HLT.out k hk; have := Option.some.inj e; omega)); (try clear c0 c1); obtain ⟨c0, c1⟩ := cs2 (L0.out); (try clear e0 e1); obtain ⟨e0, e1⟩ := cs2 (L1.out); (try clear f0 f1); obtain ⟨f0, f1⟩ := cs2 (L5.out); (try clear x0 x1); obtain ⟨x0, x1⟩ := cs2 (LX.out); replace r0 := cgx_ hwz r0 (by show (ad.add (j * 5)).block ≠ gx; have := HAD.out; have := HGE.out; omega); replace r1 := cgx_ hwz r1 (by show (ad.add (j * 5)).block ≠ gx; have := HAD.out; have := HGE.out; omega); replace r2 := cgx_ hwz r2 (by show (ad.add (j * 5)).block ≠ gx; have := HAD.out; have := HGE.out; omega); replace r3 := cgx_ hwz r3 (by show (ad.add (j * 5)).block ≠ gx; have := HAD.out; have := HGE.out; omega); replace r4 := cgx_ hwz r4 (by show (ad.add (j * 5)).block ≠ gx; have := HAD.out; have := HGE.out; omega); clear hwz)) | ((with_reducible refine gate_store (p := 7) rfl ?_); ((refine wpList_plain rfl fun K_ hK_ => wp_store_row _ _ _ rfl (gx) #[.int .i64 y.b.lab, .int .i64 y.b.num] rfl rfl _ _ LX.out (by kernel_rfl) rfl (by simp [Value.oneCell']) (hK_ _ _ ?_)); refine named _ ?_; intro wz hwz; replace HB := Aside0.mk (sb_ hwz HB.out (by have := Hg5.out; have := Hgx.out; omega)); replace L0 := Aside0.mk (so_ hwz L0.out (by have := Hg5.out; have := Hgx.out; omega)); replace L1 := Aside0.mk (so_ hwz L1.out (by have := Hg5.out; have := Hgx.out; omega)); replace L5 := Aside0.mk (so_ hwz L5.out (by have := Hg5.out; have := Hgx.out; omega)); replace LX := Aside0.mk (sh_ hwz LX.out); replace RN := Aside0.mk (R_farN (RN.out) (hwz ▸ grown_setRow _ _ _) (fun k hk e => by have := HLT.out k hk; have := Option.some.inj e; omega)); (try clear c0 c1); obtain ⟨c0, c1⟩ := cs2 (L0.out); (try clear e0 e1); obtain ⟨e0, e1⟩ := cs2 (L1.out); (try clear f0 f1); obtain ⟨f0, f1⟩ := cs2 (L5.out); (try clear x0 x1); obtain ⟨x0, x1⟩ := cs2 (LX.out); clear hwz)) | (go_at_call 55; ((with_reducible refine (atN_nil A2 c2 ys y.b _ (Kd.R_reads' RN.out).2.2 (by have := HYL.out; omega)).mono ?_); rintro e u_ ⟨⟨r_, -, hr1_, rfl⟩, hb⟩; have hq_ := neg_at hr1_ HMB.out; simp only [Bool.not_true, Bool.not_false] at hq_; clear hr1_; replace HB := Aside0.mk (below_step HB.out hb); replace L0 := Aside0.mk (blk_below L0.out hb); replace L1 := Aside0.mk (blk_below L1.out hb); replace L5 := Aside0.mk (blk_below L5.out hb); replace LX := Aside0.mk (blk_below LX.out hb); replace RN := Aside0.mk (Kd.R_below (RN.out) hb); (try clear c0 c1); obtain ⟨c0, c1⟩ := cs2 (L0.out); (try clear e0 e1); obtain ⟨e0, e1⟩ := cs2 (L1.out); (try clear f0 f1); obtain ⟨f0, f1⟩ := cs2 (L5.out); (try clear x0 x1); obtain ⟨x0, x1⟩ := cs2 (LX.out); clear hb)) | (go_at_call 55; ((with_reducible refine (atN_nil A2 c2 ys y.a _ (Kd.R_reads' RN.out).2.2 (by have := HYL.out; omega)).mono ?_); rintro e u_ ⟨⟨r_, -, hr1_, rfl⟩, hb⟩; have hq_ := neg_at hr1_ HMA.out; simp only [Bool.not_true, Bool.not_false] at hq_; clear hr1_; replace HB := Aside0.mk (below_step HB.out hb); replace L0 := Aside0.mk (blk_below L0.out hb); replace L1 := Aside0.mk (blk_below L1.out hb); replace L5 := Aside0.mk (blk_below L5.out hb); replace LX := Aside0.mk (blk_below LX.out hb); replace RN := Aside0.mk (Kd.R_below (RN.out) hb); (try clear c0 c1); obtain ⟨c0, c1⟩ := cs2 (L0.out); (try clear e0 e1); obtain ⟨e0, e1⟩ := cs2 (L1.out); (try clear f0 f1); obtain ⟨f0, f1⟩ := cs2 (L5.out); (try clear x0 x1); obtain ⟨x0, x1⟩ := cs2 (LX.out); clear hb)) | (go_at_call 83; (with_reducible refine (putN_nil (w.heap.size + 2) A2 c2 ys y.b _ RN.out (by have := HYL.out; omega) (by have := blk_lt L5.out; have := Hg5.out; omega)).mono ?_); rintro e u_ ⟨A3, c3, i3, hi_, rfl, hr_, hpl_, ho_, hg_⟩; have HLZ := Aside0.mk (blk_lt L5.out); replace L0 := Aside0.mk ((hg_.block _ (blk_lt L0.out) (fun e => by have := Kd.R_base RN.out _ e.symm; omega)).trans L0.out); replace L1 := Aside0.mk ((hg_.block _ (blk_lt L1.out) (fun e => by have := Kd.R_base RN.out _ e.symm; omega)).trans L1.out); replace L5 := Aside0.mk ((hg_.block _ (blk_lt L5.out) (fun e => HN5.out _ e.symm rfl)).trans L5.out); replace HB := Aside0.mk (HB.out.grown hg_ HB.out.size (fun k hk => by have := Kd.R_base RN.out k hk; omega)); have RN3 := Aside0.mk hr_; have HPL := Aside0.mk hpl_; have HI3 := Aside0.mk hi_; have HN3 := Aside0.mk (show ∀ k, (Value.slice A3 (ys.length + 1) c3).ownBlock = some k → k ≠ g5 from fun k hk => by rcases ho_ with e | ⟨b, e, hb⟩; exact HN5.out k (e ▸ hk); rw [e] at hk; have h9 := Option.some.inj hk; have := HLZ.out; omega); (try clear c0 c1); obtain ⟨c0, c1⟩ := cs2 (L0.out); (try clear e0 e1); obtain ⟨e0, e1⟩ := cs2 (L1.out); (try clear f0 f1); obtain ⟨f0, f1⟩ := cs2 (L5.out); clear hi_ hr_ hpl_ ho_ hg_) | (go_at_call 83; (with_reducible refine (putN_nil (w.heap.size + 2) A2 c2 ys y.a _ RN.out (by have := HYL.out; omega) (by have := blk_lt L5.out; have := Hg5.out; omega)).mono ?_); rintro e u_ ⟨A3, c3, i3, hi_, rfl, hr_, hpl_, ho_, hg_⟩; have HLZ := Aside0.mk (blk_lt L5.out); replace L0 := Aside0.mk ((hg_.block _ (blk_lt L0.out) (fun e => by have := Kd.R_base RN.out _ e.symm; omega)).trans L0.out); replace L1 := Aside0.mk ((hg_.block _ (blk_lt L1.out) (fun e => by have := Kd.R_base RN.out _ e.symm; omega)).trans L1.out); replace L5 := Aside0.mk ((hg_.block _ (blk_lt L5.out) (fun e => HN5.out _ e.symm rfl)).trans L5.out); replace HB := Aside0.mk (HB.out.grown hg_ HB.out.size (fun k hk => by have := Kd.R_base RN.out k hk; omega)); have RN3 := Aside0.mk hr_; have HPL := Aside0.mk hpl_; have HI3 := Aside0.mk hi_; have HN3 := Aside0.mk (show ∀ k, (Value.slice A3 (ys.length + 1) c3).ownBlock = some k → k ≠ g5 from fun k hk => by rcases ho_ with e | ⟨b, e, hb⟩; exact HN5.out k (e ▸ hk); rw [e] at hk; have h9 := Option.some.inj hk; have := HLZ.out; omega); (try clear c0 c1); obtain ⟨c0, c1⟩ := cs2 (L0.out); (try clear e0 e1); obtain ⟨e0, e1⟩ := cs2 (L1.out); (try clear f0 f1); obtain ⟨f0, f1⟩ := cs2 (L5.out); clear hi_ hr_ hpl_ ho_ hg_) | ((with_reducible refine gate_store (p := 5) rfl ?_); go_must ((refine wpList_plain rfl fun K_ hK_ => wp_store_row _ _ _ rfl (g5) #[.slice A3 (ys.length + 1) c3, .slice none 0 0] rfl rfl _ _ L5.out (by kernel_rfl) rfl (by simp [Value.oneCell']) (hK_ _ _ ?_)); refine named _ ?_; intro wz hwz; replace HB := Aside0.mk (sb_ hwz HB.out (by have := Hg5.out; have := Hgx.out; omega)); replace L0 := Aside0.mk (so_ hwz L0.out (by have := Hg5.out; have := Hgx.out; omega)); replace L1 := Aside0.mk (so_ hwz L1.out (by have := Hg5.out; have := Hgx.out; omega)); replace L5 := Aside0.mk (sh_ hwz L5.out); replace RN3 := Aside0.mk (R_farN (RN3.out) (hwz ▸ grown_setRow _ _ _) (fun k hk e => HN3.out k hk (Option.some.inj e))); (try clear c0 c1); obtain ⟨c0, c1⟩ := cs2 (L0.out); (try clear e0 e1); obtain ⟨e0, e1⟩ := cs2 (L1.out); (try clear f0 f1); obtain ⟨f0, f1⟩ := cs2 (L5.out); clear hwz)))
    try have HL3 := Aside0.mk (show (ys.take i3 ++ y.b :: ys.drop i3).length = ys.length + 1 by simp only [List.length_append, List.length_cons, List.length_take, List.length_drop]; have := HI3.out; omega)
    try have HL4 := Aside0.mk (show (ys.take i3 ++ y.a :: ys.drop i3).length = ys.length + 1 by simp only [List.length_append, List.length_cons, List.length_take, List.length_drop]; have := HI3.out; omega)
    go_roundw
    case rel => first
     | exact ⟨j + 1, A3, c3, _, HLTJ.out, by have h := nearP_put HP.out HOY.out (okE_iff.1 HOE.out).2.2.1 (of_decide_eq_false HMB.out) HNO.out; rw [← HPL.out ⟨HOY.out, HP.out.1, (okE_iff.1 HOE.out).2.2.1⟩, ← HT.out] at h; exact h, by rw [HL3.out]; have := HYJ.out; omega, by go_num, by rw [HL3.out]; exact RN3.out, by rw [HL3.out]; exact HN3.out, L0.out, L1.out, by rw [HL3.out]; exact L5.out, HB.out⟩
     | exact ⟨j + 1, A3, c3, _, HLTJ.out, by have h := nearP_put HP.out HOY.out (okE_iff.1 HOE.out).2.1 (of_decide_eq_false HMA.out) HNO.out; rw [← HPL.out ⟨HOY.out, HP.out.1, (okE_iff.1 HOE.out).2.1⟩, ← HT.out] at h; exact h, by rw [HL4.out]; have := HYJ.out; omega, by go_num, by rw [HL4.out]; exact RN3.out, by rw [HL4.out]; exact HN3.out, L0.out, L1.out, by rw [HL4.out]; exact L5.out, HB.out⟩
     | exact ⟨j + 1, A2, c2, ys, HLTJ.out, by rw [HT.out]; exact nearP_skip HP.out (by first | exact .inl HNO.out | exact .inr ⟨_, of_decide_eq_true HMB.out, HNO.out⟩ | exact .inr ⟨_, of_decide_eq_true HMA.out, HNO.out⟩), by have := HYJ.out; omega, by go_num, RN.out, HN5.out, L0.out, L1.out, L5.out, HB.out⟩
    case measure => simp [intOf]; omega
  ·have hjl : ¬ (j : Int) < (es.length : Int) := by omega
   obtain rfl : j = es.length := by have := HJ.out; omega
   have HE := Aside0.mk (show ys = nearG ns es n from nearP_end HOG.out (by have h := HP.out; rwa [List.take_length] at h))
   have k0 := pw_cell_below (below_alloc (Below.refl wr.heap.size wr) (.cells #[] 28)) f0
   go_wp2_with (first | ((with_reducible refine gate_builtin (b := .append) rfl ?_); go_must ((refine w_append flatN (W := wr.alloc (.cells #[] 28)) (base := w.heap.size) (e := 28) (.agg #[(.int .i64 0), (.int .i64 0)]) 16 (.slice (some ⟨wr.heap.size, 0, none⟩) 0 0) [] ys rfl rfl Tryz.underlying23 infoN rfl (by decide) (R_empty flatN HB.out.size) (Kd.C_below (Kd.R_reads' RN.out).2.2 (below_alloc (Below.refl _ _) _)) rfl rfl (below_alloc HB.out _).size (by have := HYL.out; simp; omega) ?_); intro B9 n9 p9 wt hn9_ hp9_ hr_ hg_ ho_; obtain rfl : n9 = ys.length := hn9_; have RN9 := Aside0.mk hr_; have HB9 := Aside0.mk ((below_alloc HB.out (.cells #[] 28)).grown hg_ (below_alloc HB.out _).size (fun k hk => by have : wr.heap.size = k := Option.some.inj hk; have := HB.out.size; omega)); clear hp9_ hr_ hg_ ho_)))
   go_ret
   exact ⟨B9, p9, by rw [← HE.out]; rfl, by rw [← HE.out]; exact (Kd.R_reads' RN9.out).2.2, by rw [← HE.out]; exact (Kd.R_reads' RN9.out).2.1, fun ad h => Kd.R_base RN9.out ad.block (by rw [h]; rfl), HB9.out⟩
end Go.Proofs.YtogmbeifbjgphaaGreat.R
