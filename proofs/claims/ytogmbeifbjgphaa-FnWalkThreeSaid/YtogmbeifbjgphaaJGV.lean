/- impl.GraphView: what a label may see of a graph. -/
import Derived.Test.YtogmbeifbjgphaaJB18
import Derived.Test.YtogmbeifbjgphaaJB2
namespace Go.Proofs.Ytogmbeifbjgphaa.R
open Go.RowKit Go.Proofs.YtogmbeifbjgphaaV.PrintWords Go.Proofs.YtogmbeifbjgphaaV.PrintLast Go.Proofs.YtogmbeifbjgphaaV.PrintMore Go.Proofs.Ytogmbeifbjgphaa.M
set_option linter.unusedVariables false
set_option linter.unusedSimpArgs false
attribute [local go_sem high] eqN eqE
theorem sc_ {w u : World} {g i k : Nat} {v : Value} {cs : Array Value} {t : TypeId} (e : u = w.setCell ⟨g, i, none⟩ v) (h : w.heap[k]? = some (.cells cs t (0, 0))) (hne : k ≠ g) : u.heap[k]? = some (.cells cs t (0, 0)) := by
  rw [e]
  exact blk_far h (show k ≠ (⟨g, i, none⟩ : Addr).block from hne) _
theorem Own.keep {w u : World} {base G : Nat} {A B : Option Addr} {c d : Nat} {ns : List Nd} {es : List Eg} (h : Own w base G A c ns B d es) {row : Option Nat} (hg : w.grownBy u row) (hG : some G ≠ row) (hA : ∀ k, (Value.slice A ns.length c).ownBlock = some k → some k ≠ row) (hB : ∀ k, (Value.slice B es.length d).ownBlock = some k → some k ≠ row) : Own u base G A c ns B d es :=
  ⟨(hg.block G (blk_lt h.blk) hG).trans h.blk, R_farN h.rn hg hA, R_farE h.re hg hB, h.off, h.gn, h.ge, h.gb⟩
theorem Own.under {w : World} {base G g : Nat} {A B : Option Addr} {c d : Nat} {ns : List Nd} {es : List Eg} (h : Own w base G A c ns B d es) (hg : w.heap.size ≤ g) : (G ≠ g) ∧ (∀ k, (Value.slice A ns.length c).ownBlock = some k → some k ≠ some g) ∧ (∀ k, (Value.slice B es.length d).ownBlock = some k → some k ≠ some g) :=
  ⟨by have := blk_lt h.blk; omega, fun k hk e => by have := Kd.R_lt h.rn k hk; have := Option.some.inj e; omega, fun k hk e => by have := Kd.R_lt h.re k hk; have := Option.some.inj e; omega⟩
theorem takeN_snoc {l : List Nd} {j : Nat} (h : j < l.length) : l.take (j + 1) = l.take j ++ [at_ l j] := by
  rw [List.take_add_one, List.getElem?_eq_getElem h, at_lt h]
  rfl
theorem takeE_snoc {l : List Eg} {j : Nat} (h : j < l.length) : l.take (j + 1) = l.take j ++ [eat l j] := by
  rw [List.take_add_one, List.getElem?_eq_getElem h, eat_lt h]
  rfl
def ViewI (w : World) (g5 : Nat) (A : Option Addr) (c : Nat) (ns : List Nd) (B : Option Addr) (d : Nat) (es : List Eg) (cl : Int) (s : Value) (wr : World) : Prop :=
  ∃ (j : Nat) (A2 : Option Addr) (c2 : Nat) (ys : List Nd), j ≤ ns.length ∧ s = .int .i64 (j : Int) ∧ ys = (ns.take j).filter (fun n => under n.lab cl) ∧ Own wr (w.heap.size + 2) g5 A2 c2 ys none 0 [] ∧ wr.heap[w.heap.size]? = some (.cells #[.slice A ns.length c, .slice B es.length d] 26 (0, 0)) ∧ wr.heap[w.heap.size + 1]? = some (.cells #[.slice none 0 0, .slice none 0 0] 26 (0, 0)) ∧ Below w.heap.size w wr
def ViewJ (w : World) (g5 : Nat) (A : Option Addr) (c : Nat) (ns : List Nd) (B : Option Addr) (d : Nat) (es : List Eg) (cl : Int) (A2 : Option Addr) (c2 : Nat) (ys : List Nd) (s : Value) (wr : World) : Prop :=
  ∃ (j : Nat) (B2 : Option Addr) (d2 : Nat) (zs : List Eg), j ≤ es.length ∧ s = .int .i64 (j : Int) ∧ zs = (es.take j).filter (fun n => under n.lab cl) ∧ Own wr (w.heap.size + 2) g5 A2 c2 ys B2 d2 zs ∧ wr.heap[w.heap.size]? = some (.cells #[.slice A ns.length c, .slice B es.length d] 26 (0, 0)) ∧ wr.heap[w.heap.size + 1]? = some (.cells #[.slice none 0 0, .slice none 0 0] 26 (0, 0)) ∧ Below w.heap.size w wr
theorem graphOk_asV (A : Option Addr) (c : Nat) (ns : List Nd) (B : Option Addr) (d : Nat) (es : List Eg) (v : Bool) (w : World) (hr : kN.C w A ns.length ns) (hr2 : kE.C w B es.length es) (h : okG ns es = v) :
    Calls Try.prog 36 #[.agg #[.slice A ns.length c, .slice B es.length d]] w fun e w' => e = .returned (.bool v) ∧ Below w.heap.size w w' := by
  subst h
  exact graphOk_calls A c ns B d es w hr hr2
set_option maxHeartbeats 12800000 in
set_option maxRecDepth 100000 in
theorem view_calls (A : Option Addr) (c : Nat) (ns : List Nd) (B : Option Addr) (d : Nat) (es : List Eg) (cl : Int) (w : World) (hr : GR w A c ns B d es) :
    Calls Try.prog 39 #[.agg #[.slice A ns.length c, .slice B es.length d], .int .i64 cl] w fun e w' => ∃ A' c' B' d', e = .returned (.agg #[.slice A' (viewN ns es cl).length c', .slice B' (viewE ns es cl).length d']) ∧ GR w' A' c' (viewN ns es cl) B' d' (viewE ns es cl) ∧ Below w.heap.size w w' := by
  have HR := Aside0.mk hr
  clear hr
  obtain ⟨v, hv⟩ : ∃ v, okG ns es = v := ⟨_, rfl⟩
  have HOK := Aside0.mk hv
  obtain ⟨L0, L1, HB⟩ := al2 w #[.slice A ns.length c, .slice B es.length d] #[.slice none 0 0, .slice none 0 0] 26 26
  clear hv
  cases v
  · have HVN := Aside0.mk (show viewN ns es cl = [] by unfold viewN; rw [HOK.out]; rfl)
    have HVE := Aside0.mk (show viewE ns es cl = [] by unfold viewE; rw [HOK.out]; rfl)
    go_enter Try.func39, Try.ntmps39
    go_wp2_with (first | ((with_reducible refine gate_dst (N := 5) rfl ?_); go_must ((refine w_new #[.slice none 0 0, .slice none 0 0] 26 rfl (by go_simp; (first | done | rfl)) ?_); intro g5 u_ hge_ hb0_ hb; have Hg5 := Aside0.mk (show w.heap.size + 2 ≤ g5 from by have hl0_ := blk_lt L1.out; exact by omega); have L5 := Aside0.mk hb0_; replace HB := Aside0.mk (below_step HB.out hb); replace L0 := Aside0.mk (blk_below L0.out hb); replace L1 := Aside0.mk (blk_below L1.out hb); clear hge_ hb0_ hb; (try clear c0 c1); obtain ⟨c0, c1⟩ := cs2 (L0.out); (try clear e0 e1); obtain ⟨e0, e1⟩ := cs2 (L1.out); (try clear f0 f1); obtain ⟨f0, f1⟩ := cs2 (L5.out))) | (go_at_call 36; go_must ((refine (graphOk_asV A c ns B d es _ _ (Kd.C_below HR.out.cn HB.out) (Kd.C_below HR.out.ce HB.out) HOK.out).mono ?_); rintro e u_ ⟨rfl, hb⟩; replace HB := Aside0.mk (below_step HB.out hb); replace L0 := Aside0.mk (blk_below L0.out hb); replace L1 := Aside0.mk (blk_below L1.out hb); replace L5 := Aside0.mk (blk_below L5.out hb); (try clear c0 c1); obtain ⟨c0, c1⟩ := cs2 (L0.out); (try clear e0 e1); obtain ⟨e0, e1⟩ := cs2 (L1.out); (try clear f0 f1); obtain ⟨f0, f1⟩ := cs2 (L5.out); clear hb)) | ((with_reducible refine gate_store (p := 4) rfl ?_); go_must ((refine wpList_plain rfl fun K_ hK_ => wp_store_row _ _ _ rfl (w.heap.size + 1) #[.slice none 0 0, .slice none 0 0] rfl rfl _ _ L1.out (by kernel_rfl) rfl (by simp [Value.oneCell']) (hK_ _ _ ?_)); refine named _ ?_; intro wz hwz; replace HB := Aside0.mk (sb_ hwz HB.out (by have := Hg5.out; omega)); replace L0 := Aside0.mk (so_ hwz L0.out (by have := Hg5.out; omega)); replace L5 := Aside0.mk (so_ hwz L5.out (by have := Hg5.out; omega)); replace L1 := Aside0.mk (sh_ hwz L1.out); (try clear c0 c1); obtain ⟨c0, c1⟩ := cs2 (L0.out); (try clear e0 e1); obtain ⟨e0, e1⟩ := cs2 (L1.out); (try clear f0 f1); obtain ⟨f0, f1⟩ := cs2 (L5.out); clear hwz)))
    exact bodyPost_ret (results_cell_row rfl _ _ (w.heap.size + 1) _ #[.slice none 0 0, .slice none 0 0] (0, 0) _ rfl L1.out Try.underlying26 rfl (by kernel_rfl)) rfl ⟨none, 0, none, 0, by rw [HVN.out, HVE.out]; rfl, by rw [HVN.out, HVE.out]; exact gr_nil _, HB.out⟩
  · have HOG := Aside0.mk (okG_true.1 HOK.out)
    have HVN := Aside0.mk (view_of HOG.out cl).1
    have HVE := Aside0.mk (view_of HOG.out cl).2
    have HLN := Aside0.mk (show ns.length ≤ 40 ∧ es.length ≤ 56 from ⟨(NsOk.mk HOG.out.nok HOG.out.nasc HOG.out.nfew).len, (EsOk.mk HOG.out.eok HOG.out.easc HOG.out.efew HOG.out.ends).len⟩)
    go_enter Try.func39, Try.ntmps39
    go_wp2_with (first | ((with_reducible refine gate_dst (N := 5) rfl ?_); go_must ((refine w_new #[.slice none 0 0, .slice none 0 0] 26 rfl (by go_simp; (first | done | rfl)) ?_); intro g5 u_ hge_ hb0_ hb; have Hg5 := Aside0.mk (show w.heap.size + 2 ≤ g5 from by have hl0_ := blk_lt L1.out; exact by omega); have L5 := Aside0.mk hb0_; replace HB := Aside0.mk (below_step HB.out hb); replace L0 := Aside0.mk (blk_below L0.out hb); replace L1 := Aside0.mk (blk_below L1.out hb); clear hge_ hb0_ hb; (try clear c0 c1); obtain ⟨c0, c1⟩ := cs2 (L0.out); (try clear e0 e1); obtain ⟨e0, e1⟩ := cs2 (L1.out); (try clear f0 f1); obtain ⟨f0, f1⟩ := cs2 (L5.out))) | (go_at_call 36; go_must ((refine (graphOk_asV A c ns B d es _ _ (Kd.C_below HR.out.cn HB.out) (Kd.C_below HR.out.ce HB.out) HOK.out).mono ?_); rintro e u_ ⟨rfl, hb⟩; replace HB := Aside0.mk (below_step HB.out hb); replace L0 := Aside0.mk (blk_below L0.out hb); replace L1 := Aside0.mk (blk_below L1.out hb); replace L5 := Aside0.mk (blk_below L5.out hb); (try clear c0 c1); obtain ⟨c0, c1⟩ := cs2 (L0.out); (try clear e0 e1); obtain ⟨e0, e1⟩ := cs2 (L1.out); (try clear f0 f1); obtain ⟨f0, f1⟩ := cs2 (L5.out); clear hb)))
    have HO := Aside0.mk (⟨L5.out, Kd.R_nil _ _ _ _ _, Kd.R_nil _ _ _ _ _, fun k h1 h2 => by simp [Value.ownBlock] at h1, fun k h1 => by simp [Value.ownBlock] at h1, fun k h1 => by simp [Value.ownBlock] at h1, Hg5.out⟩ : Own _ (w.heap.size + 2) g5 none 0 [] none 0 [])
    clear L5 f0 f1
    go_loopw [7, 17] (fun _ s17 wr => ViewI w g5 A c ns B d es cl s17 wr) (fun _ s17 _ => (ns.length - intOf s17).toNat)
    case atStart => exact ⟨0, none, 0, [], Nat.zero_le _, rfl, rfl, HO.out, L0.out, L1.out, HB.out⟩
    case round =>
      clear L0 L1 HO HB
      obtain ⟨j, A2, c2, ys, hj, rfl, hys_, ho_, l0_, l1_, hb_⟩ := hrel
      have HJ := Aside0.mk hj
      have HYS := Aside0.mk hys_
      have HO := Aside0.mk ho_
      have L0 := Aside0.mk l0_
      have L1 := Aside0.mk l1_
      have HB := Aside0.mk hb_
      obtain ⟨c0, c1⟩ := cs2 (L0.out)
      clear hys_ ho_ l0_ l1_ hb_ hj
      have HYL := Aside0.mk (show (ys.length + 1) * 16 ≤ 140737488355328 by
        have h1 : ys.length ≤ j := by rw [HYS.out]; exact Nat.le_trans (List.length_filter_le _ _) (by rw [List.length_take]; omega)
        have := HJ.out; have := HLN.out; omega)
      by_cases hlt : j < ns.length
      · have hjl : (j : Int) < (ns.length : Int) := by omega
        have HLT := Aside0.mk hlt
        have hjm : (j : Int) ≤ 1000000 := by have := HLN.out; omega
        have HT := Aside0.mk (takeN_snoc hlt)
        obtain ⟨ad, e1, r0, r1⟩ := nd_at (Kd.C_below HR.out.cn HB.out) j hlt
        cases e1
        generalize at_ ns j = y at r0 r1 HT
        have k0 := HO.out.c0
        have k1 := HO.out.c1
        cases hu : under y.lab cl
        all_goals
          have HU := Aside0.mk hu
          go_wp2_with (first | ((with_reducible refine gate_dst (N := 7) rfl ?_); go_must ((refine w_new #[.int .i64 0, .int .i64 0] 28 rfl (by go_simp; (first | done | rfl)) ?_); intro gx u_ hge_ hb0_ hb; have HN7 := Aside0.mk (HO.out.under hge_); have Hgx := Aside0.mk (show w.heap.size + 2 ≤ gx from by have hl0_ := blk_lt L1.out; exact by omega); have LX := Aside0.mk hb0_; replace HB := Aside0.mk (below_step HB.out hb); replace L0 := Aside0.mk (blk_below L0.out hb); replace L1 := Aside0.mk (blk_below L1.out hb); replace HO := Aside0.mk (HO.out.below hb); clear hge_ hb0_ hb; (try clear c0 c1); obtain ⟨c0, c1⟩ := cs2 (L0.out); (try clear e0 e1); obtain ⟨e0, e1⟩ := cs2 (L1.out); (try clear x0 x1); obtain ⟨x0, x1⟩ := cs2 (LX.out))) | ((with_reducible refine gate_store (p := 7) rfl ?_); go_must ((refine wpList_plain rfl fun K_ hK_ => wp_store_row _ _ _ rfl (gx) #[.int .i64 y.lab, .int .i64 y.num] rfl rfl _ _ LX.out (by kernel_rfl) rfl (by simp [Value.oneCell']) (hK_ _ _ ?_)); refine named _ ?_; intro wz hwz; replace HB := Aside0.mk (sb_ hwz HB.out (by have := Hg5.out; have := Hgx.out; omega)); replace L0 := Aside0.mk (so_ hwz L0.out (by have := Hg5.out; have := Hgx.out; omega)); replace L1 := Aside0.mk (so_ hwz L1.out (by have := Hg5.out; have := Hgx.out; omega)); replace LX := Aside0.mk (sh_ hwz LX.out); replace HO := Aside0.mk (show Own wz (w.heap.size + 2) g5 A2 c2 ys none 0 [] by rw [hwz]; exact (HO.out).keep (grown_setRow _ _ _) (fun e => HN7.out.1 (Option.some.inj e)) HN7.out.2.1 HN7.out.2.2); (try clear c0 c1); obtain ⟨c0, c1⟩ := cs2 (L0.out); (try clear e0 e1); obtain ⟨e0, e1⟩ := cs2 (L1.out); (try clear x0 x1); obtain ⟨x0, x1⟩ := cs2 (LX.out); replace k0 := HO.out.c0; replace k1 := HO.out.c1; clear hwz)) | (go_at_call 40; go_must ((refine (labelUnder_calls y.lab cl _).mono ?_); rintro e u_ ⟨rfl, rfl⟩; rw [HU.out])) | ((with_reducible refine gate_dst (N := 28) rfl ?_); go_must ((refine w_lit #[.int .i64 y.lab, .int .i64 y.num] 28 1 rfl (by go_simp; (first | done | rfl)) ?_); intro gl u_ hge_ hb0_ hb; have LT := Aside0.mk hb0_; replace HB := Aside0.mk (below_step HB.out hb); replace L0 := Aside0.mk (blk_below L0.out hb); replace L1 := Aside0.mk (blk_below L1.out hb); replace LX := Aside0.mk (blk_below LX.out hb); replace HO := Aside0.mk (HO.out.below hb); (try clear c0 c1); obtain ⟨c0, c1⟩ := cs2 (L0.out); (try clear e0 e1); obtain ⟨e0, e1⟩ := cs2 (L1.out); (try clear x0 x1); obtain ⟨x0, x1⟩ := cs2 (LX.out); have k0 := HO.out.c0; have k1 := HO.out.c1; clear hge_ hb0_ hb)) | ((with_reducible refine gate_builtin (b := .append) rfl ?_); go_must ((refine w_append flatN (base := w.heap.size + 2) (e := 28) (.agg #[(.int .i64 0), (.int .i64 0)]) 16 (.slice A2 ys.length c2) ys [y] rfl rfl Try.underlying23 infoN rfl (by decide) HO.out.rn (one_rowN LT.out) rfl rfl HO.out.base_le (by have := HYL.out; omega) ?_); intro B9 n9 p9 wt hn9_ hp9_ hr_ hg_ ho_; obtain rfl : n9 = (ys ++ [y]).length := hn9_; replace L0 := Aside0.mk ((hg_.block _ (blk_lt L0.out) (fun e => by have := Kd.R_base HO.out.rn _ e.symm; omega)).trans L0.out); replace L1 := Aside0.mk ((hg_.block _ (blk_lt L1.out) (fun e => by have := Kd.R_base HO.out.rn _ e.symm; omega)).trans L1.out); replace HB := Aside0.mk (HB.out.grown hg_ HB.out.size (fun k hk => by have := Kd.R_base HO.out.rn k hk; omega)); have HOG := Aside0.mk (HO.out.growN hg_ hr_ ho_); have HBK := Aside0.mk (HO.out.blkN hg_); clear hp9_ hr_ hg_ ho_ k0 k1)) | ((with_reducible refine gate_store (p := 30) rfl ?_); go_must ((refine wpList_plain rfl fun K_ hK_ => wp_cell g5 0 B9 (ys ++ [y]).length p9 rfl rfl (by rw [List.length_append]; rfl) ⟨_, (blk_cell HBK.out 0).trans rfl⟩ (blk_frozen HBK.out 0) (by kernel_rfl) (hK_ _ _ ?_)); refine named _ ?_; intro ud hud; have HO9 := Aside0.mk (show Own ud (w.heap.size + 2) g5 B9 p9 (ys ++ [y]) none 0 [] by rw [hud]; exact HOG.out); replace L0 := Aside0.mk (sc_ hud L0.out (by have := Hg5.out; omega)); replace L1 := Aside0.mk (sc_ hud L1.out (by have := Hg5.out; omega)); replace HB := Aside0.mk (show Below w.heap.size w ud by rw [hud]; exact below_set HB.out (by have := Hg5.out; omega)); clear hud)))
          go_roundw
          case rel => first | exact ⟨j + 1, B9, p9, ys ++ [y], HLT.out, by go_num, by rw [HT.out, List.filter_append, ← HYS.out]; simp [HU.out], HO9.out, L0.out, L1.out, HB.out⟩ | exact ⟨j + 1, A2, c2, ys, HLT.out, by go_num, by rw [HT.out, List.filter_append, ← HYS.out]; simp [HU.out], HO.out, L0.out, L1.out, HB.out⟩
          case measure => simp [intOf]; omega
      · have hjl : ¬ (j : Int) < (ns.length : Int) := by omega
        obtain rfl : j = ns.length := by have := HJ.out; omega
        rw [List.take_length] at HYS
        have k0 := HO.out.c0
        have k1 := HO.out.c1
        have HY1 := Aside0.mk HYS.out
        clear HYS
        go_wp2_with (fail)
        go_loopw [9, 35] (fun _ s35 wr => ViewJ w g5 A c ns B d es cl A2 c2 ys s35 wr) (fun _ s35 _ => (es.length - intOf s35).toNat)
        case atStart => exact ⟨0, none, 0, [], Nat.zero_le _, rfl, rfl, HO.out, L0.out, L1.out, HB.out⟩
        case round =>
          clear L0 L1 HO HB HJ HYL k0 k1 c0 c1
          obtain ⟨j, B2, d2, zs, hj, rfl, hys_, ho_, l0_, l1_, hb_⟩ := hrel
          have HJ := Aside0.mk hj
          have HYS := Aside0.mk hys_
          have HO := Aside0.mk ho_
          have L0 := Aside0.mk l0_
          have L1 := Aside0.mk l1_
          have HB := Aside0.mk hb_
          obtain ⟨c0, c1⟩ := cs2 (L0.out)
          clear hys_ ho_ l0_ l1_ hb_ hj
          have HYL := Aside0.mk (show (zs.length + 1) * 40 ≤ 140737488355328 by
            have h1 : zs.length ≤ j := by rw [HYS.out]; exact Nat.le_trans (List.length_filter_le _ _) (by rw [List.length_take]; omega)
            have := HJ.out; have := HLN.out; omega)
          by_cases hlt : j < es.length
          · have hjl : (j : Int) < (es.length : Int) := by omega
            have HLT := Aside0.mk hlt
            have hjm : (j : Int) ≤ 1000000 := by have := HLN.out; omega
            have HT := Aside0.mk (takeE_snoc hlt)
            obtain ⟨ad, e1, r0, r1, r2, r3, r4⟩ := eg_at (Kd.C_below HR.out.ce HB.out) j hlt
            cases e1
            generalize eat es j = y at r0 r1 r2 r3 r4 HT
            have k0 := HO.out.c0
            have k1 := HO.out.c1
            cases hu : under y.lab cl
            all_goals
              have HU := Aside0.mk hu
              go_wp2_with (first | ((with_reducible refine gate_dst (N := 9) rfl ?_); go_must ((refine w_new #[.int .i64 0, .int .i64 0, .int .i64 0, .int .i64 0, .int .i64 0] 30 rfl (by go_simp; (first | done | rfl)) ?_); intro gx u_ hge_ hb0_ hb; have HN7 := Aside0.mk (HO.out.under hge_); have Hgx := Aside0.mk (show w.heap.size + 2 ≤ gx from by have hl0_ := blk_lt L1.out; exact by omega); have LX := Aside0.mk hb0_; replace HB := Aside0.mk (below_step HB.out hb); replace L0 := Aside0.mk (blk_below L0.out hb); replace L1 := Aside0.mk (blk_below L1.out hb); replace HO := Aside0.mk (HO.out.below hb); clear hge_ hb0_ hb; (try clear c0 c1); obtain ⟨c0, c1⟩ := cs2 (L0.out); (try clear e0 e1); obtain ⟨e0, e1⟩ := cs2 (L1.out); (try clear x0 x1 x2 x3 x4); obtain ⟨x0, x1, x2, x3, x4⟩ := cs5 (LX.out))) | ((with_reducible refine gate_store (p := 9) rfl ?_); go_must ((refine wpList_plain rfl fun K_ hK_ => wp_store_row _ _ _ rfl (gx) #[.int .i64 y.lab, .int .i64 y.a.lab, .int .i64 y.a.num, .int .i64 y.b.lab, .int .i64 y.b.num] rfl rfl _ _ LX.out (by kernel_rfl) rfl (by simp [Value.oneCell']) (hK_ _ _ ?_)); refine named _ ?_; intro wz hwz; replace HB := Aside0.mk (sb_ hwz HB.out (by have := Hg5.out; have := Hgx.out; omega)); replace L0 := Aside0.mk (so_ hwz L0.out (by have := Hg5.out; have := Hgx.out; omega)); replace L1 := Aside0.mk (so_ hwz L1.out (by have := Hg5.out; have := Hgx.out; omega)); replace LX := Aside0.mk (sh_ hwz LX.out); replace HO := Aside0.mk (show Own wz (w.heap.size + 2) g5 A2 c2 ys B2 d2 zs by rw [hwz]; exact (HO.out).keep (grown_setRow _ _ _) (fun e => HN7.out.1 (Option.some.inj e)) HN7.out.2.1 HN7.out.2.2); (try clear c0 c1); obtain ⟨c0, c1⟩ := cs2 (L0.out); (try clear e0 e1); obtain ⟨e0, e1⟩ := cs2 (L1.out); (try clear x0 x1 x2 x3 x4); obtain ⟨x0, x1, x2, x3, x4⟩ := cs5 (LX.out); replace k0 := HO.out.c0; replace k1 := HO.out.c1; clear hwz)) | (go_at_call 40; go_must ((refine (labelUnder_calls y.lab cl _).mono ?_); rintro e u_ ⟨rfl, rfl⟩; rw [HU.out])) | ((with_reducible refine gate_dst (N := 46) rfl ?_); go_must ((refine w_lit #[.int .i64 y.lab, .int .i64 y.a.lab, .int .i64 y.a.num, .int .i64 y.b.lab, .int .i64 y.b.num] 30 1 rfl (by go_simp; (first | done | rfl)) ?_); intro gl u_ hge_ hb0_ hb; have LT := Aside0.mk hb0_; replace HB := Aside0.mk (below_step HB.out hb); replace L0 := Aside0.mk (blk_below L0.out hb); replace L1 := Aside0.mk (blk_below L1.out hb); replace LX := Aside0.mk (blk_below LX.out hb); replace HO := Aside0.mk (HO.out.below hb); (try clear c0 c1); obtain ⟨c0, c1⟩ := cs2 (L0.out); (try clear e0 e1); obtain ⟨e0, e1⟩ := cs2 (L1.out); (try clear x0 x1 x2 x3 x4); obtain ⟨x0, x1, x2, x3, x4⟩ := cs5 (LX.out); have k0 := HO.out.c0; have k1 := HO.out.c1; clear hge_ hb0_ hb)) | ((with_reducible refine gate_builtin (b := .append) rfl ?_); go_must ((refine w_append flatE (base := w.heap.size + 2) (e := 30) (.agg #[(.int .i64 0), (.int .i64 0), (.int .i64 0), (.int .i64 0), (.int .i64 0)]) 40 (.slice B2 zs.length d2) zs [y] rfl rfl Try.underlying24 infoE rfl (by decide) HO.out.re (one_rowE LT.out) rfl rfl HO.out.base_le (by have := HYL.out; omega) ?_); intro B9 n9 p9 wt hn9_ hp9_ hr_ hg_ ho_; obtain rfl : n9 = (zs ++ [y]).length := hn9_; replace L0 := Aside0.mk ((hg_.block _ (blk_lt L0.out) (fun e => by have := Kd.R_base HO.out.re _ e.symm; omega)).trans L0.out); replace L1 := Aside0.mk ((hg_.block _ (blk_lt L1.out) (fun e => by have := Kd.R_base HO.out.re _ e.symm; omega)).trans L1.out); replace HB := Aside0.mk (HB.out.grown hg_ HB.out.size (fun k hk => by have := Kd.R_base HO.out.re k hk; omega)); have HOG := Aside0.mk (HO.out.growE hg_ hr_ ho_); have HBK := Aside0.mk (HO.out.blkE hg_); clear hp9_ hr_ hg_ ho_ k0 k1)) | ((with_reducible refine gate_store (p := 48) rfl ?_); go_must ((refine wpList_plain rfl fun K_ hK_ => wp_cell g5 1 B9 (zs ++ [y]).length p9 rfl rfl (by rw [List.length_append]; rfl) ⟨_, (blk_cell HBK.out 1).trans rfl⟩ (blk_frozen HBK.out 1) (by kernel_rfl) (hK_ _ _ ?_)); refine named _ ?_; intro ud hud; have HO9 := Aside0.mk (show Own ud (w.heap.size + 2) g5 A2 c2 ys B9 p9 (zs ++ [y]) by rw [hud]; exact HOG.out); replace L0 := Aside0.mk (sc_ hud L0.out (by have := Hg5.out; omega)); replace L1 := Aside0.mk (sc_ hud L1.out (by have := Hg5.out; omega)); replace HB := Aside0.mk (show Below w.heap.size w ud by rw [hud]; exact below_set HB.out (by have := Hg5.out; omega)); clear hud)))
              go_roundw
              case rel => first | exact ⟨j + 1, B9, p9, zs ++ [y], HLT.out, by go_num, by rw [HT.out, List.filter_append, ← HYS.out]; simp [HU.out], HO9.out, L0.out, L1.out, HB.out⟩ | exact ⟨j + 1, B2, d2, zs, HLT.out, by go_num, by rw [HT.out, List.filter_append, ← HYS.out]; simp [HU.out], HO.out, L0.out, L1.out, HB.out⟩
              case measure => simp [intOf]; omega
          · have hjl : ¬ (j : Int) < (es.length : Int) := by omega
            obtain rfl : j = es.length := by have := HJ.out; omega
            rw [List.take_length] at HYS
            have k0 := HO.out.c0
            have k1 := HO.out.c1
            go_wp2_with (first | ((with_reducible refine gate_store (p := 4) rfl ?_); go_must ((refine wpList_plain rfl fun K_ hK_ => wp_store_row _ _ _ rfl (w.heap.size + 1) #[.slice A2 ys.length c2, .slice B2 zs.length d2] rfl rfl _ _ L1.out (by kernel_rfl) rfl (by simp [Value.oneCell']) (hK_ _ _ ?_)); refine named _ ?_; intro wz hwz; replace HB := Aside0.mk (sb_ hwz HB.out (by have := Hg5.out; omega)); replace L0 := Aside0.mk (so_ hwz L0.out (by have := Hg5.out; omega)); replace L1 := Aside0.mk (sh_ hwz L1.out); replace HO := Aside0.mk (show Own wz (w.heap.size + 2) g5 A2 c2 ys B2 d2 zs by rw [hwz]; exact (HO.out).far (grown_setRow _ _ _) (fun k e => by have := Option.some.inj e; omega)); (try clear c0 c1); obtain ⟨c0, c1⟩ := cs2 (L0.out); (try clear e0 e1); obtain ⟨e0, e1⟩ := cs2 (L1.out); clear hwz)))
            exact bodyPost_ret (results_cell_row rfl _ _ (w.heap.size + 1) _ #[.slice A2 ys.length c2, .slice B2 zs.length d2] (0, 0) _ rfl L1.out Try.underlying26 rfl (by kernel_rfl)) rfl ⟨A2, c2, B2, d2, by rw [HVN.out, HVE.out, ← HY1.out, ← HYS.out], by rw [HVN.out, HVE.out, ← HY1.out, ← HYS.out]; exact HO.out.gr, HB.out⟩
end Go.Proofs.Ytogmbeifbjgphaa.R
