/- impl.GraphNear of a node that no edge joins: no node. -/
import Derived.Test.YtogmbeifbjgphaaKB23
import Derived.Test.YtogmbeifbjgphaaKB2
import Derived.Test.YtogmbeifbjgphaaKB12
import Derived.Test.YtogmbeifbjgphaaKB26
namespace Go.Proofs.Ytogmbeifbjgphaa.R
open Go.RowKit Go.Proofs.YtogmbeifbjgphaaV.PrintWords Go.Proofs.YtogmbeifbjgphaaV.PrintLast Go.Proofs.YtogmbeifbjgphaaV.PrintMore Go.Proofs.Ytogmbeifbjgphaa.M
set_option linter.unusedVariables false
set_option linter.unusedSimpArgs false
attribute [local go_sem high] eqN eqE
theorem insSort0 (w : World) : Calls Try.prog 207 #[.slice none 0 0, .int .i64 0, .int .i64 0, .func (.func 114) #[] #[]] w fun e w' => e = .returned (.tuple #[]) ∧ w = w' := by
  go_enter Try.func207, Try.ntmps207
  go_wp2_with (fail)
  go_loopw [8, 9] (fun s _ wr => s = .int .i64 1 ∧ w = wr) (fun _ _ _ => 0)
  case atStart => exact ⟨rfl, rfl⟩
  case round =>
    obtain ⟨rfl, rfl⟩ := hrel
    go_wp2_with (fail)
    go_end0
    exact ⟨rfl, rfl⟩
theorem pdq0 (k : Int) (w : World) : Calls Try.prog 176 #[.slice none 0 0, .int .i64 0, .int .i64 0, .int .i64 k, .func (.func 114) #[] #[]] w fun e w' => e = .returned (.tuple #[]) ∧ w = w' := by
  go_enter Try.func176, Try.ntmps176
  go_wp2_with (fail)
  go_loopw [1, 2, 3, 10, 11, 12, 13, 14, 15, 16, 17, 18, 19, 20] (fun s1 s2 s3 _ _ _ _ _ _ _ _ _ _ _ wr => s1 = .int .i64 0 ∧ s2 = .int .i64 0 ∧ w = wr) (fun _ _ _ _ _ _ _ _ _ _ _ _ _ _ _ => 0)
  case atStart => exact ⟨rfl, rfl, rfl⟩
  case round =>
    obtain ⟨rfl, rfl, rfl⟩ := hrel
    go_wp2_with (first | (go_at_call 207; go_must ((refine (insSort0 _).mono ?_); rintro e u_ ⟨rfl, rfl⟩)))
    exact bodyPost_ret (results_none rfl _ _ _) rfl ⟨rfl, rfl⟩
set_option maxRecDepth 100000 in
theorem bitsLen64_0 (w : World) : Calls Try.prog 216 #[.int .u64 0] w fun e w' => ∃ k, e = .returned (.int .i64 k) ∧ w = w' := by
  go_enter Try.func216, Try.ntmps216
  go_wp2_with (fail)
  go_ret
  exact ⟨_, rfl, rfl⟩
theorem bitsLen_0 (w : World) : Calls Try.prog 177 #[.int .u64 0] w fun e w' => ∃ k, e = .returned (.int .i64 k) ∧ w = w' := by
  go_enter Try.func177, Try.ntmps177
  go_wp2_with (first | (go_at_call 216; go_must ((refine (bitsLen64_0 _).mono ?_); rintro e u_ ⟨k, rfl, rfl⟩)))
  go_ret
  exact ⟨_, rfl, rfl⟩
theorem sortFunc0 (w : World) : Calls Try.prog 113 #[.slice none 0 0, .func (.func 114) #[] #[]] w fun e w' => e = .returned (.tuple #[]) ∧ w = w' := by
  go_enter Try.func113, Try.ntmps113
  go_wp2_with (first | (go_at_call 177; go_must ((refine (bitsLen_0 _).mono ?_); rintro e u_ ⟨k, rfl, rfl⟩)) | (go_at_call 176; go_must ((refine (pdq0 _ _).mono ?_); rintro e u_ ⟨rfl, rfl⟩)))
  go_end0
  exact ⟨rfl, rfl⟩
theorem compact0 (w : World) : Calls Try.prog 115 #[.slice none 0 0] w fun e w' => e = .returned (.slice none 0 0) ∧ w = w' := by
  go_enter Try.func115, Try.ntmps115
  go_wp2_with (fail)
  go_ret
  exact ⟨rfl, rfl⟩
def NearI (w : World) (A : Option Addr) (c : Nat) (ns : List Nd) (B : Option Addr) (d : Nat) (es : List Eg) (n : Nd) (s5 s14 : Value) (wr : World) : Prop :=
  ∃ j : Nat, j ≤ es.length ∧ s5 = .slice none 0 0 ∧ s14 = .int .i64 (j : Int) ∧ wr.heap[w.heap.size]? = some (.cells #[.slice A ns.length c, .slice B es.length d] 26 (0, 0)) ∧ wr.heap[w.heap.size + 1]? = some (.cells #[.int .i64 n.lab, .int .i64 n.num] 28 (0, 0)) ∧ Below w.heap.size w wr
set_option maxHeartbeats 6400000 in
set_option maxRecDepth 100000 in
theorem nearNone_calls (A : Option Addr) (c : Nat) (ns : List Nd) (B : Option Addr) (d : Nat) (es : List Eg) (n : Nd) (w : World) (hr : GR w A c ns B d es) (hn : ∀ e ∈ es, e.a ≠ n ∧ e.b ≠ n) :
    Calls Try.prog 42 #[.agg #[.slice A ns.length c, .slice B es.length d], .agg #[.int .i64 n.lab, .int .i64 n.num]] w fun e w' => e = .returned (.slice none 0 0) ∧ Below w.heap.size w w' := by
  have HR := Aside0.mk hr
  have HN := Aside0.mk hn
  clear hr hn
  obtain ⟨v, hv⟩ : ∃ v, okG ns es = v := ⟨_, rfl⟩
  have HOK := Aside0.mk hv
  clear hv
  obtain ⟨L0, L1, HB⟩ := al2 w #[.slice A ns.length c, .slice B es.length d] #[.int .i64 n.lab, .int .i64 n.num] 26 28
  cases v
  · go_enter Try.func42, Try.ntmps42
    go_wp2_with (first | (go_at_call 36; go_must ((refine (graphOk_calls A c ns B d es _ (Kd.C_below HR.out.cn HB.out) (Kd.C_below HR.out.ce HB.out)).mono ?_); rintro e u_ ⟨rfl, hb⟩; rw [HOK.out]; replace HB := Aside0.mk (below_step HB.out hb); replace L0 := Aside0.mk (blk_below L0.out hb); replace L1 := Aside0.mk (blk_below L1.out hb); (try clear c0 c1); obtain ⟨c0, c1⟩ := cs2 (L0.out); (try clear e0 e1); obtain ⟨e0, e1⟩ := cs2 (L1.out); clear hb)))
    go_ret
    exact ⟨rfl, HB.out⟩
  · have HLN := Aside0.mk (show es.length ≤ 56 from have HOG := okG_true.1 HOK.out; (EsOk.mk HOG.eok HOG.easc HOG.efew HOG.ends).len)
    go_enter Try.func42, Try.ntmps42
    go_wp2_with (first | (go_at_call 36; go_must ((refine (graphOk_calls A c ns B d es _ (Kd.C_below HR.out.cn HB.out) (Kd.C_below HR.out.ce HB.out)).mono ?_); rintro e u_ ⟨rfl, hb⟩; rw [HOK.out]; replace HB := Aside0.mk (below_step HB.out hb); replace L0 := Aside0.mk (blk_below L0.out hb); replace L1 := Aside0.mk (blk_below L1.out hb); (try clear c0 c1); obtain ⟨c0, c1⟩ := cs2 (L0.out); (try clear e0 e1); obtain ⟨e0, e1⟩ := cs2 (L1.out); clear hb)))
    go_loopw [5, 7, 14, 19, 28] (fun s5 _ s14 _ _ wr => NearI w A c ns B d es n s5 s14 wr) (fun _ _ s14 _ _ _ => (es.length - intOf s14).toNat)
    case atStart => exact ⟨0, Nat.zero_le _, rfl, rfl, L0.out, L1.out, HB.out⟩
    case round =>
      clear L0 L1 HB
      obtain ⟨j, hj, rfl, rfl, l0_, l1_, hb_⟩ := hrel
      have HJ := Aside0.mk hj
      have L0 := Aside0.mk l0_
      have L1 := Aside0.mk l1_
      have HB := Aside0.mk hb_
      obtain ⟨c0, c1⟩ := cs2 (L0.out)
      obtain ⟨e0, e1⟩ := cs2 (L1.out)
      clear hj l0_ l1_ hb_
      by_cases hlt : j < es.length
      · have hjl : (j : Int) < (es.length : Int) := by omega
        have HLT := Aside0.mk hlt
        have hjm : (j : Int) ≤ 56 := by have := HLN.out; omega
        obtain ⟨ad, ea, r0, r1, r2, r3, r4⟩ := eg_at (Kd.C_below HR.out.ce HB.out) j hlt
        cases ea
        have hna := HN.out _ (eat_mem hlt)
        generalize eat es j = y at r0 r1 r2 r3 r4 hna
        have h1 : (n.lab == y.a.lab && (n.num == y.a.num)) = false := (nd_eq n y.a).trans (decide_eq_false fun h => hna.1 h.symm)
        have h2 : (n.lab == y.b.lab && (n.num == y.b.num)) = false := (nd_eq n y.b).trans (decide_eq_false fun h => hna.2 h.symm)
        clear hna
        go_wp2_with (first | ((with_reducible refine gate_dst (N := 7) rfl ?_); go_must ((refine w_new #[.int .i64 0, .int .i64 0, .int .i64 0, .int .i64 0, .int .i64 0] 30 rfl (by go_simp; (first | done | rfl)) ?_); intro gx u_ hge_ hb0_ hb; have Hgx := Aside0.mk (show w.heap.size + 2 ≤ gx from by have hl0_ := blk_lt L1.out; exact by omega); have LX := Aside0.mk hb0_; replace HB := Aside0.mk (below_step HB.out hb); replace L0 := Aside0.mk (blk_below L0.out hb); replace L1 := Aside0.mk (blk_below L1.out hb); clear hge_ hb0_ hb; (try clear c0 c1); obtain ⟨c0, c1⟩ := cs2 (L0.out); (try clear e0 e1); obtain ⟨e0, e1⟩ := cs2 (L1.out); (try clear x0 x1 x2 x3 x4); obtain ⟨x0, x1, x2, x3, x4⟩ := cs5 (LX.out))) | ((with_reducible refine gate_store (p := 7) rfl ?_); go_must ((refine wpList_plain rfl fun K_ hK_ => wp_store_row _ _ _ rfl (gx) #[.int .i64 y.lab, .int .i64 y.a.lab, .int .i64 y.a.num, .int .i64 y.b.lab, .int .i64 y.b.num] rfl rfl _ _ LX.out (by kernel_rfl) rfl (by simp [Value.oneCell']) (hK_ _ _ ?_)); refine named _ ?_; intro wz hwz; replace HB := Aside0.mk (sb_ hwz HB.out (by have := Hgx.out; omega)); replace L0 := Aside0.mk (so_ hwz L0.out (by have := Hgx.out; omega)); replace L1 := Aside0.mk (so_ hwz L1.out (by have := Hgx.out; omega)); replace LX := Aside0.mk (sh_ hwz LX.out); (try clear c0 c1); obtain ⟨c0, c1⟩ := cs2 (L0.out); (try clear e0 e1); obtain ⟨e0, e1⟩ := cs2 (L1.out); (try clear x0 x1 x2 x3 x4); obtain ⟨x0, x1, x2, x3, x4⟩ := cs5 (LX.out); clear hwz)))
        go_roundw
        case rel => exact ⟨j + 1, HLT.out, rfl, by go_num, L0.out, L1.out, HB.out⟩
        case measure => simp [intOf]; omega
      · have hjl : ¬ (j : Int) < (es.length : Int) := by omega
        go_wp2_with (first | (go_at_call 113; go_must ((refine (sortFunc0 _).mono ?_); rintro e u_ ⟨rfl, rfl⟩)) | (go_at_call 115; go_must ((refine (compact0 _).mono ?_); rintro e u_ ⟨rfl, rfl⟩)))
        go_ret
        exact ⟨rfl, HB.out⟩
end Go.Proofs.Ytogmbeifbjgphaa.R
