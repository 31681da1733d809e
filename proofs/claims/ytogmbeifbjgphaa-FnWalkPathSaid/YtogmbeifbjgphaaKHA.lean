/- impl.nodePlace. -/
import Derived.Test.YtogmbeifbjgphaaKGQ
import Derived.Test.YtogmbeifbjgphaaKB2
namespace Go.Proofs.Ytogmbeifbjgphaa.R
open Go.RowKit Go.Proofs.YtogmbeifbjgphaaV.PrintWords Go.Proofs.YtogmbeifbjgphaaV.PrintLast Go.Proofs.YtogmbeifbjgphaaV.PrintMore Go.Proofs.Ytogmbeifbjgphaa.M
set_option linter.unusedVariables false
set_option linter.unusedSimpArgs false
attribute [local go_sem high] eqN eqE
/-- Where a node stands, or -1. -/
def placeI (ns : List Nd) (n : Nd) : Int := if n ∈ ns then (idx ns n : Int) else -1
theorem placeI_in {ns : List Nd} {n : Nd} (h : n ∈ ns) : placeI ns n = (idx ns n : Int) := if_pos h
theorem placeI_out {ns : List Nd} {n : Nd} (h : n ∉ ns) : placeI ns n = -1 := if_neg h
theorem placeN_idx {ns : List Nd} (ha : Asc code ns) {n : Nd} (h : n ∈ ns) : placeN ns n = idx ns n := by
  have h1 := idx_lt h
  have h2 := ha.place h1
  have h3 : ns[idx ns n] = n := (at_lt h1).symm.trans (at_idx h)
  rw [h3] at h2
  exact h2
set_option maxHeartbeats 3200000 in
set_option maxRecDepth 100000 in
theorem nodePlace_calls (A : Option Addr) (c : Nat) (ns : List Nd) (B : Option Addr) (d : Nat) (es : List Eg) (n : Nd) (w : World) (hr : GR w A c ns B d es) (hns : NsOk ns) :
    Calls Try.prog 133 #[.agg #[.slice A ns.length c, .slice B es.length d], .agg #[.int .i64 n.lab, .int .i64 n.num]] w fun e w' => e = .returned (.int .i64 (placeI ns n)) ∧ Below w.heap.size w w' := by
  have HR := Aside0.mk hr
  have HNS := Aside0.mk hns
  clear hr hns
  obtain ⟨v, hv⟩ : ∃ v, okN n = v := ⟨_, rfl⟩
  have HOK := Aside0.mk hv
  clear hv
  obtain ⟨L0, L1, HB⟩ := al2 w #[.slice A ns.length c, .slice B es.length d] #[.int .i64 n.lab, .int .i64 n.num] 26 28
  cases v
  · have HP := Aside0.mk (show placeI ns n = -1 from placeI_out fun h => by have := HNS.out.ok n h; rw [HOK.out] at this; cases this)
    go_enter Try.func133, Try.ntmps133
    go_wp2_with (first | (go_at_call 104; go_must ((refine (nodeOk_calls n _).mono ?_); rintro e u_ ⟨rfl, hb⟩; rw [HOK.out]; replace HB := Aside0.mk (below_step HB.out hb); replace L0 := Aside0.mk (blk_below L0.out hb); replace L1 := Aside0.mk (blk_below L1.out hb); (try clear c0 c1); obtain ⟨c0, c1⟩ := cs2 (L0.out); (try clear e0 e1); obtain ⟨e0, e1⟩ := cs2 (L1.out); clear hb)))
    go_ret
    exact ⟨retI HP.out.symm, HB.out⟩
  · obtain ⟨t, ht⟩ : ∃ t, decide (n ∈ ns) = t := ⟨_, rfl⟩
    have HT := Aside0.mk ht
    clear ht
    cases t
    · have HP := Aside0.mk (show placeI ns n = -1 from placeI_out (of_decide_eq_false HT.out))
      go_enter Try.func133, Try.ntmps133
      go_wp2_with (first | (go_at_call 104; go_must ((refine (nodeOk_calls n _).mono ?_); rintro e u_ ⟨rfl, hb⟩; rw [HOK.out]; replace HB := Aside0.mk (below_step HB.out hb); replace L0 := Aside0.mk (blk_below L0.out hb); replace L1 := Aside0.mk (blk_below L1.out hb); (try clear c0 c1); obtain ⟨c0, c1⟩ := cs2 (L0.out); (try clear e0 e1); obtain ⟨e0, e1⟩ := cs2 (L1.out); clear hb)) | (go_at_call 161; go_must ((refine (bsN_ok A c ns n _ (Kd.C_below HR.out.cn HB.out) HNS.out HOK.out).mono ?_); rintro e u_ ⟨rfl, hb⟩; rw [HT.out]; replace HB := Aside0.mk (below_step HB.out hb); replace L0 := Aside0.mk (blk_below L0.out hb); replace L1 := Aside0.mk (blk_below L1.out hb); (try clear c0 c1); obtain ⟨c0, c1⟩ := cs2 (L0.out); (try clear e0 e1); obtain ⟨e0, e1⟩ := cs2 (L1.out); clear hb)))
      go_ret
      exact ⟨retI HP.out.symm, HB.out⟩
    · have HP := Aside0.mk (show placeI ns n = (placeN ns n : Int) by rw [placeI_in (of_decide_eq_true HT.out), placeN_idx HNS.out.asc (of_decide_eq_true HT.out)])
      go_enter Try.func133, Try.ntmps133
      go_wp2_with (first | (go_at_call 104; go_must ((refine (nodeOk_calls n _).mono ?_); rintro e u_ ⟨rfl, hb⟩; rw [HOK.out]; replace HB := Aside0.mk (below_step HB.out hb); replace L0 := Aside0.mk (blk_below L0.out hb); replace L1 := Aside0.mk (blk_below L1.out hb); (try clear c0 c1); obtain ⟨c0, c1⟩ := cs2 (L0.out); (try clear e0 e1); obtain ⟨e0, e1⟩ := cs2 (L1.out); clear hb)) | (go_at_call 161; go_must ((refine (bsN_ok A c ns n _ (Kd.C_below HR.out.cn HB.out) HNS.out HOK.out).mono ?_); rintro e u_ ⟨rfl, hb⟩; rw [HT.out]; replace HB := Aside0.mk (below_step HB.out hb); replace L0 := Aside0.mk (blk_below L0.out hb); replace L1 := Aside0.mk (blk_below L1.out hb); (try clear c0 c1); obtain ⟨c0, c1⟩ := cs2 (L0.out); (try clear e0 e1); obtain ⟨e0, e1⟩ := cs2 (L1.out); clear hb)))
      go_ret
      exact ⟨retI HP.out.symm, HB.out⟩
end Go.Proofs.Ytogmbeifbjgphaa.R
