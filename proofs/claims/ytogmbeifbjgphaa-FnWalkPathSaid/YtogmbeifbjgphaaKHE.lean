/- impl.WalkDist. -/
import Derived.Test.YtogmbeifbjgphaaKHD
namespace Go.Proofs.Ytogmbeifbjgphaa.R
open Go.RowKit Go.Proofs.YtogmbeifbjgphaaV.PrintWords Go.Proofs.YtogmbeifbjgphaaV.PrintLast Go.Proofs.YtogmbeifbjgphaaV.PrintMore Go.Proofs.Ytogmbeifbjgphaa.M
set_option linter.unusedVariables false
set_option linter.unusedSimpArgs false
attribute [local go_sem high] eqN eqE
/-- What a list that comes back is: numbers, in memory of its own. -/
def RetI (b : Nat) (xs : List Int) (e : Ending) (w' : World) : Prop := ∃ A' c', e = .returned (.slice A' xs.length c') ∧ (Kd.int .i64).C w' A' xs.length xs ∧ xs.length ≤ c' ∧ (∀ ad, A' = some ad → b ≤ ad.block)
theorem RetI.nil (b : Nat) (w' : World) {xs : List Int} (h : xs = []) : RetI b xs (.returned (.slice none 0 0)) w' := ⟨none, 0, by rw [h]; rfl, by rw [h]; exact Kd.C_nil _ _, by rw [h]; exact Nat.le_refl _, fun ad h => by cases h⟩
theorem RetI.row {b n g : Nat} {w' : World} {xs : List Int} (h : Rw (Value.int .i64) 3 w' g xs) (hl : xs.length = n) (hn : n ≤ 1000000) (hb : b ≤ g) : RetI b xs (.returned (.slice (some ⟨g, 0, none⟩) n n)) w' := ⟨some ⟨g, 0, none⟩, n, by rw [hl], h.C (fun _ => rfl) (by omega), by omega, fun ad e => by obtain rfl := Option.some.inj e; exact hb⟩
set_option maxHeartbeats 3200000 in
set_option maxRecDepth 100000 in
theorem walkDist_calls (A : Option Addr) (c : Nat) (ns : List Nd) (B : Option Addr) (d : Nat) (es : List Eg) (n : Nd) (w : World) (hr : GR w A c ns B d es) :
    Calls Try.prog 53 #[.agg #[.slice A ns.length c, .slice B es.length d], .agg #[.int .i64 n.lab, .int .i64 n.num]] w fun e w' => RetI w.heap.size (wDist ns es n) e w' ∧ Below w.heap.size w w' := by
  have HR := Aside0.mk hr
  clear hr
  obtain ⟨v, hv⟩ : ∃ v, okG ns es = v := ⟨_, rfl⟩
  have HOK := Aside0.mk hv
  clear hv
  obtain ⟨L0, L1, HB⟩ := al2 w #[.slice A ns.length c, .slice B es.length d] #[.int .i64 n.lab, .int .i64 n.num] 26 28
  cases v
  · have HW := Aside0.mk (show wDist ns es n = [] by unfold wDist; rw [HOK.out]; exact if_neg fun h => by cases h.1)
    go_enter Try.func53, Try.ntmps53
    go_wp2_with (first | (go_at_call 36; go_must ((refine (graphOk_calls A c ns B d es _ (Kd.C_below HR.out.cn HB.out) (Kd.C_below HR.out.ce HB.out)).mono ?_); rintro e u_ ⟨rfl, hb⟩; rw [HOK.out]; replace HB := Aside0.mk (below_step HB.out hb); replace L0 := Aside0.mk (blk_below L0.out hb); replace L1 := Aside0.mk (blk_below L1.out hb); (try clear c0 c1); obtain ⟨c0, c1⟩ := cs2 (L0.out); (try clear e0 e1); obtain ⟨e0, e1⟩ := cs2 (L1.out); clear hb)))
    go_ret
    exact ⟨RetI.nil _ _ HW.out, HB.out⟩
  · have HOG := Aside0.mk (okG_true.1 HOK.out)
    have HNS := Aside0.mk (NsOk.mk HOG.out.nok HOG.out.nasc HOG.out.nfew)
    have HLN := Aside0.mk HNS.out.len
    by_cases hin : n ∈ ns
    · have HPL := Aside0.mk (placeI_in hin)
      have HIX := Aside0.mk (idx_lt hin)
      have HW := Aside0.mk (show wDist ns es n = distL (adjI ns es) ns.length (idx ns n) from if_pos ⟨HOK.out, hin⟩)
      have hnn : ¬ ((idx ns n : Nat) : Int) < 0 := by omega
      clear hin
      go_enter Try.func53, Try.ntmps53
      go_wp2_with (first | (go_at_call 36; go_must ((refine (graphOk_calls A c ns B d es _ (Kd.C_below HR.out.cn HB.out) (Kd.C_below HR.out.ce HB.out)).mono ?_); rintro e u_ ⟨rfl, hb⟩; rw [HOK.out]; replace HB := Aside0.mk (below_step HB.out hb); replace L0 := Aside0.mk (blk_below L0.out hb); replace L1 := Aside0.mk (blk_below L1.out hb); (try clear c0 c1); obtain ⟨c0, c1⟩ := cs2 (L0.out); (try clear e0 e1); obtain ⟨e0, e1⟩ := cs2 (L1.out); clear hb)) | (go_at_call 133; go_must ((refine (nodePlace_calls A c ns B d es n _ (HR.out.below HB.out) HNS.out).mono ?_); rintro e u_ ⟨rfl, hb⟩; rw [HPL.out]; replace HB := Aside0.mk (below_step HB.out hb); replace L0 := Aside0.mk (blk_below L0.out hb); replace L1 := Aside0.mk (blk_below L1.out hb); (try clear c0 c1); obtain ⟨c0, c1⟩ := cs2 (L0.out); (try clear e0 e1); obtain ⟨e0, e1⟩ := cs2 (L1.out); clear hb)) | (go_at_call 129; go_must ((refine (nearPlaces_calls A c ns B d es _ (HR.out.below HB.out) HOG.out).mono ?_); rintro e u_ ⟨gn, rfl, hcn_, hb⟩; have HNP := Aside0.mk hcn_; clear hcn_; replace HB := Aside0.mk (below_step HB.out hb); replace L0 := Aside0.mk (blk_below L0.out hb); replace L1 := Aside0.mk (blk_below L1.out hb); (try clear c0 c1); obtain ⟨c0, c1⟩ := cs2 (L0.out); (try clear e0 e1); obtain ⟨e0, e1⟩ := cs2 (L1.out); clear hb)) | (go_at_call 134; go_must ((refine (stepsFrom_calls (adjI ns es) ns.length (idx ns n) _ _ _ HNP.out (by have := HLN.out; omega) HIX.out (fun u v h => adjI_lt h)).mono ?_); rintro e u_ ⟨gs, Bq, dq, q, rfl, hrw_, hcq_, hdq_, hql_, hmq_, hgs_, hfq_, hb⟩; have HRW := Aside0.mk hrw_; have HGS := Aside0.mk (show w.heap.size ≤ gs by have := HB.out.size; omega); clear hrw_ hcq_ hdq_ hql_ hmq_ hgs_ hfq_; replace HB := Aside0.mk (below_step HB.out hb); replace L0 := Aside0.mk (blk_below L0.out hb); replace L1 := Aside0.mk (blk_below L1.out hb); replace HNP := Aside0.mk (Kd.C_below (HNP.out) hb); (try clear c0 c1); obtain ⟨c0, c1⟩ := cs2 (L0.out); (try clear e0 e1); obtain ⟨e0, e1⟩ := cs2 (L1.out); clear hb)))
      go_ret
      exact ⟨by rw [HW.out]; exact RetI.row HRW.out (distL_length _ _ _) (by have := HLN.out; omega) HGS.out, HB.out⟩
    · have HPL := Aside0.mk (placeI_out hin)
      have HW := Aside0.mk (show wDist ns es n = [] from if_neg fun h => hin h.2)
      clear hin
      go_enter Try.func53, Try.ntmps53
      go_wp2_with (first | (go_at_call 36; go_must ((refine (graphOk_calls A c ns B d es _ (Kd.C_below HR.out.cn HB.out) (Kd.C_below HR.out.ce HB.out)).mono ?_); rintro e u_ ⟨rfl, hb⟩; rw [HOK.out]; replace HB := Aside0.mk (below_step HB.out hb); replace L0 := Aside0.mk (blk_below L0.out hb); replace L1 := Aside0.mk (blk_below L1.out hb); (try clear c0 c1); obtain ⟨c0, c1⟩ := cs2 (L0.out); (try clear e0 e1); obtain ⟨e0, e1⟩ := cs2 (L1.out); clear hb)) | (go_at_call 133; go_must ((refine (nodePlace_calls A c ns B d es n _ (HR.out.below HB.out) HNS.out).mono ?_); rintro e u_ ⟨rfl, hb⟩; rw [HPL.out]; replace HB := Aside0.mk (below_step HB.out hb); replace L0 := Aside0.mk (blk_below L0.out hb); replace L1 := Aside0.mk (blk_below L1.out hb); (try clear c0 c1); obtain ⟨c0, c1⟩ := cs2 (L0.out); (try clear e0 e1); obtain ⟨e0, e1⟩ := cs2 (L1.out); clear hb)))
      go_ret
      exact ⟨RetI.nil _ _ HW.out, HB.out⟩
end Go.Proofs.Ytogmbeifbjgphaa.R
