/- impl.WalkParts. -/
import Derived.Test.YtogmbeifbjgphaaKHE
import Derived.Test.YtogmbeifbjgphaaKB23
namespace Go.Proofs.Ytogmbeifbjgphaa.R
open Go.RowKit Go.Proofs.YtogmbeifbjgphaaV.PrintWords Go.Proofs.YtogmbeifbjgphaaV.PrintLast Go.Proofs.YtogmbeifbjgphaaV.PrintMore Go.Proofs.Ytogmbeifbjgphaa.M
set_option linter.unusedVariables false
set_option linter.unusedSimpArgs false
attribute [local go_sem high] eqN eqE
def WpO (n g6 k : Nat) (adj : Nat → Nat → Bool) (W1 : World) (s36 : Value) (wr : World) : Prop :=
  k ≤ n ∧ s36 = .int .i64 (k : Int) ∧ Rw (Value.int .i64) 3 wr g6 (partU adj n k) ∧ Below W1.heap.size W1 wr
def WpI (n g6 k : Nat) (adj : Nat → Nat → Bool) (q : List Nat) (Bq : Option Addr) (W1 : World) (s52 : Value) (wr : World) : Prop :=
  ∃ j : Nat, j ≤ q.length ∧ s52 = .int .i64 (j : Int) ∧ Rw (Value.int .i64) 3 wr g6 (setAll (partU adj n k) (q.take j) (k : Int)) ∧ (Kd.int .i64).C wr Bq (zs q).length (zs q) ∧ Below W1.heap.size W1 wr
set_option maxHeartbeats 12800000 in
set_option maxRecDepth 100000 in
theorem walkParts_calls (A : Option Addr) (c : Nat) (ns : List Nd) (B : Option Addr) (d : Nat) (es : List Eg) (w : World) (hr : GR w A c ns B d es) :
    Calls Try.prog 58 #[.agg #[.slice A ns.length c, .slice B es.length d]] w fun e w' => RetI w.heap.size (wParts ns es) e w' ∧ Below w.heap.size w w' := by
  have HR := Aside0.mk hr
  clear hr
  obtain ⟨v, hv⟩ : ∃ v, okG ns es = v := ⟨_, rfl⟩
  have HOK := Aside0.mk hv
  clear hv
  obtain ⟨L0, HB⟩ := al1 w #[.slice A ns.length c, .slice B es.length d] 26
  cases v
  · have HW := Aside0.mk (show wParts ns es = [] from if_neg fun h => by rw [HOK.out] at h; cases h)
    go_enter Try.func58, Try.ntmps58
    go_wp2_with (first | (go_at_call 36; go_must ((refine (graphOk_calls A c ns B d es _ (Kd.C_below HR.out.cn HB.out) (Kd.C_below HR.out.ce HB.out)).mono ?_); rintro e u_ ⟨rfl, hb⟩; rw [HOK.out]; replace HB := Aside0.mk (below_step HB.out hb); replace L0 := Aside0.mk (blk_below L0.out hb); (try clear c0 c1); obtain ⟨c0, c1⟩ := cs2 (L0.out); clear hb)))
    go_ret
    exact ⟨RetI.nil _ _ HW.out, HB.out⟩
  · have HOG := Aside0.mk (okG_true.1 HOK.out)
    have HLN := Aside0.mk (NsOk.mk HOG.out.nok HOG.out.nasc HOG.out.nfew).len
    have HW := Aside0.mk (show wParts ns es = partL (adjI ns es) ns.length from if_pos HOK.out)
    by_cases hz : ns.length = 0
    · have hzi : (ns.length : Int) = 0 := by omega
      have HWN := Aside0.mk (show wParts ns es = [] from List.eq_nil_of_length_eq_zero (by rw [HW.out, partL_length, hz]))
      clear hz
      go_enter Try.func58, Try.ntmps58
      go_wp2_with (first | (go_at_call 36; go_must ((refine (graphOk_calls A c ns B d es _ (Kd.C_below HR.out.cn HB.out) (Kd.C_below HR.out.ce HB.out)).mono ?_); rintro e u_ ⟨rfl, hb⟩; rw [HOK.out]; replace HB := Aside0.mk (below_step HB.out hb); replace L0 := Aside0.mk (blk_below L0.out hb); (try clear c0 c1); obtain ⟨c0, c1⟩ := cs2 (L0.out); clear hb)))
      go_ret
      exact ⟨RetI.nil _ _ HWN.out, HB.out⟩
    · have hzi : ¬ (ns.length : Int) = 0 := by omega
      have hnn : (ns.length : Int) ≤ 40 := by have := HLN.out; omega
      clear hz
      go_enter Try.func58, Try.ntmps58
      go_wp2_with (first | (go_at_call 36; go_must ((refine (graphOk_calls A c ns B d es _ (Kd.C_below HR.out.cn HB.out) (Kd.C_below HR.out.ce HB.out)).mono ?_); rintro e u_ ⟨rfl, hb⟩; rw [HOK.out]; replace HB := Aside0.mk (below_step HB.out hb); replace L0 := Aside0.mk (blk_below L0.out hb); (try clear c0 c1); obtain ⟨c0, c1⟩ := cs2 (L0.out); clear hb)) | (go_at_call 129; go_must ((refine (nearPlaces_calls A c ns B d es _ (HR.out.below HB.out) HOG.out).mono ?_); rintro e W1 ⟨gn, rfl, hcn_, hb⟩; have HNP := Aside0.mk hcn_; clear hcn_; replace HB := Aside0.mk (below_step HB.out hb); replace L0 := Aside0.mk (blk_below L0.out hb); (try clear c0 c1); obtain ⟨c0, c1⟩ := cs2 (L0.out); clear hb)) | ((with_reducible refine gate_dst (N := 24) rfl ?_); go_must (refine make_raw rfl 58 _ _ rfl ns.length rfl rfl Try.underlying58 (.int .i64 0) 8 (by kernel_rfl) rfl (by decide) (by have := HLN.out; omega) ?_; intro g6 u_ hge_ hblk_ hb; have HG6 := Aside0.mk hge_; have HRW := Aside0.mk (show Rw (Value.int .i64) 3 u_ g6 (List.replicate ns.length 0) by unfold Rw; rw [List.map_replicate]; exact hblk_); have HBW := HB; clear HB; have HB := Aside0.mk hb; clear hge_ hblk_ hb L0 c0 c1)))
      go_loopw [5, 27] (fun _ s27 wr => FillI W1 ns.length g6 s27 wr) (fun _ s27 _ => (ns.length - intOf s27).toNat)
      case atStart => exact ⟨0, _, Nat.zero_le _, by simp, fun j hj => absurd hj (Nat.not_lt_zero _), rfl, HRW.out, HB.out⟩
      case round =>
        clear HB HRW
        obtain ⟨k, xs, hk, hxl_, hxs_, rfl, hrw_, hb_⟩ := hrel
        have HK := Aside0.mk hk
        have HXL := Aside0.mk hxl_
        have HXS := Aside0.mk hxs_
        have HRW := Aside0.mk hrw_
        have HB := Aside0.mk hb_
        clear hk hxl_ hxs_ hrw_ hb_
        by_cases hlt : k < ns.length
        · have hkl : (k : Int) < (ns.length : Int) := by omega
          have HKN := Aside0.mk hlt
          clear hlt
          go_wp2_with (first | ((with_reducible refine gate_store (p := 32) rfl ?_); go_must ((refine wpList_plain rfl fun K_ hK_ => wp_cellI g6 k .i64 (-1) rfl rfl rfl (HRW.out.has k (by rw [HXL.out]; exact HKN.out)) (HRW.out.frozen _) (by kernel_rfl) (hK_ _ _ ?_)); refine named _ ?_; intro wz hwz; have hg_ : World.grownBy _ wz (some g6) := hwz ▸ grown_setCell _ _ _ _; replace HRW := Aside0.mk (show Rw (Value.int .i64) 3 wz g6 _ from hwz ▸ HRW.out.set k (-1)); replace HB := Aside0.mk (HB.out.grown hg_ HB.out.size (fun k hk => by have := Option.some.inj hk; have := HG6.out; omega)); clear hwz hg_)))
          go_roundw
          case rel => exact ⟨k + 1, _, HKN.out, by rw [List.length_set]; exact HXL.out, fun j hj => by rw [gt_set (by rw [HXL.out]; exact HKN.out)]; split; rfl; exact HXS.out j (by omega), by go_num, HRW.out, HB.out⟩
          case measure => have := HKN.out; simp [intOf]; omega
        · have hkl : ¬ (k : Int) < (ns.length : Int) := by omega
          obtain rfl : k = ns.length := by have := HK.out; omega
          obtain rfl := filled HXL.out HXS.out
          clear hlt hkl
          go_wp2_with (fail)
          go_loopw [6, 7, 8, 10, 36, 52] (fun _ _ _ _ s36 _ wr => ∃ k, WpO ns.length g6 k (adjI ns es) W1 s36 wr) (fun _ _ _ _ s36 _ _ => (ns.length - intOf s36).toNat)
          case atStart => exact ⟨0, Nat.zero_le _, rfl, by rw [partU_zero]; exact HRW.out, HB.out⟩
          case round =>
            clear HB HRW HXS HXL HK
            obtain ⟨k, hk, rfl, hrw_, hb_⟩ := hrel
            have HK := Aside0.mk hk
            have HRW := Aside0.mk hrw_
            have HB := Aside0.mk hb_
            clear hk hrw_ hb_
            by_cases hlt : k < ns.length
            · have hkl : (k : Int) < (ns.length : Int) := by omega
              have HKN := Aside0.mk hlt
              obtain ⟨x0, hx0⟩ : ∃ x, gt (partU (adjI ns es) ns.length k) k = x := ⟨_, rfl⟩
              have sv := HRW.out.at 0 k (by rw [partU_len]; exact hlt)
              rw [show (partU (adjI ns es) ns.length k).getD k 0 = x0 from hx0] at sv
              have HX0 := Aside0.mk hx0
              clear hlt hx0
              by_cases hneg : x0 < 0
              · have hng : ¬ 0 ≤ x0 := by omega
                have HNG := Aside0.mk hneg
                go_wp2_with (first | (go_at_call 134; go_must ((refine (stepsFrom_calls (adjI ns es) ns.length k _ _ _ (Kd.C_below HNP.out HB.out) (by have := HLN.out; omega) HKN.out (fun u v h => adjI_lt h)).mono ?_); rintro e u_ ⟨gs, Bq, dq, q, rfl, -, hcq_, -, hql_, hmq_, -, hfq_, hb⟩; have HCQ := Aside0.mk hcq_; have HQL := Aside0.mk hql_; have HMQ := Aside0.mk hmq_; have HFQ := Aside0.mk (show ∀ ad, Bq = some ad → ad.block ≠ g6 from fun ad e he => by have := hfq_ ad e; have := blk_lt HRW.out; omega); replace HRW := Aside0.mk (HRW.out.below hb); replace HB := Aside0.mk (below_step HB.out hb); clear hcq_ hql_ hmq_ hfq_ hb)))
                clear sv hneg hng
                go_loopw [10, 52] (fun _ s52 wr => WpI ns.length g6 k (adjI ns es) q Bq W1 s52 wr) (fun _ s52 _ => (q.length - intOf s52).toNat)
                case atStart => exact ⟨0, Nat.zero_le _, rfl, HRW.out, HCQ.out, HB.out⟩
                case round =>
                  clear HB HRW HCQ
                  obtain ⟨j, hj, rfl, hrw_, hcq_, hb_⟩ := hrel
                  have HJ := Aside0.mk hj
                  have HRW := Aside0.mk hrw_
                  have HCQ := Aside0.mk hcq_
                  have HB := Aside0.mk hb_
                  clear hj hrw_ hcq_ hb_
                  have HZL := Aside0.mk (show ((zs q).length : Int) = (q.length : Int) by rw [zs_len])
                  have hq4 : (q.length : Int) ≤ 40 := by have := HQL.out; omega
                  by_cases hlt : j < q.length
                  · have hjl : (j : Int) < ((zs q).length : Int) := by have := HZL.out; omega
                    have hj4 : (j : Int) < 40 := by omega
                    have HJL := Aside0.mk hlt
                    obtain ⟨v, hv⟩ : ∃ v, q[j] = v := ⟨_, rfl⟩
                    have HVN := Aside0.mk (show v < ns.length from ((HMQ.out v).1 (hv ▸ List.getElem_mem hlt)).1)
                    have hvn : (v : Int) < (ns.length : Int) := by have := HVN.out; omega
                    have HTK := Aside0.mk (show q.take (j + 1) = q.take j ++ [v] by rw [← hv]; exact (List.take_append_getElem hlt).symm)
                    obtain ⟨adR, eR, rR⟩ := int_at HCQ.out j (by rw [zs_len]; exact hlt)
                    cases eR
                    rw [zs_get hlt, hv] at rR
                    clear hlt hv
                    go_wp2_with (first | ((with_reducible refine gate_store (p := 59) rfl ?_); go_must ((refine wpList_plain rfl fun K_ hK_ => wp_cellI g6 v .i64 ((k : Int)) rfl rfl rfl (HRW.out.has v (by rw [setAll_len, partU_len]; exact HVN.out)) (HRW.out.frozen _) (by kernel_rfl) (hK_ _ _ ?_)); refine named _ ?_; intro wz hwz; have hg_ : World.grownBy _ wz (some g6) := hwz ▸ grown_setCell _ _ _ _; replace HRW := Aside0.mk (show Rw (Value.int .i64) 3 wz g6 _ from hwz ▸ HRW.out.set v ((k : Int))); replace HB := Aside0.mk (HB.out.grown hg_ HB.out.size (fun k hk => by have := Option.some.inj hk; have := HG6.out; omega)); replace HCQ := Aside0.mk (C_over (flatI .i64) HCQ.out hg_ (fun hn ad e he => HFQ.out ad e (Option.some.inj he))); clear hwz hg_)))
                    go_roundw
                    case rel => exact ⟨j + 1, HJL.out, by go_num, by rw [HTK.out, setAll_snoc]; exact HRW.out, HCQ.out, HB.out⟩
                    case measure => have := HJL.out; simp [intOf]; omega
                  · have hjl : ¬ (j : Int) < ((zs q).length : Int) := by have := HZL.out; omega
                    have HRN := Aside0.mk (show Rw (Value.int .i64) 3 _ g6 (partU (adjI ns es) ns.length (k + 1)) by rw [← partU_new adjI_sym HKN.out (by rw [HX0.out]; exact HNG.out) HMQ.out, ← List.take_of_length_le (show q.length ≤ j by omega)]; exact HRW.out)
                    clear hlt
                    go_wp2_with (fail)
                    go_roundw
                    case rel => exact ⟨k + 1, HKN.out, by go_num, HRN.out, HB.out⟩
                    case measure => have := HKN.out; simp [intOf]; omega
              · have hng : 0 ≤ x0 := by omega
                go_wp2_with (fail)
                go_roundw
                case rel => exact ⟨k + 1, HKN.out, by go_num, by rw [partU_skip adjI_sym HKN.out (by rw [HX0.out]; exact hng)]; exact HRW.out, HB.out⟩
                case measure => have := HKN.out; simp [intOf]; omega
            · have hkl : ¬ (k : Int) < (ns.length : Int) := by omega
              obtain rfl : k = ns.length := by have := HK.out; omega
              clear hlt
              go_wp2_with (fail)
              go_ret
              exact ⟨by rw [HW.out, ← partU_end]; exact RetI.row HRW.out (partU_len _) (by have := HLN.out; omega) (by have := HBW.out.size; have := HG6.out; omega), below_step HBW.out HB.out⟩
end Go.Proofs.Ytogmbeifbjgphaa.R
