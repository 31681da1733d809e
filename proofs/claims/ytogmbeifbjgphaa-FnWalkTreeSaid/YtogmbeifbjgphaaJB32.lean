/- impl.WalkParts; impl.WalkThrees, with slices.Index and Contains. -/
import Derived.Test.YtogmbeifbjgphaaJB28
import Derived.Test.YtogmbeifbjgphaaJB31
namespace Go.Proofs.Ytogmbeifbjgphaa.R
open Go.RowKit Go.Proofs.YtogmbeifbjgphaaV.PrintWords Go.Proofs.YtogmbeifbjgphaaV.PrintLast Go.Proofs.YtogmbeifbjgphaaV.PrintMore Go.Proofs.Ytogmbeifbjgphaa.M
set_option linter.unusedVariables false
set_option linter.unusedSimpArgs false
attribute [local go_sem high] eqN eqE
def WpO (n g6 k : Nat) (adj : Nat → Nat → Bool) (W1 : World) (s36 : Value) (wr : World) : Prop :=
  k ≤ n ∧ s36 = .int .i64 (k : Int) ∧ Rw (Value.int .i64) 3 wr g6 (partU adj n k) ∧ Below W1.heap.size W1 wr
def WpI (n g6 k : Nat) (adj : Nat → Nat → Bool) (q : List Nat) (Bq : Option Addr) (W1 : World) (s52 : Value) (wr : World) : Prop :=
  ∃ j : Nat, j ≤ q.length ∧ s52 = .int .i64 (j : Int) ∧ Rw (Value.int .i64) 3 wr g6 (setAll (partU adj n k) (q.take j) (k : Int)) ∧ (Kd.int .i64).C wr Bq (zs q).length (zs q) ∧ Below W1.heap.size W1 wr
set_option maxHeartbeats 12800000 in
set_option maxRecDepth 100000 in
theorem walkParts_calls (A : Option Addr) (c : Nat) (ns : List Nd) (B : Option Addr) (d : Nat) (es : List Eg) (w : World) (hr : GR w A c ns B d es) :
    Calls Try.prog 58 #[.agg #[.slice A ns.length c, .slice B es.length d]] w fun e w' => RetI w.heap.size (wParts ns es) e w' ∧ Below w.heap.size w w' := by
  have HR := Aside0.mk hr
  clear hr
  obtain ⟨v, hv⟩ : ∃ v, okG ns es = v := ⟨_, rfl⟩
  have HOK := Aside0.mk hv
  clear hv
  obtain ⟨L0, HB⟩ := al1 w #[.slice A ns.length c, .slice B es.length d] 26
  cases v
  · have HW := Aside0.mk (show wParts ns es = [] from if_neg fun h => by rw [HOK.out] at h; cases h)
    go_enter Try.func58, Try.ntmps58
    go_wp2_with (first | (go_at_call 36; go_must ((refine (graphOk_calls A c ns B d es _ (Kd.C_below HR.out.cn HB.out) (Kd.C_below HR.out.ce HB.out)).mono ?_); rintro e u_ ⟨rfl, hb⟩; rw [HOK.out]; replace HB := Aside0.mk (below_step HB.out hb); replace L0 := Aside0.mk (blk_below L0.out hb); (try clear c0 c1); obtain ⟨c0, c1⟩ := cs2 (L0.out); clear hb)))
    go_ret
    exact ⟨RetI.nil _ _ HW.out, HB.out⟩
  · have HOG := Aside0.mk (okG_true.1 HOK.out)
    have HLN := Aside0.mk (NsOk.mk HOG.out.nok HOG.out.nasc HOG.out.nfew).len
    have HW := Aside0.mk (show wParts ns es = partL (adjI ns es) ns.length from if_pos HOK.out)
    by_cases hz : ns.length = 0
    · have hzi : (ns.length : Int) = 0 := by omega
      have HWN := Aside0.mk (show wParts ns es = [] from List.eq_nil_of_length_eq_zero (by rw [HW.out, partL_length, hz]))
      clear hz
      go_enter Try.func58, Try.ntmps58
      go_wp2_with (first | (go_at_call 36; go_must ((refine (graphOk_calls A c ns B d es _ (Kd.C_below HR.out.cn HB.out) (Kd.C_below HR.out.ce HB.out)).mono ?_); rintro e u_ ⟨rfl, hb⟩; rw [HOK.out]; replace HB := Aside0.mk (below_step HB.out hb); replace L0 := Aside0.mk (blk_below L0.out hb); (try clear c0 c1); obtain ⟨c0, c1⟩ := cs2 (L0.out); clear hb)))
      go_ret
      exact ⟨RetI.nil _ _ HWN.out, HB.out⟩
    · have hzi : ¬ (ns.length : Int) = 0 := by omega
      have hnn : (ns.length : Int) ≤ 40 := by have := HLN.out; omega
      clear hz
      go_enter Try.func58, Try.ntmps58
      go_wp2_with (first | (go_at_call 36; go_must ((refine (graphOk_calls A c ns B d es _ (Kd.C_below HR.out.cn HB.out) (Kd.C_below HR.out.ce HB.out)).mono ?_); rintro e u_ ⟨rfl, hb⟩; rw [HOK.out]; replace HB := Aside0.mk (below_step HB.out hb); replace L0 := Aside0.mk (blk_below L0.out hb); (try clear c0 c1); obtain ⟨c0, c1⟩ := cs2 (L0.out); clear hb)) | (go_at_call 129; go_must ((refine (nearPlaces_calls A c ns B d es _ (HR.out.below HB.out) HOG.out).mono ?_); rintro e W1 ⟨gn, rfl, hcn_, hb⟩; have HNP := Aside0.mk hcn_; clear hcn_; replace HB := Aside0.mk (below_step HB.out hb); replace L0 := Aside0.mk (blk_below L0.out hb); (try clear c0 c1); obtain ⟨c0, c1⟩ := cs2 (L0.out); clear hb)) | ((with_reducible refine gate_dst (N := 24) rfl ?_); go_must (refine make_raw rfl 58 _ _ rfl ns.length rfl rfl Try.underlying58 (.int .i64 0) 8 (by kernel_rfl) rfl (by decide) (by have := HLN.out; omega) ?_; intro g6 u_ hge_ hblk_ hb; have HG6 := Aside0.mk hge_; have HRW := Aside0.mk (show Rw (Value.int .i64) 3 u_ g6 (List.replicate ns.length 0) by unfold Rw; rw [List.map_replicate]; exact hblk_); have HBW := HB; clear HB; have HB := Aside0.mk hb; clear hge_ hblk_ hb L0 c0 c1)))
      go_loopw [5, 27] (fun _ s27 wr => FillI W1 ns.length g6 s27 wr) (fun _ s27 _ => (ns.length - intOf s27).toNat)
      case atStart => exact ⟨0, _, Nat.zero_le _, by simp, fun j hj => absurd hj (Nat.not_lt_zero _), rfl, HRW.out, HB.out⟩
      case round =>
        clear HB HRW
        obtain ⟨k, xs, hk, hxl_, hxs_, rfl, hrw_, hb_⟩ := hrel
        have HK := Aside0.mk hk
        have HXL := Aside0.mk hxl_
        have HXS := Aside0.mk hxs_
        have HRW := Aside0.mk hrw_
        have HB := Aside0.mk hb_
        clear hk hxl_ hxs_ hrw_ hb_
        by_cases hlt : k < ns.length
        · have hkl : (k : Int) < (ns.length : Int) := by omega
          have HKN := Aside0.mk hlt
          clear hlt
          go_wp2_with (first | ((with_reducible refine gate_store (p := 32) rfl ?_); go_must ((refine wpList_plain rfl fun K_ hK_ => wp_cellI g6 k .i64 (-1) rfl rfl rfl (HRW.out.has k (by rw [HXL.out]; exact HKN.out)) (HRW.out.frozen _) (by kernel_rfl) (hK_ _ _ ?_)); refine named _ ?_; intro wz hwz; have hg_ : World.grownBy _ wz (some g6) := hwz ▸ grown_setCell _ _ _ _; replace HRW := Aside0.mk (show Rw (Value.int .i64) 3 wz g6 _ from hwz ▸ HRW.out.set k (-1)); replace HB := Aside0.mk (HB.out.grown hg_ HB.out.size (fun k hk => by have := Option.some.inj hk; have := HG6.out; omega)); clear hwz hg_)))
          go_roundw
          case rel => exact ⟨k + 1, _, HKN.out, by rw [List.length_set]; exact HXL.out, fun j hj => by rw [gt_set (by rw [HXL.out]; exact HKN.out)]; split; rfl; exact HXS.out j (by omega), by go_num, HRW.out, HB.out⟩
          case measure => have := HKN.out; simp [intOf]; omega
        · have hkl : ¬ (k : Int) < (ns.length : Int) := by omega
          obtain rfl : k = ns.length := by have := HK.out; omega
          obtain rfl := filled HXL.out HXS.out
          clear hlt hkl
          go_wp2_with (fail)
          go_loopw [6, 7, 8, 10, 36, 52] (fun _ _ _ _ s36 _ wr => ∃ k, WpO ns.length g6 k (adjI ns es) W1 s36 wr) (fun _ _ _ _ s36 _ _ => (ns.length - intOf s36).toNat)
          case atStart => exact ⟨0, Nat.zero_le _, rfl, by rw [partU_zero]; exact HRW.out, HB.out⟩
          case round =>
            clear HB HRW HXS HXL HK
            obtain ⟨k, hk, rfl, hrw_, hb_⟩ := hrel
            have HK := Aside0.mk hk
            have HRW := Aside0.mk hrw_
            have HB := Aside0.mk hb_
            clear hk hrw_ hb_
            by_cases hlt : k < ns.length
            · have hkl : (k : Int) < (ns.length : Int) := by omega
              have HKN := Aside0.mk hlt
              obtain ⟨x0, hx0⟩ : ∃ x, gt (partU (adjI ns es) ns.length k) k = x := ⟨_, rfl⟩
              have sv := HRW.out.at 0 k (by rw [partU_len]; exact hlt)
              rw [show (partU (adjI ns es) ns.length k).getD k 0 = x0 from hx0] at sv
              have HX0 := Aside0.mk hx0
              clear hlt hx0
              by_cases hneg : x0 < 0
              · have hng : ¬ 0 ≤ x0 := by omega
                have HNG := Aside0.mk hneg
                go_wp2_with (first | (go_at_call 134; go_must ((refine (stepsFrom_calls (adjI ns es) ns.length k _ _ _ (Kd.C_below HNP.out HB.out) (by have := HLN.out; omega) HKN.out (fun u v h => adjI_lt h)).mono ?_); rintro e u_ ⟨gs, Bq, dq, q, rfl, -, hcq_, -, hql_, hmq_, -, hfq_, hb⟩; have HCQ := Aside0.mk hcq_; have HQL := Aside0.mk hql_; have HMQ := Aside0.mk hmq_; have HFQ := Aside0.mk (show ∀ ad, Bq = some ad → ad.block ≠ g6 from fun ad e he => by have := hfq_ ad e; have := blk_lt HRW.out; omega); replace HRW := Aside0.mk (HRW.out.below hb); replace HB := Aside0.mk (below_step HB.out hb); clear hcq_ hql_ hmq_ hfq_ hb)))
                clear sv hneg hng
                go_loopw [10, 52] (fun _ s52 wr => WpI ns.length g6 k (adjI ns es) q Bq W1 s52 wr) (fun _ s52 _ => (q.length - intOf s52).toNat)
                case atStart => exact ⟨0, Nat.zero_le _, rfl, HRW.out, HCQ.out, HB.out⟩
                case round =>
                  clear HB HRW HCQ
                  obtain ⟨j, hj, rfl, hrw_, hcq_, hb_⟩ := hrel
                  have HJ := Aside0.mk hj
                  have HRW := Aside0.mk hrw_
                  have HCQ := Aside0.mk hcq_
                  have HB := Aside0.mk hb_
                  clear hj hrw_ hcq_ hb_
                  have HZL := Aside0.mk (show ((zs q).length : Int) = (q.length : Int) by rw [zs_len])
                  have hq4 : (q.length : Int) ≤ 40 := by have := HQL.out; omega
                  by_cases hlt : j < q.length
                  · have hjl : (j : Int) < ((zs q).length : Int) := by have := HZL.out; omega
                    have hj4 : (j : Int) < 40 := by omega
                    have HJL := Aside0.mk hlt
                    obtain ⟨v, hv⟩ : ∃ v, q[j] = v := ⟨_, rfl⟩
                    have HVN := Aside0.mk (show v < ns.length from ((HMQ.out v).1 (hv ▸ List.getElem_mem hlt)).1)
                    have hvn : (v : Int) < (ns.length : Int) := by have := HVN.out; omega
                    have HTK := Aside0.mk (show q.take (j + 1) = q.take j ++ [v] by rw [← hv]; exact (List.take_append_getElem hlt).symm)
                    obtain ⟨adR, eR, rR⟩ := int_at HCQ.out j (by rw [zs_len]; exact hlt)
                    cases eR
                    rw [zs_get hlt, hv] at rR
                    clear hlt hv
                    go_wp2_with (first | ((with_reducible refine gate_store (p := 59) rfl ?_); go_must ((refine wpList_plain rfl fun K_ hK_ => wp_cellI g6 v .i64 ((k : Int)) rfl rfl rfl (HRW.out.has v (by rw [setAll_len, partU_len]; exact HVN.out)) (HRW.out.frozen _) (by kernel_rfl) (hK_ _ _ ?_)); refine named _ ?_; intro wz hwz; have hg_ : World.grownBy _ wz (some g6) := hwz ▸ grown_setCell _ _ _ _; replace HRW := Aside0.mk (show Rw (Value.int .i64) 3 wz g6 _ from hwz ▸ HRW.out.set v ((k : Int))); replace HB := Aside0.mk (HB.out.grown hg_ HB.out.size (fun k hk => by have := Option.some.inj hk; have := HG6.out; omega)); replace HCQ := Aside0.mk (C_over (flatI .i64) HCQ.out hg_ (fun hn ad e he => HFQ.out ad e (Option.some.inj he))); clear hwz hg_)))
                    go_roundw
                    case rel => exact ⟨j + 1, HJL.out, by go_num, by rw [HTK.out, setAll_snoc]; exact HRW.out, HCQ.out, HB.out⟩
                    case measure => have := HJL.out; simp [intOf]; omega
                  · have hjl : ¬ (j : Int) < ((zs q).length : Int) := by have := HZL.out; omega
                    have HRN := Aside0.mk (show Rw (Value.int .i64) 3 _ g6 (partU (adjI ns es) ns.length (k + 1)) by rw [← partU_new adjI_sym HKN.out (by rw [HX0.out]; exact HNG.out) HMQ.out, ← List.take_of_length_le (show q.length ≤ j by omega)]; exact HRW.out)
                    clear hlt
                    go_wp2_with (fail)
                    go_roundw
                    case rel => exact ⟨k + 1, HKN.out, by go_num, HRN.out, HB.out⟩
                    case measure => have := HKN.out; simp [intOf]; omega
              · have hng : 0 ≤ x0 := by omega
                go_wp2_with (fail)
                go_roundw
                case rel => exact ⟨k + 1, HKN.out, by go_num, by rw [partU_skip adjI_sym HKN.out (by rw [HX0.out]; exact hng)]; exact HRW.out, HB.out⟩
                case measure => have := HKN.out; simp [intOf]; omega
            · have hkl : ¬ (k : Int) < (ns.length : Int) := by omega
              obtain rfl : k = ns.length := by have := HK.out; omega
              clear hlt
              go_wp2_with (fail)
              go_ret
              exact ⟨by rw [HW.out, ← partU_end]; exact RetI.row HRW.out (partU_len _) (by have := HLN.out; omega) (by have := HBW.out.size; have := HG6.out; omega), below_step HBW.out HB.out⟩
end Go.Proofs.Ytogmbeifbjgphaa.R
namespace Go.Proofs.Ytogmbeifbjgphaa.R
open Go.RowKit Go.Proofs.YtogmbeifbjgphaaV.PrintWords Go.Proofs.YtogmbeifbjgphaaV.PrintLast Go.Proofs.YtogmbeifbjgphaaV.PrintMore Go.Proofs.Ytogmbeifbjgphaa.M
set_option linter.unusedVariables false
set_option linter.unusedSimpArgs false
attribute [local go_sem high] eqN eqE
set_option maxHeartbeats 3200000 in
set_option maxRecDepth 100000 in
theorem idxInt_calls (A : Option Addr) (c : Nat) (xs : List Int) (x : Int) (w : World) (hx : (Kd.int .i64).C w A xs.length xs) (hl : xs.length ≤ 1000) :
    Calls Try.prog 189 #[.slice A xs.length c, .int .i64 x] w fun e w' => (∃ r : Int, e = .returned (.int .i64 r) ∧ -1 ≤ r ∧ (0 ≤ r ↔ x ∈ xs)) ∧ Below w.heap.size w w' := by
  have HX := Aside0.mk hx
  have HL := Aside0.mk hl
  have HB := Aside0.mk (Below.refl w.heap.size w)
  clear hx hl
  go_enter Try.func189, Try.ntmps189
  go_wp2_with (fail)
  go_loopw [5, 8] (fun _ s8 wr => ∃ k : Nat, k ≤ xs.length ∧ s8 = .int .i64 (k : Int) ∧ x ∉ xs.take k ∧ Below w.heap.size w wr) (fun _ s8 _ => (xs.length - intOf s8).toNat)
  case atStart => exact ⟨0, Nat.zero_le _, rfl, by simp, HB.out⟩
  case round =>
    clear HB
    obtain ⟨k, hk_, rfl, hn_, hb_⟩ := hrel
    have HK := Aside0.mk hk_
    have HN := Aside0.mk hn_
    have HB := Aside0.mk hb_
    clear hk_ hn_ hb_
    by_cases hlt : k < xs.length
    · have hkl : (k : Int) < (xs.length : Int) := by omega
      have hk1 : (k : Int) < 1000 := by have := HL.out; omega
      have HKT := Aside0.mk hlt
      have HTK := Aside0.mk (show xs.take (k + 1) = xs.take k ++ [xs.getD k 0] by rw [List.take_succ_eq_append_getElem hlt]; simp [List.getD_eq_getElem?_getD, hlt])
      have HIN := Aside0.mk (show xs.getD k 0 ∈ xs by rw [show xs.getD k 0 = xs[k] by simp [List.getD_eq_getElem?_getD, hlt]]; exact List.getElem_mem hlt)
      obtain ⟨a1, e1, r0⟩ := int_at (Kd.C_below HX.out HB.out) k hlt
      cases e1
      obtain ⟨y, hy⟩ : ∃ y, xs.getD k 0 = y := ⟨_, rfl⟩
      rw [hy] at r0 HTK HIN
      clear hlt hy
      by_cases hxy : x = y
      · have HM := Aside0.mk (show x ∈ xs by rw [hxy]; exact HIN.out)
        go_wp2_with (fail)
        go_ret
        exact ⟨⟨(k : Int), rfl, by omega, fun _ => HM.out, fun _ => by omega⟩, HB.out⟩
      · go_wp2_with (fail)
        go_roundw
        case rel => exact ⟨k + 1, HKT.out, by go_num, by rw [HTK.out, List.mem_append, List.mem_singleton]; exact fun h => h.elim HN.out hxy, HB.out⟩
        case measure => have := HKT.out; simp [intOf]; omega
    · have hkl : ¬ (k : Int) < (xs.length : Int) := by omega
      have HM := Aside0.mk (show x ∉ xs by rw [← List.take_of_length_le (show xs.length ≤ k by omega)]; exact HN.out)
      clear hlt
      go_wp2_with (fail)
      go_ret
      exact ⟨⟨-1, rfl, by omega, fun h => absurd h (by decide), fun h => absurd h HM.out⟩, HB.out⟩
set_option maxHeartbeats 3200000 in
set_option maxRecDepth 100000 in
theorem contains_calls (A : Option Addr) (c : Nat) (xs : List Int) (x : Int) (v : Bool) (w : World) (hx : (Kd.int .i64).C w A xs.length xs) (hl : xs.length ≤ 1000) (hv : decide (x ∈ xs) = v) :
    Calls Try.prog 130 #[.slice A xs.length c, .int .i64 x] w fun e w' => e = .returned (.bool v) ∧ Below w.heap.size w w' := by
  have HX := Aside0.mk hx
  have HL := Aside0.mk hl
  have HV := Aside0.mk hv
  have HB := Aside0.mk (Below.refl w.heap.size w)
  clear hx hl hv
  go_enter Try.func130, Try.ntmps130
  go_wp2_with (first | (go_at_call 189; go_must ((refine (idxInt_calls A c xs x _ HX.out HL.out).mono ?_); rintro e u_ ⟨⟨r, rfl, hr1, hr2⟩, hb⟩; have HRX := Aside0.mk hr2; replace HB := Aside0.mk (below_step HB.out hb); clear hr2 hb)))
  go_ret
  exact ⟨by
    rw [← HV.out]
    exact congrArg (fun b => Ending.returned (Value.bool b)) (decide_eq_decide.2 HRX.out), HB.out⟩
theorem mem_zs {q : List Nat} {v : Nat} : (v : Int) ∈ zs q ↔ v ∈ q := by
  unfold zs
  rw [List.mem_map]
  exact ⟨fun ⟨u, hu, e⟩ => by rw [← Int.ofNat.inj e]; exact hu, fun h => ⟨v, h, rfl⟩⟩
theorem nearPlaces_ad (A : Option Addr) (c : Nat) (ns : List Nd) (B : Option Addr) (d : Nat) (es : List Eg) (w : World) (hr : GR w A c ns B d es) (hg : OkG ns es) :
    Calls Try.prog 129 #[.agg #[.slice A ns.length c, .slice B es.length d]] w fun e w' => ∃ ad, e = .returned (.slice (some ad) ns.length ns.length) ∧ (Kd.slice 3 (Kd.int .i64)).C w' (some ad) ns.length ((List.range ns.length).map (nearZ (adjI ns es) ns.length)) ∧ Below w.heap.size w w' :=
  (nearPlaces_calls A c ns B d es w hr hg).mono fun e w' ⟨g, h⟩ => ⟨_, h⟩
theorem nearI_few (adj : Nat → Nat → Bool) (n i : Nat) : (nearI adj n i).length ≤ n := Nat.le_trans (List.length_filter_le _ _) (by simp)
theorem contains_near {adj : Nat → Nat → Bool} {n a c : Nat} (hc : c < n) (v : Bool) (h : adj a c = v) : decide ((c : Int) ∈ zs (nearI adj n a)) = v := by
  rw [← h, Bool.eq_iff_iff, decide_eq_true_iff, mem_zs, nearI_mem]
  exact ⟨fun h => h.2, fun h => ⟨hc, h⟩⟩
theorem take_cnt {L : List Nat} {p : Nat → Bool} {i v : Nat} (h : i < L.length) (hv : L[i] = v) : (L.take (i + 1)).countP p = (L.take i).countP p + (p v).toNat := by
  rw [List.take_succ_eq_append_getElem h, List.countP_append, hv]
  cases hp : p v <;> simp [List.countP_cons, hp]
theorem take_sum {L : List Nat} {f : Nat → Nat} {i v : Nat} (h : i < L.length) (hv : L[i] = v) : ((L.take (i + 1)).map f).sum = ((L.take i).map f).sum + f v := by
  rw [List.take_succ_eq_append_getElem h, List.map_append, List.sum_append, hv]
  simp
set_option maxHeartbeats 12800000 in
set_option maxRecDepth 100000 in
theorem walkThrees_calls (A : Option Addr) (c : Nat) (ns : List Nd) (B : Option Addr) (d : Nat) (es : List Eg) (w : World) (hr : GR w A c ns B d es) :
    Calls Try.prog 50 #[.agg #[.slice A ns.length c, .slice B es.length d]] w fun e w' => e = .returned (.int .i64 (wThrees ns es : Int)) ∧ Below w.heap.size w w' := by
  have HR := Aside0.mk hr
  clear hr
  obtain ⟨v, hv⟩ : ∃ v, okG ns es = v := ⟨_, rfl⟩
  have HOK := Aside0.mk hv
  clear hv
  obtain ⟨L0, HB⟩ := al1 w #[.slice A ns.length c, .slice B es.length d] 26
  cases v
  · have HW := Aside0.mk (show wThrees ns es = 0 from if_neg fun h => by rw [HOK.out] at h; cases h)
    go_enter Try.func50, Try.ntmps50
    go_wp2_with (first | (go_at_call 36; go_must ((refine (graphOk_calls A c ns B d es _ (Kd.C_below HR.out.cn HB.out) (Kd.C_below HR.out.ce HB.out)).mono ?_); rintro e u_ ⟨rfl, hb⟩; rw [HOK.out]; replace HB := Aside0.mk (below_step HB.out hb); replace L0 := Aside0.mk (blk_below L0.out hb); (try clear c0 c1); obtain ⟨c0, c1⟩ := cs2 (L0.out); clear hb)))
    go_ret
    exact ⟨by rw [HW.out]; rfl, HB.out⟩
  · have HOG := Aside0.mk (okG_true.1 HOK.out)
    have HLN := Aside0.mk (NsOk.mk HOG.out.nok HOG.out.nasc HOG.out.nfew).len
    have HW := Aside0.mk (show wThrees ns es = tris (adjI ns es) ns.length from if_pos HOK.out)
    have hnn : (ns.length : Int) ≤ 40 := by have := HLN.out; omega
    go_enter Try.func50, Try.ntmps50
    go_wp2_with (first | (go_at_call 36; go_must ((refine (graphOk_calls A c ns B d es _ (Kd.C_below HR.out.cn HB.out) (Kd.C_below HR.out.ce HB.out)).mono ?_); rintro e u_ ⟨rfl, hb⟩; rw [HOK.out]; replace HB := Aside0.mk (below_step HB.out hb); replace L0 := Aside0.mk (blk_below L0.out hb); (try clear c0 c1); obtain ⟨c0, c1⟩ := cs2 (L0.out); clear hb)) | (go_at_call 129; go_must ((refine (nearPlaces_ad A c ns B d es _ (HR.out.below HB.out) HOG.out).mono ?_); rintro e W1 ⟨adN, rfl, hcn_, hb⟩; have HNP := Aside0.mk hcn_; clear hcn_; replace HB := Aside0.mk (below_step HB.out hb); replace L0 := Aside0.mk (blk_below L0.out hb); (try clear c0 c1); obtain ⟨c0, c1⟩ := cs2 (L0.out); clear hb)))
    have HBW := HB
    clear HB L0 c0 c1
    have HB := Aside0.mk (Below.refl W1.heap.size W1)
    go_loopw [4, 5, 7, 9, 17, 25, 37] (fun s4 _ _ _ s17 _ _ wr => ∃ k cnt : Nat, k ≤ ns.length ∧ s17 = .int .i64 (k : Int) ∧ s4 = .int .i64 (cnt : Int) ∧ cnt = sm k (G3 (adjI ns es) ns.length) ∧ cnt ≤ 1600 * k ∧ Below W1.heap.size W1 wr) (fun _ _ _ _ s17 _ _ _ => (ns.length - intOf s17).toNat)
    case atStart => exact ⟨0, 0, Nat.zero_le _, rfl, rfl, rfl, Nat.le_refl _, HB.out⟩
    case round =>
      clear HB
      obtain ⟨k, cnt, hk, rfl, rfl, hcn, hcb, hb_⟩ := hrel
      have HK := Aside0.mk hk
      have HCN := Aside0.mk hcn
      have HCB := Aside0.mk hcb
      have HB := Aside0.mk hb_
      clear hk hcn hcb hb_
      by_cases hlt : k < ns.length
      · have hkl : (k : Int) < (ns.length : Int) := by omega
        have HKN := Aside0.mk hlt
        obtain ⟨adM, Aa, ca, eM, ra, hRl, hRC⟩ := row_at HNP.out k hlt
        cases eM
        rw [rows_get hlt, nearZ_zs] at ra hRl hRC
        have HRA := Aside0.mk hRC
        have HRM := Aside0.mk ra
        replace ra := pw_cell_below HB.out ra
        have HFA := Aside0.mk (nearI_few (adjI ns es) ns.length k)
        clear hlt hRl hRC
        go_wp2_with (fail)
        clear ra
        go_loopw [4, 7, 9, 25, 37] (fun s4 _ _ s25 _ wr => ∃ j cnt' : Nat, j ≤ (nearI (adjI ns es) ns.length k).length ∧ s25 = .int .i64 (j : Int) ∧ s4 = .int .i64 (cnt' : Int) ∧ cnt' = cnt + (((nearI (adjI ns es) ns.length k).take j).map (fun b => if k < b then F3 (adjI ns es) ns.length k b else 0)).sum ∧ cnt' ≤ 1600 * k + 40 * j ∧ Below W1.heap.size W1 wr) (fun _ _ _ s25 _ _ => ((nearI (adjI ns es) ns.length k).length - intOf s25).toNat)
        case atStart => exact ⟨0, cnt, Nat.zero_le _, rfl, rfl, by simp, HCB.out, HB.out⟩
        case round =>
          clear HB
          obtain ⟨j, cn2, hj, rfl, rfl, hcn2, hcb2, hb_⟩ := hrel
          have HJ := Aside0.mk hj
          have HCN2 := Aside0.mk hcn2
          have HCB2 := Aside0.mk hcb2
          have HB := Aside0.mk hb_
          clear hj hcn2 hcb2 hb_
          have HZL := Aside0.mk (zs_len (nearI (adjI ns es) ns.length k))
          have hzk : ((nearI (adjI ns es) ns.length k).length : Int) ≤ 40 := by have := HFA.out; omega
          by_cases hlt : j < (nearI (adjI ns es) ns.length k).length
          · have hjl : (j : Int) < ((zs (nearI (adjI ns es) ns.length k)).length : Int) := by have := HZL.out; omega
            have hj4 : (j : Int) < 40 := by omega
            have HJL := Aside0.mk hlt
            obtain ⟨b, hb⟩ : ∃ b, (nearI (adjI ns es) ns.length k)[j] = b := ⟨_, rfl⟩
            have HBV := Aside0.mk (show b < ns.length ∧ adjI ns es k b = true from nearI_mem.1 (hb ▸ List.getElem_mem hlt))
            have hbn : (b : Int) < (ns.length : Int) := by have := HBV.out.1; omega
            have HTS := Aside0.mk (take_sum (f := (fun b => if k < b then F3 (adjI ns es) ns.length k b else 0)) hlt hb)
            obtain ⟨adA, eR, rR⟩ := int_at (Kd.C_below HRA.out HB.out) j (by rw [zs_len]; exact hlt)
            cases eR
            rw [zs_get hlt, hb] at rR
            clear hlt hb
            by_cases hbk : (b : Int) < (k : Int)
            · have HF0 := Aside0.mk (show (if k < b then F3 (adjI ns es) ns.length k b else 0) = 0 from if_neg (by omega))
              go_wp2_with (fail)
              go_roundw
              case rel => exact ⟨j + 1, cn2, HJL.out, by go_num, rfl, by rw [HTS.out, HF0.out, HCN2.out]; rfl, by have := HCB2.out; omega, HB.out⟩
              case measure => have := HJL.out; simp [intOf]; omega
            · have hkb : k < b := by
                rcases Nat.lt_or_eq_of_le (show k ≤ b by omega) with h | h
                · exact h
                · have h1 := HBV.out.2
                  rw [h, adjI_irr HOG.out] at h1
                  cases h1
              have HF1 := Aside0.mk (show (if k < b then F3 (adjI ns es) ns.length k b else 0) = F3 (adjI ns es) ns.length k b from if_pos hkb)
              obtain ⟨adM_, Ab, cb, eM, rb, hRl, hRC⟩ := row_at HNP.out b HBV.out.1
              obtain rfl := Option.some.inj eM
              rw [rows_get HBV.out.1, nearZ_zs] at rb hRl hRC
              have HRB := Aside0.mk hRC
              replace rb := pw_cell_below HB.out rb
              have HFB := Aside0.mk (nearI_few (adjI ns es) ns.length b)
              clear hkb hRl hRC eM
              go_wp2_with (fail)
              clear rb rR
              go_loopw [4, 9, 37] (fun s4 _ s37 wr => ∃ i cnt' : Nat, i ≤ (nearI (adjI ns es) ns.length b).length ∧ s37 = .int .i64 (i : Int) ∧ s4 = .int .i64 (cnt' : Int) ∧ cnt' = cn2 + ((nearI (adjI ns es) ns.length b).take i).countP (fun cc => decide (b < cc) && adjI ns es k cc) ∧ cnt' ≤ 1600 * k + 40 * j + i ∧ Below W1.heap.size W1 wr) (fun _ _ s37 _ => ((nearI (adjI ns es) ns.length b).length - intOf s37).toNat)
              case atStart => exact ⟨0, cn2, Nat.zero_le _, rfl, rfl, by simp, HCB2.out, HB.out⟩
              case round =>
                clear HB
                obtain ⟨i, cn3, hi, rfl, rfl, hcn3, hcb3, hb_⟩ := hrel
                have HI := Aside0.mk hi
                have HCN3 := Aside0.mk hcn3
                have HCB3 := Aside0.mk hcb3
                have HB := Aside0.mk hb_
                clear hi hcn3 hcb3 hb_
                have HZB := Aside0.mk (zs_len (nearI (adjI ns es) ns.length b))
                have hzb : ((nearI (adjI ns es) ns.length b).length : Int) ≤ 40 := by have := HFB.out; omega
                have hc3 : (cn3 : Int) ≤ 70000 := by have := HCB3.out; have := HI.out; omega
                by_cases hlt : i < (nearI (adjI ns es) ns.length b).length
                · have hil : (i : Int) < ((zs (nearI (adjI ns es) ns.length b)).length : Int) := by have := HZB.out; omega
                  have hi4 : (i : Int) < 40 := by omega
                  have HIL := Aside0.mk hlt
                  obtain ⟨cc, hcc⟩ : ∃ c9, (nearI (adjI ns es) ns.length b)[i] = c9 := ⟨_, rfl⟩
                  have HV := Aside0.mk (show cc < ns.length ∧ adjI ns es b cc = true from nearI_mem.1 (hcc ▸ List.getElem_mem hlt))
                  have HTC := Aside0.mk (take_cnt (p := (fun cc => decide (b < cc) && adjI ns es k cc)) hlt hcc)
                  obtain ⟨adR, eR, rR⟩ := int_at (Kd.C_below HRB.out HB.out) i (by rw [zs_len]; exact hlt)
                  cases eR
                  rw [zs_get hlt, hcc] at rR
                  have ra := pw_cell_below HB.out HRM.out
                  obtain ⟨va, hva⟩ : ∃ v, adjI ns es k cc = v := ⟨_, rfl⟩
                  have HVA := Aside0.mk hva
                  clear hlt hcc hva
                  by_cases hbc : (b : Int) < (cc : Int)
                  · have HD1 := Aside0.mk (show decide (b < cc) = true from decide_eq_true (by omega))
                    cases va
                    all_goals
                      go_wp2_with (first | (go_at_call 130; go_must ((refine (contains_calls (some adA) _ (zs (nearI (adjI ns es) ns.length k)) (cc : Int) _ _ (Kd.C_below HRA.out HB.out) (by rw [zs_len]; have := nearI_few (adjI ns es) ns.length k; have := HLN.out; omega) (contains_near HV.out.1 _ HVA.out)).mono ?_); rintro e u_ ⟨rfl, hb⟩; replace HB := Aside0.mk (below_step HB.out hb); clear hb)))
                      go_roundw
                      case rel => first | exact ⟨i + 1, cn3 + 1, HIL.out, by go_num, by go_num, by rw [HTC.out, HD1.out, HVA.out, HCN3.out]; rfl, by have := HCB3.out; omega, HB.out⟩ | exact ⟨i + 1, cn3, HIL.out, by go_num, rfl, by rw [HTC.out, HD1.out, HVA.out, HCN3.out]; rfl, by have := HCB3.out; omega, HB.out⟩
                      case measure => have := HIL.out; simp [intOf]; omega
                  · have HD1 := Aside0.mk (show decide (b < cc) = false from decide_eq_false (by omega))
                    go_wp2_with (fail)
                    go_roundw
                    case rel => exact ⟨i + 1, cn3, HIL.out, by go_num, rfl, by rw [HTC.out, HD1.out, HCN3.out]; rfl, by have := HCB3.out; omega, HB.out⟩
                    case measure => have := HIL.out; simp [intOf]; omega
                · have hil : ¬ (i : Int) < ((zs (nearI (adjI ns es) ns.length b)).length : Int) := by have := HZB.out; omega
                  have HTF := Aside0.mk (show ((nearI (adjI ns es) ns.length b).take i).countP (fun cc => decide (b < cc) && adjI ns es k cc) = F3 (adjI ns es) ns.length k b by rw [List.take_of_length_le (by omega)]; exact cnt3 k b)
                  clear hlt
                  go_wp2_with (fail)
                  go_roundw
                  case rel => exact ⟨j + 1, cn3, HJL.out, by go_num, rfl, by rw [HTS.out, HF1.out, HCN3.out, HTF.out, HCN2.out]; omega, by have := HCB3.out; have := HI.out; have := HFB.out; have := HLN.out; omega, HB.out⟩
                  case measure => have := HJL.out; simp [intOf]; omega
          · have hjl : ¬ (j : Int) < ((zs (nearI (adjI ns es) ns.length k)).length : Int) := by have := HZL.out; omega
            have HTF := Aside0.mk (show (((nearI (adjI ns es) ns.length k).take j).map (fun b => if k < b then F3 (adjI ns es) ns.length k b else 0)).sum = G3 (adjI ns es) ns.length k by rw [List.take_of_length_le (by omega)]; exact sum3 k)
            clear hlt
            go_wp2_with (fail)
            go_roundw
            case rel => exact ⟨k + 1, cn2, HKN.out, by go_num, rfl, by rw [sm_succ, HCN2.out, HTF.out, HCN.out], by have := HCB2.out; have := HJ.out; have := HFA.out; have := HLN.out; omega, HB.out⟩
            case measure => have := HKN.out; simp [intOf]; omega
      · have hkl : ¬ (k : Int) < (ns.length : Int) := by omega
        obtain rfl : k = ns.length := by have := HK.out; omega
        clear hlt
        go_wp2_with (fail)
        go_ret
        exact ⟨by rw [HW.out, tris_G3, ← HCN.out]; rfl, below_step HBW.out HB.out⟩
end Go.Proofs.Ytogmbeifbjgphaa.R
