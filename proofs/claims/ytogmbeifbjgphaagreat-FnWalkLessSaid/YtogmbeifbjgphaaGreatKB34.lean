/- impl.WalkThrees, with slices.Index and Contains; impl.countStays, slices.Index and Contains of bools; impl.peel: takes away what has few near that stay. -/
import Derived.Test.YtogmbeifbjgphaaGreatKB32
import Derived.Test.YtogmbeifbjgphaaGreatKB33
namespace Go.Proofs.YtogmbeifbjgphaaGreat.R
open Go.RowKit Go.Proofs.YtogmbeifbjgphaaGreatV.PrintWords Go.Proofs.YtogmbeifbjgphaaGreatV.PrintLast Go.Proofs.YtogmbeifbjgphaaGreatV.PrintMore Go.Proofs.YtogmbeifbjgphaaGreat.M
set_option linter.unusedVariables false
set_option linter.unusedSimpArgs false
attribute [local go_sem high] eqN eqE
set_option maxHeartbeats 3200000 in
set_option maxRecDepth 100000 in
theorem idxInt_calls (A : Option Addr) (c : Nat) (xs : List Int) (x : Int) (w : World) (hx : (Kd.int .i64).C w A xs.length xs) (hl : xs.length ≤ 1000) :
 Calls Tryz.prog 105 #[.slice A xs.length c, .int .i64 x] w fun e w' => (∃ r : Int, e = .returned (.int .i64 r) ∧ -1 ≤ r ∧ (0 ≤ r ↔ x ∈ xs)) ∧ Below w.heap.size w w' := by
 have HX := Aside0.mk hx
 have HL := Aside0.mk hl
 have HB := Aside0.mk (Below.refl w.heap.size w)
 clear hx hl
 go_enter Tryz.func105, Tryz.ntmps105
 go_wp2_with (fail)
 go_loopw [5, 8] (fun _ s8 wr => ∃ k : Nat, k ≤ xs.length ∧ s8 = .int .i64 (k : Int) ∧ x ∉ xs.take k ∧ Below w.heap.size w wr) (fun _ s8 _ => (xs.length - intOf s8).toNat)
 case atStart => exact ⟨0, Nat.zero_le _, rfl, by simp, HB.out⟩
 case round =>
  clear HB
  obtain ⟨k, hk_, rfl, hn_, hb_⟩ := hrel
  have HK := Aside0.mk hk_
  have HN := Aside0.mk hn_
  have HB := Aside0.mk hb_
  clear hk_ hn_ hb_
  by_cases hlt : k < xs.length
  ·have hkl : (k : Int) < (xs.length : Int) := by omega
   have hk1 : (k : Int) < 1000 := by have := HL.out; omega
   have HKT := Aside0.mk hlt
   have HTK := Aside0.mk (show xs.take (k + 1) = xs.take k ++ [xs.getD k 0] by rw [List.take_succ_eq_append_getElem hlt]; simp [List.getD_eq_getElem?_getD, hlt])
   have HIN := Aside0.mk (show xs.getD k 0 ∈ xs by rw [show xs.getD k 0 = xs[k] by simp [List.getD_eq_getElem?_getD, hlt]]; exact List.getElem_mem hlt)
   obtain ⟨a1, e1, r0⟩ := int_at (Kd.C_below HX.out HB.out) k hlt
   cases e1
   obtain ⟨y, hy⟩ : ∃ y, xs.getD k 0 = y := ⟨_, rfl⟩
   rw [hy] at r0 HTK HIN
   clear hlt hy
   by_cases hxy : x = y
   ·have HM := Aside0.mk (show x ∈ xs by rw [hxy]; exact HIN.out)
    go_wp2_with (fail)
    go_ret
    exact ⟨⟨(k : Int), rfl, by omega, fun _ => HM.out, fun _ => by omega⟩, HB.out⟩
   ·go_wp2_with (fail)
    go_roundw
    case rel => exact ⟨k + 1, HKT.out, by go_num, by rw [HTK.out, List.mem_append, List.mem_singleton]; exact fun h => h.elim HN.out hxy, HB.out⟩
    case measure => have := HKT.out; simp [intOf]; omega
  ·have hkl : ¬ (k : Int) < (xs.length : Int) := by omega
   have HM := Aside0.mk (show x ∉ xs by rw [← List.take_of_length_le (show xs.length ≤ k by omega)]; exact HN.out)
   clear hlt
   go_wp2_with (fail)
   go_ret
   exact ⟨⟨-1, rfl, by omega, fun h => absurd h (by decide), fun h => absurd h HM.out⟩, HB.out⟩
set_option maxHeartbeats 3200000 in
set_option maxRecDepth 100000 in
theorem contains_calls (A : Option Addr) (c : Nat) (xs : List Int) (x : Int) (v : Bool) (w : World) (hx : (Kd.int .i64).C w A xs.length xs) (hl : xs.length ≤ 1000) (hv : decide (x ∈ xs) = v) :
 Calls Tryz.prog 48 #[.slice A xs.length c, .int .i64 x] w fun e w' => e = .returned (.bool v) ∧ Below w.heap.size w w' := by
 have HX := Aside0.mk hx
 have HL := Aside0.mk hl
 have HV := Aside0.mk hv
 have HB := Aside0.mk (Below.refl w.heap.size w)
 clear hx hl hv
 go_enter Tryz.func48, Tryz.ntmps48
 go_wp2_with (first | (go_at_call 105; go_must ((refine (idxInt_calls A c xs x _ HX.out HL.out).mono ?_); rintro e u_ ⟨⟨r, rfl, hr1, hr2⟩, hb⟩; have HRX := Aside0.mk hr2; replace HB := Aside0.mk (below_step HB.out hb); clear hr2 hb)))
 go_ret
 exact ⟨by
  rw [← HV.out]
  exact congrArg (fun b => Ending.returned (Value.bool b)) (decide_eq_decide.2 HRX.out), HB.out⟩
theorem mem_zs {q : List Nat} {v : Nat} : (v : Int) ∈ zs q ↔ v ∈ q := by
 unfold zs
 rw [List.mem_map]
 exact ⟨fun ⟨u, hu, e⟩ => by rw [← Int.ofNat.inj e]; exact hu, fun h => ⟨v, h, rfl⟩⟩
theorem nearPlaces_ad (A : Option Addr) (c : Nat) (ns : List Nd) (B : Option Addr) (d : Nat) (es : List Eg) (w : World) (hr : GR w A c ns B d es) (hg : OkG ns es) :
 Calls Tryz.prog 44 #[.agg #[.slice A ns.length c, .slice B es.length d]] w fun e w' => ∃ ad, e = .returned (.slice (some ad) ns.length ns.length) ∧ (Kd.slice 3 (Kd.int .i64)).C w' (some ad) ns.length ((List.range ns.length).map (nearZ (adjI ns es) ns.length)) ∧ Below w.heap.size w w' :=
 (nearPlaces_calls A c ns B d es w hr hg).mono fun e w' ⟨g, h⟩ => ⟨_, h⟩
theorem nearI_few (adj : Nat → Nat → Bool) (n i : Nat) : (nearI adj n i).length ≤ n := Nat.le_trans (List.length_filter_le _ _) (by simp)
theorem contains_near {adj : Nat → Nat → Bool} {n a c : Nat} (hc : c < n) (v : Bool) (h : adj a c = v) : decide ((c : Int) ∈ zs (nearI adj n a)) = v := by
 rw [← h, Bool.eq_iff_iff, decide_eq_true_iff, mem_zs, nearI_mem]
 exact ⟨fun h => h.2, fun h => ⟨hc, h⟩⟩
theorem take_cnt {L : List Nat} {p : Nat → Bool} {i v : Nat} (h : i < L.length) (hv : L[i] = v) : (L.take (i + 1)).countP p = (L.take i).countP p + (p v).toNat := by
 rw [List.take_succ_eq_append_getElem h, List.countP_append, hv]
 cases hp : p v <;> simp [List.countP_cons, hp]
theorem take_sum {L : List Nat} {f : Nat → Nat} {i v : Nat} (h : i < L.length) (hv : L[i] = v) : ((L.take (i + 1)).map f).sum = ((L.take i).map f).sum + f v := by
 rw [List.take_succ_eq_append_getElem h, List.map_append, List.sum_append, hv]
 simp
set_option maxHeartbeats 12800000 in
set_option maxRecDepth 100000 in
theorem walkThrees_calls (A : Option Addr) (c : Nat) (ns : List Nd) (B : Option Addr) (d : Nat) (es : List Eg) (w : World) (hr : GR w A c ns B d es) :
 Calls Tryz.prog 14 #[.agg #[.slice A ns.length c, .slice B es.length d]] w fun e w' => e = .returned (.int .i64 (wThrees ns es : Int)) ∧ Below w.heap.size w w' := by
 have HR := Aside0.mk hr
 clear hr
 obtain ⟨v, hv⟩ : ∃ v, okG ns es = v := ⟨_, rfl⟩
 have HOK := Aside0.mk hv
 clear hv
 obtain ⟨L0, HB⟩ := al1 w #[.slice A ns.length c, .slice B es.length d] 26
 cases v
 ·have HW := Aside0.mk (show wThrees ns es = 0 from if_neg fun h => by rw [HOK.out] at h; cases h)
  go_enter Tryz.func14, Tryz.ntmps14
  go_wp2_with (first | (go_at_call 29; go_must ((refine (graphOk_calls A c ns B d es _ (Kd.C_below HR.out.cn HB.out) (Kd.C_below HR.out.ce HB.out)).mono ?_); rintro e u_ ⟨rfl, hb⟩; rw [HOK.out]; replace HB := Aside0.mk (below_step HB.out hb); replace L0 := Aside0.mk (blk_below L0.out hb); (try clear c0 c1); obtain ⟨c0, c1⟩ := cs2 (L0.out); clear hb)))
  go_ret
  exact ⟨by rw [HW.out]; rfl, HB.out⟩
 ·have HOG := Aside0.mk (okG_true.1 HOK.out)
  have HLN := Aside0.mk (NsOk.mk HOG.out.nok HOG.out.nasc HOG.out.nfew).len
  have HW := Aside0.mk (show wThrees ns es = tris (adjI ns es) ns.length from if_pos HOK.out)
  have hnn : (ns.length : Int) ≤ 40 := by have := HLN.out; omega
  go_enter Tryz.func14, Tryz.ntmps14
  go_wp2_with (first | (go_at_call 29; go_must ((refine (graphOk_calls A c ns B d es _ (Kd.C_below HR.out.cn HB.out) (Kd.C_below HR.out.ce HB.out)).mono ?_); rintro e u_ ⟨rfl, hb⟩; rw [HOK.out]; replace HB := Aside0.mk (below_step HB.out hb); replace L0 := Aside0.mk (blk_below L0.out hb); (try clear c0 c1); obtain ⟨c0, c1⟩ := cs2 (L0.out); clear hb)) | (go_at_call 44; go_must ((refine (nearPlaces_ad A c ns B d es _ (HR.out.below HB.out) HOG.out).mono ?_); rintro e W1 ⟨adN, rfl, hcn_, hb⟩; have HNP := Aside0.mk hcn_; clear hcn_; replace HB := Aside0.mk (below_step HB.out hb); replace L0 := Aside0.mk (blk_below L0.out hb); (try clear c0 c1); obtain ⟨c0, c1⟩ := cs2 (L0.out); clear hb)))
  have HBW := HB
  clear HB L0 c0 c1
  have HB := Aside0.mk (Below.refl W1.heap.size W1)
  go_loopw [4, 5, 7, 9, 17, 25, 37] (fun s4 _ _ _ s17 _ _ wr => ∃ k cnt : Nat, k ≤ ns.length ∧ s17 = .int .i64 (k : Int) ∧ s4 = .int .i64 (cnt : Int) ∧ cnt = sm k (G3 (adjI ns es) ns.length) ∧ cnt ≤ 1600 * k ∧ Below W1.heap.size W1 wr) (fun _ _ _ _ s17 _ _ _ => (ns.length - intOf s17).toNat)
  case atStart => exact ⟨0, 0, Nat.zero_le _, rfl, rfl, rfl, Nat.le_refl _, HB.out⟩
  case round =>
   clear HB
   obtain ⟨k, cnt, hk, rfl, rfl, hcn, hcb, hb_⟩ := hrel
   have HK := Aside0.mk hk
   have HCN := Aside0.mk hcn
   have HCB := Aside0.mk hcb
   have HB := Aside0.mk hb_
   clear hk hcn hcb hb_
   by_cases hlt : k < ns.length
   ·have hkl : (k : Int) < (ns.length : Int) := by omega
    have HKN := Aside0.mk hlt
    obtain ⟨adM, Aa, ca, eM, ra, hRl, hRC⟩ := row_at HNP.out k hlt
    cases eM
    rw [rows_get hlt, nearZ_zs] at ra hRl hRC
    have HRA := Aside0.mk hRC
    have HRM := Aside0.mk ra
    replace ra := pw_cell_below HB.out ra
    have HFA := Aside0.mk (nearI_few (adjI ns es) ns.length k)
    clear hlt hRl hRC
    go_wp2_with (fail)
    clear ra
    go_loopw [4, 7, 9, 25, 37] (fun s4 _ _ s25 _ wr => ∃ j cnt' : Nat, j ≤ (nearI (adjI ns es) ns.length k).length ∧ s25 = .int .i64 (j : Int) ∧ s4 = .int .i64 (cnt' : Int) ∧ cnt' = cnt + (((nearI (adjI ns es) ns.length k).take j).map (fun b => if k < b then F3 (adjI ns es) ns.length k b else 0)).sum ∧ cnt' ≤ 1600 * k + 40 * j ∧ Below W1.heap.size W1 wr) (fun _ _ _ s25 _ _ => ((nearI (adjI ns es) ns.length k).length - intOf s25).toNat)
    case atStart => exact ⟨0, cnt, Nat.zero_le _, rfl, rfl, by simp, HCB.out, HB.out⟩
    case round =>
     clear HB
     obtain ⟨j, cn2, hj, rfl, rfl, hcn2, hcb2, hb_⟩ := hrel
     have HJ := Aside0.mk hj
     have HCN2 := Aside0.mk hcn2
     have HCB2 := Aside0.mk hcb2
     have HB := Aside0.mk hb_
     clear hj hcn2 hcb2 hb_
     have HZL := Aside0.mk (zs_len (nearI (adjI ns es) ns.length k))
     have hzk : ((nearI (adjI ns es) ns.length k).length : Int) ≤ 40 := by have := HFA.out; omega
     by_cases hlt : j < (nearI (adjI ns es) ns.length k).length
     ·have hjl : (j : Int) < ((zs (nearI (adjI ns es) ns.length k)).length : Int) := by have := HZL.out; omega
      have hj4 : (j : Int) < 40 := by omega
      have HJL := Aside0.mk hlt
      obtain ⟨b, hb⟩ : ∃ b, (nearI (adjI ns es) ns.length k)[j] = b := ⟨_, rfl⟩
      have HBV := Aside0.mk (show b < ns.length ∧ adjI ns es k b = true from nearI_mem.1 (hb ▸ List.getElem_mem hlt))
      have hbn : (b : Int) < (ns.length : Int) := by have := HBV.out.1; omega
      have HTS := Aside0.mk (take_sum (f := (fun b => if k < b then F3 (adjI ns es) ns.length k b else 0)) hlt hb)
      obtain ⟨adA, eR, rR⟩ := int_at (Kd.C_below HRA.out HB.out) j (by rw [zs_len]; exact hlt)
      cases eR
      rw [zs_get hlt, hb] at rR
      clear hlt hb
      by_cases hbk : (b : Int) < (k : Int)
      ·have HF0 := Aside0.mk (show (if k < b then F3 (adjI ns es) ns.length k b else 0) = 0 from if_neg (by omega))
       go_wp2_with (fail)
       go_roundw
       case rel => exact ⟨j + 1, cn2, HJL.out, by go_num, rfl, by rw [HTS.out, HF0.out, HCN2.out]; rfl, by have := HCB2.out; omega, HB.out⟩
       case measure => have := HJL.out; simp [intOf]; omega
      ·have hkb : k < b := by
        rcases Nat.lt_or_eq_of_le (show k ≤ b by omega) with h | h
        ·exact h
        ·have h1 := HBV.out.2
         rw [h, adjI_irr HOG.out] at h1
         cases h1
       have HF1 := Aside0.mk (show (if k < b then F3 (adjI ns es) ns.length k b else 0) = F3 (adjI ns es) ns.length k b from if_pos hkb)
       obtain ⟨adM_, Ab, cb, eM, rb, hRl, hRC⟩ := row_at HNP.out b HBV.out.1
       obtain rfl := Option.some.inj eM
       rw [rows_get HBV.out.1, nearZ_zs] at rb hRl hRC
       have HRB := Aside0.mk hRC
       replace rb := pw_cell_below HB.out rb
       have HFB := Aside0.mk (nearI_few (adjI ns es) ns.length b)
       clear hkb hRl hRC eM
       go_wp2_with (fail)
       clear rb rR
       go_loopw [4, 9, 37] (fun s4 _ s37 wr => ∃ i cnt' : Nat, i ≤ (nearI (adjI ns es) ns.length b).length ∧ s37 = .int .i64 (i : Int) ∧ s4 = .int .i64 (cnt' : Int) ∧ cnt' = cn2 + ((nearI (adjI ns es) ns.length b).take i).countP (fun cc => decide (b < cc) && adjI ns es k cc) ∧ cnt' ≤ 1600 * k + 40 * j + i ∧ Below W1.heap.size W1 wr) (fun _ _ s37 _ => ((nearI (adjI ns es) ns.length b).length - intOf s37).toNat)
       case atStart => exact ⟨0, cn2, Nat.zero_le _, rfl, rfl, by simp, HCB2.out, HB.out⟩
       case round =>
        clear HB
        obtain ⟨i, cn3, hi, rfl, rfl, hcn3, hcb3, hb_⟩ := hrel
        have HI := Aside0.mk hi
        have HCN3 := Aside0.mk hcn3
        have HCB3 := Aside0.mk hcb3
        have HB := Aside0.mk hb_
        clear hi hcn3 hcb3 hb_
        have HZB := Aside0.mk (zs_len (nearI (adjI ns es) ns.length b))
        have hzb : ((nearI (adjI ns es) ns.length b).length : Int) ≤ 40 := by have := HFB.out; omega
        have hc3 : (cn3 : Int) ≤ 70000 := by have := HCB3.out; have := HI.out; omega
        by_cases hlt : i < (nearI (adjI ns es) ns.length b).length
        ·have hil : (i : Int) < ((zs (nearI (adjI ns es) ns.length b)).length : Int) := by have := HZB.out; omega
         have hi4 : (i : Int) < 40 := by omega
         have HIL := Aside0.mk hlt
         obtain ⟨cc, hcc⟩ : ∃ c9, (nearI (adjI ns es) ns.length b)[i] = c9 := ⟨_, rfl⟩
         have HV := Aside0.mk (show cc < ns.length ∧ adjI ns es b cc = true from nearI_mem.1 (hcc ▸ List.getElem_mem hlt))
         have HTC := Aside0.mk (take_cnt (p := (fun cc => decide (b < cc) && adjI ns es k cc)) hlt hcc)
         obtain ⟨adR, eR, rR⟩ := int_at (Kd.C_below HRB.out HB.out) i (by rw [zs_len]; exact hlt)
         cases eR
         rw [zs_get hlt, hcc] at rR
         have ra := pw_cell_below HB.out HRM.out
         obtain ⟨va, hva⟩ : ∃ v, adjI ns es k cc = v := ⟨_, rfl⟩
         have HVA := Aside0.mk hva
         clear hlt hcc hva
         by_cases hbc : (b : Int) < (cc : Int)
         ·have HD1 := Aside0.mk (show decide (b < cc) = true from decide_eq_true (by omega))
          cases va
          all_goals
           go_wp2_with (first | (go_at_call 48; go_must ((refine (contains_calls (some adA) _ (zs (nearI (adjI ns es) ns.length k)) (cc : Int) _ _ (Kd.C_below HRA.out HB.out) (by rw [zs_len]; have := nearI_few (adjI ns es) ns.length k; have := HLN.out; omega) (contains_near HV.out.1 _ HVA.out)).mono ?_); rintro e u_ ⟨rfl, hb⟩; replace HB := Aside0.mk (below_step HB.out hb); clear hb)))
           go_roundw
           case rel => first | exact ⟨i + 1, cn3 + 1, HIL.out, by go_num, by go_num, by rw [HTC.out, HD1.out, HVA.out, HCN3.out]; rfl, by have := HCB3.out; omega, HB.out⟩ | exact ⟨i + 1, cn3, HIL.out, by go_num, rfl, by rw [HTC.out, HD1.out, HVA.out, HCN3.out]; rfl, by have := HCB3.out; omega, HB.out⟩
           case measure => have := HIL.out; simp [intOf]; omega
         ·have HD1 := Aside0.mk (show decide (b < cc) = false from decide_eq_false (by omega))
          go_wp2_with (fail)
          go_roundw
          case rel => exact ⟨i + 1, cn3, HIL.out, by go_num, rfl, by rw [HTC.out, HD1.out, HCN3.out]; rfl, by have := HCB3.out; omega, HB.out⟩
          case measure => have := HIL.out; simp [intOf]; omega
        ·have hil : ¬ (i : Int) < ((zs (nearI (adjI ns es) ns.length b)).length : Int) := by have := HZB.out; omega
         have HTF := Aside0.mk (show ((nearI (adjI ns es) ns.length b).take i).countP (fun cc => decide (b < cc) && adjI ns es k cc) = F3 (adjI ns es) ns.length k b by rw [List.take_of_length_le (by omega)]; exact cnt3 k b)
         clear hlt
         go_wp2_with (fail)
         go_roundw
         case rel => exact ⟨j + 1, cn3, HJL.out, by go_num, rfl, by rw [HTS.out, HF1.out, HCN3.out, HTF.out, HCN2.out]; omega, by have := HCB3.out; have := HI.out; have := HFB.out; have := HLN.out; omega, HB.out⟩
         case measure => have := HJL.out; simp [intOf]; omega
     ·have hjl : ¬ (j : Int) < ((zs (nearI (adjI ns es) ns.length k)).length : Int) := by have := HZL.out; omega
      have HTF := Aside0.mk (show (((nearI (adjI ns es) ns.length k).take j).map (fun b => if k < b then F3 (adjI ns es) ns.length k b else 0)).sum = G3 (adjI ns es) ns.length k by rw [List.take_of_length_le (by omega)]; exact sum3 k)
      clear hlt
      go_wp2_with (fail)
      go_roundw
      case rel => exact ⟨k + 1, cn2, HKN.out, by go_num, rfl, by rw [sm_succ, HCN2.out, HTF.out, HCN.out], by have := HCB2.out; have := HJ.out; have := HFA.out; have := HLN.out; omega, HB.out⟩
      case measure => have := HKN.out; simp [intOf]; omega
   ·have hkl : ¬ (k : Int) < (ns.length : Int) := by omega
    obtain rfl : k = ns.length := by have := HK.out; omega
    clear hlt
    go_wp2_with (fail)
    go_ret
    exact ⟨by rw [HW.out, tris_G3, ← HCN.out]; rfl, below_step HBW.out HB.out⟩
end Go.Proofs.YtogmbeifbjgphaaGreat.R
namespace Go.Proofs.YtogmbeifbjgphaaGreat.R
open Go.RowKit Go.Proofs.YtogmbeifbjgphaaGreatV.PrintWords Go.Proofs.YtogmbeifbjgphaaGreatV.PrintLast Go.Proofs.YtogmbeifbjgphaaGreatV.PrintMore Go.Proofs.YtogmbeifbjgphaaGreat.M
set_option linter.unusedVariables false
set_option linter.unusedSimpArgs false
attribute [local go_sem high] eqN eqE
theorem gb_at {l : List Bool} {w : World} {g v : Nat} (h : Rw Value.bool 4 w g l) (hv : v < l.length) : w.cell? ⟨g, v, none⟩ = some (.bool (gb l v)) := h.at false v hv
set_option maxHeartbeats 3200000 in
set_option maxRecDepth 100000 in
theorem countStays_calls (q : List Nat) (n g : Nat) (l : List Bool) (A : Option Addr) (c : Nat) (w : World) (hq : (Kd.int .i64).C w A (zs q).length (zs q)) (hr : Rw Value.bool 4 w g l) (hl : l.length = n) (hn : ∀ v ∈ q, v < n) (h1 : q.length ≤ 1000) :
 Calls Tryz.prog 103 #[.slice A (zs q).length c, .slice (some ⟨g, 0, none⟩) n n] w fun e w' => e = .returned (.int .i64 ((q.countP (gb l) : Nat) : Int)) ∧ Below w.heap.size w w' := by
 have HQ := Aside0.mk hq
 have HR := Aside0.mk hr
 have HL := Aside0.mk hl
 have HN := Aside0.mk hn
 have H1 := Aside0.mk h1
 have HZ := Aside0.mk (zs_len q)
 have hq1 : (q.length : Int) ≤ 1000 := by omega
 have HB := Aside0.mk (Below.refl w.heap.size w)
 clear hq hr hl hn h1
 go_enter Tryz.func103, Tryz.ntmps103
 go_wp2_with (fail)
 go_loopw [5, 7, 10] (fun s5 _ s10 wr => ∃ j cnt : Nat, j ≤ q.length ∧ s10 = .int .i64 (j : Int) ∧ s5 = .int .i64 (cnt : Int) ∧ cnt = (q.take j).countP (gb l) ∧ cnt ≤ j ∧ Below w.heap.size w wr) (fun _ _ s10 _ => (q.length - intOf s10).toNat)
 case atStart => exact ⟨0, 0, Nat.zero_le _, rfl, rfl, rfl, Nat.le_refl _, HB.out⟩
 case round =>
  clear HB
  obtain ⟨j, cnt, hj, rfl, rfl, hc, hcb, hb_⟩ := hrel
  have HJ := Aside0.mk hj
  have HC := Aside0.mk hc
  have HCB := Aside0.mk hcb
  have HB := Aside0.mk hb_
  clear hj hc hcb hb_
  by_cases hlt : j < q.length
  ·have hjl : (j : Int) < ((zs q).length : Int) := by have := HZ.out; omega
   have hj1 : (j : Int) < 1000 := by omega
   have HJL := Aside0.mk hlt
   obtain ⟨v, hv⟩ : ∃ v, q[j] = v := ⟨_, rfl⟩
   have HV := Aside0.mk (show v < n from HN.out v (hv ▸ List.getElem_mem hlt))
   have hvn : (v : Int) < (n : Int) := by have := HV.out; omega
   have HTC := Aside0.mk (take_cnt (p := gb l) hlt hv)
   obtain ⟨adR, eR, rR⟩ := int_at (Kd.C_below HQ.out HB.out) j (by rw [zs_len]; exact hlt)
   cases eR
   rw [zs_get hlt, hv] at rR
   obtain ⟨bv, hbv⟩ : ∃ b, gb l v = b := ⟨_, rfl⟩
   have k0 := pw_cell_below HB.out (gb_at HR.out (v := v) (by rw [HL.out]; exact HV.out))
   rw [hbv] at k0
   have HBV := Aside0.mk hbv
   have hcn : (cnt : Int) ≤ 1000 := by have := HCB.out; have := HJ.out; omega
   clear hlt hv hbv
   cases bv
   all_goals
    go_wp2_with (fail)
    go_roundw
    case rel => first | exact ⟨j + 1, cnt + 1, HJL.out, by go_num, by go_num, by rw [HTC.out, HBV.out, HC.out]; rfl, by have := HCB.out; omega, HB.out⟩ | exact ⟨j + 1, cnt, HJL.out, by go_num, rfl, by rw [HTC.out, HBV.out, HC.out]; rfl, by have := HCB.out; omega, HB.out⟩
    case measure => have := HJL.out; simp [intOf]; omega
  ·have hjl : ¬ (j : Int) < ((zs q).length : Int) := by have := HZ.out; omega
   have HE := Aside0.mk (show cnt = q.countP (gb l) by rw [HC.out, List.take_of_length_le (by omega)])
   clear hlt
   go_wp2_with (fail)
   go_ret
   exact ⟨by rw [← HE.out]; rfl, HB.out⟩
end Go.Proofs.YtogmbeifbjgphaaGreat.R
namespace Go.Proofs.YtogmbeifbjgphaaGreat.R
open Go.RowKit Go.Proofs.YtogmbeifbjgphaaGreatV.PrintWords Go.Proofs.YtogmbeifbjgphaaGreatV.PrintLast Go.Proofs.YtogmbeifbjgphaaGreatV.PrintMore Go.Proofs.YtogmbeifbjgphaaGreat.M
set_option linter.unusedVariables false
set_option linter.unusedSimpArgs false
attribute [local go_sem high] eqN eqE
def flag : Value → Nat
 | .bool true => 1
 | _ => 0
def isT : Value → Bool
 | .bool b => b
 | _ => false
/-- How many of a row stay. -/
def trues (w : World) (g : Nat) : Nat :=
 match w.heap[g]? with
 | some (.cells cs _ _) => cs.toList.countP isT
 | _ => 0
theorem trues_eq {t : TypeId} {w : World} {g : Nat} {l : List Bool} (h : Rw Value.bool t w g l) : trues w g = l.countP id := by
 unfold trues
 rw [show w.heap[g]? = _ from h]
 simp only [List.countP_map]
 rfl
theorem cnt_set : ∀ {l : List Bool} {j : Nat}, gb l j = true → (l.set j false).countP id + 1 = l.countP id
 | [], j, h => by simp [gb] at h
 | b :: l, 0, h => by
   have h1 : b = true := by simpa [gb] using h
   subst h1
   simp
 | b :: l, j + 1, h => by
   have := cnt_set (l := l) (j := j) (by simpa [gb] using h)
   simp only [List.set_cons_succ, List.countP_cons]
   omega
/-- Those ahead of j that stay have k or more near them. -/
def Quiet (adj : Nat → Nat → Bool) (n k j : Nat) (l : List Bool) : Prop := ∀ i, i < j → gb l i = true → k ≤ degS adj n (gb l) i
theorem Quiet.next {adj : Nat → Nat → Bool} {n k j : Nat} {l : List Bool} (h : Quiet adj n k j l) (hx : gb l j = true → k ≤ degS adj n (gb l) j) : Quiet adj n k (j + 1) l := fun i hi ht => by
 rcases Nat.lt_or_eq_of_le (Nat.le_of_lt_succ hi) with h1 | h1
 ·exact h i h1 ht
 ·subst h1
  exact hx ht
section
variable {P : Program} {o : Oper} {Q : Exit → Act → World → Prop} {a : Act} {w : World}
theorem wp_cellB {K : Act → World → Prop} {ty : TypeId} {x y : Operand} (g j : Nat) (b : Bool) (hop : o.op = .store ty x y) (hx : a.eval x = .pointer (some ⟨g, j, none⟩)) (hy : a.eval y = .bool b) (hc : ∃ u, w.cell? ⟨g, j, none⟩ = some u) (hf : w.frozen? ⟨g, j, none⟩ = false) (hi : (P.info? ty).map (·.size) = some 1)
 (h : K (a.put o.dst undef) (w.setCell ⟨g, j, none⟩ (.bool b))) : o.wp P a w K Q := by
 obtain ⟨u, hc⟩ := hc
 have hrun : (execOp a.eval o).run P w = .ok .skip (w.setCell ⟨g, j, none⟩ (.bool b)) := by
  simp only [execOp, hop, hx, hy]
  go_simp
  obtain ⟨i0, hi0, hs⟩ := Option.map_eq_some_iff.1 hi
  simp [sizeOf, typeInfo, hi0, hs, hc, hf]
 unfold Oper.wp
 rw [hrun]
 exact h
end
theorem countStays_as (q : List Nat) (n g : Nat) (l : List Bool) (cd : Nat) (A : Option Addr) (c : Nat) (w : World) (hq : (Kd.int .i64).C w A (zs q).length (zs q)) (hr : Rw Value.bool 4 w g l) (hl : l.length = n) (hn : ∀ v ∈ q, v < n) (h1 : q.length ≤ 1000) (hc : q.countP (gb l) = cd) :
 Calls Tryz.prog 103 #[.slice A (zs q).length c, .slice (some ⟨g, 0, none⟩) n n] w fun e w' => e = .returned (.int .i64 (cd : Int)) ∧ Below w.heap.size w w' := by
 rw [← hc]
 exact countStays_calls q n g l A c w hq hr hl hn h1
theorem gb_get {l : List Bool} {k : Nat} (h : k < l.length) : gb l k = l[k] := by simp [gb, List.getD_eq_getElem?_getD, h]
theorem take_snB {l : List Bool} {k : Nat} (h : k < l.length) : l.take (k + 1) = l.take k ++ [gb l k] := by rw [List.take_succ_eq_append_getElem h, gb_get h]
set_option maxHeartbeats 3200000 in
set_option maxRecDepth 100000 in
theorem idxBool_calls (g n : Nat) (l : List Bool) (w : World) (hx : Rw Value.bool 4 w g l) (hl : l.length = n) (h1 : n ≤ 1000) :
 Calls Tryz.prog 130 #[.slice (some ⟨g, 0, none⟩) n n, .bool true] w fun e w' => (∃ r : Int, e = .returned (.int .i64 r) ∧ (0 ≤ r ↔ true ∈ l)) ∧ Below w.heap.size w w' := by
 have HX := Aside0.mk hx
 have HL := Aside0.mk hl
 have H1 := Aside0.mk h1
 have HB := Aside0.mk (Below.refl w.heap.size w)
 clear hx hl h1
 go_enter Tryz.func130, Tryz.ntmps130
 go_wp2_with (fail)
 go_loopw [5, 8] (fun _ s8 wr => ∃ k : Nat, k ≤ n ∧ s8 = .int .i64 (k : Int) ∧ true ∉ l.take k ∧ Below w.heap.size w wr) (fun _ s8 _ => (n - intOf s8).toNat)
 case atStart => exact ⟨0, Nat.zero_le _, rfl, by simp, HB.out⟩
 case round =>
  clear HB
  obtain ⟨k, hk_, rfl, hn_, hb_⟩ := hrel
  have HK := Aside0.mk hk_
  have HN := Aside0.mk hn_
  have HB := Aside0.mk hb_
  clear hk_ hn_ hb_
  by_cases hlt : k < n
  ·have hkl : (k : Int) < (n : Int) := by omega
   have hk1 : (k : Int) < 1000 := by have := H1.out; omega
   have HKT := Aside0.mk hlt
   have hkk : k < l.length := by have := HL.out; omega
   have HTK := Aside0.mk (take_snB hkk)
   have HIN := Aside0.mk (show gb l k ∈ l by rw [gb_get hkk]; exact List.getElem_mem hkk)
   have r0 := pw_cell_below HB.out (gb_at HX.out (v := k) hkk)
   obtain ⟨y, hy⟩ : ∃ y, gb l k = y := ⟨_, rfl⟩
   rw [hy] at r0 HTK HIN
   clear hlt hy hkk
   cases y
   ·go_wp2_with (fail)
    go_roundw
    case rel => exact ⟨k + 1, HKT.out, by go_num, by rw [HTK.out, List.mem_append, List.mem_singleton]; exact fun h => h.elim HN.out (by intro h; cases h), HB.out⟩
    case measure => have := HKT.out; simp [intOf]; omega
   ·go_wp2_with (fail)
    go_ret
    exact ⟨⟨(k : Int), rfl, fun _ => HIN.out, fun _ => by omega⟩, HB.out⟩
  ·have hkl : ¬ (k : Int) < (n : Int) := by omega
   have HM := Aside0.mk (show true ∉ l by rw [← List.take_of_length_le (show l.length ≤ k by have := HL.out; omega)]; exact HN.out)
   clear hlt
   go_wp2_with (fail)
   go_ret
   exact ⟨⟨-1, rfl, fun h => absurd h (by decide), fun h => absurd h HM.out⟩, HB.out⟩
set_option maxHeartbeats 3200000 in
set_option maxRecDepth 100000 in
theorem anyBool_calls (g n : Nat) (l : List Bool) (v : Bool) (w : World) (hx : Rw Value.bool 4 w g l) (hl : l.length = n) (h1 : n ≤ 1000) (hv : decide (true ∈ l) = v) :
 Calls Tryz.prog 104 #[.slice (some ⟨g, 0, none⟩) n n, .bool true] w fun e w' => e = .returned (.bool v) ∧ Below w.heap.size w w' := by
 have HX := Aside0.mk hx
 have HL := Aside0.mk hl
 have H1 := Aside0.mk h1
 have HV := Aside0.mk hv
 have HB := Aside0.mk (Below.refl w.heap.size w)
 clear hx hl h1 hv
 go_enter Tryz.func104, Tryz.ntmps104
 go_wp2_with (first | (go_at_call 130; go_must ((refine (idxBool_calls g n l _ HX.out HL.out H1.out).mono ?_); rintro e u_ ⟨⟨r, rfl, hr2⟩, hb⟩; have HRX := Aside0.mk hr2; replace HB := Aside0.mk (below_step HB.out hb); clear hr2 hb)))
 go_ret
 exact ⟨by
  rw [← HV.out]
  exact congrArg (fun b => Ending.returned (Value.bool b)) (decide_eq_decide.2 HRX.out), HB.out⟩
theorem kcL_len (adj : Nat → Nat → Bool) (n k : Nat) : (kcL adj n k).length = n := by simp [kcL]
def PeO (adj : Nat → Nat → Bool) (n k g : Nat) (W0 w : World) (s7 : Value) (wr : World) : Prop :=
 ∃ (b : Bool) (l : List Bool), s7 = .bool b ∧ Rw Value.bool 4 wr g l ∧ Peel adj n k l ∧ (b = false → Quiet adj n k n l) ∧ w.grownBy wr (some g) ∧ Below W0.heap.size W0 wr
def PeI (adj : Nat → Nat → Bool) (n k g : Nat) (W0 w : World) (lo : List Bool) (s7 s12 : Value) (wr : World) : Prop :=
 ∃ (j : Nat) (b : Bool) (l : List Bool), j ≤ n ∧ s7 = .bool b ∧ s12 = .int .i64 (j : Int) ∧ Rw Value.bool 4 wr g l ∧ Peel adj n k l ∧ (b = false → l = lo ∧ Quiet adj n k j l) ∧ (b = true → l.countP id < lo.countP id) ∧ l.countP id ≤ lo.countP id ∧ w.grownBy wr (some g) ∧ Below W0.heap.size W0 wr
set_option maxHeartbeats 12800000 in
set_option maxRecDepth 100000 in
theorem peel_calls (adj : Nat → Nat → Bool) (n k g : Nat) (l : List Bool) (v : Bool) (adN : Addr) (c : Nat) (W0 w : World) (hL : (Kd.slice 3 (Kd.int .i64)).C W0 (some adN) n ((List.range n).map (nearZ adj n))) (hB : Below W0.heap.size W0 w) (hr : Rw Value.bool 4 w g l) (hg : W0.heap.size ≤ g) (hn : n ≤ 1000) (hk : k ≤ 1000) (hp : Peel adj n k l) (hv : decide (true ∈ kcL adj n k) = v) :
 Calls Tryz.prog 45 #[.slice (some adN) n c, .slice (some ⟨g, 0, none⟩) n n, .int .i64 (k : Int)] w fun e w' => e = .returned (.bool v) ∧ Rw Value.bool 4 w' g (kcL adj n k) ∧ w.grownBy w' (some g) := by
 have HLL := Aside0.mk hL
 have HB := Aside0.mk hB
 have HR := Aside0.mk hr
 have HG := Aside0.mk hg
 have HN := Aside0.mk hn
 have HP := Aside0.mk hp
 have HV := Aside0.mk hv
 have HGR := Aside0.mk (World.grownBy.refl w (some g))
 have hnn : (n : Int) ≤ 1000 := by omega
 have hkk : (k : Int) ≤ 1000 := by omega
 clear hL hB hr hg hn hk hp hv
 go_enter Tryz.func45, Tryz.ntmps45
 go_wp2_with (fail)
 go_loopw [7, 8, 12] (fun s7 _ _ wr => PeO adj n k g W0 w s7 wr) (fun s7 _ _ wr => trues wr g + flag s7)
 case atStart => exact ⟨true, l, rfl, HR.out, HP.out, (by intro h; cases h), HGR.out, HB.out⟩
 case round =>
  clear HB HR HP HGR l
  obtain ⟨b, l, rfl, hr_, hp_, hq_, hgr_, hb_⟩ := hrel
  have HR := Aside0.mk hr_
  have HP := Aside0.mk hp_
  have HGR := Aside0.mk hgr_
  have HB := Aside0.mk hb_
  have HQ := Aside0.mk hq_
  have HT := Aside0.mk (trues_eq hr_)
  clear hr_ hp_ hq_ hgr_ hb_
  cases b
  ·obtain rfl := kcL_of HP.out.len (fun v _ => HP.out.done (HQ.out rfl) v)
   clear HT
   go_wp2_with (first | (go_at_call 104; go_must ((refine (anyBool_calls g n (kcL adj n k) v _ HR.out (kcL_len adj n k) (by have := HN.out; omega) HV.out).mono ?_); rintro e u_ ⟨rfl, hb⟩; replace HR := Aside0.mk (HR.out.below hb); replace HGR := Aside0.mk (grown_trans HGR.out (grown_of_below hb (some g))); replace HB := Aside0.mk (below_step HB.out hb); clear hb)))
   go_ret
   exact ⟨rfl, HR.out, HGR.out⟩
  ·go_wp2_with (fail)
   go_loopw [7, 8, 12] (fun s7 _ s12 wr => PeI adj n k g W0 w l s7 s12 wr) (fun _ _ s12 _ => (n - intOf s12).toNat)
   case atStart => exact ⟨0, false, l, Nat.zero_le _, rfl, rfl, HR.out, HP.out, fun _ => ⟨rfl, fun i hi => absurd hi (Nat.not_lt_zero _)⟩, (by intro h; cases h), Nat.le_refl _, HGR.out, HB.out⟩
   case round =>
    clear HB HR HP HGR HQ
    have HLO := Aside0.mk (show ∃ x, l = x from ⟨_, rfl⟩)
    obtain ⟨j, b, m, hj, rfl, rfl, hr_, hp_, hf_, ht_, hc_, hgr_, hb_⟩ := hrel
    have HJ := Aside0.mk hj
    have HR := Aside0.mk hr_
    have HP := Aside0.mk hp_
    have HF := Aside0.mk hf_
    have HC := Aside0.mk ht_
    have HCL := Aside0.mk hc_
    have HGR := Aside0.mk hgr_
    have HB := Aside0.mk hb_
    clear hj hr_ hp_ hf_ ht_ hc_ hgr_ hb_ HLO
    by_cases hlt : j < n
    ·have hjn : (j : Int) < (n : Int) := by omega
     have hj1 : (j : Int) < 1000 := by omega
     have HJN := Aside0.mk hlt
     obtain ⟨adM, AR, cR, eM, rM, hRl, hRC⟩ := row_at HLL.out j hlt
     cases eM
     rw [rows_get hlt, nearZ_zs] at rM hRl hRC
     have HRC := Aside0.mk hRC
     have rM := pw_cell_below HB.out rM
     obtain ⟨x, hx⟩ : ∃ x, gb m j = x := ⟨_, rfl⟩
     have k0 := gb_at HR.out (v := j) (by rw [HP.out.len]; exact hlt)
     rw [hx] at k0
     have HX := Aside0.mk hx
     clear hlt hRl hRC hx
     cases x
     ·go_wp2_with (fail)
      go_roundw
      case rel => exact ⟨j + 1, b, m, HJN.out, rfl, by go_num, HR.out, HP.out, (fun e => ⟨(HF.out e).1, (HF.out e).2.next (fun h => by rw [HX.out] at h; cases h)⟩), HC.out, HCL.out, HGR.out, HB.out⟩
      case measure => have := HJN.out; simp [intOf]; omega
     ·obtain ⟨cd, hcd⟩ : ∃ cd, (nearI adj n j).countP (gb m) = cd := ⟨_, rfl⟩
      have HCD := Aside0.mk hcd
      have HDG := Aside0.mk (show degS adj n (gb m) j = cd by rw [← deg_near, ← hcd])
      clear hcd
      by_cases hck : (cd : Int) < (k : Int)
      ·have HST := Aside0.mk (HP.out.strike HJN.out (by have := HDG.out; omega))
       have HCS := Aside0.mk (cnt_set HX.out)
       go_wp2_with (first | (go_at_call 103; go_must ((refine (countStays_as (nearI adj n j) n g m cd AR cR _ (Kd.C_below HRC.out HB.out) HR.out HP.out.len (fun v hv => (nearI_mem.1 hv).1) (by have := nearI_few adj n j; have := HN.out; omega) HCD.out).mono ?_); rintro e u_ ⟨rfl, hb⟩; replace HR := Aside0.mk (HR.out.below hb); replace HGR := Aside0.mk (grown_trans HGR.out (grown_of_below hb (some g))); replace HB := Aside0.mk (below_step HB.out hb); clear hb)) | ((with_reducible refine gate_store (p := 31) rfl ?_); go_must ((refine wpList_plain rfl fun K_ hK_ => wp_cellB g j false rfl rfl rfl (HR.out.has j (by rw [HP.out.len]; exact HJN.out)) (HR.out.frozen _) (by kernel_rfl) (hK_ _ _ ?_)); refine named _ ?_; intro wz hwz; have hg_ : World.grownBy _ wz (some g) := hwz ▸ grown_setCell _ _ _ _; replace HR := Aside0.mk (show Rw Value.bool 4 wz g _ from hwz ▸ HR.out.set j false); replace HGR := Aside0.mk (grown_trans HGR.out hg_); replace HB := Aside0.mk (HB.out.grown hg_ HB.out.size (fun k hk => by have := Option.some.inj hk; have := HG.out; omega)); clear hwz hg_)))
       go_roundw
       case rel => exact ⟨j + 1, true, m.set j false, HJN.out, rfl, by go_num, HR.out, HST.out, (by intro h; cases h), (fun _ => by have := HCS.out; have := HCL.out; omega), (by have := HCS.out; have := HCL.out; omega), HGR.out, HB.out⟩
       case measure => have := HJN.out; simp [intOf]; omega
      ·go_wp2_with (first | (go_at_call 103; go_must ((refine (countStays_as (nearI adj n j) n g m cd AR cR _ (Kd.C_below HRC.out HB.out) HR.out HP.out.len (fun v hv => (nearI_mem.1 hv).1) (by have := nearI_few adj n j; have := HN.out; omega) HCD.out).mono ?_); rintro e u_ ⟨rfl, hb⟩; replace HR := Aside0.mk (HR.out.below hb); replace HGR := Aside0.mk (grown_trans HGR.out (grown_of_below hb (some g))); replace HB := Aside0.mk (below_step HB.out hb); clear hb)))
       go_roundw
       case rel => exact ⟨j + 1, b, m, HJN.out, rfl, by go_num, HR.out, HP.out, (fun e => ⟨(HF.out e).1, (HF.out e).2.next (fun _ => by have := HDG.out; omega)⟩), HC.out, HCL.out, HGR.out, HB.out⟩
       case measure => have := HJN.out; simp [intOf]; omega
    ·have hjn : ¬ (j : Int) < (n : Int) := by omega
     obtain rfl : j = n := by have := HJ.out; omega
     clear hlt
     go_wp2_with (fail)
     go_roundw
     case rel => exact ⟨b, m, rfl, HR.out, HP.out, (fun e => (HF.out e).2), HGR.out, HB.out⟩
     case measure =>
      show trues _ g + flag (.bool b) < trues _ g + flag (.bool true)
      rw [trues_eq HR.out, HT.out]
      cases b
      ·have := HCL.out
       show _ + 0 < _ + 1
       omega
      ·have := HC.out rfl
       show _ + 1 < _ + 1
       omega
end Go.Proofs.YtogmbeifbjgphaaGreat.R
