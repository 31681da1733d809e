/- impl.WalkCore; The reference: l3Left, l3Peel. -/
import Derived.Test.YtogmbeifbjgphaaGreatKB32
import Derived.Test.YtogmbeifbjgphaaGreatKB34
namespace Go.Proofs.YtogmbeifbjgphaaGreat.R
open Go.RowKit Go.Proofs.YtogmbeifbjgphaaGreatV.PrintWords Go.Proofs.YtogmbeifbjgphaaGreatV.PrintLast Go.Proofs.YtogmbeifbjgphaaGreatV.PrintMore Go.Proofs.YtogmbeifbjgphaaGreat.M
set_option linter.unusedVariables false
set_option linter.unusedSimpArgs false
attribute [local go_sem high] eqN eqE
theorem filledB {n : Nat} {xs : List Bool} (h1 : xs.length = n) (h2 : ∀ j, j < n → gb xs j = true) : xs = List.replicate n true := by
 apply List.ext_getElem (by simp [h1])
 intro i h3 h4
 have := h2 i (by omega)
 rw [gb_get h3] at this
 simp [this]
theorem kc_gb {adj : Nat → Nat → Bool} {n k v : Nat} (h : v < n) : gb (kcL adj n k) v = kc adj n k v := by
 unfold gb kcL
 simp [List.getD_eq_getElem?_getD, h]
theorem kc_any {adj : Nat → Nat → Bool} {n k : Nat} : true ∈ kcL adj n k ↔ ∃ v, v < n ∧ Kc adj n k v := by
 unfold kcL
 rw [List.mem_map]
 exact ⟨fun ⟨v, h1, h2⟩ => ⟨v, List.mem_range.1 h1, kc_iff.1 h2⟩, fun ⟨v, h1, h2⟩ => ⟨v, List.mem_range.2 h1, kc_iff.2 h2⟩⟩
def WcF (n g6 g7 : Nat) (W1 : World) (s28 : Value) (wr : World) : Prop :=
 ∃ (k : Nat) (xs : List Bool), k ≤ n ∧ xs.length = n ∧ (∀ j, j < k → gb xs j = true) ∧ s28 = .int .i64 (k : Int) ∧ Rw Value.bool 4 wr g7 xs ∧ Rw (Value.int .i64) 3 wr g6 (List.replicate n 0) ∧ Below W1.heap.size W1 wr
def WcO (adj : Nat → Nat → Bool) (n g6 g7 : Nat) (W1 : World) (s7 : Value) (wr : World) : Prop :=
 ∃ (k : Nat) (l : List Bool), k ≤ n ∧ s7 = .int .i64 ((k + 1 : Nat) : Int) ∧ Peel adj n (k + 1) l ∧ Rw Value.bool 4 wr g7 l ∧ Rw (Value.int .i64) 3 wr g6 (coreU adj n k) ∧ Below W1.heap.size W1 wr
def WcI (adj : Nat → Nat → Bool) (n g6 g7 k : Nat) (W1 : World) (s43 : Value) (wr : World) : Prop :=
 ∃ j : Nat, j ≤ n ∧ s43 = .int .i64 (j : Int) ∧ Rw Value.bool 4 wr g7 (kcL adj n (k + 1)) ∧ Rw (Value.int .i64) 3 wr g6 (coreV adj n k j) ∧ Below W1.heap.size W1 wr
theorem gb_kc {adj : Nat → Nat → Bool} {n k : Nat} (v : Nat) : gb (kcL adj n k) v = kc adj n k v := by
 by_cases h : v < n
 ·exact kc_gb h
 ·have h1 : kc adj n k v = false := Bool.eq_false_iff.2 fun h2 => h (kc_iff.1 h2).lt
  rw [h1]
  unfold gb
  rw [List.getD_eq_getElem?_getD, List.getElem?_eq_none (by rw [kcL_len]; omega)]
  rfl
set_option maxHeartbeats 12800000 in
set_option maxRecDepth 100000 in
theorem walkCore_calls (A : Option Addr) (c : Nat) (ns : List Nd) (B : Option Addr) (d : Nat) (es : List Eg) (w : World) (hr : GR w A c ns B d es) :
 Calls Tryz.prog 12 #[.agg #[.slice A ns.length c, .slice B es.length d]] w fun e w' => RetI w.heap.size (wCore ns es) e w' ∧ Below w.heap.size w w' := by
 have HR := Aside0.mk hr
 clear hr
 obtain ⟨v, hv⟩ : ∃ v, okG ns es = v := ⟨_, rfl⟩
 have HOK := Aside0.mk hv
 clear hv
 obtain ⟨L0, HB⟩ := al1 w #[.slice A ns.length c, .slice B es.length d] 26
 cases v
 ·have HW := Aside0.mk (show wCore ns es = [] from if_neg fun h => by rw [HOK.out] at h; cases h)
  go_enter Tryz.func12, Tryz.ntmps12
  go_wp2_with (first | (go_at_call 29; go_must ((refine (graphOk_calls A c ns B d es _ (Kd.C_below HR.out.cn HB.out) (Kd.C_below HR.out.ce HB.out)).mono ?_); rintro e u_ ⟨rfl, hb⟩; rw [HOK.out]; replace HB := Aside0.mk (below_step HB.out hb); replace L0 := Aside0.mk (blk_below L0.out hb); (try clear c0 c1); obtain ⟨c0, c1⟩ := cs2 (L0.out); clear hb)))
  go_ret
  exact ⟨RetI.nil _ _ HW.out, HB.out⟩
 ·have HOG := Aside0.mk (okG_true.1 HOK.out)
  have HLN := Aside0.mk (NsOk.mk HOG.out.nok HOG.out.nasc HOG.out.nfew).len
  have HW := Aside0.mk (show wCore ns es = coreL (adjI ns es) ns.length from if_pos HOK.out)
  by_cases hz : ns.length = 0
  ·have hzi : (ns.length : Int) = 0 := by omega
   have HWN := Aside0.mk (show wCore ns es = [] from List.eq_nil_of_length_eq_zero (by rw [HW.out, coreL_length, hz]))
   clear hz
   go_enter Tryz.func12, Tryz.ntmps12
   go_wp2_with (first | (go_at_call 29; go_must ((refine (graphOk_calls A c ns B d es _ (Kd.C_below HR.out.cn HB.out) (Kd.C_below HR.out.ce HB.out)).mono ?_); rintro e u_ ⟨rfl, hb⟩; rw [HOK.out]; replace HB := Aside0.mk (below_step HB.out hb); replace L0 := Aside0.mk (blk_below L0.out hb); (try clear c0 c1); obtain ⟨c0, c1⟩ := cs2 (L0.out); clear hb)))
   go_ret
   exact ⟨RetI.nil _ _ HWN.out, HB.out⟩
  ·have hzi : ¬ (ns.length : Int) = 0 := by omega
   have hnn : (ns.length : Int) ≤ 40 := by have := HLN.out; omega
   clear hz
   go_enter Tryz.func12, Tryz.ntmps12
   go_wp2_with (first | (go_at_call 29; go_must ((refine (graphOk_calls A c ns B d es _ (Kd.C_below HR.out.cn HB.out) (Kd.C_below HR.out.ce HB.out)).mono ?_); rintro e u_ ⟨rfl, hb⟩; rw [HOK.out]; replace HB := Aside0.mk (below_step HB.out hb); replace L0 := Aside0.mk (blk_below L0.out hb); (try clear c0 c1); obtain ⟨c0, c1⟩ := cs2 (L0.out); clear hb)) | (go_at_call 44; go_must ((refine (nearPlaces_ad A c ns B d es _ (HR.out.below HB.out) HOG.out).mono ?_); rintro e W1 ⟨adN, rfl, hcn_, hb⟩; have HNP := Aside0.mk hcn_; clear hcn_; replace HB := Aside0.mk (below_step HB.out hb); replace L0 := Aside0.mk (blk_below L0.out hb); (try clear c0 c1); obtain ⟨c0, c1⟩ := cs2 (L0.out); clear hb)) | ((with_reducible refine gate_dst (N := 22) rfl ?_); go_must (refine make_raw rfl 37 _ _ rfl ns.length rfl rfl Tryz.underlying37 (.int .i64 0) 8 (by kernel_rfl) rfl (by decide) (by have := HLN.out; omega) ?_; intro g6 u_ hge_ hblk_ hb; have HG6 := Aside0.mk hge_; have HRC := Aside0.mk (show Rw (Value.int .i64) 3 u_ g6 (List.replicate ns.length 0) by unfold Rw; rw [List.map_replicate]; exact hblk_); have HBW := HB; clear HB; have HB := Aside0.mk hb; clear hge_ hblk_ hb L0 c0 c1)) | ((with_reducible refine gate_dst (N := 25) rfl ?_); go_must (refine make_raw rfl 68 _ _ rfl ns.length rfl rfl Tryz.underlying68 (.bool false) 1 (by kernel_rfl) rfl (by decide) (by have := HLN.out; omega) ?_; intro g7 u_ hge_ hblk_ hb; have HG7 := Aside0.mk (show g6 < g7 from Nat.lt_of_lt_of_le (blk_lt HRC.out) hge_); have HRS := Aside0.mk (show Rw Value.bool 4 u_ g7 (List.replicate ns.length false) by unfold Rw; rw [List.map_replicate]; exact hblk_); replace HRC := Aside0.mk (HRC.out.below hb); replace HB := Aside0.mk (below_step HB.out hb); clear hge_ hblk_ hb)))
   go_loopw [6, 28] (fun _ s28 wr => WcF ns.length g6 g7 W1 s28 wr) (fun _ s28 _ => (ns.length - intOf s28).toNat)
   case atStart => exact ⟨0, _, Nat.zero_le _, by simp, fun j hj => absurd hj (Nat.not_lt_zero _), rfl, HRS.out, HRC.out, HB.out⟩
   case round =>
    clear HB HRS HRC
    obtain ⟨k, xs, hk, hxl_, hxs_, rfl, hrs_, hrc_, hb_⟩ := hrel
    have HK := Aside0.mk hk
    have HXL := Aside0.mk hxl_
    have HXS := Aside0.mk hxs_
    have HRS := Aside0.mk hrs_
    have HRC := Aside0.mk hrc_
    have HB := Aside0.mk hb_
    clear hk hxl_ hxs_ hrs_ hrc_ hb_
    by_cases hlt : k < ns.length
    ·have hkl : (k : Int) < (ns.length : Int) := by omega
     have HKN := Aside0.mk hlt
     clear hlt
     go_wp2_with (first | ((with_reducible refine gate_store (p := 33) rfl ?_); go_must ((refine wpList_plain rfl fun K_ hK_ => wp_cellB g7 k true rfl rfl rfl (HRS.out.has k (by rw [HXL.out]; exact HKN.out)) (HRS.out.frozen _) (by kernel_rfl) (hK_ _ _ ?_)); refine named _ ?_; intro wz hwz; have hg_ : World.grownBy _ wz (some g7) := hwz ▸ grown_setCell _ _ _ _; replace HRS := Aside0.mk (show Rw Value.bool 4 wz g7 _ from hwz ▸ HRS.out.set k true); replace HRC := Aside0.mk (HRC.out.over hg_ (fun e => by have := Option.some.inj e; have := HG7.out; omega)); replace HB := Aside0.mk (HB.out.grown hg_ HB.out.size (fun k hk => by have := Option.some.inj hk; have := HG6.out; have := HG7.out; omega)); clear hwz hg_)))
     go_roundw
     case rel => exact ⟨k + 1, _, HKN.out, by rw [List.length_set]; exact HXL.out, fun j hj => by rw [gb_set (by rw [HXL.out]; exact HKN.out)]; split; rfl; exact HXS.out j (by omega), by go_num, HRS.out, HRC.out, HB.out⟩
     case measure => have := HKN.out; simp [intOf]; omega
    ·have hkl : ¬ (k : Int) < (ns.length : Int) := by omega
     obtain rfl : k = ns.length := by have := HK.out; omega
     obtain rfl := filledB HXL.out HXS.out
     clear hlt hkl HXS HXL HK
     go_wp2_with (fail)
     go_loopw [7, 8, 43] (fun s7 _ _ wr => WcO (adjI ns es) ns.length g6 g7 W1 s7 wr) (fun s7 _ _ _ => (ns.length + 2 - intOf s7).toNat)
     case atStart => exact ⟨0, _, Nat.zero_le _, rfl, Peel.first, HRS.out, by rw [coreU_zero]; exact HRC.out, HB.out⟩
     case round =>
      clear HB HRS HRC
      obtain ⟨k, l, hk, rfl, hpl_, hrs_, hrc_, hb_⟩ := hrel
      have HK := Aside0.mk hk
      have HPL := Aside0.mk hpl_
      have HRS := Aside0.mk hrs_
      have HRC := Aside0.mk hrc_
      have HB := Aside0.mk hb_
      clear hk hpl_ hrs_ hrc_ hb_
      obtain ⟨v, hv⟩ : ∃ v, decide (true ∈ kcL (adjI ns es) ns.length (k + 1)) = v := ⟨_, rfl⟩
      have HV := Aside0.mk hv
      clear hv
      have hkb : (k : Int) ≤ 40 := by have := HK.out; have := HLN.out; omega
      cases v
      ·have HE := Aside0.mk (show coreU (adjI ns es) ns.length k = coreL (adjI ns es) ns.length from coreU_end fun v hv => Nat.not_lt.1 fun hc => of_decide_eq_false HV.out (kc_any.2 ⟨v, hv, (core_iff' hv).2 hc⟩))
       go_wp2_with (first | (go_at_call 45; go_must ((refine (peel_calls (adjI ns es) ns.length (k + 1) g7 l _ adN _ W1 _ HNP.out HB.out HRS.out (by have := HG6.out; have := HG7.out; omega) (by have := HLN.out; omega) (by have := HLN.out; have := HK.out; omega) HPL.out HV.out).mono ?_); rintro e u_ ⟨rfl, hrs_, hg_⟩; replace HRS := Aside0.mk hrs_; replace HRC := Aside0.mk (HRC.out.over hg_ (fun e => by have := Option.some.inj e; have := HG7.out; omega)); replace HB := Aside0.mk (HB.out.grown hg_ HB.out.size (fun k hk => by have := Option.some.inj hk; have := HG6.out; have := HG7.out; omega)); clear hrs_ hg_ HPL)))
       go_ret
       exact ⟨by rw [HW.out, ← HE.out]; exact RetI.row HRC.out (coreU_len _) (by have := HLN.out; omega) (by have := HBW.out.size; have := HG6.out; omega), below_step HBW.out HB.out⟩
      ·have HKN := Aside0.mk (show k + 1 ≤ ns.length by obtain ⟨v, h1, h2⟩ := kc_any.1 (of_decide_eq_true HV.out); exact h2.le)
       go_wp2_with (first | (go_at_call 45; go_must ((refine (peel_calls (adjI ns es) ns.length (k + 1) g7 l _ adN _ W1 _ HNP.out HB.out HRS.out (by have := HG6.out; have := HG7.out; omega) (by have := HLN.out; omega) (by have := HLN.out; have := HK.out; omega) HPL.out HV.out).mono ?_); rintro e u_ ⟨rfl, hrs_, hg_⟩; replace HRS := Aside0.mk hrs_; replace HRC := Aside0.mk (HRC.out.over hg_ (fun e => by have := Option.some.inj e; have := HG7.out; omega)); replace HB := Aside0.mk (HB.out.grown hg_ HB.out.size (fun k hk => by have := Option.some.inj hk; have := HG6.out; have := HG7.out; omega)); clear hrs_ hg_ HPL)))
       go_loopw [8, 43] (fun _ s43 wr => WcI (adjI ns es) ns.length g6 g7 k W1 s43 wr) (fun _ s43 _ => (ns.length - intOf s43).toNat)
       case atStart => exact ⟨0, Nat.zero_le _, rfl, HRS.out, by rw [coreV_zero]; exact HRC.out, HB.out⟩
       case round =>
        clear HB HRS HRC
        obtain ⟨j, hj, rfl, hrs_, hrc_, hb_⟩ := hrel
        have HJ := Aside0.mk hj
        have HRS := Aside0.mk hrs_
        have HRC := Aside0.mk hrc_
        have HB := Aside0.mk hb_
        clear hj hrs_ hrc_ hb_
        by_cases hlt : j < ns.length
        ·have hjl : (j : Int) < (ns.length : Int) := by omega
         have HJN := Aside0.mk hlt
         obtain ⟨x, hx⟩ : ∃ x, kc (adjI ns es) ns.length (k + 1) j = x := ⟨_, rfl⟩
         have k0 := gb_at HRS.out (v := j) (by rw [kcL_len]; exact hlt)
         rw [kc_gb hlt, hx] at k0
         have HX := Aside0.mk hx
         clear hlt hx
         cases x
         ·go_wp2_with (fail)
          go_roundw
          case rel => exact ⟨j + 1, HJN.out, by go_num, HRS.out, by rw [coreV_off HJN.out HX.out]; exact HRC.out, HB.out⟩
          case measure => have := HJN.out; simp [intOf]; omega
         ·go_wp2_with (first | ((with_reducible refine gate_store (p := 53) rfl ?_); go_must ((refine wpList_plain rfl fun K_ hK_ => wp_cellI g6 j .i64 ((k + 1 : Nat) : Int) rfl rfl rfl (HRC.out.has j (by rw [coreV_len]; exact HJN.out)) (HRC.out.frozen _) (by kernel_rfl) (hK_ _ _ ?_)); refine named _ ?_; intro wz hwz; have hg_ : World.grownBy _ wz (some g6) := hwz ▸ grown_setCell _ _ _ _; replace HRC := Aside0.mk (show Rw (Value.int .i64) 3 wz g6 _ from hwz ▸ HRC.out.set j ((k + 1 : Nat) : Int)); replace HRS := Aside0.mk (HRS.out.over hg_ (fun e => by have := Option.some.inj e; have := HG7.out; omega)); replace HB := Aside0.mk (HB.out.grown hg_ HB.out.size (fun k hk => by have := Option.some.inj hk; have := HG6.out; omega)); clear hwz hg_)))
          go_roundw
          case rel => exact ⟨j + 1, HJN.out, by go_num, HRS.out, by rw [← coreV_on HJN.out HX.out]; exact HRC.out, HB.out⟩
          case measure => have := HJN.out; simp [intOf]; omega
        ·have hjl : ¬ (j : Int) < (ns.length : Int) := by omega
         obtain rfl : j = ns.length := by have := HJ.out; omega
         clear hlt
         go_wp2_with (fail)
         go_roundw
         case rel => exact ⟨k + 1, _, HKN.out, by go_num, Peel.next (kcL_len _ _ _) (fun v => gb_kc v), HRS.out, by rw [← coreV_end]; exact HRC.out, HB.out⟩
         case measure => have := HKN.out; simp [intOf]; omega
end Go.Proofs.YtogmbeifbjgphaaGreat.R
namespace Go.Proofs.YtogmbeifbjgphaaGreat.R
open Go.RowKit Go.Proofs.YtogmbeifbjgphaaGreatV.PrintWords Go.Proofs.YtogmbeifbjgphaaGreatV.PrintLast Go.Proofs.YtogmbeifbjgphaaGreatV.PrintMore Go.Proofs.YtogmbeifbjgphaaGreat.M
set_option linter.unusedVariables false
set_option linter.unusedSimpArgs false
attribute [local go_sem high] eqN eqE
abbrev sLl6 : Pl := (.tk 0 (.tk 1 (.tk 2 (.tk 3 (.tk 4 (.tk 5 (.nd .one 6 (.tk 7 (.tk 8 .fin)))))))))
theorem sLl6_ok : planB .any (opsOf Tryz.f107 6) [] sLl6 (Array.replicate (opsOf Tryz.f107 6).size false) = true := by kernel_rfl
abbrev sLp7 : Pl := (.tk 0 (.tk 1 (.tk 2 (.tk 3 (.tk 4 (.tk 5 (.tk 6 (.tk 7 (.tk 8 (.tk 9 (.tk 10 (.tk 11 (.tk 13 (.nd .one 12 (.tk 14 (.tk 15 .fin))))))))))))))))
theorem sLp7_ok : planB .any (opsOf Tryz.f50 7) [] sLp7 (Array.replicate (opsOf Tryz.f50 7).size false) = true := by kernel_rfl
abbrev KB : Kd Bool := Kd.scalar Value.bool (fun _ => rfl)
theorem flatB : Flat KB := ⟨show 0 < 1 by decide, fun x c W h W' base ok' => h⟩
section
variable {e : TypeId} {w : World} {b g n c : Nat} {ok : Nat → Prop} {xs : List Bool}
theorem outAtB (ho : KB.R e w b ok (.slice (some ⟨g, 0, none⟩) n c) xs) (j : Nat) (hj : j < n) : w.cell? ⟨g, j, none⟩ = some (.bool (gb xs j)) ∧ w.frozen? ⟨g, j, none⟩ = false := by
 have h := Kd.R_celln false ho (j : Int) (by omega) (by omega)
 rw [Int.toNat_natCast] at h
 exact h
theorem outPutB (ho : KB.R e w b ok (.slice (some ⟨g, 0, none⟩) n c) xs) (j : Nat) (v : Bool) : KB.R e (w.setCell ⟨g, j, none⟩ (.bool v)) b ok (.slice (some ⟨g, 0, none⟩) n c) (xs.set j v) := by
 have h := Kd.R_putn ho (j : Int) v
 rw [Int.toNat_natCast] at h
 exact h
theorem C_litB {g : Nat} {t : TypeId} (xs : List Bool) {cs : Array Value} (h : w.heap[g]? = some (.cells cs t (0, 0))) (hc : cs.toList = xs.map Value.bool) (hl : xs.length ≤ 1000) : KB.C w (some ⟨g, 0, none⟩) xs.length xs := by
 refine ⟨rfl, by omega, fun _ => ⟨_, rfl, fun j p hj => ⟨[.bool p], rfl, rfl, fun i u hi => ?_⟩⟩⟩
 obtain ⟨rfl, rfl⟩ : i = 0 ∧ Value.bool p = u := by
  match i, hi with
  | 0, hi => exact ⟨rfl, Option.some.inj hi⟩
 rw [show j * KB.sz + 0 = j from Nat.mul_one j, add_plain, blk_cell h j, ← Array.getElem?_toList, hc, List.getElem?_map, hj]
 rfl
theorem own_addrB {e : TypeId} {w : World} {base n c : Nat} {ok : Nat → Prop} {A : Option Addr} {xs : List Bool} (h : KB.R e w base ok (.slice A n c) xs) (hn : 0 < n) : ∃ g, A = some ⟨g, 0, none⟩ := by
 obtain ⟨inner, ho⟩ := Kd.R_own h
 rcases ho.2 with ⟨hv, h0⟩ | ⟨g, cap, cur, hv, _⟩
 ·cases hv
  omega
 ·cases hv
  exact ⟨g, rfl⟩
end
set_option maxHeartbeats 6400000 in
set_option maxRecDepth 100000 in
theorem left_calls (A : Option Addr) (c : Nat) (ns : List Nd) (B : Option Addr) (d : Nat) (es : List Eg) (x : Nd) (i cd g cc b : Nat) (l : List Bool) (w : World) (hr : GR w A c ns B d es) (hg : OkG ns es) (hx : at_ ns i = x) (hi : i < ns.length) (hl : KB.R 4 w b (fun _ => True) (.slice (some ⟨g, 0, none⟩) ns.length cc) l) (hc : (nearI (adjI ns es) ns.length i).countP (gb l) = cd) :
 Calls Tryz.prog 107 #[.agg #[.slice A ns.length c, .slice B es.length d], .slice (some ⟨g, 0, none⟩) ns.length cc, .agg #[.int .i64 x.lab, .int .i64 x.num]] w fun e w' => e = .returned (.int .i64 (cd : Int)) ∧ Below w.heap.size w w' := by
 have HR := Aside0.mk hr
 have HOG := Aside0.mk hg
 have HRL := Aside0.mk hl
 have HCD := Aside0.mk hc
 obtain ⟨m, hm⟩ : ∃ m, nearG ns es x = m := ⟨_, rfl⟩
 have HM := Aside0.mk hm
 have HMA := Aside0.mk (show m = tds ns (nearI (adjI ns es) ns.length i) by rw [← hm, ← hx]; exact near_at hg hi)
 have HMK := Aside0.mk (show m.length = (nearI (adjI ns es) ns.length i).length by rw [HMA.out, tds_len])
 have HLM := Aside0.mk (NsOk.mk hg.nok hg.nasc hg.nfew).len
 have hm4 : (m.length : Int) ≤ 40 := by have := HMK.out; have := nearI_few (adjI ns es) ns.length i; have := HLM.out; omega
 clear hr hg hx hi hl hc hm
 obtain ⟨L0, L1, HB⟩ := al2 w #[.slice A ns.length c, .slice B es.length d] #[.int .i64 x.lab, .int .i64 x.num] 26 28
 replace HRL := Aside0.mk (Kd.R_below HRL.out HB.out)
 go_enter Tryz.func107, Tryz.ntmps107
 go_wp2_with (first | (go_at_call 131; go_must ((refine (near_asG HM.out A c B d _ (HR.out.below HB.out) HOG.out).mono ?_); rintro e u_ ⟨A7, c7, rfl, hm_, hl_, hf_, hb⟩; have HC7 := Aside0.mk hm_; clear hm_ hl_ hf_; replace HB := Aside0.mk (below_step HB.out hb); replace L0 := Aside0.mk (blk_below L0.out hb); replace L1 := Aside0.mk (blk_below L1.out hb); replace HRL := Aside0.mk (Kd.R_below (HRL.out) hb); (try clear c0 c1); obtain ⟨c0, c1⟩ := cs2 (L0.out); (try clear e0 e1); obtain ⟨e0, e1⟩ := cs2 (L1.out); clear hb)))
 go_loopw [8, 9] (fun s8 s9 wr => ∃ k cnt : Nat, k ≤ m.length ∧ s9 = .int .i64 (k : Int) ∧ s8 = .int .i64 (cnt : Int) ∧ cnt = ((nearI (adjI ns es) ns.length i).take k).countP (gb l) ∧ cnt ≤ k ∧ Aside0 (kN.C wr A7 m.length m) ∧ Aside0 (KB.R 4 wr b (fun _ => True) (.slice (some ⟨g, 0, none⟩) ns.length cc) l) ∧ wr.heap[w.heap.size]? = some (.cells #[.slice A ns.length c, .slice B es.length d] 26 (0, 0)) ∧ Below w.heap.size w wr) (fun _ s9 _ => (m.length - intOf s9).toNat)
 case atStart => exact ⟨0, 0, Nat.zero_le _, rfl, rfl, by simp, Nat.le_refl _, HC7, HRL, L0.out, HB.out⟩
 case round =>
  clear HB L0 L1 HC7 HRL
  obtain ⟨k, cnt, hk_, rfl, rfl, hn_, hcb_, HC7, HRL, l0_, hb_⟩ := hrel
  have HK := Aside0.mk hk_
  have HN := Aside0.mk hn_
  have HCB := Aside0.mk hcb_
  have L0 := Aside0.mk l0_
  have HB := Aside0.mk hb_
  obtain ⟨c0, c1⟩ := cs2 (L0.out)
  clear hk_ hn_ hcb_ l0_ hb_
  by_cases hlt : k < m.length
  ·have hkl : (k : Int) < (m.length : Int) := by omega
   have HKT := Aside0.mk hlt
   have hkk : k < (nearI (adjI ns es) ns.length i).length := by have := HMK.out; omega
   obtain ⟨p, hp⟩ : ∃ p, (nearI (adjI ns es) ns.length i)[k] = p := ⟨_, rfl⟩
   have HPV := Aside0.mk (show p < ns.length from (nearI_mem.1 (hp ▸ List.getElem_mem hkk)).1)
   have hpn : (p : Int) < (ns.length : Int) := by have := HPV.out; omega
   have HTC := Aside0.mk (take_cnt (p := gb l) hkk hp)
   obtain ⟨z, hz⟩ : ∃ z, at_ ns p = z := ⟨_, rfl⟩
   have HPZ := Aside0.mk (show placeI ns z = (p : Int) by rw [← hz, placeI_in (at_mem HPV.out), idx_at HOG.out HPV.out])
   obtain ⟨a7, e7, z0, z1⟩ := nd_at HC7.out k hlt
   cases e7
   rw [show at_ m k = z by rw [HMA.out, tds_get ns hkk, hp, hz]] at z0 z1
   obtain ⟨x9, hx9⟩ : ∃ x, gb l p = x := ⟨_, rfl⟩
   have k0 := (outAtB HRL.out p HPV.out).1
   rw [hx9] at k0
   have HX := Aside0.mk hx9
   have hcn : (cnt : Int) ≤ 40 := by have := HCB.out; omega
   clear hlt hkk hp hz hx9
   cases x9
   all_goals
    go_wp2_with (fail)
    have ZL0 := L0
    refine region_bp [] sLl6 (by kernel_rfl) sLl6_ok (by decide) (fun d _ _ _ _ h => by cases d <;> exact h) ?_
    intro u hb
    have hS := hb
    replace HB := Aside0.mk (below_step HB.out hb)
    replace L0 := Aside0.mk (blk_below L0.out hb)
    replace HRL := Aside0.mk (Kd.R_below (HRL.out) hb)
    replace HC7 := Aside0.mk (Kd.C_below (HC7.out) hb)
    (try clear c0 c1)
    obtain ⟨c0, c1⟩ := cs2 (L0.out)
    clear hb
    repeat (first | (refine p_off hS gt_ (by rfl) ?_; intro a_ ha_; (simp only [Act.put, pu1, pu2, pu3] at ha_); subst ha_) | (refine p_on (v := ?_) hS gt_ (by rfl) ?_ ?_; rotate_left; (· rintro w_ hS_; obtain ⟨c0_, c1_⟩ := cs2 (blk_below ZL0.out hS_); have z0_ := pw_cell_below hS_ z0; have z1_ := pw_cell_below hS_ z1; have k0_ := pw_cell_below hS_ k0; go_simp; with_reducible rfl); intro a_ ha_; (simp only [Act.put, pu1, pu2, pu3] at ha_); subst ha_) | (refine p_poff gt_ (by rfl) ?_; intro a_ ha_; (simp only [Act.put, pu1, pu2, pu3] at ha_); subst ha_) | (refine p_pon (v := ?_) gt_ (by rfl) ?_ ?_; rotate_left; (· go_simp; with_reducible rfl); intro a_ ha_; (simp only [Act.put, pu1, pu2, pu3] at ha_); subst ha_) | (refine p_ooff hS gt_ (by rfl) ?_; intro a_ ha_; (simp only [Act.put, pu1, pu2, pu3] at ha_); subst ha_) | (refine p_loff gt_ (by rfl) ?_; intro a_ ha_; (simp only [Act.put, pu1, pu2, pu3] at ha_); subst ha_) | (refine p_call (f := 55) (args := #[.agg #[.slice A ns.length c, .slice B es.length d], .agg #[.int .i64 z.lab, .int .i64 z.num]]) Tryz.func55 (by kernel_rfl) rfl gt_ (by rfl) (by rfl) mp_ ?_; (refine (place_as HPZ.out A c B d _ (HR.out.below HB.out) HOG.out).mono ?_); rintro e_ u_ ⟨rfl, hb⟩; replace HB := Aside0.mk (below_step HB.out hb); replace L0 := Aside0.mk (blk_below L0.out hb); replace HRL := Aside0.mk (Kd.R_below (HRL.out) hb); replace HC7 := Aside0.mk (Kd.C_below (HC7.out) hb); (try clear c0 c1); obtain ⟨c0, c1⟩ := cs2 (L0.out); replace hS := below_step hS hb; refine ⟨_, rfl, hS, fun a_ ha_ => ?_⟩; (simp only [Act.put, pu1, pu2, pu3] at ha_); subst ha_; clear hb))
    refine p_fin ?_
    clear hS ZL0
    go_wp2_with (fail)
    go_roundw
    case rel => first | exact ⟨k + 1, cnt + 1, HKT.out, by go_num, by go_num, by rw [HTC.out, HX.out, HN.out]; rfl, by have := HCB.out; omega, HC7, HRL, L0.out, HB.out⟩ | exact ⟨k + 1, cnt, HKT.out, by go_num, rfl, by rw [HTC.out, HX.out, HN.out]; rfl, by have := HCB.out; omega, HC7, HRL, L0.out, HB.out⟩
    case measure => have := HKT.out; simp [intOf]; omega
  ·have hkl : ¬ (k : Int) < (m.length : Int) := by omega
   have HTF := Aside0.mk (show cnt = cd by rw [HN.out, List.take_of_length_le (by have := HMK.out; omega), HCD.out])
   clear hlt
   go_wp2_with (fail)
   go_ret
   exact ⟨by rw [← HTF.out]; rfl, HB.out⟩
/-- How many of a row's first n cells are true. -/
def truesN (w : World) (g n : Nat) : Nat := (List.range n).countP fun j => match w.cell? ⟨g, j, none⟩ with | some v => isT v | none => false
theorem truesN_eq {e : TypeId} {w : World} {b g n c : Nat} {ok : Nat → Prop} {xs : List Bool} (ho : KB.R e w b ok (.slice (some ⟨g, 0, none⟩) n c) xs) : truesN w g n = xs.countP id := by
 have hl : n = xs.length := (Kd.R_reads' ho).1
 have h1 : truesN w g n = (List.range n).countP fun j => gb xs j := by
  unfold truesN
  refine List.countP_congr fun j hj => ?_
  rw [(outAtB ho j (List.mem_range.1 hj)).1]
  rfl
 have h2 : xs = (List.range n).map (gb xs) := by
  apply List.ext_getElem (by simp [hl])
  intro i h3 h4
  rw [List.getElem_map, List.getElem_range, gb_get h3]
 rw [h1]
 conv => rhs; rw [h2]
 rw [List.countP_map]
 rfl
def SpL (W0 w : World) (a1 : Addr) (c : Nat) (ns : List Nd) (B : Option Addr) (d : Nat) (es : List Eg) (k g cc b : Nat) (l : List Bool) (wr : World) : Prop :=
 KB.R 4 wr b (fun _ => True) (.slice (some ⟨g, 0, none⟩) ns.length cc) l ∧ w.grownBy wr (some g) ∧ wr.heap[w.heap.size]? = some (.cells #[.slice (some a1) ns.length c, .slice B es.length d] 26 (0, 0)) ∧ Below W0.heap.size W0 wr
def SpPO (W0 w : World) (a1 : Addr) (c : Nat) (ns : List Nd) (B : Option Addr) (d : Nat) (es : List Eg) (k g cc b : Nat) (s7 : Value) (wr : World) : Prop :=
 ∃ (v : Bool) (l : List Bool), s7 = .bool v ∧ Peel (adjI ns es) ns.length k l ∧ (v = false → Quiet (adjI ns es) ns.length k ns.length l) ∧ SpL W0 w a1 c ns B d es k g cc b l wr
def SpPI (W0 w : World) (a1 : Addr) (c : Nat) (ns : List Nd) (B : Option Addr) (d : Nat) (es : List Eg) (k g cc b : Nat) (lo : List Bool) (s7 s8 : Value) (wr : World) : Prop :=
 ∃ (j : Nat) (v : Bool) (l : List Bool), j ≤ ns.length ∧ s7 = .bool v ∧ s8 = .int .i64 (j : Int) ∧ Peel (adjI ns es) ns.length k l ∧ (v = false → l = lo ∧ Quiet (adjI ns es) ns.length k j l) ∧ (v = true → l.countP id < lo.countP id) ∧ l.countP id ≤ lo.countP id ∧ SpL W0 w a1 c ns B d es k g cc b l wr
set_option maxHeartbeats 12800000 in
set_option maxRecDepth 100000 in
theorem sPeel_calls (W0 w : World) (a1 : Addr) (c : Nat) (ns : List Nd) (B : Option Addr) (d : Nat) (es : List Eg) (k g cc b : Nat) (l : List Bool) (hr : GR W0 (some a1) c ns B d es) (hB : Below W0.heap.size W0 w) (hg : OkG ns es) (hl : KB.R 4 w b (fun _ => True) (.slice (some ⟨g, 0, none⟩) ns.length cc) l) (hb : W0.heap.size ≤ g) (hk : k ≤ 1000) (hp : Peel (adjI ns es) ns.length k l) :
 Calls Tryz.prog 50 #[.agg #[.slice (some a1) ns.length c, .slice B es.length d], .slice (some ⟨g, 0, none⟩) ns.length cc, .int .i64 (k : Int)] w fun e w' => e = .returned (.slice (some ⟨g, 0, none⟩) ns.length cc) ∧ KB.R 4 w' b (fun _ => True) (.slice (some ⟨g, 0, none⟩) ns.length cc) (kcL (adjI ns es) ns.length k) ∧ w.grownBy w' (some g) := by
 have HR := Aside0.mk hr
 have HB0 := Aside0.mk hB
 have HOG := Aside0.mk hg
 have HRL := Aside0.mk hl
 have HP := Aside0.mk hp
 have HG := Aside0.mk (And.intro hb (show g < w.heap.size from Kd.R_lt hl g rfl))
 have HLM := Aside0.mk (NsOk.mk hg.nok hg.nasc hg.nfew).len
 have hnn : (ns.length : Int) ≤ 40 := by have := HLM.out; omega
 have hkk : (k : Int) ≤ 1000 := by omega
 clear hr hB hg hl hb hk hp
 obtain ⟨L0, HB1⟩ := al1 w #[.slice (some a1) ns.length c, .slice B es.length d] 26
 replace HRL := Aside0.mk (Kd.R_below HRL.out HB1.out)
 have HGW := Aside0.mk (grown_of_below HB1.out (some g))
 have HB := Aside0.mk (below_step HB0.out HB1.out)
 clear HB0 HB1
 go_enter Tryz.func50, Tryz.ntmps50
 go_wp2_with (fail)
 go_loopw [7, 8] (fun s7 _ wr => SpPO W0 w a1 c ns B d es k g cc b s7 wr) (fun s7 _ wr => truesN wr g ns.length + flag s7)
 case atStart => exact ⟨true, l, rfl, HP.out, (by intro h; cases h), HRL.out, HGW.out, L0.out, HB.out⟩
 case round =>
  clear HB HRL HP HGW L0 l
  obtain ⟨v, l, rfl, hp_, hq_, hrl_, hgw_, l0_, hb_⟩ := hrel
  have HRL := Aside0.mk hrl_
  have HP := Aside0.mk hp_
  have HGW := Aside0.mk hgw_
  have L0 := Aside0.mk l0_
  have HB := Aside0.mk hb_
  have HQ := Aside0.mk hq_
  have HT := Aside0.mk (truesN_eq hrl_)
  obtain ⟨c0, c1⟩ := cs2 (L0.out)
  clear hrl_ hp_ hq_ hgw_ l0_ hb_
  cases v
  ·obtain rfl := kcL_of HP.out.len (fun v _ => HP.out.done (HQ.out rfl) v)
   clear HT
   go_wp2_with (fail)
   go_ret
   exact ⟨rfl, HRL.out, HGW.out⟩
  ·go_wp2_with (fail)
   go_loopw [7, 8] (fun s7 s8 wr => SpPI W0 w a1 c ns B d es k g cc b l s7 s8 wr) (fun _ s8 _ => (ns.length - intOf s8).toNat)
   case atStart => exact ⟨0, false, l, Nat.zero_le _, rfl, rfl, HP.out, (fun _ => ⟨rfl, fun i hi => absurd hi (Nat.not_lt_zero _)⟩), (by intro h; cases h), Nat.le_refl _, HRL.out, HGW.out, L0.out, HB.out⟩
   case round =>
    clear HB HRL HP HGW HQ L0 c0 c1
    obtain ⟨j, v, m, hj, rfl, rfl, hp_, hf_, ht_, hc_, hrl_, hgw_, l0_, hb_⟩ := hrel
    have HJ := Aside0.mk hj
    have HRL := Aside0.mk hrl_
    have HP := Aside0.mk hp_
    have HF := Aside0.mk hf_
    have HC := Aside0.mk ht_
    have HCL := Aside0.mk hc_
    have HGW := Aside0.mk hgw_
    have L0 := Aside0.mk l0_
    have HB := Aside0.mk hb_
    obtain ⟨c0, c1⟩ := cs2 (L0.out)
    clear hj hrl_ hp_ hf_ ht_ hc_ hgw_ l0_ hb_
    by_cases hlt : j < ns.length
    ·have hjn : (j : Int) < (ns.length : Int) := by omega
     have HJN := Aside0.mk hlt
     obtain ⟨y, hy⟩ : ∃ y, at_ ns j = y := ⟨_, rfl⟩
     have HYA := Aside0.mk hy
     obtain ⟨a1_, e1, r0, r1⟩ := nd_at (HR.out.below HB.out).cn j hlt
     obtain rfl := Option.some.inj e1
     rw [hy] at r0 r1
     obtain ⟨x, hx⟩ : ∃ x, gb m j = x := ⟨_, rfl⟩
     have k0 := (outAtB HRL.out j hlt).1
     rw [hx] at k0
     have HX := Aside0.mk hx
     clear hlt hx hy e1
     cases x
     ·go_wp2_with (fail)
      have ZL0 := L0
      refine region_bp [] sLp7 (by kernel_rfl) sLp7_ok (by decide) (fun d _ _ _ _ h => by cases d <;> exact h) ?_
      intro u hb
      have hS := hb
      replace HB := Aside0.mk (below_step HB.out hb)
      replace L0 := Aside0.mk (blk_below L0.out hb)
      replace HRL := Aside0.mk (Kd.R_below (HRL.out) hb)
      replace HGW := Aside0.mk (grown_trans (HGW.out) (grown_of_below hb (some g)))
      (try clear c0 c1)
      obtain ⟨c0, c1⟩ := cs2 (L0.out)
      clear hb
      repeat (first | (refine p_off hS gt_ (by rfl) ?_; intro a_ ha_; (simp only [Act.put, pu1, pu2, pu3] at ha_); subst ha_) | (refine p_on (v := ?_) hS gt_ (by rfl) ?_ ?_; rotate_left; (· rintro w_ hS_; obtain ⟨c0_, c1_⟩ := cs2 (blk_below ZL0.out hS_); have r0_ := pw_cell_below hS_ r0; have r1_ := pw_cell_below hS_ r1; have k0_ := pw_cell_below hS_ k0; go_simp; with_reducible rfl); intro a_ ha_; (simp only [Act.put, pu1, pu2, pu3] at ha_); subst ha_) | (refine p_poff gt_ (by rfl) ?_; intro a_ ha_; (simp only [Act.put, pu1, pu2, pu3] at ha_); subst ha_) | (refine p_pon (v := ?_) gt_ (by rfl) ?_ ?_; rotate_left; (· go_simp; with_reducible rfl); intro a_ ha_; (simp only [Act.put, pu1, pu2, pu3] at ha_); subst ha_) | (refine p_ooff hS gt_ (by rfl) ?_; intro a_ ha_; (simp only [Act.put, pu1, pu2, pu3] at ha_); subst ha_) | (refine p_loff gt_ (by rfl) ?_; intro a_ ha_; (simp only [Act.put, pu1, pu2, pu3] at ha_); subst ha_))
      refine p_fin ?_
      clear hS ZL0
      go_wp2_with (fail)
      go_roundw
      case rel => exact ⟨j + 1, v, m, HJN.out, rfl, by go_num, HP.out, (fun e => ⟨(HF.out e).1, (HF.out e).2.next (fun h => by rw [HX.out] at h; cases h)⟩), HC.out, HCL.out, HRL.out, HGW.out, L0.out, HB.out⟩
      case measure => have := HJN.out; simp [intOf]; omega
     ·obtain ⟨cd, hcd⟩ : ∃ cd, (nearI (adjI ns es) ns.length j).countP (gb m) = cd := ⟨_, rfl⟩
      have HCD := Aside0.mk hcd
      have HDG := Aside0.mk (show degS (adjI ns es) ns.length (gb m) j = cd by rw [← deg_near, ← hcd])
      clear hcd
      by_cases hck : cd < k
      ·have HST := Aside0.mk (HP.out.strike HJN.out (by have := HDG.out; omega))
       have HCS := Aside0.mk (cnt_set HX.out)
       have hcb : decide (cd < k) = true := decide_eq_true hck
       go_wp2_with (fail)
       have ZL0 := L0
       refine region_bp [] sLp7 (by kernel_rfl) sLp7_ok (by decide) (fun d _ _ _ _ h => by cases d <;> exact h) ?_
       intro u hb
       have hS := hb
       replace HB := Aside0.mk (below_step HB.out hb)
       replace L0 := Aside0.mk (blk_below L0.out hb)
       replace HRL := Aside0.mk (Kd.R_below (HRL.out) hb)
       replace HGW := Aside0.mk (grown_trans (HGW.out) (grown_of_below hb (some g)))
       (try clear c0 c1)
       obtain ⟨c0, c1⟩ := cs2 (L0.out)
       clear hb
       repeat (first | (refine p_off hS gt_ (by rfl) ?_; intro a_ ha_; (simp only [Act.put, pu1, pu2, pu3] at ha_); subst ha_) | (refine p_on (v := ?_) hS gt_ (by rfl) ?_ ?_; rotate_left; (· rintro w_ hS_; obtain ⟨c0_, c1_⟩ := cs2 (blk_below ZL0.out hS_); have r0_ := pw_cell_below hS_ r0; have r1_ := pw_cell_below hS_ r1; have k0_ := pw_cell_below hS_ k0; go_simp; with_reducible rfl); intro a_ ha_; (simp only [Act.put, pu1, pu2, pu3] at ha_); subst ha_) | (refine p_poff gt_ (by rfl) ?_; intro a_ ha_; (simp only [Act.put, pu1, pu2, pu3] at ha_); subst ha_) | (refine p_pon (v := ?_) gt_ (by rfl) ?_ ?_; rotate_left; (· go_simp; with_reducible rfl); intro a_ ha_; (simp only [Act.put, pu1, pu2, pu3] at ha_); subst ha_) | (refine p_ooff hS gt_ (by rfl) ?_; intro a_ ha_; (simp only [Act.put, pu1, pu2, pu3] at ha_); subst ha_) | (refine p_loff gt_ (by rfl) ?_; intro a_ ha_; (simp only [Act.put, pu1, pu2, pu3] at ha_); subst ha_) | (refine p_call (f := 107) (args := #[.agg #[.slice (some a1) ns.length c, .slice B es.length d], .slice (some ⟨g, 0, none⟩) ns.length cc, .agg #[.int .i64 y.lab, .int .i64 y.num]]) Tryz.func107 (by kernel_rfl) rfl gt_ (by rfl) (by rfl) mp_ ?_; (refine (left_calls (some a1) c ns B d es y j cd g cc b m _ (HR.out.below HB.out) HOG.out HYA.out HJN.out HRL.out HCD.out).mono ?_); rintro e_ u_ ⟨rfl, hb⟩; replace HB := Aside0.mk (below_step HB.out hb); replace L0 := Aside0.mk (blk_below L0.out hb); replace HRL := Aside0.mk (Kd.R_below (HRL.out) hb); replace HGW := Aside0.mk (grown_trans (HGW.out) (grown_of_below hb (some g))); (try clear c0 c1); obtain ⟨c0, c1⟩ := cs2 (L0.out); replace hS := below_step hS hb; refine ⟨_, rfl, hS, fun a_ ha_ => ?_⟩; (simp only [Act.put, pu1, pu2, pu3] at ha_); subst ha_; clear hb))
       refine p_fin ?_
       clear hS ZL0
       go_wp2_with (first | ((with_reducible refine gate_store (p := 34) rfl ?_); go_must ((refine wpList_plain rfl fun K_ hK_ => wp_cellB g j false rfl rfl rfl ⟨_, (outAtB HRL.out j HJN.out).1⟩ (outAtB HRL.out j HJN.out).2 (by kernel_rfl) (hK_ _ _ ?_)); refine named _ ?_; intro wz hwz; have hg_ : World.grownBy _ wz (some g) := hwz ▸ grown_setCell _ _ _ _; replace HRL := Aside0.mk (show KB.R 4 wz b (fun _ => True) (.slice (some ⟨g, 0, none⟩) ns.length cc) _ from hwz ▸ outPutB HRL.out j false); replace HGW := Aside0.mk (grown_trans HGW.out hg_); replace L0 := Aside0.mk (gw_blk hg_ L0.out (fun e => by have := Option.some.inj e; have := HG.out.2; omega)); (try clear c0 c1); obtain ⟨c0, c1⟩ := cs2 (L0.out); replace HB := Aside0.mk (HB.out.grown hg_ HB.out.size (fun k hk => by have := Option.some.inj hk; have := HG.out.1; omega)); clear hwz hg_)))
       go_roundw
       case rel => exact ⟨j + 1, true, m.set j false, HJN.out, rfl, by go_num, HST.out, (by intro h; cases h), (fun _ => by have := HCS.out; have := HCL.out; omega), (by have := HCS.out; have := HCL.out; omega), HRL.out, HGW.out, L0.out, HB.out⟩
       case measure => have := HJN.out; simp [intOf]; omega
      ·have hcb : decide (cd < k) = false := decide_eq_false hck
       go_wp2_with (fail)
       have ZL0 := L0
       refine region_bp [] sLp7 (by kernel_rfl) sLp7_ok (by decide) (fun d _ _ _ _ h => by cases d <;> exact h) ?_
       intro u hb
       have hS := hb
       replace HB := Aside0.mk (below_step HB.out hb)
       replace L0 := Aside0.mk (blk_below L0.out hb)
       replace HRL := Aside0.mk (Kd.R_below (HRL.out) hb)
       replace HGW := Aside0.mk (grown_trans (HGW.out) (grown_of_below hb (some g)))
       (try clear c0 c1)
       obtain ⟨c0, c1⟩ := cs2 (L0.out)
       clear hb
       repeat (first | (refine p_off hS gt_ (by rfl) ?_; intro a_ ha_; (simp only [Act.put, pu1, pu2, pu3] at ha_); subst ha_) | (refine p_on (v := ?_) hS gt_ (by rfl) ?_ ?_; rotate_left; (· rintro w_ hS_; obtain ⟨c0_, c1_⟩ := cs2 (blk_below ZL0.out hS_); have r0_ := pw_cell_below hS_ r0; have r1_ := pw_cell_below hS_ r1; have k0_ := pw_cell_below hS_ k0; go_simp; with_reducible rfl); intro a_ ha_; (simp only [Act.put, pu1, pu2, pu3] at ha_); subst ha_) | (refine p_poff gt_ (by rfl) ?_; intro a_ ha_; (simp only [Act.put, pu1, pu2, pu3] at ha_); subst ha_) | (refine p_pon (v := ?_) gt_ (by rfl) ?_ ?_; rotate_left; (· go_simp; with_reducible rfl); intro a_ ha_; (simp only [Act.put, pu1, pu2, pu3] at ha_); subst ha_) | (refine p_ooff hS gt_ (by rfl) ?_; intro a_ ha_; (simp only [Act.put, pu1, pu2, pu3] at ha_); subst ha_) | (refine p_loff gt_ (by rfl) ?_; intro a_ ha_; (simp only [Act.put, pu1, pu2, pu3] at ha_); subst ha_) | (refine p_call (f := 107) (args := #[.agg #[.slice (some a1) ns.length c, .slice B es.length d], .slice (some ⟨g, 0, none⟩) ns.length cc, .agg #[.int .i64 y.lab, .int .i64 y.num]]) Tryz.func107 (by kernel_rfl) rfl gt_ (by rfl) (by rfl) mp_ ?_; (refine (left_calls (some a1) c ns B d es y j cd g cc b m _ (HR.out.below HB.out) HOG.out HYA.out HJN.out HRL.out HCD.out).mono ?_); rintro e_ u_ ⟨rfl, hb⟩; replace HB := Aside0.mk (below_step HB.out hb); replace L0 := Aside0.mk (blk_below L0.out hb); replace HRL := Aside0.mk (Kd.R_below (HRL.out) hb); replace HGW := Aside0.mk (grown_trans (HGW.out) (grown_of_below hb (some g))); (try clear c0 c1); obtain ⟨c0, c1⟩ := cs2 (L0.out); replace hS := below_step hS hb; refine ⟨_, rfl, hS, fun a_ ha_ => ?_⟩; (simp only [Act.put, pu1, pu2, pu3] at ha_); subst ha_; clear hb))
       refine p_fin ?_
       clear hS ZL0
       go_wp2_with (fail)
       go_roundw
       case rel => exact ⟨j + 1, v, m, HJN.out, rfl, by go_num, HP.out, (fun e => ⟨(HF.out e).1, (HF.out e).2.next (fun _ => by have := HDG.out; omega)⟩), HC.out, HCL.out, HRL.out, HGW.out, L0.out, HB.out⟩
       case measure => have := HJN.out; simp [intOf]; omega
    ·have hjn : ¬ (j : Int) < (ns.length : Int) := by omega
     obtain rfl : j = ns.length := by have := HJ.out; omega
     clear hlt
     go_wp2_with (fail)
     go_roundw
     case rel => exact ⟨v, m, rfl, HP.out, (fun e => (HF.out e).2), HRL.out, HGW.out, L0.out, HB.out⟩
     case measure =>
      show truesN _ g _ + flag (.bool v) < truesN _ g _ + flag (.bool true)
      rw [truesN_eq HRL.out, HT.out]
      cases v
      ·have := HCL.out
       show _ + 0 < _ + 1
       omega
      ·have := HC.out rfl
       show _ + 1 < _ + 1
       omega
end Go.Proofs.YtogmbeifbjgphaaGreat.R
