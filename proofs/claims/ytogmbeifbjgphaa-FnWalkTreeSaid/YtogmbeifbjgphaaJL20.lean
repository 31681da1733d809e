/- The law FnWalkTree, walked. -/
import Derived.Test.YtogmbeifbjgphaaJB32
import Derived.Test.YtogmbeifbjgphaaJL11
import Derived.Test.YtogmbeifbjgphaaJL19
import Derived.Test.YtogmbeifbjgphaaJB3
namespace Go.Proofs.Ytogmbeifbjgphaa.R
open Go.RowKit Go.Proofs.YtogmbeifbjgphaaV.PrintWords Go.Proofs.YtogmbeifbjgphaaV.PrintLast Go.Proofs.YtogmbeifbjgphaaV.PrintMore Go.Proofs.Ytogmbeifbjgphaa.M
set_option linter.unusedVariables false
set_option linter.unusedSimpArgs false
attribute [local go_sem high] eqN eqE
abbrev sWr20 : Pl := (.tk 0 (.tk 1 (.tk 2 (.tk 3 (.tk 4 (.tk 5 (.tk 6 (.nd .one 7 (.tk 8 (.tk 9 (.tk 10 .fin)))))))))))
theorem sWr20_ok : planB .any (opsOf Try.f24 20) [] sWr20 (Array.replicate (opsOf Try.f24 20).size false) = true := by kernel_rfl
theorem wc_len {ns : List Nd} {es : List Eg} {P : List Int} (h : wCore ns es = P) : P.length ≤ ns.length := by
  rw [← h]
  unfold wCore
  split
  · rw [coreL_length]
    exact Nat.le_refl _
  · exact Nat.zero_le _
def WeS (w : World) (g3 : Nat) (A1 : Option Addr) (c1 : Nat) (ns : List Nd) (B1 : Option Addr) (d1 : Nat) (es : List Eg) (A4 : Option Addr) (C : List Int) (A5 : Option Addr) (P : List Int) (wr : World) : Prop :=
  wr.heap[g3]? = some (.cells #[.slice A1 ns.length c1, .slice B1 es.length d1] 26 (0, 0)) ∧ GR wr A1 c1 ns B1 d1 es ∧ (Kd.int .i64).C wr A4 C.length C ∧ (Kd.int .i64).C wr A5 P.length P ∧ Below w.heap.size w wr
section
variable {adj : Nat → Nat → Bool} {n i : Nat}
/-- All pairs' ends that lie at those of the part ahead of k. -/
noncomputable def endsK (adj : Nat → Nat → Bool) (n i k : Nat) : Nat := sm k fun u => if partB adj n i u = true then (nearI adj n u).length else 0
noncomputable def sizeK (adj : Nat → Nat → Bool) (n i k : Nat) : Nat := sm k fun u => (partB adj n i u).toNat
theorem endsK_all (hn : ∀ u v, adj u v = true → u < n ∧ v < n) : endsK adj n i n = endsS adj n (partB adj n i) := by
  unfold endsK endsS
  refine sm_congr fun u hu => ?_
  cases h : partB adj n i u
  · rw [if_neg (by decide)]
    exact ((sm_congr fun w _ => by rfl).trans (sm_zero n)).symm
  · rw [if_pos rfl, nearI_len]
    refine sm_congr fun w hw => ?_
    cases ha : adj u w
    · rw [Bool.and_false]
    · rw [part_adj hn h ha]
      rfl
theorem part_root (sym : ∀ u v, adj u v = adj v u) (hr : root adj i = i) {k : Nat} (hk : k < n) : partB adj n i k = true ↔ root adj k = i := by
  rw [partB_iff, ← root_eq sym i k, hr]
  exact ⟨fun h => h.2.symm, fun h => ⟨hk, h.symm⟩⟩
/-- dn is how dense it is in the part ahead of k. -/
def Dn (adj : Nat → Nat → Bool) (n i k dn : Nat) : Prop := (∀ u, u < k → partB adj n i u = true → core adj n u ≤ dn) ∧ (dn = 0 ∨ ∃ u, u < k ∧ partB adj n i u = true ∧ core adj n u = dn)
theorem Dn.zero : Dn adj n i 0 0 := ⟨fun u h => absurd h (Nat.not_lt_zero _), .inl rfl⟩
theorem Dn.off {k dn : Nat} (h : Dn adj n i k dn) (hp : partB adj n i k = false) : Dn adj n i (k + 1) dn := by
  refine ⟨fun u hu hb => ?_, h.2.imp id fun ⟨u, h1, h2⟩ => ⟨u, by omega, h2⟩⟩
  rcases Nat.lt_or_eq_of_le (Nat.le_of_lt_succ hu) with h1 | h1
  · exact h.1 u h1 hb
  · subst h1
    rw [hp] at hb
    cases hb
theorem Dn.le {k dn : Nat} (h : Dn adj n i k dn) (hc : core adj n k ≤ dn) : Dn adj n i (k + 1) dn := by
  refine ⟨fun u hu hb => ?_, h.2.imp id fun ⟨u, h1, h2⟩ => ⟨u, by omega, h2⟩⟩
  rcases Nat.lt_or_eq_of_le (Nat.le_of_lt_succ hu) with h1 | h1
  · exact h.1 u h1 hb
  · subst h1
    exact hc
theorem Dn.up {k dn : Nat} (h : Dn adj n i k dn) (hp : partB adj n i k = true) (hc : dn ≤ core adj n k) : Dn adj n i (k + 1) (core adj n k) := by
  refine ⟨fun u hu hb => ?_, .inr ⟨k, Nat.lt_succ_self k, hp, rfl⟩⟩
  rcases Nat.lt_or_eq_of_le (Nat.le_of_lt_succ hu) with h1 | h1
  · exact Nat.le_trans (h.1 u h1 hb) hc
  · subst h1
    exact Nat.le_refl _
/-- What the law asks of a part. -/
theorem tree_fin (sym : ∀ u v, adj u v = adj v u) (irr : ∀ u, adj u u = false) (hn : ∀ u v, adj u v = true → u < n ∧ v < n) (hi : i < n) {dn : Nat} (h : Dn adj n i n dn) : ∃ m, sizeK adj n i n = m + 1 ∧ 2 * m ≤ endsK adj n i n ∧ (endsK adj n i n = 2 * m ↔ dn ≤ 1) := by
  have h1 := part_ends sym hn hi
  have h2 := tree_iff sym irr hn hi
  rw [← endsK_all hn] at h1 h2
  have h3 : sizeK adj n i n = sizeS n (partB adj n i) := rfl
  rw [← h3] at h1 h2
  have h4 : 1 ≤ sizeK adj n i n := by
    have := sm_at (f := fun u => (partB adj n i u).toNat) hi
    have h5 : partB adj n i i = true := partB_iff.2 ⟨hi, by rw [dist_self]; omega⟩
    simp only [h5, Bool.toNat_true] at this
    exact this
  refine ⟨sizeK adj n i n - 1, by omega, by omega, ?_⟩
  have h6 : (∀ v, partB adj n i v = true → core adj n v ≤ 1) ↔ dn ≤ 1 := by
    constructor
    · intro hv
      rcases h.2 with h7 | ⟨u, h7, h8, h9⟩
      · omega
      · rw [← h9]
        exact hv u h8
    · intro hd v hv
      exact Nat.le_trans (h.1 v (partB_iff.1 hv).1 hv) hd
  rw [← h6, ← h2]
  omega
theorem endsK_le {k : Nat} (hn : n ≤ 40) : endsK adj n i k ≤ 40 * k := by
  unfold endsK
  induction k with
  | zero => exact Nat.le_refl _
  | succ k ih =>
    rw [sm_succ]
    have := nearI_few adj n k
    split <;> omega
end
set_option maxHeartbeats 25600000 in
set_option maxRecDepth 100000 in
theorem walkTreeLaw_calls (A : Option Addr) (c : Nat) (l : List Int) (w : World) (hl : (Kd.int .u8).C w A l.length l) (hc : l.length ≤ c) (hb : ∀ x ∈ l, 0 ≤ x ∧ x < 256) :
    Calls Try.prog 24 #[.slice A l.length c] w fun e w' => e = .returned (.bool true) ∧ Below w.heap.size w w' := by
  have HL := Aside0.mk hl
  have HC := Aside0.mk hc
  have HY := Aside0.mk hb
  have HB := Aside0.mk (Below.refl w.heap.size w)
  clear hl hc hb
  by_cases hlen : 1048576 < l.length
  · have hl1 : (1048576 : Int) < (l.length : Int) := by omega
    go_enter Try.func24, Try.ntmps24
    go_wp2_with (fail)
    go_ret
    exact ⟨rfl, HB.out⟩
  have hl1 : ¬ (1048576 : Int) < (l.length : Int) := by omega
  clear hlen
  go_enter Try.func24, Try.ntmps24
  go_upto_region 5 with (first | (go_at_call 72; go_must ((refine (drawWC_calls A c l _ (Kd.C_below HL.out HB.out) HC.out HY.out).mono ?_); rintro e u_ ⟨⟨A1, c1, ns, B1, d1, es, rfl, hgr_, -, -, hn_, he_⟩, hb⟩; have HGR := Aside0.mk hgr_; have HLN := Aside0.mk (And.intro hn_ he_); clear hgr_ hn_ he_; obtain ⟨C, hC_⟩ : ∃ y, wCore ns es = y := ⟨_, rfl⟩; have HCQ := Aside0.mk hC_; have HCN := Aside0.mk (wc_len hC_); clear hC_; obtain ⟨P, hP_⟩ : ∃ y, wParts ns es = y := ⟨_, rfl⟩; have HPQ := Aside0.mk hP_; clear hP_; replace HB := Aside0.mk (below_step HB.out hb); clear hb)) | ((with_reducible refine gate_dst (N := 3) rfl ?_); go_must ((refine w_new #[.slice none 0 0, .slice none 0 0] 26 rfl (by go_simp; (first | done | rfl)) ?_); intro g3 u_ hge_ hb0_ hb; have N3HGR := Aside0.mk (HGR.out.new hge_); have Hg3 := Aside0.mk (show w.heap.size + 0 ≤ g3 from by have hl0_ := HB.out.size; exact by omega); have L3 := Aside0.mk hb0_; replace HB := Aside0.mk (below_step HB.out hb); replace HGR := Aside0.mk (HGR.out.below hb); clear hge_ hb0_ hb; (try clear t3c0 t3c1); obtain ⟨t3c0, t3c1⟩ := cs2 (L3.out))) | ((with_reducible refine gate_store (p := 3) rfl ?_); go_must ((refine wpList_plain rfl fun K_ hK_ => wp_store_row _ _ _ rfl (g3) #[.slice A1 ns.length c1, .slice B1 es.length d1] rfl rfl _ _ L3.out (by kernel_rfl) rfl (by simp [Value.oneCell']) (hK_ _ _ ?_)); refine named _ ?_; intro wz hwz; replace HB := Aside0.mk (sb_ hwz HB.out (by have := Hg3.out; omega)); replace L3 := Aside0.mk (sh_ hwz L3.out); replace HGR := Aside0.mk ((HGR.out).row hwz N3HGR.out.1 N3HGR.out.2); (try clear t3c0 t3c1); obtain ⟨t3c0, t3c1⟩ := cs2 (L3.out); clear hwz)) | (go_at_call 63; go_must ((refine (walkCore_as A1 c1 ns B1 d1 es C _ HGR.out HCQ.out).mono ?_); rintro e u_ ⟨⟨A4, c4, rfl, hc_, hl_, hf_⟩, hb⟩; have HC4 := Aside0.mk hc_; clear hc_ hl_ hf_; replace HB := Aside0.mk (below_step HB.out hb); replace L3 := Aside0.mk (blk_below L3.out hb); replace HGR := Aside0.mk (HGR.out.below hb); (try clear t3c0 t3c1); obtain ⟨t3c0, t3c1⟩ := cs2 (L3.out); clear hb)))
  obtain ⟨v, hv⟩ : ∃ v, okG ns es = v := ⟨_, rfl⟩
  have HOK := Aside0.mk hv
  clear hv
  cases v
  · go_wp2_with (first | (go_at_call 73; go_must ((refine (sWalkCore_as A1 c1 ns B1 d1 es C _ HGR.out HLN.out HCQ.out).mono ?_); rintro e u_ ⟨⟨A6, c6, rfl, hc_, hl_, hf_⟩, hb⟩; have HC6 := Aside0.mk hc_; clear hc_ hl_ hf_; replace HB := Aside0.mk (below_step HB.out hb); replace L3 := Aside0.mk (blk_below L3.out hb); replace HGR := Aside0.mk (HGR.out.below hb); replace HC4 := Aside0.mk (Kd.C_below (HC4.out) hb); (try clear t3c0 t3c1); obtain ⟨t3c0, t3c1⟩ := cs2 (L3.out); clear hb)) | (go_at_call 54; go_must ((refine (wpInts_calls A4 c4 A6 c6 C _ HC4.out HC6.out (by have := HCN.out; have := HLN.out; omega)).mono ?_); rintro e u_ ⟨rfl, hb⟩; clear HC6; replace HB := Aside0.mk (below_step HB.out hb); replace L3 := Aside0.mk (blk_below L3.out hb); replace HGR := Aside0.mk (HGR.out.below hb); replace HC4 := Aside0.mk (Kd.C_below (HC4.out) hb); (try clear t3c0 t3c1); obtain ⟨t3c0, t3c1⟩ := cs2 (L3.out); clear hb)) | (go_at_call 33; go_must ((refine (sGraphOk_as A1 c1 ns B1 d1 es _ _ HGR.out HLN.out HOK.out).mono ?_); rintro e u_ ⟨rfl, hb⟩; replace HB := Aside0.mk (below_step HB.out hb); replace L3 := Aside0.mk (blk_below L3.out hb); replace HGR := Aside0.mk (HGR.out.below hb); replace HC4 := Aside0.mk (Kd.C_below (HC4.out) hb); (try clear t3c0 t3c1); obtain ⟨t3c0, t3c1⟩ := cs2 (L3.out); clear hb)) | (go_at_call 58; go_must ((refine (walkParts_as A1 c1 ns B1 d1 es P _ HGR.out HPQ.out).mono ?_); rintro e u_ ⟨⟨A5, c5, rfl, hc_, hl_, hf_⟩, hb⟩; have HC5 := Aside0.mk hc_; clear hc_ hl_ hf_; replace HB := Aside0.mk (below_step HB.out hb); replace L3 := Aside0.mk (blk_below L3.out hb); replace HGR := Aside0.mk (HGR.out.below hb); replace HC4 := Aside0.mk (Kd.C_below (HC4.out) hb); (try clear t3c0 t3c1); obtain ⟨t3c0, t3c1⟩ := cs2 (L3.out); clear hb)))
    go_ret
    exact ⟨rfl, HB.out⟩
  · have HOG := Aside0.mk (okG_true.1 HOK.out)
    have HLM := Aside0.mk (NsOk.mk HOG.out.nok HOG.out.nasc HOG.out.nfew).len
    have HCE := Aside0.mk (show C = coreL (adjI ns es) ns.length from HCQ.out.symm.trans (if_pos HOK.out))
    have HCL := Aside0.mk (show C.length = ns.length by rw [HCE.out, coreL_length])
    have HPE := Aside0.mk (show P = partL (adjI ns es) ns.length from HPQ.out.symm.trans (if_pos HOK.out))
    have HPL := Aside0.mk (show P.length = ns.length by rw [HPE.out, partL_length])
    go_wp2_with (first | (go_at_call 73; go_must ((refine (sWalkCore_as A1 c1 ns B1 d1 es C _ HGR.out HLN.out HCQ.out).mono ?_); rintro e u_ ⟨⟨A6, c6, rfl, hc_, hl_, hf_⟩, hb⟩; have HC6 := Aside0.mk hc_; clear hc_ hl_ hf_; replace HB := Aside0.mk (below_step HB.out hb); replace L3 := Aside0.mk (blk_below L3.out hb); replace HGR := Aside0.mk (HGR.out.below hb); replace HC4 := Aside0.mk (Kd.C_below (HC4.out) hb); (try clear t3c0 t3c1); obtain ⟨t3c0, t3c1⟩ := cs2 (L3.out); clear hb)) | (go_at_call 54; go_must ((refine (wpInts_calls A4 c4 A6 c6 C _ HC4.out HC6.out (by have := HCN.out; have := HLN.out; omega)).mono ?_); rintro e u_ ⟨rfl, hb⟩; clear HC6; replace HB := Aside0.mk (below_step HB.out hb); replace L3 := Aside0.mk (blk_below L3.out hb); replace HGR := Aside0.mk (HGR.out.below hb); replace HC4 := Aside0.mk (Kd.C_below (HC4.out) hb); (try clear t3c0 t3c1); obtain ⟨t3c0, t3c1⟩ := cs2 (L3.out); clear hb)) | (go_at_call 33; go_must ((refine (sGraphOk_as A1 c1 ns B1 d1 es _ _ HGR.out HLN.out HOK.out).mono ?_); rintro e u_ ⟨rfl, hb⟩; replace HB := Aside0.mk (below_step HB.out hb); replace L3 := Aside0.mk (blk_below L3.out hb); replace HGR := Aside0.mk (HGR.out.below hb); replace HC4 := Aside0.mk (Kd.C_below (HC4.out) hb); (try clear t3c0 t3c1); obtain ⟨t3c0, t3c1⟩ := cs2 (L3.out); clear hb)) | (go_at_call 58; go_must ((refine (walkParts_as A1 c1 ns B1 d1 es P _ HGR.out HPQ.out).mono ?_); rintro e u_ ⟨⟨A5, c5, rfl, hc_, hl_, hf_⟩, hb⟩; have HC5 := Aside0.mk hc_; clear hc_ hl_ hf_; replace HB := Aside0.mk (below_step HB.out hb); replace L3 := Aside0.mk (blk_below L3.out hb); replace HGR := Aside0.mk (HGR.out.below hb); replace HC4 := Aside0.mk (Kd.C_below (HC4.out) hb); (try clear t3c0 t3c1); obtain ⟨t3c0, t3c1⟩ := cs2 (L3.out); clear hb)))
    go_loopw [6, 7, 8, 9, 10] (fun s6 _ _ _ _ wr => ∃ i : Nat, i ≤ P.length ∧ s6 = .int .i64 (i : Int) ∧ WeS w g3 A1 c1 ns B1 d1 es A4 C A5 P wr) (fun s6 _ _ _ _ _ => (P.length - intOf s6).toNat)
    case atStart => exact ⟨0, Nat.zero_le _, rfl, ⟨L3.out, HGR.out, HC4.out, HC5.out, HB.out⟩⟩
    case round =>
      clear L3 HGR HC4 HC5 HB
      obtain ⟨i, hi, rfl, l3_, gr_, c4_, c5_, hb_⟩ := hrel
      have HI := Aside0.mk hi
      clear hi
      have L3 := Aside0.mk l3_
      have HGR := Aside0.mk gr_
      have HC4 := Aside0.mk c4_
      have HC5 := Aside0.mk c5_
      have HB := Aside0.mk hb_
      obtain ⟨t3c0, t3c1⟩ := cs2 (L3.out)
      clear l3_ gr_ c4_ c5_ hb_
      have hpn : (P.length : Int) ≤ 40 := by have := HPL.out; have := HLM.out; omega
      by_cases hlt : i < P.length
      · have hil : (i : Int) < (P.length : Int) := by omega
        have HIL := Aside0.mk hlt
        have HIN := Aside0.mk (show i < ns.length by have := HPL.out; omega)
        obtain ⟨a1, rfl⟩ : ∃ ad, A1 = some ad := by obtain ⟨ad, e, _⟩ := HGR.out.cn.2.2 (by have := HIN.out; omega); exact ⟨ad, e⟩
        obtain ⟨a4, rfl⟩ : ∃ ad, A4 = some ad := by obtain ⟨ad, e, _⟩ := HC4.out.2.2 (by have := HIN.out; have := HCL.out; omega); exact ⟨ad, e⟩
        obtain ⟨a5, rfl⟩ : ∃ ad, A5 = some ad := by obtain ⟨ad, e, _⟩ := HC5.out.2.2 (by omega); exact ⟨ad, e⟩
        obtain ⟨a5_, e5_, k0⟩ := int_at HC5.out i (by rw [HPE.out, partL_length]; exact HIN.out)
        obtain rfl := Option.some.inj e5_
        rw [show P.getD i 0 = ((root (adjI ns es) i : Nat) : Int) by rw [HPE.out]; exact gt_partL HIN.out] at k0
        clear e5_
        obtain ⟨r, hr⟩ : ∃ r, root (adjI ns es) i = r := ⟨_, rfl⟩
        rw [hr] at k0
        clear hlt
        by_cases hri : r = i
        · have hri2 : i = r := hri.symm
          clear hri
          subst hri2
          have HRI := Aside0.mk hr
          clear hr
          go_wp2_with (fail)
          clear k0
          go_loopw [7, 8, 9, 10] (fun s7 s8 s9 s10 wr => ∃ k dn : Nat, k ≤ P.length ∧ s10 = .int .i64 (k : Int) ∧ s7 = .int .i64 ((sizeK (adjI ns es) ns.length i k : Nat) : Int) ∧ s8 = .int .i64 ((endsK (adjI ns es) ns.length i k : Nat) : Int) ∧ s9 = .int .i64 (dn : Int) ∧ dn ≤ 40 ∧ Dn (adjI ns es) ns.length i k dn ∧ WeS w g3 (some a1) c1 ns B1 d1 es (some a4) C (some a5) P wr) (fun _ _ _ s10 _ => (P.length - intOf s10).toNat)
          case atStart => exact ⟨0, 0, Nat.zero_le _, rfl, rfl, rfl, rfl, Nat.zero_le _, Dn.zero, ⟨L3.out, HGR.out, HC4.out, HC5.out, HB.out⟩⟩
          case round =>
            clear L3 HGR HC4 HC5 HB
            obtain ⟨k, dn, hk, rfl, rfl, rfl, rfl, hd40, hdn, l3_, gr_, c4_, c5_, hb_⟩ := hrel
            have HK := Aside0.mk hk
            have HD4 := Aside0.mk hd40
            have HDN := Aside0.mk hdn
            clear hk hd40 hdn
            have L3 := Aside0.mk l3_
            have HGR := Aside0.mk gr_
            have HC4 := Aside0.mk c4_
            have HC5 := Aside0.mk c5_
            have HB := Aside0.mk hb_
            obtain ⟨t3c0, t3c1⟩ := cs2 (L3.out)
            clear l3_ gr_ c4_ c5_ hb_
            obtain ⟨sz, hsz⟩ : ∃ s, sizeK (adjI ns es) ns.length i k = s := ⟨_, rfl⟩
            obtain ⟨en, hen⟩ : ∃ s, endsK (adjI ns es) ns.length i k = s := ⟨_, rfl⟩
            have HSZ := Aside0.mk hsz
            have HEN := Aside0.mk hen
            have HSB := Aside0.mk (show sz ≤ k by rw [← hsz]; exact sm_lim fun _ _ => toNat_le _)
            have HEB := Aside0.mk (show en ≤ 40 * k by rw [← hen]; exact endsK_le HLM.out)
            rw [hsz, hen]
            clear hsz hen
            have hk4 : (k : Int) ≤ 40 := by have := HK.out; have := HPL.out; have := HLM.out; omega
            have hs4 : (sz : Int) ≤ 40 := by have := HSB.out; omega
            have hd4 : (dn : Int) ≤ 40 := by have := HD4.out; omega
            have he4 : (en : Int) ≤ 1600 := by have := HEB.out; omega
            by_cases hlt : k < P.length
            · have hkl : (k : Int) < (P.length : Int) := by omega
              have hkc : (k : Int) < (C.length : Int) := by have := HCL.out; have := HPL.out; omega
              have HKL := Aside0.mk hlt
              have HKN := Aside0.mk (show k < ns.length by have := HPL.out; omega)
              have hkn : (k : Int) < (ns.length : Int) := by have := HKN.out; omega
              have HPR := Aside0.mk (part_root (n := ns.length) (adj := adjI ns es) adjI_sym HRI.out HKN.out)
              obtain ⟨a5_, e5_, k0⟩ := int_at HC5.out k (by rw [HPE.out, partL_length]; exact HKN.out)
              obtain rfl := Option.some.inj e5_
              rw [show P.getD k 0 = ((root (adjI ns es) k : Nat) : Int) by rw [HPE.out]; exact gt_partL HKN.out] at k0
              clear e5_
              obtain ⟨r, hr⟩ : ∃ r, root (adjI ns es) k = r := ⟨_, rfl⟩
              rw [hr] at k0
              rw [hr] at HPR
              clear hlt hr
              by_cases hri : r = i
              · subst hri
                have HPT := Aside0.mk (show partB (adjI ns es) ns.length r k = true from HPR.out.2 rfl)
                obtain ⟨y, hy⟩ : ∃ y, at_ ns k = y := ⟨_, rfl⟩
                have HYA := Aside0.mk hy
                obtain ⟨M, hM⟩ : ∃ m, nearG ns es y = m := ⟨_, rfl⟩
                have HM := Aside0.mk hM
                have HML := Aside0.mk (show M.length = (nearI (adjI ns es) ns.length k).length by rw [← hM, ← hy, near_at HOG.out HKN.out, List.length_map])
                have HMF := Aside0.mk (show M.length ≤ 40 by have := nearI_few (adjI ns es) ns.length k; have := HML.out; have := HLM.out; omega)
                have hw1 : IntKind.i64.wrap ((en : Int) + (M.length : Int)) = ((en + M.length : Nat) : Int) := by rw [IntKind.wrap_i64]; have := HMF.out; omega
                have HS1 := Aside0.mk (show sizeK (adjI ns es) ns.length r (k + 1) = sz + 1 by unfold sizeK; rw [sm_succ, HPT.out]; exact congrArg (· + 1) HSZ.out)
                have HE1 := Aside0.mk (show endsK (adjI ns es) ns.length r (k + 1) = en + M.length by unfold endsK; rw [sm_succ, if_pos HPT.out, HML.out]; exact congrArg (· + _) HEN.out)
                obtain ⟨x, hx⟩ : ∃ x, core (adjI ns es) ns.length k = x := ⟨_, rfl⟩
                have HXC := Aside0.mk hx
                have HX4 := Aside0.mk (show x ≤ 40 by rw [← hx]; have := core_le (adj := adjI ns es) (n := ns.length) (v := k); have := HLM.out; omega)
                clear hy hM hx
                obtain ⟨a1_, e1_, r0, r1⟩ := nd_at HGR.out.cn k HKN.out
                obtain rfl := Option.some.inj e1_
                clear e1_
                rw [HYA.out] at r0 r1
                go_upto_region 20 with (fail)
                have ZL3 := L3
                refine region_bp [] sWr20 (by kernel_rfl) sWr20_ok (by decide) (fun d _ _ _ _ h => by cases d <;> exact h) ?_
                intro u hb
                have hS := hb
                replace HB := Aside0.mk (below_step HB.out hb)
                replace L3 := Aside0.mk (blk_below L3.out hb)
                replace HGR := Aside0.mk (HGR.out.below hb)
                replace HC4 := Aside0.mk (Kd.C_below (HC4.out) hb)
                replace HC5 := Aside0.mk (Kd.C_below (HC5.out) hb)
                (try clear t3c0 t3c1)
                obtain ⟨t3c0, t3c1⟩ := cs2 (L3.out)
                clear hb
                repeat (first | (refine p_off hS gt_ (by rfl) ?_; intro a_ ha_; (simp only [Act.put, List.setIfInBounds_toArray, List.set_cons_zero, List.set_cons_succ] at ha_); subst ha_) | (refine p_on (v := ?_) hS gt_ (by rfl) ?_ ?_; rotate_left; (· rintro w_ hS_; obtain ⟨t3c0_, t3c1_⟩ := cs2 (blk_below ZL3.out hS_); have r0_ := pw_cell_below hS_ r0; have r1_ := pw_cell_below hS_ r1; go_simp; with_reducible rfl); intro a_ ha_; (simp only [Act.put, List.setIfInBounds_toArray, List.set_cons_zero, List.set_cons_succ] at ha_); subst ha_) | (refine p_poff gt_ (by rfl) ?_; intro a_ ha_; (simp only [Act.put, List.setIfInBounds_toArray, List.set_cons_zero, List.set_cons_succ] at ha_); subst ha_) | (refine p_pon (v := ?_) gt_ (by rfl) ?_ ?_; rotate_left; (· go_simp; with_reducible rfl); intro a_ ha_; (simp only [Act.put, List.setIfInBounds_toArray, List.set_cons_zero, List.set_cons_succ] at ha_); subst ha_) | (refine p_ooff hS gt_ (by rfl) ?_; intro a_ ha_; (simp only [Act.put, List.setIfInBounds_toArray, List.set_cons_zero, List.set_cons_succ] at ha_); subst ha_) | (refine p_loff gt_ (by rfl) ?_; intro a_ ha_; (simp only [Act.put, List.setIfInBounds_toArray, List.set_cons_zero, List.set_cons_succ] at ha_); subst ha_) | (refine p_call (f := 42) (args := #[.agg #[.slice (some a1) ns.length c1, .slice B1 es.length d1], .agg #[.int .i64 y.lab, .int .i64 y.num]]) Try.func42 (by kernel_rfl) rfl gt_ (by rfl) (by rfl) mp_ ?_; (refine (near_as (some a1) c1 ns B1 d1 es y M _ HGR.out HM.out).mono ?_); rintro e_ u_ ⟨A7, c7, rfl, -, -, hb⟩; replace HB := Aside0.mk (below_step HB.out hb); replace L3 := Aside0.mk (blk_below L3.out hb); replace HGR := Aside0.mk (HGR.out.below hb); replace HC4 := Aside0.mk (Kd.C_below (HC4.out) hb); replace HC5 := Aside0.mk (Kd.C_below (HC5.out) hb); (try clear t3c0 t3c1); obtain ⟨t3c0, t3c1⟩ := cs2 (L3.out); replace hS := below_step hS hb; refine ⟨_, rfl, hS, fun a_ ha_ => ?_⟩; (simp only [Act.put, List.setIfInBounds_toArray, List.set_cons_zero, List.set_cons_succ] at ha_); subst ha_; clear hb))
                refine p_fin ?_
                clear hS ZL3
                clear hw1 r0 r1
                obtain ⟨a4_, e4_, k1⟩ := int_at HC4.out k (by rw [HCE.out, coreL_length]; exact HKN.out)
                obtain rfl := Option.some.inj e4_
                rw [show C.getD k 0 = ((core (adjI ns es) ns.length k : Nat) : Int) by rw [HCE.out]; exact gt_coreL HKN.out] at k1
                clear e4_
                rw [HXC.out] at k1
                by_cases hxd : (dn : Int) < (x : Int)
                · go_wp2_with (fail)
                  go_roundw
                  case rel => exact ⟨k + 1, x, HKL.out, by go_num, by rw [HS1.out]; go_num, by rw [HE1.out]; go_num, rfl, HX4.out, by rw [← HXC.out]; exact HDN.out.up HPT.out (by rw [HXC.out]; omega), ⟨L3.out, HGR.out, HC4.out, HC5.out, HB.out⟩⟩
                  case measure => have := HKL.out; simp [intOf]; omega
                · go_wp2_with (fail)
                  go_roundw
                  case rel => exact ⟨k + 1, dn, HKL.out, by go_num, by rw [HS1.out]; go_num, by rw [HE1.out]; go_num, rfl, HD4.out, HDN.out.le (by rw [HXC.out]; omega), ⟨L3.out, HGR.out, HC4.out, HC5.out, HB.out⟩⟩
                  case measure => have := HKL.out; simp [intOf]; omega
              · have hne : ¬ (r : Int) = (i : Int) := by omega
                have HPF := Aside0.mk (show partB (adjI ns es) ns.length i k = false from Bool.eq_false_iff.2 fun h => hri (HPR.out.1 h))
                have HS1 := Aside0.mk (show sizeK (adjI ns es) ns.length i (k + 1) = sz by unfold sizeK; rw [sm_succ, HPF.out]; exact HSZ.out)
                have HE1 := Aside0.mk (show endsK (adjI ns es) ns.length i (k + 1) = en by unfold endsK; rw [sm_succ, if_neg (by rw [HPF.out]; decide)]; exact HEN.out)
                clear hri
                go_wp2_with (fail)
                go_roundw
                case rel => exact ⟨k + 1, dn, HKL.out, by go_num, by rw [HS1.out], by rw [HE1.out], rfl, HD4.out, HDN.out.off HPF.out, ⟨L3.out, HGR.out, HC4.out, HC5.out, HB.out⟩⟩
                case measure => have := HKL.out; simp [intOf]; omega
            · have hkl : ¬ (k : Int) < (P.length : Int) := by omega
              obtain rfl : k = ns.length := by have := HK.out; have := HPL.out; omega
              obtain ⟨m, hm1, hm2, hm3⟩ := tree_fin adjI_sym (adjI_irr HOG.out) (fun u v h => adjI_lt h) HIN.out HDN.out
              rw [HSZ.out] at hm1
              rw [HEN.out] at hm2 hm3
              subst hm1
              have hm4 : (m : Int) ≤ 40 := by omega
              have hmc : ¬ (en : Int) < 2 * (m : Int) := by omega
              clear hlt
              by_cases hd1 : (dn : Int) ≤ 1
              · have hme : (en : Int) = 2 * (m : Int) := by have := hm3.2 (by omega); omega
                clear hm2 hm3
                go_wp2_with (fail)
                go_roundw
                case rel => exact ⟨i + 1, HIL.out, by go_num, ⟨L3.out, HGR.out, HC4.out, HC5.out, HB.out⟩⟩
                case measure => have := HIL.out; simp [intOf]; omega
              · have hme : ¬ (en : Int) = 2 * (m : Int) := fun h => hd1 (by have := hm3.1 (by omega); omega)
                clear hm2 hm3
                go_wp2_with (fail)
                go_roundw
                case rel => exact ⟨i + 1, HIL.out, by go_num, ⟨L3.out, HGR.out, HC4.out, HC5.out, HB.out⟩⟩
                case measure => have := HIL.out; simp [intOf]; omega
        · have hne : ¬ (r : Int) = (i : Int) := by omega
          clear hr hri
          go_wp2_with (fail)
          go_roundw
          case rel => exact ⟨i + 1, HIL.out, by go_num, ⟨L3.out, HGR.out, HC4.out, HC5.out, HB.out⟩⟩
          case measure => have := HIL.out; simp [intOf]; omega
      · have hil : ¬ (i : Int) < (P.length : Int) := by omega
        clear hlt
        go_wp2_with (fail)
        go_ret
        exact ⟨rfl, HB.out⟩
end Go.Proofs.Ytogmbeifbjgphaa.R
