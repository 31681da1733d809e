/- The law FnWalkThree, walked. -/
import Derived.Test.YtogmbeifbjgphaaJB35
import Derived.Test.YtogmbeifbjgphaaJL14
namespace Go.Proofs.Ytogmbeifbjgphaa.R
open Go.RowKit Go.Proofs.YtogmbeifbjgphaaV.PrintWords Go.Proofs.YtogmbeifbjgphaaV.PrintLast Go.Proofs.YtogmbeifbjgphaaV.PrintMore Go.Proofs.Ytogmbeifbjgphaa.M
set_option linter.unusedVariables false
set_option linter.unusedSimpArgs false
attribute [local go_sem high] eqN eqE
theorem walkCore_as (A : Option Addr) (c : Nat) (ns : List Nd) (B : Option Addr) (d : Nat) (es : List Eg) (P : List Int) (w : World) (hr : GR w A c ns B d es) (h : wCore ns es = P) :
    Calls Try.prog 63 #[.agg #[.slice A ns.length c, .slice B es.length d]] w fun e w' => RetI w.heap.size P e w' ∧ Below w.heap.size w w' := by
  subst h
  exact walkCore_calls A c ns B d es w hr
theorem sWalkCore_as (A : Option Addr) (c : Nat) (ns : List Nd) (B : Option Addr) (d : Nat) (es : List Eg) (P : List Int) (w : World) (hr : GR w A c ns B d es) (hl : ns.length ≤ 100 ∧ es.length ≤ 100) (h : wCore ns es = P) :
    Calls Try.prog 73 #[.agg #[.slice A ns.length c, .slice B es.length d]] w fun e w' => RetI w.heap.size P e w' ∧ Below w.heap.size w w' := by
  subst h
  exact sWalkCore_calls A c ns B d es w hr hl
theorem sm_two {f : Nat → Nat} {n i j : Nat} (hi : i < n) (hj : j < n) (hij : i ≠ j) (h1 : 1 ≤ f i) (h2 : 1 ≤ f j) : 2 ≤ sm n f := by
  have e1 := sm_one i 1 n
  have e2 := sm_one j 1 n
  rw [if_pos hi] at e1
  rw [if_pos hj] at e2
  have e3 := sm_add (fun k => if k = i then 1 else 0) (fun k => if k = j then 1 else 0) n
  rw [e1, e2] at e3
  show 1 + 1 ≤ sm n f
  rw [← e3]
  refine sm_le fun k _ => ?_
  by_cases a1 : k = i
  · subst a1
    rw [if_pos rfl, if_neg hij]
    omega
  · rw [if_neg a1]
    by_cases a2 : k = j
    · subst a2
      rw [if_pos rfl]
      omega
    · rw [if_neg a2]
      omega
theorem tri_core {adj : Nat → Nat → Bool} {n a b c : Nat} (sym : ∀ u v, adj u v = adj v u) (hab : a < b) (hbc : b < c) (hc : c < n) (h1 : adj a b = true) (h2 : adj b c = true) (h3 : adj a c = true) : 2 ≤ core adj n a ∧ 2 ≤ core adj n b ∧ 2 ≤ core adj n c := by
  have hd : Dense adj n 2 fun u => decide (u = a) || (decide (u = b) || decide (u = c)) := fun u hu => by
    simp only [Bool.or_eq_true, decide_eq_true_eq] at hu
    unfold degS
    rcases hu with rfl | rfl | rfl
    · exact ⟨by omega, sm_two (i := b) (j := c) (by omega) hc (by omega) (by simp [h1]) (by simp [h3])⟩
    · exact ⟨by omega, sm_two (i := a) (j := c) (by omega) hc (by omega) (by simp [sym u a, h1]) (by simp [h2])⟩
    · exact ⟨hc, sm_two (i := a) (j := b) (by omega) (by omega) (by omega) (by simp [sym u a, h3]) (by simp [sym u b, h2])⟩
  exact ⟨(core_iff (by omega)).1 ⟨_, hd, by simp⟩, (core_iff (by omega)).1 ⟨_, hd, by simp⟩, (core_iff (by omega)).1 ⟨_, hd, by simp⟩⟩
theorem tris_core {adj : Nat → Nat → Bool} {n t : Nat} (sym : ∀ u v, adj u v = adj v u) (ht : t = sm n fun v => (decide (2 ≤ core adj n v)).toNat) : (tris adj n : Int) ≤ ((t : Int) * ((t : Int) - 1) * ((t : Int) - 2)).tdiv 6 := by
  have h1 := tris_le (adj := adj) (fun v => decide (2 ≤ core adj n v)) n fun a b c hab hbc hc e1 e2 e3 => by
    have := tri_core sym hab hbc hc e1 e2 e3
    simpa using this
  have h2 := three_eq (fun v => decide (2 ≤ core adj n v)) n
  rw [← ht] at h2
  generalize hq : three (fun v => decide (2 ≤ core adj n v)) n = q at h1 h2
  have h3 : (t : Int) * ((t : Int) - 1) * ((t : Int) - 2) = 6 * (q : Int) := by
    have h4 : 6 * (q : Int) + 3 * ((t : Int) * t) = (t : Int) * t * t + 2 * t := by exact_mod_cast h2
    have h5 : (t : Int) * ((t : Int) - 1) * ((t : Int) - 2) = (t : Int) * t * t - 3 * ((t : Int) * t) + 2 * t := by
      rw [Int.mul_sub, Int.mul_sub, Int.sub_mul, Int.mul_one, Int.sub_mul]
      omega
    omega
  rw [h3, Int.mul_tdiv_cancel_left _ (by decide)]
  omega
theorem C_newI {w : World} {A : Option Addr} {n g : Nat} {xs : List Int} (h : (Kd.int .i64).C w A n xs) (hg : w.heap.size ≤ g) : NotIn g A n := fun hn ad e => by have := C_lt (flatI .i64) h hn ad e; omega
theorem C_rowI {w u : World} {A : Option Addr} {n g : Nat} {cs : Array Value} {xs : List Int} (h : (Kd.int .i64).C w A n xs) (e : u = w.setRow g cs) (hA : NotIn g A n) : (Kd.int .i64).C u A n xs := by
  rw [e]
  exact C_over (flatI .i64) h (grown_setRow _ _ _) fun hn ad e he => hA hn ad e (Option.some.inj he)
theorem three_wrap : ∀ t : Nat, t < 41 → wrap64 ((wrap64 (wrap64 ((t : Int) * ((t : Int) - 1)) * ((t : Int) - 2))).tdiv 6) = ((t : Int) * ((t : Int) - 1) * ((t : Int) - 2)).tdiv 6 := of_decide_eq_true (by kernel_rfl)
theorem three_num {T t : Nat} (h : t < 41) (hT : (T : Int) ≤ ((t : Int) * ((t : Int) - 1) * ((t : Int) - 2)).tdiv 6) : (T : Int) ≤ wrap64 ((wrap64 (wrap64 ((t : Int) * ((t : Int) - 1)) * ((t : Int) - 2))).tdiv 6) := by
  rw [three_wrap t h]
  exact hT
set_option maxHeartbeats 12800000 in
set_option maxRecDepth 100000 in
theorem walkThreeLaw_calls (A : Option Addr) (c : Nat) (l : List Int) (w : World) (hl : (Kd.int .u8).C w A l.length l) (hc : l.length ≤ c) (hb : ∀ x ∈ l, 0 ≤ x ∧ x < 256) :
    Calls Try.prog 19 #[.slice A l.length c] w fun e w' => e = .returned (.bool true) ∧ Below w.heap.size w w' := by
  have HL := Aside0.mk hl
  have HC := Aside0.mk hc
  have HY := Aside0.mk hb
  have HB := Aside0.mk (Below.refl w.heap.size w)
  clear hl hc hb
  by_cases hlen : 1048576 < l.length
  · have hl1 : (1048576 : Int) < (l.length : Int) := by omega
    go_enter Try.func19, Try.ntmps19
    go_wp2_with (fail)
    go_ret
    exact ⟨rfl, HB.out⟩
  have hl1 : ¬ (1048576 : Int) < (l.length : Int) := by omega
  clear hlen
  go_enter Try.func19, Try.ntmps19
  go_upto_region 5 with (first | (go_at_call 49; go_must ((refine (drawWT_calls A c l _ (Kd.C_below HL.out HB.out) HC.out HY.out).mono ?_); rintro e u_ ⟨⟨A1, c1, ns, B1, d1, es, rfl, hgr_, -, -, hn_, he_⟩, hb⟩; have HGR := Aside0.mk hgr_; have HLN := Aside0.mk (And.intro hn_ he_); clear hgr_ hn_ he_; obtain ⟨T, hT_⟩ : ∃ y, wThrees ns es = y := ⟨_, rfl⟩; have HT := Aside0.mk hT_; clear hT_; obtain ⟨C, hC_⟩ : ∃ y, wCore ns es = y := ⟨_, rfl⟩; have HCQ := Aside0.mk hC_; clear hC_; replace HB := Aside0.mk (below_step HB.out hb); clear hb)) | ((with_reducible refine gate_dst (N := 3) rfl ?_); go_must ((refine w_new #[.slice none 0 0, .slice none 0 0] 26 rfl (by go_simp; (first | done | rfl)) ?_); intro g3 u_ hge_ hb0_ hb; have N3HGR := Aside0.mk (HGR.out.new hge_); have Hg3 := Aside0.mk (show w.heap.size + 0 ≤ g3 from by have hl0_ := HB.out.size; exact by omega); have L3 := Aside0.mk hb0_; replace HB := Aside0.mk (below_step HB.out hb); replace HGR := Aside0.mk (HGR.out.below hb); clear hge_ hb0_ hb; (try clear t3c0 t3c1); obtain ⟨t3c0, t3c1⟩ := cs2 (L3.out))) | ((with_reducible refine gate_store (p := 3) rfl ?_); go_must ((refine wpList_plain rfl fun K_ hK_ => wp_store_row _ _ _ rfl (g3) #[.slice A1 ns.length c1, .slice B1 es.length d1] rfl rfl _ _ L3.out (by kernel_rfl) rfl (by simp [Value.oneCell']) (hK_ _ _ ?_)); refine named _ ?_; intro wz hwz; replace HB := Aside0.mk (sb_ hwz HB.out (by have := Hg3.out; omega)); replace L3 := Aside0.mk (sh_ hwz L3.out); replace HGR := Aside0.mk ((HGR.out).row hwz N3HGR.out.1 N3HGR.out.2); (try clear t3c0 t3c1); obtain ⟨t3c0, t3c1⟩ := cs2 (L3.out); clear hwz)) | (go_at_call 50; go_must ((refine (walkThrees_as A1 c1 ns B1 d1 es T _ HGR.out HT.out).mono ?_); rintro e u_ ⟨rfl, hb⟩; replace HB := Aside0.mk (below_step HB.out hb); replace L3 := Aside0.mk (blk_below L3.out hb); replace HGR := Aside0.mk (HGR.out.below hb); (try clear t3c0 t3c1); obtain ⟨t3c0, t3c1⟩ := cs2 (L3.out); clear hb)))
  obtain ⟨v, hv⟩ : ∃ v, okG ns es = v := ⟨_, rfl⟩
  have HOK := Aside0.mk hv
  clear hv
  cases v
  · go_wp2_with (first | (go_at_call 51; go_must ((refine (sWalkThrees_as A1 c1 ns B1 d1 es T _ HGR.out HLN.out HT.out).mono ?_); rintro e u_ ⟨rfl, hb⟩; replace HB := Aside0.mk (below_step HB.out hb); replace L3 := Aside0.mk (blk_below L3.out hb); replace HGR := Aside0.mk (HGR.out.below hb); (try clear t3c0 t3c1); obtain ⟨t3c0, t3c1⟩ := cs2 (L3.out); clear hb)) | (go_at_call 33; go_must ((refine (sGraphOk_as A1 c1 ns B1 d1 es _ _ HGR.out HLN.out HOK.out).mono ?_); rintro e u_ ⟨rfl, hb⟩; replace HB := Aside0.mk (below_step HB.out hb); replace L3 := Aside0.mk (blk_below L3.out hb); replace HGR := Aside0.mk (HGR.out.below hb); (try clear t3c0 t3c1); obtain ⟨t3c0, t3c1⟩ := cs2 (L3.out); clear hb)) | (go_at_call 63; go_must ((refine (walkCore_as A1 c1 ns B1 d1 es C _ HGR.out HCQ.out).mono ?_); rintro e u_ ⟨⟨A5, c5, rfl, hc_, hl_, hf_⟩, hb⟩; have HC5 := Aside0.mk hc_; clear hc_ hl_ hf_; replace HB := Aside0.mk (below_step HB.out hb); replace L3 := Aside0.mk (blk_below L3.out hb); replace HGR := Aside0.mk (HGR.out.below hb); (try clear t3c0 t3c1); obtain ⟨t3c0, t3c1⟩ := cs2 (L3.out); clear hb)))
    go_ret
    exact ⟨rfl, HB.out⟩
  · have HOG := Aside0.mk (okG_true.1 HOK.out)
    have HLM := Aside0.mk (NsOk.mk HOG.out.nok HOG.out.nasc HOG.out.nfew).len
    have HW := Aside0.mk (show wThrees ns es = tris (adjI ns es) ns.length from if_pos HOK.out)
    have HCE := Aside0.mk (show C = coreL (adjI ns es) ns.length from HCQ.out.symm.trans (if_pos HOK.out))
    have HCL := Aside0.mk (show C.length = ns.length by rw [HCE.out, coreL_length])
    go_wp2_with (first | (go_at_call 51; go_must ((refine (sWalkThrees_as A1 c1 ns B1 d1 es T _ HGR.out HLN.out HT.out).mono ?_); rintro e u_ ⟨rfl, hb⟩; replace HB := Aside0.mk (below_step HB.out hb); replace L3 := Aside0.mk (blk_below L3.out hb); replace HGR := Aside0.mk (HGR.out.below hb); (try clear t3c0 t3c1); obtain ⟨t3c0, t3c1⟩ := cs2 (L3.out); clear hb)) | (go_at_call 33; go_must ((refine (sGraphOk_as A1 c1 ns B1 d1 es _ _ HGR.out HLN.out HOK.out).mono ?_); rintro e u_ ⟨rfl, hb⟩; replace HB := Aside0.mk (below_step HB.out hb); replace L3 := Aside0.mk (blk_below L3.out hb); replace HGR := Aside0.mk (HGR.out.below hb); (try clear t3c0 t3c1); obtain ⟨t3c0, t3c1⟩ := cs2 (L3.out); clear hb)) | (go_at_call 63; go_must ((refine (walkCore_as A1 c1 ns B1 d1 es C _ HGR.out HCQ.out).mono ?_); rintro e u_ ⟨⟨A5, c5, rfl, hc_, hl_, hf_⟩, hb⟩; have HC5 := Aside0.mk hc_; clear hc_ hl_ hf_; replace HB := Aside0.mk (below_step HB.out hb); replace L3 := Aside0.mk (blk_below L3.out hb); replace HGR := Aside0.mk (HGR.out.below hb); (try clear t3c0 t3c1); obtain ⟨t3c0, t3c1⟩ := cs2 (L3.out); clear hb)))
    go_loopw [6, 7] (fun s6 s7 wr => ∃ i t : Nat, i ≤ C.length ∧ s7 = .int .i64 (i : Int) ∧ s6 = .int .i64 (t : Int) ∧ t = sm i (fun v => (decide (2 ≤ core (adjI ns es) ns.length v)).toNat) ∧ t ≤ i ∧ Aside0 ((Kd.int .i64).C wr A5 C.length C) ∧ Below w.heap.size w wr) (fun _ s7 _ => (C.length - intOf s7).toNat)
    case atStart => exact ⟨0, 0, Nat.zero_le _, rfl, rfl, rfl, Nat.le_refl _, HC5, HB.out⟩
    case round =>
      clear HB HC5
      obtain ⟨i, t, hi, rfl, rfl, ht, htb, HC5, hb_⟩ := hrel
      have HI := Aside0.mk hi
      have HTT := Aside0.mk ht
      have HTB := Aside0.mk htb
      have HB := Aside0.mk hb_
      clear hi ht htb hb_
      have hdn : (C.length : Int) ≤ 40 := by have := HCL.out; have := HLM.out; omega
      have htn : (t : Int) ≤ 40 := by have := HTB.out; have := HI.out; omega
      by_cases hlt : i < C.length
      · have hil : (i : Int) < (C.length : Int) := by omega
        have HIL := Aside0.mk hlt
        have HIN := Aside0.mk (show i < ns.length by have := HCL.out; omega)
        obtain ⟨x, hx⟩ : ∃ x, core (adjI ns es) ns.length i = x := ⟨_, rfl⟩
        obtain ⟨a5, e5, k0⟩ := int_at HC5.out i hlt
        cases e5
        rw [show C.getD i 0 = (x : Int) by rw [HCE.out, ← hx]; exact gt_coreL HIN.out] at k0
        have HX := Aside0.mk hx
        clear hlt hx
        by_cases h2 : (2 : Int) ≤ (x : Int)
        · have HD := Aside0.mk (show decide (2 ≤ core (adjI ns es) ns.length i) = true by rw [HX.out]; exact decide_eq_true (by omega))
          go_wp2_with (fail)
          go_roundw
          case rel => exact ⟨i + 1, t + 1, HIL.out, by go_num, by go_num, by rw [sm_succ, HD.out, ← HTT.out]; rfl, by have := HTB.out; omega, HC5, HB.out⟩
          case measure => have := HIL.out; simp [intOf]; omega
        · have HD := Aside0.mk (show decide (2 ≤ core (adjI ns es) ns.length i) = false by rw [HX.out]; exact decide_eq_false (by omega))
          go_wp2_with (fail)
          go_roundw
          case rel => exact ⟨i + 1, t, HIL.out, by go_num, rfl, by rw [sm_succ, HD.out, ← HTT.out]; rfl, by have := HTB.out; omega, HC5, HB.out⟩
          case measure => have := HIL.out; simp [intOf]; omega
      · have hil : ¬ (i : Int) < (C.length : Int) := by omega
        obtain rfl : i = C.length := by have := HI.out; omega
        have HF := Aside0.mk (show (T : Int) ≤ ((t : Int) * ((t : Int) - 1) * ((t : Int) - 2)).tdiv 6 by rw [← HT.out, HW.out]; exact tris_core adjI_sym (by rw [HTT.out, HCL.out]))
        clear hlt
        go_wp2_with (fail)
        go_ret
        exact ⟨congrArg (fun b => Ending.returned (Value.bool b)) (decide_eq_true (three_num (by omega) HF.out)), HB.out⟩
end Go.Proofs.Ytogmbeifbjgphaa.R
