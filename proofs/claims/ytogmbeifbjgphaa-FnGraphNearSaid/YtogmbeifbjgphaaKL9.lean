/- The law FnGraphNear, walked. -/
import Derived.Test.YtogmbeifbjgphaaKGX
import Derived.Test.YtogmbeifbjgphaaKL5
import Derived.Test.YtogmbeifbjgphaaKL7
namespace Go.Proofs.Ytogmbeifbjgphaa.R
open Go.RowKit Go.Proofs.YtogmbeifbjgphaaV.PrintWords Go.Proofs.YtogmbeifbjgphaaV.PrintLast Go.Proofs.YtogmbeifbjgphaaV.PrintMore Go.Proofs.Ytogmbeifbjgphaa.M
set_option linter.unusedVariables false
set_option linter.unusedSimpArgs false
attribute [local go_sem high] eqN eqE
abbrev sNr11 : Pl := (.tk 0 (.tk 1 (.tk 2 (.tk 3 (.tk 4 (.tk 5 (.tk 6 (.tk 7 (.tk 8 (.tk 9 (.tk 10 (.tk 11 (.tk 12 (.tk 13 (.tk 14 (.tk 15 (.tk 16 (.tk 17 (.tk 18 (.tk 19 (.tk 20 (.tk 21 (.tk 22 (.tk 23 (.tk 24 (.tk 25 (.tk 27 (.tk 28 (.tk 29 (.tk 30 (.nd .one 26 (.nd .one 31 (.tk 32 (.tk 33 (.tk 34 .fin)))))))))))))))))))))))))))))))))))
theorem sNr11_ok : planB .any (opsOf Try.f10 11) [] sNr11 (Array.replicate (opsOf Try.f10 11).size false) = true := by kernel_rfl
abbrev sNr13 : Pl := (.tk 0 (.tk 1 (.tk 2 (.tk 3 (.tk 4 (.nd .one 5 (.tk 6 .fin)))))))
theorem sNr13_ok : planB .any (opsOf Try.f10 13) [] sNr13 (Array.replicate (opsOf Try.f10 13).size false) = true := by kernel_rfl
abbrev sNr18 : Pl := (.tk 0 (.tk 1 (.tk 2 (.tk 3 (.tk 4 (.tk 5 (.tk 6 (.tk 7 (.tk 8 (.tk 9 .fin))))))))))
theorem sNr18_ok : planB .any (opsOf Try.f10 18) [] sNr18 (Array.replicate (opsOf Try.f10 18).size false) = true := by kernel_rfl
abbrev sNr30 : Pl := (.tk 0 (.tk 1 (.tk 2 (.tk 3 (.tk 4 (.tk 5 (.tk 6 (.tk 7 (.tk 8 (.tk 9 (.tk 10 (.tk 11 (.tk 12 .fin)))))))))))))
theorem sNr30_ok : planB .any (opsOf Try.f10 30) [] sNr30 (Array.replicate (opsOf Try.f10 30).size false) = true := by kernel_rfl
theorem near_ok {ns : List Nd} {es : List Eg} {n x : Nd} (h : x ∈ nearG ns es n) : OkG ns es := by
  cases hg : okG ns es
  · unfold nearG at h
    rw [hg] at h
    cases h
  · exact okG_true.1 hg
theorem near_back {ns : List Nd} {es : List Eg} {n x : Nd} (h : x ∈ nearG ns es n) : n ∈ nearG ns es x := by
  have hg := near_ok h
  rw [mem_near hg, adjE_comm]
  exact (mem_near hg).1 h
theorem near_ne {ns : List Nd} {es : List Eg} {n x : Nd} (h : x ∈ nearG ns es n) : x ≠ n := fun e => adjE_ne (near_ok h) ((mem_near (near_ok h)).1 h) e.symm
theorem near_asc {ns : List Nd} {es : List Eg} {n : Nd} {j : Nat} (h0 : 0 < j) (hj : j < (nearG ns es n).length) : codeI (at_ (nearG ns es n) (j - 1)) < codeI (at_ (nearG ns es n) j) := by
  have hm := at_mem hj
  have hg := near_ok hm
  have ha : Asc code (nearG ns es n) := by rw [near_of hg]; exact hg.nasc.filter _
  have hl := ha.lt (i := j - 1) (j := j) (by omega) hj
  have hok : ∀ x ∈ nearG ns es n, okN x = true := fun x hx => hg.nok x (adjE_mem hg ((mem_near hg).1 hx)).2
  rw [at_lt hj, at_lt (show j - 1 < (nearG ns es n).length by omega), codeI_ok (hok _ (List.getElem_mem _)), codeI_ok (hok _ (List.getElem_mem _))]
  exact hl
theorem near_len {ns : List Nd} {es : List Eg} (n : Nd) (h : ns.length ≤ 100) : (nearG ns es n).length ≤ 100 := by
  unfold nearG
  split
  · exact Nat.le_trans (List.length_filter_le _ _) h
  · exact Nat.zero_le _
theorem near_view {ns : List Nd} {es : List Eg} {n x : Nd} {cl : Int} (h : x ∈ nearG (viewN ns es cl) (viewE ns es cl) n) : x ∈ nearG ns es n := by
  have hv := near_ok h
  have ha := (mem_near hv).1 h
  cases hg : okG ns es
  · unfold viewE at ha
    rw [hg] at ha
    cases ha
  · have hG := okG_true.1 hg
    rw [mem_near hG]
    refine adjE_sub (fun e he => ?_) ha
    rw [(view_of hG cl).2] at he
    exact (List.mem_filter.1 he).1
theorem near_view_le {ns : List Nd} {es : List Eg} {n : Nd} {cl : Int} : (nearG (viewN ns es cl) (viewE ns es cl) n).length ≤ (nearG ns es n).length := by
  cases hg : okG ns es
  · have h1 : viewN ns es cl = [] := by unfold viewN; rw [hg]; rfl
    unfold nearG
    rw [h1]
    split <;> simp
  · have hG := okG_true.1 hg
    have hv := view_ok hG cl
    have h1 := (view_of hG cl).1
    have h2 := (view_of hG cl).2
    rw [near_of hG, h1, h2, near_of hv, ← List.countP_eq_length_filter, ← List.countP_eq_length_filter, List.countP_filter]
    refine List.countP_mono_left fun x _ hx => ?_
    simp only [Bool.and_eq_true] at hx
    exact adjE_sub (fun e he => (List.mem_filter.1 he).1) hx.1
theorem C_new {w : World} {A : Option Addr} {n g : Nat} {xs : List Nd} (h : kN.C w A n xs) (hg : w.heap.size ≤ g) : NotIn g A n := fun hn ad e => by have := C_lt flatN h hn ad e; omega
theorem C_row {w u : World} {A : Option Addr} {n g : Nat} {cs : Array Value} {xs : List Nd} (h : kN.C w A n xs) (e : u = w.setRow g cs) (hA : NotIn g A n) : kN.C u A n xs := by
  rw [e]
  exact C_over flatN h (grown_setRow _ _ _) fun hn ad e he => hA hn ad e (Option.some.inj he)
def NrS (w : World) (g5 g6 : Nat) (A1 : Option Addr) (c1 : Nat) (ns : List Nd) (B1 : Option Addr) (d1 : Nat) (es : List Eg) (n : Nd) (A7 : Option Addr) (N : List Nd) (wr : World) : Prop :=
  wr.heap[g5]? = some (.cells #[.slice A1 ns.length c1, .slice B1 es.length d1] 26 (0, 0)) ∧ wr.heap[g6]? = some (.cells #[.int .i64 n.lab, .int .i64 n.num] 28 (0, 0)) ∧ GR wr A1 c1 ns B1 d1 es ∧ kN.C wr A7 N.length N ∧ Below w.heap.size w wr
theorem near_as (A : Option Addr) (c : Nat) (ns : List Nd) (B : Option Addr) (d : Nat) (es : List Eg) (n : Nd) (N : List Nd) (w : World) (hr : GR w A c ns B d es) (h : nearG ns es n = N) :
    Calls Try.prog 42 #[.agg #[.slice A ns.length c, .slice B es.length d], .agg #[.int .i64 n.lab, .int .i64 n.num]] w fun e w' => ∃ A' c', e = .returned (.slice A' N.length c') ∧ kN.C w' A' N.length N ∧ N.length ≤ c' ∧ Below w.heap.size w w' := by
  subst h
  exact near_calls A c ns B d es n w hr
theorem sNear_as (A : Option Addr) (c : Nat) (ns : List Nd) (B : Option Addr) (d : Nat) (es : List Eg) (n : Nd) (N : List Nd) (w : World) (hr : GR w A c ns B d es) (hl : ns.length ≤ 1000000 ∧ es.length ≤ 1000000) (h : nearG ns es n = N) :
    Calls Try.prog 43 #[.agg #[.slice A ns.length c, .slice B es.length d], .agg #[.int .i64 n.lab, .int .i64 n.num]] w fun e w' => ∃ A' c', e = .returned (.slice A' N.length c') ∧ kN.C w' A' N.length N ∧ N.length ≤ c' ∧ Below w.heap.size w w' := by
  subst h
  exact sNear_calls A c ns B d es n w hr hl
set_option maxHeartbeats 12800000 in
set_option maxRecDepth 100000 in
theorem graphNear_walk (A : Option Addr) (c : Nat) (l : List Int) (A' : Option Addr) (c' : Nat) (l' : List Int) (w : World) (hl : (Kd.int .u8).C w A l.length l) (hc : l.length ≤ c) (hb : ∀ x ∈ l, 0 ≤ x ∧ x < 256) (hl' : (Kd.int .u8).C w A' l'.length l') (hc' : l'.length ≤ c') (hb' : ∀ x ∈ l', 0 ≤ x ∧ x < 256) :
    Calls Try.prog 10 #[.slice A l.length c, .slice A' l'.length c'] w fun e w' => e = .returned (.bool true) ∧ Below w.heap.size w w' := by
  have HL := Aside0.mk hl
  have HC := Aside0.mk hc
  have HY := Aside0.mk hb
  have HL' := Aside0.mk hl'
  have HC' := Aside0.mk hc'
  have HY' := Aside0.mk hb'
  have HB := Aside0.mk (Below.refl w.heap.size w)
  clear hl hc hb hl' hc' hb'
  by_cases hlen : 1048576 < l.length ∨ 1048576 < l'.length
  · have hl1 : (1048576 : Int) < (l.length : Int) ∨ ¬ (1048576 : Int) < (l.length : Int) ∧ (1048576 : Int) < (l'.length : Int) := by omega
    clear hlen
    rcases hl1 with hl1 | ⟨hl1, hl2⟩
    all_goals
      go_enter Try.func10, Try.ntmps10
      go_wp2_with (fail)
      go_ret
      exact ⟨rfl, HB.out⟩
  have hl1 : ¬ (1048576 : Int) < (l.length : Int) := by omega
  have hl2 : ¬ (1048576 : Int) < (l'.length : Int) := by omega
  clear hlen
  go_enter Try.func10, Try.ntmps10
  go_upto_region 6 with (first | (go_at_call 41; go_must ((refine (drawGN_calls A c l _ (Kd.C_below HL.out HB.out) HC.out HY.out).mono ?_); rintro e u_ ⟨⟨A1, c1, ns, B1, d1, es, n, rfl, hgr_, hn_, he_⟩, hb⟩; have HGR := Aside0.mk hgr_; have HLN := Aside0.mk (And.intro hn_ he_); clear hgr_ hn_ he_; obtain ⟨N, hN_⟩ : ∃ y, nearG ns es n = y := ⟨_, rfl⟩; have HN := Aside0.mk hN_; clear hN_; replace HB := Aside0.mk (below_step HB.out hb); clear hb)) | ((with_reducible refine gate_dst (N := 5) rfl ?_); go_must ((refine w_new #[.slice none 0 0, .slice none 0 0] 26 rfl (by go_simp; (first | done | rfl)) ?_); intro g5 u_ hge_ hb0_ hb; have N5HGR := Aside0.mk (HGR.out.new hge_); have Hg5 := Aside0.mk (show w.heap.size + 0 ≤ g5 from by have hl0_ := HB.out.size; exact by omega); have L5 := Aside0.mk hb0_; replace HB := Aside0.mk (below_step HB.out hb); replace HGR := Aside0.mk (HGR.out.below hb); clear hge_ hb0_ hb; (try clear t5c0 t5c1); obtain ⟨t5c0, t5c1⟩ := cs2 (L5.out))) | ((with_reducible refine gate_dst (N := 6) rfl ?_); go_must ((refine w_new #[.int .i64 0, .int .i64 0] 28 rfl (by go_simp; (first | done | rfl)) ?_); intro g6 u_ hge_ hb0_ hb; have N6HGR := Aside0.mk (HGR.out.new hge_); have Hg6 := Aside0.mk (show w.heap.size + 0 ≤ g6 ∧ g5 < g6 from by have hl0_ := HB.out.size; have hl_g5 := blk_lt L5.out; exact ⟨by omega, by omega⟩); have L6 := Aside0.mk hb0_; replace HB := Aside0.mk (below_step HB.out hb); replace L5 := Aside0.mk (blk_below L5.out hb); replace HGR := Aside0.mk (HGR.out.below hb); clear hge_ hb0_ hb; (try clear t5c0 t5c1); obtain ⟨t5c0, t5c1⟩ := cs2 (L5.out); (try clear t6c0 t6c1); obtain ⟨t6c0, t6c1⟩ := cs2 (L6.out))) | ((with_reducible refine gate_store (p := 5) rfl ?_); go_must ((refine wpList_plain rfl fun K_ hK_ => wp_store_row _ _ _ rfl (g5) #[.slice A1 ns.length c1, .slice B1 es.length d1] rfl rfl _ _ L5.out (by kernel_rfl) rfl (by simp [Value.oneCell']) (hK_ _ _ ?_)); refine named _ ?_; intro wz hwz; replace HB := Aside0.mk (sb_ hwz HB.out (by have := Hg5.out; have := Hg6.out; omega)); replace L6 := Aside0.mk (so_ hwz L6.out (by have := Hg5.out; have := Hg6.out; omega)); replace L5 := Aside0.mk (sh_ hwz L5.out); replace HGR := Aside0.mk ((HGR.out).row hwz N5HGR.out.1 N5HGR.out.2); (try clear t5c0 t5c1); obtain ⟨t5c0, t5c1⟩ := cs2 (L5.out); (try clear t6c0 t6c1); obtain ⟨t6c0, t6c1⟩ := cs2 (L6.out); clear hwz)) | ((with_reducible refine gate_store (p := 6) rfl ?_); go_must ((refine wpList_plain rfl fun K_ hK_ => wp_store_row _ _ _ rfl (g6) #[.int .i64 n.lab, .int .i64 n.num] rfl rfl _ _ L6.out (by kernel_rfl) rfl (by simp [Value.oneCell']) (hK_ _ _ ?_)); refine named _ ?_; intro wz hwz; replace HB := Aside0.mk (sb_ hwz HB.out (by have := Hg5.out; have := Hg6.out; omega)); replace L5 := Aside0.mk (so_ hwz L5.out (by have := Hg5.out; have := Hg6.out; omega)); replace L6 := Aside0.mk (sh_ hwz L6.out); replace HGR := Aside0.mk ((HGR.out).row hwz N6HGR.out.1 N6HGR.out.2); (try clear t5c0 t5c1); obtain ⟨t5c0, t5c1⟩ := cs2 (L5.out); (try clear t6c0 t6c1); obtain ⟨t6c0, t6c1⟩ := cs2 (L6.out); clear hwz)) | (go_at_call 42; go_must ((refine (near_as A1 c1 ns B1 d1 es n N _ HGR.out HN.out).mono ?_); rintro e u_ ⟨A7, c7, rfl, hc_, hl_, hb⟩; have HC7 := Aside0.mk hc_; clear hc_ hl_; replace HB := Aside0.mk (below_step HB.out hb); replace L5 := Aside0.mk (blk_below L5.out hb); replace L6 := Aside0.mk (blk_below L6.out hb); replace HGR := Aside0.mk (HGR.out.below hb); (try clear t5c0 t5c1); obtain ⟨t5c0, t5c1⟩ := cs2 (L5.out); (try clear t6c0 t6c1); obtain ⟨t6c0, t6c1⟩ := cs2 (L6.out); clear hb)) | (go_at_call 43; go_must ((refine (sNear_as A1 c1 ns B1 d1 es n N _ HGR.out (by have := HLN.out; omega) HN.out).mono ?_); rintro e u_ ⟨A8, c8, rfl, hc_, hl_, hb⟩; have HC8 := Aside0.mk hc_; clear hc_ hl_; replace HB := Aside0.mk (below_step HB.out hb); replace L5 := Aside0.mk (blk_below L5.out hb); replace L6 := Aside0.mk (blk_below L6.out hb); replace HGR := Aside0.mk (HGR.out.below hb); replace HC7 := Aside0.mk (Kd.C_below (HC7.out) hb); (try clear t5c0 t5c1); obtain ⟨t5c0, t5c1⟩ := cs2 (L5.out); (try clear t6c0 t6c1); obtain ⟨t6c0, t6c1⟩ := cs2 (L6.out); clear hb)))
  have HNL := Aside0.mk (show N.length ≤ 100 by rw [← HN.out]; exact near_len n HLN.out.1)
  obtain ⟨vn, hvn⟩ : ∃ y, viewN ns es ((l'.length : Int) % 8) = y := ⟨_, rfl⟩
  obtain ⟨ve, hve⟩ : ∃ y, viewE ns es ((l'.length : Int) % 8) = y := ⟨_, rfl⟩
  obtain ⟨P, hP⟩ : ∃ y, nearG vn ve n = y := ⟨_, rfl⟩
  have HV := Aside0.mk (And.intro hvn hve)
  have HP := Aside0.mk hP
  have HPS := Aside0.mk (show ∀ x ∈ P, x ∈ N from fun x hx => by rw [← HN.out]; rw [← hP, ← hvn, ← hve] at hx; exact near_view hx)
  have HPN := Aside0.mk (show P.length ≤ N.length by rw [← HN.out, ← hP, ← hvn, ← hve]; exact near_view_le)
  clear hvn hve hP
  go_wp2_with (fail)
  go_loopw [9, 10, 11, 12] (fun s9 _ _ _ wr => ∃ j : Nat, j ≤ N.length ∧ s9 = .int .i64 (j : Int) ∧ Aside0 (kN.C wr A8 N.length N) ∧ NrS w g5 g6 A1 c1 ns B1 d1 es n A7 N wr) (fun s9 _ _ _ _ => (N.length - intOf s9).toNat)
  case atStart => exact ⟨0, Nat.zero_le _, rfl, HC8, ⟨L5.out, L6.out, HGR.out, HC7.out, HB.out⟩⟩
  case round =>
    clear L5 L6 HGR HC7 HC8 HB
    obtain ⟨j, hj, rfl, HC8, l5_, l6_, gr_, c7_, hb_⟩ := hrel
    have HJ := Aside0.mk hj
    clear hj
    have L5 := Aside0.mk l5_
    have L6 := Aside0.mk l6_
    have HGR := Aside0.mk gr_
    have HC7 := Aside0.mk c7_
    have HB := Aside0.mk hb_
    obtain ⟨t5c0, t5c1⟩ := cs2 (L5.out)
    obtain ⟨t6c0, t6c1⟩ := cs2 (L6.out)
    clear l5_ l6_ gr_ c7_ hb_
    by_cases hlt : j < N.length
    · have hjl : (j : Int) < (N.length : Int) := by omega
      have hj1 : j - 1 < N.length := by omega
      have hjm : (j : Int) ≤ 100 := by have := HNL.out; omega
      have HLT := Aside0.mk hlt
      have HXM := Aside0.mk (show at_ N j ∈ nearG ns es n by rw [HN.out]; exact at_mem hlt)
      have HAS := Aside0.mk (show 0 < j → codeI (at_ N (j - 1)) < codeI (at_ N j) from fun h0 => by have h := near_asc (ns := ns) (es := es) (n := n) h0 (by rw [HN.out]; exact hlt); rwa [HN.out] at h)
      obtain ⟨a7, e7, r0, r1⟩ := nd_at HC7.out j hlt
      cases e7
      obtain ⟨a7_, e7, t0, t1⟩ := nd_at HC7.out (j - 1) hj1
      cases e7
      obtain ⟨a8, e8, u0, u1⟩ := nd_at HC8.out j hlt
      cases e8
      obtain ⟨x, hx⟩ : ∃ y, at_ N j = y := ⟨_, rfl⟩
      have HX := Aside0.mk hx
      rw [hx] at r0 r1 u0 u1 HXM HAS
      clear hx
      generalize at_ N (j - 1) = y at t0 t1 HAS
      have hxn : (x.lab == n.lab && (x.num == n.num)) = false := (nd_eq x n).trans (decide_eq_false (near_ne HXM.out))
      obtain ⟨M, hM⟩ : ∃ m, nearG ns es x = m := ⟨_, rfl⟩
      have HM := Aside0.mk hM
      have HMN := Aside0.mk (show n ∈ M by rw [← hM]; exact near_back HXM.out)
      have HML := Aside0.mk (show M.length ≤ 100 by rw [← hM]; exact near_len x HLN.out.1)
      clear hM
      by_cases hj0 : 0 < j
      case' pos =>
        have hj0b : decide ((0 : Int) < (j : Int)) = true := decide_eq_true (by omega)
        have hw1 : IntKind.i64.wrap ((j : Int) - 1) = ((j - 1 : Nat) : Int) := by rw [IntKind.wrap_i64]; omega
        have hcb : decide (codeI x ≤ codeI y) = false := decide_eq_false (by have := HAS.out hj0; omega)
      case' neg => have hj0b : decide ((0 : Int) < (j : Int)) = false := decide_eq_false (by omega)
      all_goals
        go_wp2_with (fail)
        have ZL5 := L5
        have ZL6 := L6
        refine region_bp [] sNr11 (by kernel_rfl) sNr11_ok (by decide) (fun d _ _ _ _ h => by cases d <;> exact h) ?_
        intro u hb
        have hS := hb
        replace HB := Aside0.mk (below_step HB.out hb)
        replace L5 := Aside0.mk (blk_below L5.out hb)
        replace L6 := Aside0.mk (blk_below L6.out hb)
        replace HGR := Aside0.mk (HGR.out.below hb)
        replace HC7 := Aside0.mk (Kd.C_below (HC7.out) hb)
        replace HC8 := Aside0.mk (Kd.C_below (HC8.out) hb)
        (try clear t5c0 t5c1)
        obtain ⟨t5c0, t5c1⟩ := cs2 (L5.out)
        (try clear t6c0 t6c1)
        obtain ⟨t6c0, t6c1⟩ := cs2 (L6.out)
        clear hb
        repeat (first | (refine p_off hS gt_ (by rfl) ?_; intro a_ ha_; (simp only [Act.put, List.setIfInBounds_toArray, List.set_cons_zero, List.set_cons_succ] at ha_); subst ha_) | (refine p_on (v := ?_) hS gt_ (by rfl) ?_ ?_; rotate_left; (· rintro w_ hS_; obtain ⟨t5c0_, t5c1_⟩ := cs2 (blk_below ZL5.out hS_); obtain ⟨t6c0_, t6c1_⟩ := cs2 (blk_below ZL6.out hS_); have r0_ := pw_cell_below hS_ r0; have r1_ := pw_cell_below hS_ r1; have t0_ := pw_cell_below hS_ t0; have t1_ := pw_cell_below hS_ t1; have u0_ := pw_cell_below hS_ u0; have u1_ := pw_cell_below hS_ u1; go_simp; with_reducible rfl); intro a_ ha_; (simp only [Act.put, List.setIfInBounds_toArray, List.set_cons_zero, List.set_cons_succ] at ha_); subst ha_) | (refine p_poff gt_ (by rfl) ?_; intro a_ ha_; (simp only [Act.put, List.setIfInBounds_toArray, List.set_cons_zero, List.set_cons_succ] at ha_); subst ha_) | (refine p_pon (v := ?_) gt_ (by rfl) ?_ ?_; rotate_left; (· go_simp; with_reducible rfl); intro a_ ha_; (simp only [Act.put, List.setIfInBounds_toArray, List.set_cons_zero, List.set_cons_succ] at ha_); subst ha_) | (refine p_ooff hS gt_ (by rfl) ?_; intro a_ ha_; (simp only [Act.put, List.setIfInBounds_toArray, List.set_cons_zero, List.set_cons_succ] at ha_); subst ha_) | (refine p_loff gt_ (by rfl) ?_; intro a_ ha_; (simp only [Act.put, List.setIfInBounds_toArray, List.set_cons_zero, List.set_cons_succ] at ha_); subst ha_) | (refine p_call (f := 34) (args := #[.agg #[.int .i64 y.lab, .int .i64 y.num]]) Try.func34 (by kernel_rfl) rfl gt_ (by rfl) (by rfl) mp_ ?_; (refine (nodeCode_calls y _).mono ?_); rintro e_ u_ ⟨rfl, hb⟩; replace HB := Aside0.mk (below_step HB.out hb); replace L5 := Aside0.mk (blk_below L5.out hb); replace L6 := Aside0.mk (blk_below L6.out hb); replace HGR := Aside0.mk (HGR.out.below hb); replace HC7 := Aside0.mk (Kd.C_below (HC7.out) hb); replace HC8 := Aside0.mk (Kd.C_below (HC8.out) hb); (try clear t5c0 t5c1); obtain ⟨t5c0, t5c1⟩ := cs2 (L5.out); (try clear t6c0 t6c1); obtain ⟨t6c0, t6c1⟩ := cs2 (L6.out); replace hS := below_step hS hb; refine ⟨_, rfl, hS, fun a_ ha_ => ?_⟩; (simp only [Act.put, List.setIfInBounds_toArray, List.set_cons_zero, List.set_cons_succ] at ha_); subst ha_; clear hb) | (refine p_call (f := 34) (args := #[.agg #[.int .i64 x.lab, .int .i64 x.num]]) Try.func34 (by kernel_rfl) rfl gt_ (by rfl) (by rfl) mp_ ?_; (refine (nodeCode_calls x _).mono ?_); rintro e_ u_ ⟨rfl, hb⟩; replace HB := Aside0.mk (below_step HB.out hb); replace L5 := Aside0.mk (blk_below L5.out hb); replace L6 := Aside0.mk (blk_below L6.out hb); replace HGR := Aside0.mk (HGR.out.below hb); replace HC7 := Aside0.mk (Kd.C_below (HC7.out) hb); replace HC8 := Aside0.mk (Kd.C_below (HC8.out) hb); (try clear t5c0 t5c1); obtain ⟨t5c0, t5c1⟩ := cs2 (L5.out); (try clear t6c0 t6c1); obtain ⟨t6c0, t6c1⟩ := cs2 (L6.out); replace hS := below_step hS hb; refine ⟨_, rfl, hS, fun a_ ha_ => ?_⟩; (simp only [Act.put, List.setIfInBounds_toArray, List.set_cons_zero, List.set_cons_succ] at ha_); subst ha_; clear hb))
        refine p_fin ?_
        clear hS ZL5 ZL6
        clear r0 r1 t0 t1 u0 u1
        try clear hw1
        obtain ⟨a7_, e7_, r0, r1⟩ := nd_at HC7.out j (by have := HJ.out; omega)
        cases e7_
        rw [HX.out] at r0 r1
        go_wp2_with (fail)
        have ZL5 := L5
        have ZL6 := L6
        refine region_bp [] sNr13 (by kernel_rfl) sNr13_ok (by decide) (fun d _ _ _ _ h => by cases d <;> exact h) ?_
        intro u hb
        have hS := hb
        replace HB := Aside0.mk (below_step HB.out hb)
        replace L5 := Aside0.mk (blk_below L5.out hb)
        replace L6 := Aside0.mk (blk_below L6.out hb)
        replace HGR := Aside0.mk (HGR.out.below hb)
        replace HC7 := Aside0.mk (Kd.C_below (HC7.out) hb)
        replace HC8 := Aside0.mk (Kd.C_below (HC8.out) hb)
        (try clear t5c0 t5c1)
        obtain ⟨t5c0, t5c1⟩ := cs2 (L5.out)
        (try clear t6c0 t6c1)
        obtain ⟨t6c0, t6c1⟩ := cs2 (L6.out)
        clear hb
        repeat (first | (refine p_off hS gt_ (by rfl) ?_; intro a_ ha_; (simp only [Act.put, List.setIfInBounds_toArray, List.set_cons_zero, List.set_cons_succ] at ha_); subst ha_) | (refine p_on (v := ?_) hS gt_ (by rfl) ?_ ?_; rotate_left; (· rintro w_ hS_; obtain ⟨t5c0_, t5c1_⟩ := cs2 (blk_below ZL5.out hS_); obtain ⟨t6c0_, t6c1_⟩ := cs2 (blk_below ZL6.out hS_); have r0_ := pw_cell_below hS_ r0; have r1_ := pw_cell_below hS_ r1; go_simp; with_reducible rfl); intro a_ ha_; (simp only [Act.put, List.setIfInBounds_toArray, List.set_cons_zero, List.set_cons_succ] at ha_); subst ha_) | (refine p_poff gt_ (by rfl) ?_; intro a_ ha_; (simp only [Act.put, List.setIfInBounds_toArray, List.set_cons_zero, List.set_cons_succ] at ha_); subst ha_) | (refine p_pon (v := ?_) gt_ (by rfl) ?_ ?_; rotate_left; (· go_simp; with_reducible rfl); intro a_ ha_; (simp only [Act.put, List.setIfInBounds_toArray, List.set_cons_zero, List.set_cons_succ] at ha_); subst ha_) | (refine p_ooff hS gt_ (by rfl) ?_; intro a_ ha_; (simp only [Act.put, List.setIfInBounds_toArray, List.set_cons_zero, List.set_cons_succ] at ha_); subst ha_) | (refine p_loff gt_ (by rfl) ?_; intro a_ ha_; (simp only [Act.put, List.setIfInBounds_toArray, List.set_cons_zero, List.set_cons_succ] at ha_); subst ha_) | (refine p_call (f := 42) (args := #[.agg #[.slice A1 ns.length c1, .slice B1 es.length d1], .agg #[.int .i64 x.lab, .int .i64 x.num]]) Try.func42 (by kernel_rfl) rfl gt_ (by rfl) (by rfl) mp_ ?_; (refine (near_as A1 c1 ns B1 d1 es x M _ HGR.out HM.out).mono ?_); rintro e_ u_ ⟨A10, c10, rfl, hc_, hl_, hb⟩; have HC10 := Aside0.mk hc_; clear hc_ hl_; replace HB := Aside0.mk (below_step HB.out hb); replace L5 := Aside0.mk (blk_below L5.out hb); replace L6 := Aside0.mk (blk_below L6.out hb); replace HGR := Aside0.mk (HGR.out.below hb); replace HC7 := Aside0.mk (Kd.C_below (HC7.out) hb); replace HC8 := Aside0.mk (Kd.C_below (HC8.out) hb); (try clear t5c0 t5c1); obtain ⟨t5c0, t5c1⟩ := cs2 (L5.out); (try clear t6c0 t6c1); obtain ⟨t6c0, t6c1⟩ := cs2 (L6.out); replace hS := below_step hS hb; refine ⟨_, rfl, hS, fun a_ ha_ => ?_⟩; (simp only [Act.put, List.setIfInBounds_toArray, List.set_cons_zero, List.set_cons_succ] at ha_); subst ha_; clear hb))
        refine p_fin ?_
        clear hS ZL5 ZL6
        go_wp2_with (fail)
        go_loopw [11, 12] (fun s11 s12 wr => ∃ (k : Nat) (b : Bool), k ≤ M.length ∧ s11 = .bool b ∧ s12 = .int .i64 (k : Int) ∧ Aside0 (decide (n ∈ M.take k) = b) ∧ Aside0 (kN.C wr A10 M.length M) ∧ Aside0 (kN.C wr (some a8) N.length N) ∧ NrS w g5 g6 A1 c1 ns B1 d1 es n (some a7) N wr) (fun _ s12 _ => (M.length - intOf s12).toNat)
        case atStart => exact ⟨0, false, Nat.zero_le _, rfl, rfl, ⟨by simp⟩, HC10, HC8, ⟨L5.out, L6.out, HGR.out, HC7.out, HB.out⟩⟩
        case round =>
          clear L5 L6 HGR HC7 HC8 HC10 HB
          obtain ⟨k, b, hk, rfl, rfl, HBK, HC10, HC8, l5_, l6_, gr_, c7_, hb_⟩ := hrel
          have HK := Aside0.mk hk
          clear hk
          have L5 := Aside0.mk l5_
          have L6 := Aside0.mk l6_
          have HGR := Aside0.mk gr_
          have HC7 := Aside0.mk c7_
          have HB := Aside0.mk hb_
          obtain ⟨t5c0, t5c1⟩ := cs2 (L5.out)
          obtain ⟨t6c0, t6c1⟩ := cs2 (L6.out)
          clear l5_ l6_ gr_ c7_ hb_
          by_cases hkt : k < M.length
          · have hkl : (k : Int) < (M.length : Int) := by omega
            have hkm : (k : Int) ≤ 100 := by have := HML.out; omega
            have HKT := Aside0.mk hkt
            have HTK := Aside0.mk (take_snN hkt)
            obtain ⟨a10, e10, z0, z1⟩ := nd_at HC10.out k hkt
            cases e10
            generalize at_ M k = z at z0 z1 HTK
            have HNZ := Aside0.mk (show decide (n ∈ M.take (k + 1)) = (b || (z.lab == n.lab && (z.num == n.num))) by rw [HTK.out, mem_snoc, HBK.out, nd_eq])
            cases b
            all_goals
              go_wp2_with (fail)
              have ZL5 := L5
              have ZL6 := L6
              refine region_bp [] sNr18 (by kernel_rfl) sNr18_ok (by decide) (fun d _ _ _ _ h => by cases d <;> exact h) ?_
              intro u hb
              have hS := hb
              replace HB := Aside0.mk (below_step HB.out hb)
              replace L5 := Aside0.mk (blk_below L5.out hb)
              replace L6 := Aside0.mk (blk_below L6.out hb)
              replace HGR := Aside0.mk (HGR.out.below hb)
              replace HC7 := Aside0.mk (Kd.C_below (HC7.out) hb)
              replace HC8 := Aside0.mk (Kd.C_below (HC8.out) hb)
              replace HC10 := Aside0.mk (Kd.C_below (HC10.out) hb)
              (try clear t5c0 t5c1)
              obtain ⟨t5c0, t5c1⟩ := cs2 (L5.out)
              (try clear t6c0 t6c1)
              obtain ⟨t6c0, t6c1⟩ := cs2 (L6.out)
              clear hb
              repeat (first | (refine p_off hS gt_ (by rfl) ?_; intro a_ ha_; (simp only [Act.put, List.setIfInBounds_toArray, List.set_cons_zero, List.set_cons_succ] at ha_); subst ha_) | (refine p_on (v := ?_) hS gt_ (by rfl) ?_ ?_; rotate_left; (· rintro w_ hS_; obtain ⟨t5c0_, t5c1_⟩ := cs2 (blk_below ZL5.out hS_); obtain ⟨t6c0_, t6c1_⟩ := cs2 (blk_below ZL6.out hS_); have z0_ := pw_cell_below hS_ z0; have z1_ := pw_cell_below hS_ z1; go_simp; with_reducible rfl); intro a_ ha_; (simp only [Act.put, List.setIfInBounds_toArray, List.set_cons_zero, List.set_cons_succ] at ha_); subst ha_) | (refine p_poff gt_ (by rfl) ?_; intro a_ ha_; (simp only [Act.put, List.setIfInBounds_toArray, List.set_cons_zero, List.set_cons_succ] at ha_); subst ha_) | (refine p_pon (v := ?_) gt_ (by rfl) ?_ ?_; rotate_left; (· go_simp; with_reducible rfl); intro a_ ha_; (simp only [Act.put, List.setIfInBounds_toArray, List.set_cons_zero, List.set_cons_succ] at ha_); subst ha_) | (refine p_ooff hS gt_ (by rfl) ?_; intro a_ ha_; (simp only [Act.put, List.setIfInBounds_toArray, List.set_cons_zero, List.set_cons_succ] at ha_); subst ha_) | (refine p_loff gt_ (by rfl) ?_; intro a_ ha_; (simp only [Act.put, List.setIfInBounds_toArray, List.set_cons_zero, List.set_cons_succ] at ha_); subst ha_))
              refine p_fin ?_
              clear hS ZL5 ZL6
              go_wp2_with (fail)
              go_roundw
              case rel => exact ⟨k + 1, _, HKT.out, by first | rfl | simp, by go_num, ⟨HNZ.out⟩, HC10, HC8, ⟨L5.out, L6.out, HGR.out, HC7.out, HB.out⟩⟩
              case measure => simp [intOf]; omega
          · have hkl : ¬ (k : Int) < (M.length : Int) := by omega
            obtain rfl : k = M.length := by have := HK.out; omega
            have hbt : b = true := by
              rw [← HBK.out, List.take_length]
              exact decide_eq_true HMN.out
            subst hbt
            go_wp2_with (fail)
            go_roundw
            case rel => exact ⟨j + 1, by have := HLT.out; omega, by go_num, HC8, ⟨L5.out, L6.out, HGR.out, HC7.out, HB.out⟩⟩
            case measure => simp [intOf]; have := HLT.out; omega

    · have hjl : ¬ (j : Int) < (N.length : Int) := by omega
      clear HC8
      go_upto_region 22 with (first | (go_at_call 39; go_must ((refine (view_as A1 c1 ns B1 d1 es ((l'.length : Int) % 8) vn ve _ HGR.out HV.out).mono ?_); rintro e u_ ⟨A9, c9, B9, d9, rfl, hg_, hb⟩; have HGV := Aside0.mk hg_; clear hg_; replace HB := Aside0.mk (below_step HB.out hb); replace L5 := Aside0.mk (blk_below L5.out hb); replace L6 := Aside0.mk (blk_below L6.out hb); replace HGR := Aside0.mk (HGR.out.below hb); replace HC7 := Aside0.mk (Kd.C_below (HC7.out) hb); (try clear t5c0 t5c1); obtain ⟨t5c0, t5c1⟩ := cs2 (L5.out); (try clear t6c0 t6c1); obtain ⟨t6c0, t6c1⟩ := cs2 (L6.out); clear hb)) | ((with_reducible refine gate_dst (N := 13) rfl ?_); go_must ((refine w_new #[.slice none 0 0, .slice none 0 0] 26 rfl (by go_simp; (first | done | rfl)) ?_); intro g13 u_ hge_ hb0_ hb; have N13HC7 := Aside0.mk (C_new HC7.out hge_); have N13HGR := Aside0.mk (HGR.out.new hge_); have N13HGV := Aside0.mk (HGV.out.new hge_); have Hg13 := Aside0.mk (show w.heap.size + 0 ≤ g13 ∧ g5 < g13 ∧ g6 < g13 from by have hl0_ := HB.out.size; have hl_g5 := blk_lt L5.out; have hl_g6 := blk_lt L6.out; exact ⟨by omega, by omega, by omega⟩); have L13 := Aside0.mk hb0_; replace HB := Aside0.mk (below_step HB.out hb); replace L5 := Aside0.mk (blk_below L5.out hb); replace L6 := Aside0.mk (blk_below L6.out hb); replace HGR := Aside0.mk (HGR.out.below hb); replace HC7 := Aside0.mk (Kd.C_below (HC7.out) hb); replace HGV := Aside0.mk (HGV.out.below hb); clear hge_ hb0_ hb; (try clear t5c0 t5c1); obtain ⟨t5c0, t5c1⟩ := cs2 (L5.out); (try clear t6c0 t6c1); obtain ⟨t6c0, t6c1⟩ := cs2 (L6.out); (try clear t13c0 t13c1); obtain ⟨t13c0, t13c1⟩ := cs2 (L13.out))) | ((with_reducible refine gate_store (p := 13) rfl ?_); go_must ((refine wpList_plain rfl fun K_ hK_ => wp_store_row _ _ _ rfl (g13) #[.slice A9 vn.length c9, .slice B9 ve.length d9] rfl rfl _ _ L13.out (by kernel_rfl) rfl (by simp [Value.oneCell']) (hK_ _ _ ?_)); refine named _ ?_; intro wz hwz; replace HB := Aside0.mk (sb_ hwz HB.out (by have := Hg13.out; omega)); replace L5 := Aside0.mk (so_ hwz L5.out (by have := Hg13.out; omega)); replace L6 := Aside0.mk (so_ hwz L6.out (by have := Hg13.out; omega)); replace L13 := Aside0.mk (sh_ hwz L13.out); replace HGR := Aside0.mk ((HGR.out).row hwz N13HGR.out.1 N13HGR.out.2); replace HC7 := Aside0.mk (C_row (HC7.out) hwz N13HC7.out); replace HGV := Aside0.mk ((HGV.out).row hwz N13HGV.out.1 N13HGV.out.2); (try clear t5c0 t5c1); obtain ⟨t5c0, t5c1⟩ := cs2 (L5.out); (try clear t6c0 t6c1); obtain ⟨t6c0, t6c1⟩ := cs2 (L6.out); (try clear t13c0 t13c1); obtain ⟨t13c0, t13c1⟩ := cs2 (L13.out); clear hwz)))
      clear HGR L5
      go_wp2_with (first | (go_at_call 42; go_must ((refine (near_as A9 c9 vn B9 d9 ve n P _ HGV.out HP.out).mono ?_); rintro e u_ ⟨A14, c14, rfl, hc_, hl_, hb⟩; have HC14 := Aside0.mk hc_; clear hc_ hl_; replace HB := Aside0.mk (below_step HB.out hb); replace L6 := Aside0.mk (blk_below L6.out hb); replace L13 := Aside0.mk (blk_below L13.out hb); replace HC7 := Aside0.mk (Kd.C_below (HC7.out) hb); replace HGV := Aside0.mk (HGV.out.below hb); (try clear t6c0 t6c1); obtain ⟨t6c0, t6c1⟩ := cs2 (L6.out); (try clear t13c0 t13c1); obtain ⟨t13c0, t13c1⟩ := cs2 (L13.out); clear hb)))
      go_loopw [15, 16, 17] (fun s15 _ _ wr => ∃ j : Nat, j ≤ P.length ∧ s15 = .int .i64 (j : Int) ∧ Aside0 (kN.C wr A7 N.length N) ∧ Aside0 (kN.C wr A14 P.length P) ∧ Aside0 (Below w.heap.size w wr)) (fun s15 _ _ _ => (P.length - intOf s15).toNat)
      case atStart => exact ⟨0, Nat.zero_le _, rfl, HC7, HC14, HB⟩
      case round =>
        clear HC7 HC14 HB L6 L13 HGV
        obtain ⟨j, hj, rfl, HC7, HC14, HB⟩ := hrel
        have HJ := Aside0.mk hj
        clear hj
        by_cases hlt : j < P.length
        · have hjl : (j : Int) < (P.length : Int) := by omega
          have hjm : (j : Int) ≤ 100 := by have := HPN.out; have := HNL.out; omega
          have HLT := Aside0.mk hlt
          have hym : at_ P j ∈ N := HPS.out _ (at_mem hlt)
          obtain ⟨a14, e14, p0, p1⟩ := nd_at HC14.out j hlt
          cases e14
          obtain ⟨y, hy⟩ : ∃ x, at_ P j = x := ⟨_, rfl⟩
          have HY := Aside0.mk hy
          rw [hy] at p0 p1 hym
          have HYN := Aside0.mk hym
          clear hy hym
          go_wp2_with (fail)
          go_loopw [16, 17] (fun s16 s17 wr => ∃ (k : Nat) (b : Bool), k ≤ N.length ∧ s16 = .bool b ∧ s17 = .int .i64 (k : Int) ∧ Aside0 (decide (y ∈ N.take k) = b) ∧ Aside0 (kN.C wr A7 N.length N) ∧ Aside0 (kN.C wr (some a14) P.length P) ∧ Aside0 (Below w.heap.size w wr)) (fun _ s17 _ => (N.length - intOf s17).toNat)
          case atStart => exact ⟨0, false, Nat.zero_le _, rfl, rfl, ⟨by simp⟩, HC7, HC14, HB⟩
          case round =>
            clear HC7 HC14 HB p0 p1
            obtain ⟨k, b, hk, rfl, rfl, HBK, HC7, HC14, HB⟩ := hrel
            have HK := Aside0.mk hk
            clear hk
            obtain ⟨a14_, e14, p0, p1⟩ := nd_at HC14.out j (by have := HLT.out; omega)
            cases e14
            rw [HY.out] at p0 p1
            by_cases hkt : k < N.length
            · have hkl : (k : Int) < (N.length : Int) := by omega
              have hkm : (k : Int) ≤ 100 := by have := HNL.out; omega
              have HKT := Aside0.mk hkt
              have HTK := Aside0.mk (take_snN hkt)
              obtain ⟨a7, e7, z0, z1⟩ := nd_at HC7.out k hkt
              cases e7
              generalize at_ N k = z at z0 z1 HTK
              have HNZ := Aside0.mk (show decide (y ∈ N.take (k + 1)) = (b || (z.lab == y.lab && (z.num == y.num))) by rw [HTK.out, mem_snoc, HBK.out, nd_eq])
              cases b
              all_goals
                go_wp2_with (fail)
                refine region_bp [] sNr30 (by kernel_rfl) sNr30_ok (by decide) (fun d _ _ _ _ h => by cases d <;> exact h) ?_
                intro u hb
                have hS := hb
                replace HB := Aside0.mk (below_step HB.out hb)
                replace HC7 := Aside0.mk (Kd.C_below (HC7.out) hb)
                replace HC14 := Aside0.mk (Kd.C_below (HC14.out) hb)
                clear hb
                repeat (first | (refine p_off hS gt_ (by rfl) ?_; intro a_ ha_; (simp only [Act.put, List.setIfInBounds_toArray, List.set_cons_zero, List.set_cons_succ] at ha_); subst ha_) | (refine p_on (v := ?_) hS gt_ (by rfl) ?_ ?_; rotate_left; (· rintro w_ hS_; have z0_ := pw_cell_below hS_ z0; have z1_ := pw_cell_below hS_ z1; have p0_ := pw_cell_below hS_ p0; have p1_ := pw_cell_below hS_ p1; go_simp; with_reducible rfl); intro a_ ha_; (simp only [Act.put, List.setIfInBounds_toArray, List.set_cons_zero, List.set_cons_succ] at ha_); subst ha_) | (refine p_poff gt_ (by rfl) ?_; intro a_ ha_; (simp only [Act.put, List.setIfInBounds_toArray, List.set_cons_zero, List.set_cons_succ] at ha_); subst ha_) | (refine p_pon (v := ?_) gt_ (by rfl) ?_ ?_; rotate_left; (· go_simp; with_reducible rfl); intro a_ ha_; (simp only [Act.put, List.setIfInBounds_toArray, List.set_cons_zero, List.set_cons_succ] at ha_); subst ha_) | (refine p_ooff hS gt_ (by rfl) ?_; intro a_ ha_; (simp only [Act.put, List.setIfInBounds_toArray, List.set_cons_zero, List.set_cons_succ] at ha_); subst ha_) | (refine p_loff gt_ (by rfl) ?_; intro a_ ha_; (simp only [Act.put, List.setIfInBounds_toArray, List.set_cons_zero, List.set_cons_succ] at ha_); subst ha_))
                refine p_fin ?_
                clear hS 
                clear p0 p1
                go_wp2_with (fail)
                go_roundw
                case rel => exact ⟨k + 1, _, HKT.out, by first | rfl | simp, by go_num, ⟨HNZ.out⟩, HC7, HC14, HB⟩
                case measure => simp [intOf]; omega
            · have hkl : ¬ (k : Int) < (N.length : Int) := by omega
              obtain rfl : k = N.length := by have := HK.out; omega
              have hbt : b = true := by
                rw [← HBK.out, List.take_length]
                exact decide_eq_true HYN.out
              subst hbt
              go_wp2_with (fail)
              go_roundw
              case rel => exact ⟨j + 1, by have := HLT.out; omega, by go_num, HC7, HC14, HB⟩
              case measure => simp [intOf]; have := HLT.out; omega

        · have hjl : ¬ (j : Int) < (P.length : Int) := by omega
          have hpl : (P.length : Int) ≤ (N.length : Int) := by have := HPN.out; omega
          go_wp2_with (fail)
          go_ret
          exact ⟨by simp <;> omega, HB.out⟩


end Go.Proofs.Ytogmbeifbjgphaa.R
