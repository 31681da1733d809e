/- The reference: l3Dist. -/
import Derived.Test.YtogmbeifbjgphaaJB28
namespace Go.Proofs.Ytogmbeifbjgphaa.R
open Go.RowKit Go.Proofs.YtogmbeifbjgphaaV.PrintWords Go.Proofs.YtogmbeifbjgphaaV.PrintLast Go.Proofs.YtogmbeifbjgphaaV.PrintMore Go.Proofs.Ytogmbeifbjgphaa.M
set_option linter.unusedVariables false
set_option linter.unusedSimpArgs false
attribute [local go_sem high] eqN eqE
abbrev sLd11 : Pl := (.tk 0 (.tk 1 (.tk 2 (.tk 3 (.tk 4 (.nd .one 5 (.tk 6 .fin)))))))
theorem sLd11_ok : planB .any (opsOf Try.f135 11) [] sLd11 (Array.replicate (opsOf Try.f135 11).size false) = true := by kernel_rfl
abbrev sLd12 : Pl := (.tk 0 (.tk 1 (.tk 2 (.tk 3 (.tk 4 (.tk 5 (.nd .one 6 (.tk 7 (.tk 8 (.tk 9 .fin))))))))))
theorem sLd12_ok : planB .any (opsOf Try.f135 12) [] sLd12 (Array.replicate (opsOf Try.f135 12).size false) = true := by kernel_rfl
abbrev sLd16 : Pl := (.tk 0 (.tk 1 (.tk 2 (.tk 3 (.tk 4 (.nd .one 5 (.tk 6 .fin)))))))
theorem sLd16_ok : planB .any (opsOf Try.f135 16) [] sLd16 (Array.replicate (opsOf Try.f135 16).size false) = true := by kernel_rfl
def tds (ns : List Nd) (q : List Nat) : List Nd := q.map (at_ ns)
theorem tds_len (ns : List Nd) (q : List Nat) : (tds ns q).length = q.length := List.length_map _
theorem tds_snoc (ns : List Nd) (q : List Nat) (v : Nat) : tds ns (q ++ [v]) = tds ns q ++ [at_ ns v] := by simp [tds]
theorem tds_get (ns : List Nd) {q : List Nat} {k : Nat} (hk : k < q.length) : at_ (tds ns q) k = at_ ns q[k] := by
  rw [at_lt (by rw [tds_len]; exact hk)]
  simp [tds]
section
variable {e : TypeId} {w : World} {b g n c : Nat} {ok : Nat → Prop} {xs : List Int}
theorem outAt (ho : (Kd.int .i64).R e w b ok (.slice (some ⟨g, 0, none⟩) n c) xs) (j : Nat) (hj : j < n) : w.cell? ⟨g, j, none⟩ = some (.int .i64 (gt xs j)) ∧ w.frozen? ⟨g, j, none⟩ = false := by
  have h := Kd.R_celln 0 ho (j : Int) (by omega) (by omega)
  rw [Int.toNat_natCast] at h
  exact h
theorem outPut (ho : (Kd.int .i64).R e w b ok (.slice (some ⟨g, 0, none⟩) n c) xs) (j : Nat) (v : Int) : (Kd.int .i64).R e (w.setCell ⟨g, j, none⟩ (.int .i64 v)) b ok (.slice (some ⟨g, 0, none⟩) n c) (xs.set j v) := by
  have h := Kd.R_putn ho (j : Int) v
  rw [Int.toNat_natCast] at h
  exact h
theorem sepIN {b' : Nat} {ok' : Nat → Prop} {v : Value} {ys : List Nd} (ho : (Kd.int .i64).R 3 w b ok (.slice (some ⟨g, 0, none⟩) n c) xs) (ht : kN.R 28 w b' ok' v ys) : some g ≠ v.ownBlock := by
  obtain ⟨cells, hc⟩ := Kd.R_typed ho g rfl
  exact Kd.R_ne ht hc (by decide)
theorem one_R {w : World} {g base : Nat} {x : Nd} (h : w.heap[g]? = some (.cells #[.int .i64 x.lab, .int .i64 x.num] 28 (0, 0))) (hb : base ≤ g) : kN.R 28 w base (fun _ => True) (.slice (some ⟨g, 0, none⟩) 1 1) [x] := by
  refine ⟨fun _ _ => trivial, cN x, ⟨rfl, .inr ⟨g, 1, _, rfl, hb, h, Nat.le_refl _, by decide, rfl, rfl⟩⟩, ⟨rfl, fun j p hj => ?_⟩⟩
  obtain ⟨rfl, rfl⟩ : j = 0 ∧ x = p := by
    match j, hj with
    | 0, hj => exact ⟨rfl, Option.some.inj hj⟩
  exact kN_mkM w base _ x
end
/-- A list of nodes that is read does not lie in the block of one that grows. -/
def NE9 (A : Option Addr) (l : Nat) (w : World) (v : Value) : Prop := 0 < l → ∀ ad, A = some ad → ad.block < w.heap.size ∧ ∀ k, v.ownBlock = some k → ad.block ≠ k
theorem NE9.size {A : Option Addr} {l : Nat} {w u : World} {v : Value} (h : NE9 A l w v) (hs : w.heap.size ≤ u.heap.size) : NE9 A l u v := fun hn ad e => ⟨Nat.lt_of_lt_of_le (h hn ad e).1 hs, (h hn ad e).2⟩
theorem NE9.app {A : Option Addr} {l : Nat} {w u : World} {v v' : Value} (h : NE9 A l w v) (hs : w.heap.size ≤ u.heap.size) (ho : v'.ownBlock = v.ownBlock ∨ ∃ b, v'.ownBlock = some b ∧ w.heap.size ≤ b) : NE9 A l u v' := fun hn ad e => ⟨Nat.lt_of_lt_of_le (h hn ad e).1 hs, fun k hk => by
  rcases ho with e2 | ⟨b2, e2, hb2⟩
  · exact (h hn ad e).2 k (e2.symm.trans hk)
  · have h8 := (h hn ad e).1
    rw [e2] at hk
    have h9 := Option.some.inj hk
    omega⟩
theorem near_asG {ns : List Nd} {es : List Eg} {n : Nd} {m : List Nd} (hm : nearG ns es n = m) (A : Option Addr) (c : Nat) (B : Option Addr) (d : Nat) (w : World) (hr : GR w A c ns B d es) (hg : OkG ns es) :
    Calls Try.prog 116 #[.agg #[.slice A ns.length c, .slice B es.length d], .agg #[.int .i64 n.lab, .int .i64 n.num]] w fun e w' => ∃ A' c', e = .returned (.slice A' m.length c') ∧ kN.C w' A' m.length m ∧ m.length ≤ c' ∧ (∀ ad, A' = some ad → w.heap.size ≤ ad.block) ∧ Below w.heap.size w w' := by
  rw [← hm]
  exact l2Near_callsF A c ns B d es n w hr hg
theorem place_as {ns : List Nd} {es : List Eg} {n : Nd} {k : Nat} (hk : placeI ns n = (k : Int)) (A : Option Addr) (c : Nat) (B : Option Addr) (d : Nat) (w : World) (hr : GR w A c ns B d es) (hg : OkG ns es) :
    Calls Try.prog 101 #[.agg #[.slice A ns.length c, .slice B es.length d], .agg #[.int .i64 n.lab, .int .i64 n.num]] w fun e w' => e = .returned (.int .i64 (k : Int)) ∧ Below w.heap.size w w' := by
  rw [← hk]
  exact atP_calls A c ns B d es n w hr.cn hg
def LdF (w : World) (A : Option Addr) (c : Nat) (ns : List Nd) (B : Option Addr) (d : Nat) (es : List Eg) (x : Nd) (s5 s6 : Value) (wr : World) : Prop :=
  ∃ (k : Nat) (A5 : Option Addr) (c5 : Nat), k ≤ ns.length ∧ s5 = .slice A5 k c5 ∧ s6 = .int .i64 (k : Int) ∧ (Kd.int .i64).R 3 wr (w.heap.size + 2) (fun _ => True) (.slice A5 k c5) (List.replicate k (-1 : Int)) ∧ wr.heap[w.heap.size]? = some (.cells #[.slice A ns.length c, .slice B es.length d] 26 (0, 0)) ∧ wr.heap[w.heap.size + 1]? = some (.cells #[.int .i64 x.lab, .int .i64 x.num] 28 (0, 0)) ∧ Below w.heap.size w wr
def LdO (w : World) (A : Option Addr) (c : Nat) (ns : List Nd) (B : Option Addr) (d : Nat) (es : List Eg) (x : Nd) (s g5 c5 : Nat) (s7 s8 : Value) (wr : World) : Prop :=
  ∃ (st : List Int) (q : List Nat) (next : Nat) (A7 : Option Addr) (c7 : Nat), Bfs (adjI ns es) ns.length s st q next [] ∧ (∀ u, gt st u ≤ (q.length : Nat)) ∧ next ≤ q.length ∧ s7 = .slice A7 (tds ns q).length c7 ∧ s8 = .int .i64 (next : Int) ∧ (Kd.int .i64).R 3 wr (w.heap.size + 2) (fun _ => True) (.slice (some ⟨g5, 0, none⟩) ns.length c5) st ∧ kN.R 28 wr (w.heap.size + 2) (fun _ => True) (.slice A7 (tds ns q).length c7) (tds ns q) ∧ wr.heap[w.heap.size]? = some (.cells #[.slice A ns.length c, .slice B es.length d] 26 (0, 0)) ∧ wr.heap[w.heap.size + 1]? = some (.cells #[.int .i64 x.lab, .int .i64 x.num] 28 (0, 0)) ∧ Below w.heap.size w wr
def LdI (w : World) (A : Option Addr) (c : Nat) (ns : List Nd) (B : Option Addr) (d : Nat) (es : List Eg) (x : Nd) (s g5 c5 next cu : Nat) (A9 : Option Addr) (m : List Nd) (y1 : Int) (s7 s11 : Value) (wr : World) : Prop :=
  ∃ (st : List Int) (q : List Nat) (k : Nat) (A7 : Option Addr) (c7 : Nat), Bfs (adjI ns es) ns.length s st q next ((nearI (adjI ns es) ns.length cu).take k) ∧ (∀ u, gt st u ≤ (q.length : Nat)) ∧ q[next]? = some cu ∧ k ≤ m.length ∧ s7 = .slice A7 (tds ns q).length c7 ∧ s11 = .int .i64 (k : Int) ∧ (Kd.int .i64).R 3 wr (w.heap.size + 2) (fun _ => True) (.slice (some ⟨g5, 0, none⟩) ns.length c5) st ∧ kN.R 28 wr (w.heap.size + 2) (fun _ => True) (.slice A7 (tds ns q).length c7) (tds ns q) ∧ kN.C wr A9 m.length m ∧ NE9 A9 m.length wr (.slice A7 (tds ns q).length c7) ∧ gt st cu = y1 ∧ wr.heap[w.heap.size]? = some (.cells #[.slice A ns.length c, .slice B es.length d] 26 (0, 0)) ∧ wr.heap[w.heap.size + 1]? = some (.cells #[.int .i64 x.lab, .int .i64 x.num] 28 (0, 0)) ∧ Below w.heap.size w wr
set_option maxHeartbeats 25600000 in
set_option maxRecDepth 100000 in
theorem l3Dist_calls (A : Option Addr) (c : Nat) (ns : List Nd) (B : Option Addr) (d : Nat) (es : List Eg) (x : Nd) (w : World) (hr : GR w A c ns B d es) (hg : OkG ns es) (hx : x ∈ ns) :
    Calls Try.prog 135 #[.agg #[.slice A ns.length c, .slice B es.length d], .agg #[.int .i64 x.lab, .int .i64 x.num]] w fun e w' => RetI w.heap.size (distL (adjI ns es) ns.length (idx ns x)) e w' ∧ Below w.heap.size w w' := by
  have HR := Aside0.mk hr
  have HOG := Aside0.mk hg
  have HLN := Aside0.mk (show ns.length ≤ 40 from (NsOk.mk hg.nok hg.nasc hg.nfew).len)
  have HPX := Aside0.mk (placeI_in hx)
  have HSN := Aside0.mk (idx_lt hx)
  have HAX := Aside0.mk (at_idx hx)
  clear hr hg hx
  obtain ⟨s, hs⟩ : ∃ s, idx ns x = s := ⟨_, rfl⟩
  rw [hs] at HPX HSN HAX
  rw [hs]
  clear hs
  have hsn : (s : Int) < (ns.length : Int) := by have := HSN.out; omega
  obtain ⟨L0, L1, HB⟩ := al2 w #[.slice A ns.length c, .slice B es.length d] #[.int .i64 x.lab, .int .i64 x.num] 26 28
  go_enter Try.func135, Try.ntmps135
  go_wp2_with (first | ((with_reducible refine gate_dst (N := 13) rfl ?_); go_must ((refine w_lit #[] 3 0 rfl (by go_simp; (first | done | rfl)) ?_); intro g5 u_ hge_ hb0_ hb; have H5 := Aside0.mk (show w.heap.size + 2 ≤ g5 from Nat.le_trans (blk_lt L1.out) hge_); have HL5 := Aside0.mk (show Rw (Value.int .i64) 3 u_ g5 [] from hb0_); replace HB := Aside0.mk (below_step HB.out hb); replace L0 := Aside0.mk (blk_below L0.out hb); replace L1 := Aside0.mk (blk_below L1.out hb); (try clear c0 c1); obtain ⟨c0, c1⟩ := cs2 (L0.out); (try clear e0 e1); obtain ⟨e0, e1⟩ := cs2 (L1.out); clear hge_ hb0_ hb)))
  go_loopw [5, 6] (fun s5 s6 wr => LdF w A c ns B d es x s5 s6 wr) (fun _ s6 _ => (ns.length - intOf s6).toNat)
  case atStart => exact ⟨0, some ⟨g5, 0, none⟩, 0, Nat.zero_le _, rfl, rfl, HL5.out.own (fun _ => rfl) H5.out (by simp), L0.out, L1.out, HB.out⟩
  case round =>
    clear HB L0 L1 HL5 H5
    obtain ⟨k, A5, c5, hk, rfl, rfl, hro_, l0_, l1_, hb_⟩ := hrel
    have HK := Aside0.mk hk
    have HRO := Aside0.mk hro_
    have L0 := Aside0.mk l0_
    have L1 := Aside0.mk l1_
    have HB := Aside0.mk hb_
    obtain ⟨c0, c1⟩ := cs2 (L0.out)
    obtain ⟨e0, e1⟩ := cs2 (L1.out)
    clear hk hro_ l0_ l1_ hb_
    by_cases hlt : k < ns.length
    · have hkl : (k : Int) < (ns.length : Int) := by omega
      have HKL := Aside0.mk hlt
      have hk40 : (k : Int) < 40 := by have := HLN.out; omega
      clear hlt
      go_wp2_with (first | ((with_reducible refine gate_dst (N := 22) rfl ?_); go_must ((refine w_lit #[.int .i64 (-1)] 3 1 rfl (by go_simp; (first | done | rfl)) ?_); intro gl u_ hge_ hb0_ hb; have LT := Aside0.mk hb0_; replace HB := Aside0.mk (below_step HB.out hb); replace L0 := Aside0.mk (blk_below L0.out hb); replace L1 := Aside0.mk (blk_below L1.out hb); replace HRO := Aside0.mk (Kd.R_below (HRO.out) hb); (try clear c0 c1); obtain ⟨c0, c1⟩ := cs2 (L0.out); (try clear e0 e1); obtain ⟨e0, e1⟩ := cs2 (L1.out); clear hge_ hb0_ hb)) | ((with_reducible refine gate_builtin (b := .append) rfl ?_); go_must ((refine w_append (flatI .i64) (base := w.heap.size + 2) (e := 3) (.int .i64 0) 8 (.slice A5 k c5) (List.replicate k (-1 : Int)) [(-1 : Int)] rfl rfl Try.underlying58 (by kernel_rfl) rfl (by decide) HRO.out (C_lit [(-1 : Int)] LT.out rfl (by simp)) rfl rfl (blk_lt L1.out) (by have := HLN.out; have := HKL.out; simp only [List.length_replicate, List.length_singleton]; omega) ?_); intro B9 n9 p9 wt hn9_ hp9_ hr_ hg_ ho_; obtain rfl : n9 = (List.replicate k (-1 : Int) ++ [(-1 : Int)]).length := hn9_; have HR9 := Aside0.mk hr_; replace L0 := Aside0.mk (gw_blk hg_ L0.out (fun e => by have := Kd.R_base HRO.out _ e.symm; omega)); replace L1 := Aside0.mk (gw_blk hg_ L1.out (fun e => by have := Kd.R_base HRO.out _ e.symm; omega)); (try clear c0 c1); obtain ⟨c0, c1⟩ := cs2 (L0.out); (try clear e0 e1); obtain ⟨e0, e1⟩ := cs2 (L1.out); replace HB := Aside0.mk (HB.out.grown hg_ HB.out.size (fun k hk => by have := Kd.R_base HRO.out k hk; omega)); clear hp9_ hr_ hg_ ho_ HRO)))
      go_roundw
      case rel => exact ⟨k + 1, B9, p9, HKL.out, rfl, by go_num, by have h := HR9.out; rw [List.length_append, List.length_replicate, ← List.replicate_succ'] at h; exact h, L0.out, L1.out, HB.out⟩
      case measure => have := HKL.out; simp [intOf]; omega
    · have hkl : ¬ (k : Int) < (ns.length : Int) := by omega
      obtain rfl : k = ns.length := by have := HK.out; omega
      clear hlt
      obtain ⟨g5, rfl⟩ := own_addrI HRO.out (by have := HSN.out; omega)
      go_wp2_with (first | ((with_reducible refine gate_dst (N := 25) rfl ?_); go_must ((refine w_lit #[.int .i64 x.lab, .int .i64 x.num] 28 1 rfl (by go_simp; (first | done | rfl)) ?_); intro g7 u_ hge_ hb0_ hb; have HL7 := Aside0.mk (one_R (base := w.heap.size + 2) hb0_ (Nat.le_trans (blk_lt L1.out) hge_)); replace HB := Aside0.mk (below_step HB.out hb); replace L0 := Aside0.mk (blk_below L0.out hb); replace L1 := Aside0.mk (blk_below L1.out hb); replace HRO := Aside0.mk (Kd.R_below (HRO.out) hb); (try clear c0 c1); obtain ⟨c0, c1⟩ := cs2 (L0.out); (try clear e0 e1); obtain ⟨e0, e1⟩ := cs2 (L1.out); clear hge_ hb0_ hb)) | (go_at_call 101; go_must ((refine (place_as HPX.out A c B d _ (HR.out.below HB.out) HOG.out).mono ?_); rintro e u_ ⟨rfl, hb⟩; replace HB := Aside0.mk (below_step HB.out hb); replace L0 := Aside0.mk (blk_below L0.out hb); replace L1 := Aside0.mk (blk_below L1.out hb); replace HRO := Aside0.mk (Kd.R_below (HRO.out) hb); replace HL7 := Aside0.mk (Kd.R_below (HL7.out) hb); (try clear c0 c1); obtain ⟨c0, c1⟩ := cs2 (L0.out); (try clear e0 e1); obtain ⟨e0, e1⟩ := cs2 (L1.out); clear hb)) | ((with_reducible refine gate_store (p := 30) rfl ?_); go_must ((refine wpList_plain rfl fun K_ hK_ => wp_cellI g5 s .i64 (0) rfl rfl rfl ⟨_, (outAt HRO.out s HSN.out).1⟩ (outAt HRO.out s HSN.out).2 (by kernel_rfl) (hK_ _ _ ?_)); refine named _ ?_; intro wz hwz; have hg_ : World.grownBy _ wz (some g5) := hwz ▸ grown_setCell _ _ _ _; have h5_ := Kd.R_base HRO.out g5 rfl; replace HL7 := Aside0.mk (R_farN HL7.out hg_ (fun k hk e => sepIN HRO.out HL7.out (e.symm.trans hk.symm))); replace HRO := Aside0.mk (show (Kd.int .i64).R 3 wz (w.heap.size + 2) (fun _ => True) (.slice (some ⟨g5, 0, none⟩) ns.length c5) _ from hwz ▸ outPut HRO.out s (0)); replace L0 := Aside0.mk (blk_g hg_ L0.out (by omega)); replace L1 := Aside0.mk (blk_g hg_ L1.out (by omega)); (try clear c0 c1); obtain ⟨c0, c1⟩ := cs2 (L0.out); (try clear e0 e1); obtain ⟨e0, e1⟩ := cs2 (L1.out); replace HB := Aside0.mk (HB.out.grown hg_ HB.out.size (fun k hk => by have := Option.some.inj hk; omega)); clear hwz hg_ h5_)))
      go_loopw [7, 8, 9, 10, 11, 12] (fun s7 s8 _ _ _ _ wr => LdO w A c ns B d es x s g5 c5 s7 s8 wr) (fun _ s8 _ _ _ _ _ => (ns.length - intOf s8).toNat)
      case atStart => exact ⟨_, [s], 0, some ⟨g7, 0, none⟩, 1, Bfs.begin HSN.out, ub_begin HSN.out, Nat.zero_le _, rfl, rfl, HRO.out, (show tds ns [s] = [x] by simp [tds, HAX.out]) ▸ HL7.out, L0.out, L1.out, HB.out⟩
      case round =>
        clear HB HRO L0 L1 HL7 HK hkl
        obtain ⟨st, q, next, A7, c7, hbf_, hub_, hnx_, rfl, rfl, hro_, hrt_, l0_, l1_, hb_⟩ := hrel
        have HBF := Aside0.mk hbf_
        have HUB := Aside0.mk hub_
        have HNX := Aside0.mk hnx_
        have HRO := Aside0.mk hro_
        have HRT := Aside0.mk hrt_
        have L0 := Aside0.mk l0_
        have L1 := Aside0.mk l1_
        have HB := Aside0.mk hb_
        obtain ⟨c0, c1⟩ := cs2 (L0.out)
        obtain ⟨e0, e1⟩ := cs2 (L1.out)
        have HQN := Aside0.mk hbf_.size
        clear hbf_ hub_ hnx_ hro_ hrt_ l0_ l1_ hb_
        have HZL := Aside0.mk (tds_len ns q)
        by_cases hlt : next < q.length
        · have hnl : (next : Int) < ((tds ns q).length : Int) := by have := HZL.out; omega
          have hn1 : (next : Int) < 40 := by have := HQN.out; have := HLN.out; omega
          have HNK := Aside0.mk (show next < ns.length by have := HQN.out; omega)
          obtain ⟨cu, hc⟩ : ∃ c, q[next] = c := ⟨_, rfl⟩
          have HC := Aside0.mk (show q[next]? = some cu by rw [← hc]; exact List.getElem?_eq_getElem hlt)
          have HCN := Aside0.mk (show cu < ns.length from HBF.out.qlt cu (List.mem_of_getElem? HC.out))
          have hcn : (cu : Int) < (ns.length : Int) := by have := HCN.out; omega
          obtain ⟨ad7, e7, n0, n1⟩ := nd_at (Kd.R_reads' HRT.out).2.2 next (by rw [tds_len]; exact hlt)
          cases e7
          obtain ⟨y, hy⟩ : ∃ y, at_ ns cu = y := ⟨_, rfl⟩
          have HTG := Aside0.mk (show at_ (tds ns q) next = y by rw [tds_get ns hlt, hc, hy])
          have HLT := Aside0.mk (show next < (tds ns q).length by rw [tds_len]; exact hlt)
          rw [HTG.out] at n0 n1
          have HPY := Aside0.mk (show placeI ns y = (cu : Int) by rw [← hy, placeI_in (at_mem HCN.out), idx_at HOG.out HCN.out])
          obtain ⟨m, hm⟩ : ∃ m, nearG ns es y = m := ⟨_, rfl⟩
          have HMQ := Aside0.mk hm
          have HMA := Aside0.mk (show m = tds ns (nearI (adjI ns es) ns.length cu) by rw [← hm, ← hy]; exact near_at HOG.out HCN.out)
          have HML := Aside0.mk (show m.length ≤ ns.length by rw [← hm]; exact near_len2 HOG.out _)
          obtain ⟨y1, hy1⟩ : ∃ y1, gt st cu = y1 := ⟨_, rfl⟩
          have HY1 := Aside0.mk hy1
          clear hlt hc hy hm hy1
          go_wp2_with (fail)
          have ZL0 := L0
          have ZL1 := L1
          refine region_bp [] sLd11 (by kernel_rfl) sLd11_ok (by decide) (fun d _ _ _ _ h => by cases d <;> exact h) ?_
          intro u hb
          have hS := hb
          replace HB := Aside0.mk (below_step HB.out hb)
          replace L0 := Aside0.mk (blk_below L0.out hb)
          replace L1 := Aside0.mk (blk_below L1.out hb)
          replace HRO := Aside0.mk (Kd.R_below (HRO.out) hb)
          replace HRT := Aside0.mk (Kd.R_below (HRT.out) hb)
          (try clear c0 c1)
          obtain ⟨c0, c1⟩ := cs2 (L0.out)
          (try clear e0 e1)
          obtain ⟨e0, e1⟩ := cs2 (L1.out)
          clear hb
          repeat (first | (refine p_off hS gt_ (by rfl) ?_; intro a_ ha_; (simp only [Act.put, List.setIfInBounds_toArray, List.set_cons_zero, List.set_cons_succ] at ha_); subst ha_) | (refine p_on (v := ?_) hS gt_ (by rfl) ?_ ?_; rotate_left; (· rintro w_ hS_; obtain ⟨c0_, c1_⟩ := cs2 (blk_below ZL0.out hS_); obtain ⟨e0_, e1_⟩ := cs2 (blk_below ZL1.out hS_); have n0_ := pw_cell_below hS_ n0; have n1_ := pw_cell_below hS_ n1; go_simp; with_reducible rfl); intro a_ ha_; (simp only [Act.put, List.setIfInBounds_toArray, List.set_cons_zero, List.set_cons_succ] at ha_); subst ha_) | (refine p_poff gt_ (by rfl) ?_; intro a_ ha_; (simp only [Act.put, List.setIfInBounds_toArray, List.set_cons_zero, List.set_cons_succ] at ha_); subst ha_) | (refine p_pon (v := ?_) gt_ (by rfl) ?_ ?_; rotate_left; (· go_simp; with_reducible rfl); intro a_ ha_; (simp only [Act.put, List.setIfInBounds_toArray, List.set_cons_zero, List.set_cons_succ] at ha_); subst ha_) | (refine p_ooff hS gt_ (by rfl) ?_; intro a_ ha_; (simp only [Act.put, List.setIfInBounds_toArray, List.set_cons_zero, List.set_cons_succ] at ha_); subst ha_) | (refine p_loff gt_ (by rfl) ?_; intro a_ ha_; (simp only [Act.put, List.setIfInBounds_toArray, List.set_cons_zero, List.set_cons_succ] at ha_); subst ha_) | (refine p_call (f := 116) (args := #[.agg #[.slice A ns.length c, .slice B es.length d], .agg #[.int .i64 y.lab, .int .i64 y.num]]) Try.func116 (by kernel_rfl) rfl gt_ (by rfl) (by rfl) mp_ ?_; (refine (near_asG HMQ.out A c B d _ (HR.out.below HB.out) HOG.out).mono ?_); rintro e_ u_ ⟨A9, c9, rfl, hm_, hl_, hf_, hb⟩; have HM := Aside0.mk hm_; have HMF := Aside0.mk (show ∀ ad, A9 = some ad → ad.block ≠ g5 ∧ ∀ k, (Value.slice (some ad7) (tds ns q).length c7).ownBlock = some k → ad.block ≠ k from fun ad e => ⟨by have := hf_ ad e; have := Kd.R_lt HRO.out g5 rfl; omega, fun k hk => by have := hf_ ad e; have := Kd.R_lt HRT.out k hk; omega⟩); clear hm_ hl_ hf_; replace HB := Aside0.mk (below_step HB.out hb); replace L0 := Aside0.mk (blk_below L0.out hb); replace L1 := Aside0.mk (blk_below L1.out hb); replace HRO := Aside0.mk (Kd.R_below (HRO.out) hb); replace HRT := Aside0.mk (Kd.R_below (HRT.out) hb); (try clear c0 c1); obtain ⟨c0, c1⟩ := cs2 (L0.out); (try clear e0 e1); obtain ⟨e0, e1⟩ := cs2 (L1.out); replace hS := below_step hS hb; refine ⟨_, rfl, hS, fun a_ ha_ => ?_⟩; (simp only [Act.put, List.setIfInBounds_toArray, List.set_cons_zero, List.set_cons_succ] at ha_); subst ha_; clear hb))
          refine p_fin ?_
          clear hS ZL0 ZL1
          clear n0 n1
          obtain ⟨ad7_, e7, n0, n1⟩ := nd_at (Kd.R_reads' HRT.out).2.2 next HLT.out
          obtain rfl := Option.some.inj e7
          rw [HTG.out] at n0 n1
          have k0 := (outAt HRO.out cu HCN.out).1
          rw [HY1.out] at k0
          clear e7
          go_wp2_with (fail)
          have ZL0 := L0
          have ZL1 := L1
          refine region_bp [] sLd12 (by kernel_rfl) sLd12_ok (by decide) (fun d _ _ _ _ h => by cases d <;> exact h) ?_
          intro u hb
          have hS := hb
          replace HB := Aside0.mk (below_step HB.out hb)
          replace L0 := Aside0.mk (blk_below L0.out hb)
          replace L1 := Aside0.mk (blk_below L1.out hb)
          replace HRO := Aside0.mk (Kd.R_below (HRO.out) hb)
          replace HRT := Aside0.mk (Kd.R_below (HRT.out) hb)
          replace HM := Aside0.mk (Kd.C_below (HM.out) hb)
          (try clear c0 c1)
          obtain ⟨c0, c1⟩ := cs2 (L0.out)
          (try clear e0 e1)
          obtain ⟨e0, e1⟩ := cs2 (L1.out)
          clear hb
          repeat (first | (refine p_off hS gt_ (by rfl) ?_; intro a_ ha_; (simp only [Act.put, List.setIfInBounds_toArray, List.set_cons_zero, List.set_cons_succ] at ha_); subst ha_) | (refine p_on (v := ?_) hS gt_ (by rfl) ?_ ?_; rotate_left; (· rintro w_ hS_; obtain ⟨c0_, c1_⟩ := cs2 (blk_below ZL0.out hS_); obtain ⟨e0_, e1_⟩ := cs2 (blk_below ZL1.out hS_); have n0_ := pw_cell_below hS_ n0; have n1_ := pw_cell_below hS_ n1; have k0_ := pw_cell_below hS_ k0; go_simp; with_reducible rfl); intro a_ ha_; (simp only [Act.put, List.setIfInBounds_toArray, List.set_cons_zero, List.set_cons_succ] at ha_); subst ha_) | (refine p_poff gt_ (by rfl) ?_; intro a_ ha_; (simp only [Act.put, List.setIfInBounds_toArray, List.set_cons_zero, List.set_cons_succ] at ha_); subst ha_) | (refine p_pon (v := ?_) gt_ (by rfl) ?_ ?_; rotate_left; (· go_simp; with_reducible rfl); intro a_ ha_; (simp only [Act.put, List.setIfInBounds_toArray, List.set_cons_zero, List.set_cons_succ] at ha_); subst ha_) | (refine p_ooff hS gt_ (by rfl) ?_; intro a_ ha_; (simp only [Act.put, List.setIfInBounds_toArray, List.set_cons_zero, List.set_cons_succ] at ha_); subst ha_) | (refine p_loff gt_ (by rfl) ?_; intro a_ ha_; (simp only [Act.put, List.setIfInBounds_toArray, List.set_cons_zero, List.set_cons_succ] at ha_); subst ha_) | (refine p_call (f := 101) (args := #[.agg #[.slice A ns.length c, .slice B es.length d], .agg #[.int .i64 y.lab, .int .i64 y.num]]) Try.func101 (by kernel_rfl) rfl gt_ (by rfl) (by rfl) mp_ ?_; (refine (place_as HPY.out A c B d _ (HR.out.below HB.out) HOG.out).mono ?_); rintro e_ u_ ⟨rfl, hb⟩; replace HB := Aside0.mk (below_step HB.out hb); replace L0 := Aside0.mk (blk_below L0.out hb); replace L1 := Aside0.mk (blk_below L1.out hb); replace HRO := Aside0.mk (Kd.R_below (HRO.out) hb); replace HRT := Aside0.mk (Kd.R_below (HRT.out) hb); replace HM := Aside0.mk (Kd.C_below (HM.out) hb); (try clear c0 c1); obtain ⟨c0, c1⟩ := cs2 (L0.out); (try clear e0 e1); obtain ⟨e0, e1⟩ := cs2 (L1.out); replace hS := below_step hS hb; refine ⟨_, rfl, hS, fun a_ ha_ => ?_⟩; (simp only [Act.put, List.setIfInBounds_toArray, List.set_cons_zero, List.set_cons_succ] at ha_); subst ha_; clear hb))
          refine p_fin ?_
          clear hS ZL0 ZL1
          go_wp2_with (fail)
          have HNE := Aside0.mk (show NE9 A9 m.length u_ (.slice (some ad7) (tds ns q).length c7) from fun hn ad e => ⟨C_lt flatN HM.out hn ad e, (HMF.out ad e).2⟩)
          have HMG := Aside0.mk (show ∀ ad, A9 = some ad → ad.block ≠ g5 from fun ad e => (HMF.out ad e).1)
          go_loopw [7, 11, 12] (fun s7 s11 _ wr => LdI w A c ns B d es x s g5 c5 next cu A9 m y1 s7 s11 wr) (fun _ s11 _ _ => (m.length - intOf s11).toNat)
          case atStart => exact ⟨st, q, 0, _, _, by simpa using HBF.out, HUB.out, HC.out, Nat.zero_le _, rfl, rfl, HRO.out, HRT.out, HM.out, HNE.out, HY1.out, L0.out, L1.out, HB.out⟩
          case round =>
            clear HB HRO HRT HM HNE L0 L1 HBF HUB HQN HZL HC HNX hnl n0 n1 k0 HTG HLT HMF HY1
            obtain ⟨st, q, j, A7, c7, hbf_, hub_, hcq_, hj_, rfl, rfl, hro_, hrt_, hm_, hne_, hy1_, l0_, l1_, hb_⟩ := hrel
            have HBF := Aside0.mk hbf_
            have HUB := Aside0.mk hub_
            have HCQ := Aside0.mk hcq_
            have HJ := Aside0.mk hj_
            have HRO := Aside0.mk hro_
            have HRT := Aside0.mk hrt_
            have HM := Aside0.mk hm_
            have HNE := Aside0.mk hne_
            have HY1 := Aside0.mk hy1_
            have L0 := Aside0.mk l0_
            have L1 := Aside0.mk l1_
            have HB := Aside0.mk hb_
            obtain ⟨c0, c1⟩ := cs2 (L0.out)
            obtain ⟨e0, e1⟩ := cs2 (L1.out)
            have HQL := Aside0.mk (show q.length ≤ 40 by have := hbf_.size; have := HLN.out; omega)
            have hyb : -1 ≤ y1 ∧ y1 ≤ 40 := ⟨hy1_ ▸ hbf_.low cu HCN.out, by have := hub_ cu; have := HQL.out; omega⟩
            have HYU := Aside0.mk (show y1 ≤ (q.length : Nat) from hy1_ ▸ hub_ cu)
            have HY0 := Aside0.mk (show 0 ≤ y1 from hy1_ ▸ (hbf_.inq cu HCN.out).1 (List.mem_of_getElem? hcq_))
            clear hbf_ hub_ hcq_ hj_ hro_ hrt_ hm_ hne_ hy1_ l0_ l1_ hb_
            have hmk : (m.length : Int) ≤ 40 := by have := HML.out; have := HLN.out; omega
            by_cases hlt : j < m.length
            · have hjl : (j : Int) < (m.length : Int) := by omega
              have hjn : j < (nearI (adjI ns es) ns.length cu).length := by have h1 := congrArg List.length HMA.out; rw [tds_len] at h1; omega
              obtain ⟨v, hv⟩ : ∃ v, (nearI (adjI ns es) ns.length cu)[j] = v := ⟨_, rfl⟩
              have HV := Aside0.mk (show v < ns.length ∧ adjI ns es cu v = true from nearI_mem.1 (hv ▸ List.getElem_mem hjn))
              have hvn : (v : Int) < (ns.length : Int) := by have := HV.out.1; omega
              have HTK := Aside0.mk (show (nearI (adjI ns es) ns.length cu).take (j + 1) = (nearI (adjI ns es) ns.length cu).take j ++ [v] by rw [← hv]; exact (List.take_append_getElem hjn).symm)
              have HJL := Aside0.mk hlt
              obtain ⟨ad9, e9, m0, m1⟩ := nd_at HM.out j hlt
              cases e9
              obtain ⟨z, hz⟩ : ∃ z, at_ ns v = z := ⟨_, rfl⟩
              have HZA := Aside0.mk (show at_ m j = z by rw [HMA.out, tds_get ns hjn, hv, hz])
              have HZV := Aside0.mk hz
              rw [HZA.out] at m0 m1
              have HPZ := Aside0.mk (show placeI ns z = (v : Int) by rw [← hz, placeI_in (at_mem HV.out.1), idx_at HOG.out HV.out.1])
              clear hlt hv hz hjn
              go_wp2_with (fail)
              have ZL0 := L0
              have ZL1 := L1
              refine region_bp [] sLd16 (by kernel_rfl) sLd16_ok (by decide) (fun d _ _ _ _ h => by cases d <;> exact h) ?_
              intro u hb
              have hS := hb
              replace HB := Aside0.mk (below_step HB.out hb)
              replace L0 := Aside0.mk (blk_below L0.out hb)
              replace L1 := Aside0.mk (blk_below L1.out hb)
              replace HRO := Aside0.mk (Kd.R_below (HRO.out) hb)
              replace HRT := Aside0.mk (Kd.R_below (HRT.out) hb)
              replace HM := Aside0.mk (Kd.C_below (HM.out) hb)
              replace HNE := Aside0.mk ((HNE.out).size hb.size)
              (try clear c0 c1)
              obtain ⟨c0, c1⟩ := cs2 (L0.out)
              (try clear e0 e1)
              obtain ⟨e0, e1⟩ := cs2 (L1.out)
              clear hb
              repeat (first | (refine p_off hS gt_ (by rfl) ?_; intro a_ ha_; (simp only [Act.put, List.setIfInBounds_toArray, List.set_cons_zero, List.set_cons_succ] at ha_); subst ha_) | (refine p_on (v := ?_) hS gt_ (by rfl) ?_ ?_; rotate_left; (· rintro w_ hS_; obtain ⟨c0_, c1_⟩ := cs2 (blk_below ZL0.out hS_); obtain ⟨e0_, e1_⟩ := cs2 (blk_below ZL1.out hS_); have m0_ := pw_cell_below hS_ m0; have m1_ := pw_cell_below hS_ m1; go_simp; with_reducible rfl); intro a_ ha_; (simp only [Act.put, List.setIfInBounds_toArray, List.set_cons_zero, List.set_cons_succ] at ha_); subst ha_) | (refine p_poff gt_ (by rfl) ?_; intro a_ ha_; (simp only [Act.put, List.setIfInBounds_toArray, List.set_cons_zero, List.set_cons_succ] at ha_); subst ha_) | (refine p_pon (v := ?_) gt_ (by rfl) ?_ ?_; rotate_left; (· go_simp; with_reducible rfl); intro a_ ha_; (simp only [Act.put, List.setIfInBounds_toArray, List.set_cons_zero, List.set_cons_succ] at ha_); subst ha_) | (refine p_ooff hS gt_ (by rfl) ?_; intro a_ ha_; (simp only [Act.put, List.setIfInBounds_toArray, List.set_cons_zero, List.set_cons_succ] at ha_); subst ha_) | (refine p_loff gt_ (by rfl) ?_; intro a_ ha_; (simp only [Act.put, List.setIfInBounds_toArray, List.set_cons_zero, List.set_cons_succ] at ha_); subst ha_) | (refine p_call (f := 101) (args := #[.agg #[.slice A ns.length c, .slice B es.length d], .agg #[.int .i64 z.lab, .int .i64 z.num]]) Try.func101 (by kernel_rfl) rfl gt_ (by rfl) (by rfl) mp_ ?_; (refine (place_as HPZ.out A c B d _ (HR.out.below HB.out) HOG.out).mono ?_); rintro e_ u_ ⟨rfl, hb⟩; replace HB := Aside0.mk (below_step HB.out hb); replace L0 := Aside0.mk (blk_below L0.out hb); replace L1 := Aside0.mk (blk_below L1.out hb); replace HRO := Aside0.mk (Kd.R_below (HRO.out) hb); replace HRT := Aside0.mk (Kd.R_below (HRT.out) hb); replace HM := Aside0.mk (Kd.C_below (HM.out) hb); replace HNE := Aside0.mk ((HNE.out).size hb.size); (try clear c0 c1); obtain ⟨c0, c1⟩ := cs2 (L0.out); (try clear e0 e1); obtain ⟨e0, e1⟩ := cs2 (L1.out); replace hS := below_step hS hb; refine ⟨_, rfl, hS, fun a_ ha_ => ?_⟩; (simp only [Act.put, List.setIfInBounds_toArray, List.set_cons_zero, List.set_cons_succ] at ha_); subst ha_; clear hb))
              refine p_fin ?_
              clear hS ZL0 ZL1
              clear m0 m1
              obtain ⟨ad9_, e9, m0, m1⟩ := nd_at HM.out j HJL.out
              obtain rfl := Option.some.inj e9
              rw [HZA.out] at m0 m1
              obtain ⟨x0, hx0⟩ : ∃ x0, gt st v = x0 := ⟨_, rfl⟩
              have k1 := (outAt HRO.out v HV.out.1).1
              rw [hx0] at k1
              have HX0 := Aside0.mk hx0
              clear hx0 e9
              by_cases hneg : x0 < 0
              · have HNX := Aside0.mk (show v ≠ cu by rintro rfl; have := HX0.out; have := HY1.out; have := HY0.out; omega)
                go_wp2_with (first | ((with_reducible refine gate_store (p := 73) rfl ?_); go_must ((refine wpList_plain rfl fun K_ hK_ => wp_cellI g5 v .i64 (y1 + 1) rfl rfl rfl ⟨_, (outAt HRO.out v HV.out.1).1⟩ (outAt HRO.out v HV.out.1).2 (by kernel_rfl) (hK_ _ _ ?_)); refine named _ ?_; intro wz hwz; have hg_ : World.grownBy _ wz (some g5) := hwz ▸ grown_setCell _ _ _ _; have h5_ := Kd.R_base HRO.out g5 rfl; replace HRT := Aside0.mk (R_farN HRT.out hg_ (fun k hk e => sepIN HRO.out HRT.out (e.symm.trans hk.symm))); replace HM := Aside0.mk (C_over flatN HM.out hg_ (fun hn ad e he => (HMG.out ad e) (Option.some.inj he))); (try (have m0 := gw_cell hg_ m0 (by rw [add_block]; exact fun he => HMG.out _ rfl (Option.some.inj he)); have m1 := gw_cell hg_ m1 (show some (Addr.block (Addr.add _ _)) ≠ _ by rw [add_block]; exact fun he => HMG.out _ rfl (Option.some.inj he)))); replace HNE := Aside0.mk (HNE.out.size hg_.size); replace HRO := Aside0.mk (show (Kd.int .i64).R 3 wz (w.heap.size + 2) (fun _ => True) (.slice (some ⟨g5, 0, none⟩) ns.length c5) _ from hwz ▸ outPut HRO.out v (y1 + 1)); replace L0 := Aside0.mk (blk_g hg_ L0.out (by omega)); replace L1 := Aside0.mk (blk_g hg_ L1.out (by omega)); (try clear c0 c1); obtain ⟨c0, c1⟩ := cs2 (L0.out); (try clear e0 e1); obtain ⟨e0, e1⟩ := cs2 (L1.out); replace HB := Aside0.mk (HB.out.grown hg_ HB.out.size (fun k hk => by have := Option.some.inj hk; omega)); clear hwz hg_ h5_)) | ((with_reducible refine gate_dst (N := 79) rfl ?_); go_must ((refine w_lit #[.int .i64 z.lab, .int .i64 z.num] 28 1 rfl (by go_simp; (first | done | rfl)) ?_); intro gl u_ hge_ hb0_ hb; have LT := Aside0.mk hb0_; replace HB := Aside0.mk (below_step HB.out hb); replace L0 := Aside0.mk (blk_below L0.out hb); replace L1 := Aside0.mk (blk_below L1.out hb); replace HRO := Aside0.mk (Kd.R_below (HRO.out) hb); replace HRT := Aside0.mk (Kd.R_below (HRT.out) hb); replace HM := Aside0.mk (Kd.C_below (HM.out) hb); replace HNE := Aside0.mk ((HNE.out).size hb.size); (try clear c0 c1); obtain ⟨c0, c1⟩ := cs2 (L0.out); (try clear e0 e1); obtain ⟨e0, e1⟩ := cs2 (L1.out); clear hge_ hb0_ hb)) | ((with_reducible refine gate_builtin (b := .append) rfl ?_); go_must ((refine w_append flatN (base := w.heap.size + 2) (e := 28) (.agg #[(.int .i64 0), (.int .i64 0)]) 16 (.slice A7 (tds ns q).length c7) (tds ns q) [z] rfl rfl Try.underlying23 infoN rfl (by decide) HRT.out (one_rowN LT.out) rfl rfl (blk_lt L1.out) (by have := HQL.out; rw [tds_len]; omega) ?_); intro B9 n9 p9 wt hn9_ hp9_ hr_ hg_ ho_; obtain rfl : n9 = (tds ns q ++ [z]).length := hn9_; have HR9 := Aside0.mk hr_; replace HM := Aside0.mk (C_over flatN HM.out hg_ (fun hn ad e he => (HNE.out hn ad e).2 _ he.symm rfl)); replace HRO := Aside0.mk (Kd.R_grown1 HRO.out rfl hg_ (fun e => sepIN HRO.out HRT.out e.symm)); have HNE9 := Aside0.mk (HNE.out.app hg_.size ho_); replace L0 := Aside0.mk (gw_blk hg_ L0.out (fun e => by have := Kd.R_base HRT.out _ e.symm; omega)); replace L1 := Aside0.mk (gw_blk hg_ L1.out (fun e => by have := Kd.R_base HRT.out _ e.symm; omega)); (try clear c0 c1); obtain ⟨c0, c1⟩ := cs2 (L0.out); (try clear e0 e1); obtain ⟨e0, e1⟩ := cs2 (L1.out); replace HB := Aside0.mk (HB.out.grown hg_ HB.out.size (fun k hk => by have := Kd.R_base HRT.out k hk; omega)); clear hp9_ hr_ hg_ ho_ HRT)))
                go_roundw
                case rel => exact ⟨st.set v (y1 + 1), q ++ [v], j + 1, B9, p9, by rw [HTK.out, ← HY1.out]; exact HBF.out.meet HCQ.out HV.out.1 HV.out.2 (by rw [HX0.out]; exact hneg), ub_meet (by rw [HBF.out.len]; exact HV.out.1) HUB.out HYU.out, by rw [List.getElem?_append_left ((List.getElem?_eq_some_iff.1 HCQ.out).1)]; exact HCQ.out, HJL.out, by rw [tds_snoc, List.length_append]; rfl, by go_num, HRO.out, by rw [tds_snoc, HZV.out]; exact HR9.out, HM.out, by rw [tds_snoc, HZV.out]; exact HNE9.out, by rw [gt_set (by rw [HBF.out.len]; exact HV.out.1), if_neg HNX.out]; exact HY1.out, L0.out, L1.out, HB.out⟩
                case measure => have := HJL.out; simp [intOf]; omega
              · go_wp2_with (fail)
                go_roundw
                case rel => exact ⟨st, q, j + 1, A7, c7, by rw [HTK.out]; exact HBF.out.skip HCQ.out HV.out.1 (by rw [HX0.out]; omega), HUB.out, HCQ.out, HJL.out, rfl, by go_num, HRO.out, HRT.out, HM.out, HNE.out, HY1.out, L0.out, L1.out, HB.out⟩
                case measure => have := HJL.out; simp [intOf]; omega
            · have hjl : ¬ (j : Int) < (m.length : Int) := by omega
              have HBG := Aside0.mk (HBF.out.close HCQ.out fun v hv hav => by rw [List.take_of_length_le (by have h1 := congrArg List.length HMA.out; rw [tds_len] at h1; omega)]; exact nearI_mem.2 ⟨hv, hav⟩)
              clear hlt
              go_wp2_with (fail)
              go_roundw
              case rel => exact ⟨st, q, next + 1, A7, c7, HBG.out, HUB.out, (List.getElem?_eq_some_iff.1 HCQ.out).1, rfl, by go_num, HRO.out, HRT.out, L0.out, L1.out, HB.out⟩
              case measure => have := HNK.out; simp [intOf]; omega
        · have hnl : ¬ (next : Int) < ((tds ns q).length : Int) := by have := HZL.out; omega
          have HD1 := Aside0.mk (HBF.out.end_ (fun u v h => adjI_lt h) (show q.length ≤ next by omega)).1
          clear hlt
          go_wp2_with (fail)
          go_ret
          exact ⟨by rw [← HD1.out]; exact ⟨some ⟨g5, 0, none⟩, c5, by rw [HBF.out.len]; rfl, by rw [HBF.out.len]; exact HBF.out.len ▸ (Kd.R_reads' HRO.out).2.2, by rw [HBF.out.len]; exact (Kd.R_reads' HRO.out).2.1, fun ad e => by obtain rfl := Option.some.inj e; have := Kd.R_base HRO.out g5 rfl; show w.heap.size ≤ g5; omega⟩, HB.out⟩
end Go.Proofs.Ytogmbeifbjgphaa.R
