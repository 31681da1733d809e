/- The reference: l3Left, l3Peel; The reference: WalkCore. -/
import Derived.Test.YtogmbeifbjgphaaJB30
import Derived.Test.YtogmbeifbjgphaaJB32
import Derived.Test.YtogmbeifbjgphaaJB33
import Derived.Test.YtogmbeifbjgphaaJB34
namespace Go.Proofs.Ytogmbeifbjgphaa.R
open Go.RowKit Go.Proofs.YtogmbeifbjgphaaV.PrintWords Go.Proofs.YtogmbeifbjgphaaV.PrintLast Go.Proofs.YtogmbeifbjgphaaV.PrintMore Go.Proofs.Ytogmbeifbjgphaa.M
set_option linter.unusedVariables false
set_option linter.unusedSimpArgs false
attribute [local go_sem high] eqN eqE
abbrev sLl6 : Pl := (.tk 0 (.tk 1 (.tk 2 (.tk 3 (.tk 4 (.tk 5 (.nd .one 6 (.tk 7 (.tk 8 .fin)))))))))
theorem sLl6_ok : planB .any (opsOf Try.f192 6) [] sLl6 (Array.replicate (opsOf Try.f192 6).size false) = true := by kernel_rfl
abbrev sLp7 : Pl := (.tk 0 (.tk 1 (.tk 2 (.tk 3 (.tk 4 (.tk 5 (.tk 6 (.tk 7 (.tk 8 (.tk 9 (.tk 10 (.tk 11 (.tk 13 (.nd .one 12 (.tk 14 (.tk 15 .fin))))))))))))))))
theorem sLp7_ok : planB .any (opsOf Try.f144 7) [] sLp7 (Array.replicate (opsOf Try.f144 7).size false) = true := by kernel_rfl
abbrev KB : Kd Bool := Kd.scalar Value.bool (fun _ => rfl)
theorem flatB : Flat KB := ⟨show 0 < 1 by decide, fun x c W h W' base ok' => h⟩
section
variable {e : TypeId} {w : World} {b g n c : Nat} {ok : Nat → Prop} {xs : List Bool}
theorem outAtB (ho : KB.R e w b ok (.slice (some ⟨g, 0, none⟩) n c) xs) (j : Nat) (hj : j < n) : w.cell? ⟨g, j, none⟩ = some (.bool (gb xs j)) ∧ w.frozen? ⟨g, j, none⟩ = false := by
  have h := Kd.R_celln false ho (j : Int) (by omega) (by omega)
  rw [Int.toNat_natCast] at h
  exact h
theorem outPutB (ho : KB.R e w b ok (.slice (some ⟨g, 0, none⟩) n c) xs) (j : Nat) (v : Bool) : KB.R e (w.setCell ⟨g, j, none⟩ (.bool v)) b ok (.slice (some ⟨g, 0, none⟩) n c) (xs.set j v) := by
  have h := Kd.R_putn ho (j : Int) v
  rw [Int.toNat_natCast] at h
  exact h
theorem C_litB {g : Nat} {t : TypeId} (xs : List Bool) {cs : Array Value} (h : w.heap[g]? = some (.cells cs t (0, 0))) (hc : cs.toList = xs.map Value.bool) (hl : xs.length ≤ 1000) : KB.C w (some ⟨g, 0, none⟩) xs.length xs := by
  refine ⟨rfl, by omega, fun _ => ⟨_, rfl, fun j p hj => ⟨[.bool p], rfl, rfl, fun i u hi => ?_⟩⟩⟩
  obtain ⟨rfl, rfl⟩ : i = 0 ∧ Value.bool p = u := by
    match i, hi with
    | 0, hi => exact ⟨rfl, Option.some.inj hi⟩
  rw [show j * KB.sz + 0 = j from Nat.mul_one j, add_plain, blk_cell h j, ← Array.getElem?_toList, hc, List.getElem?_map, hj]
  rfl
theorem own_addrB {e : TypeId} {w : World} {base n c : Nat} {ok : Nat → Prop} {A : Option Addr} {xs : List Bool} (h : KB.R e w base ok (.slice A n c) xs) (hn : 0 < n) : ∃ g, A = some ⟨g, 0, none⟩ := by
  obtain ⟨inner, ho⟩ := Kd.R_own h
  rcases ho.2 with ⟨hv, h0⟩ | ⟨g, cap, cur, hv, _⟩
  · cases hv
    omega
  · cases hv
    exact ⟨g, rfl⟩
end
set_option maxHeartbeats 6400000 in
set_option maxRecDepth 100000 in
theorem left_calls (A : Option Addr) (c : Nat) (ns : List Nd) (B : Option Addr) (d : Nat) (es : List Eg) (x : Nd) (i cd g cc b : Nat) (l : List Bool) (w : World) (hr : GR w A c ns B d es) (hg : OkG ns es) (hx : at_ ns i = x) (hi : i < ns.length) (hl : KB.R 4 w b (fun _ => True) (.slice (some ⟨g, 0, none⟩) ns.length cc) l) (hc : (nearI (adjI ns es) ns.length i).countP (gb l) = cd) :
    Calls Try.prog 192 #[.agg #[.slice A ns.length c, .slice B es.length d], .slice (some ⟨g, 0, none⟩) ns.length cc, .agg #[.int .i64 x.lab, .int .i64 x.num]] w fun e w' => e = .returned (.int .i64 (cd : Int)) ∧ Below w.heap.size w w' := by
  have HR := Aside0.mk hr
  have HOG := Aside0.mk hg
  have HRL := Aside0.mk hl
  have HCD := Aside0.mk hc
  obtain ⟨m, hm⟩ : ∃ m, nearG ns es x = m := ⟨_, rfl⟩
  have HM := Aside0.mk hm
  have HMA := Aside0.mk (show m = tds ns (nearI (adjI ns es) ns.length i) by rw [← hm, ← hx]; exact near_at hg hi)
  have HMK := Aside0.mk (show m.length = (nearI (adjI ns es) ns.length i).length by rw [HMA.out, tds_len])
  have HLM := Aside0.mk (NsOk.mk hg.nok hg.nasc hg.nfew).len
  have hm4 : (m.length : Int) ≤ 40 := by have := HMK.out; have := nearI_few (adjI ns es) ns.length i; have := HLM.out; omega
  clear hr hg hx hi hl hc hm
  obtain ⟨L0, L1, HB⟩ := al2 w #[.slice A ns.length c, .slice B es.length d] #[.int .i64 x.lab, .int .i64 x.num] 26 28
  replace HRL := Aside0.mk (Kd.R_below HRL.out HB.out)
  go_enter Try.func192, Try.ntmps192
  go_wp2_with (first | (go_at_call 116; go_must ((refine (near_asG HM.out A c B d _ (HR.out.below HB.out) HOG.out).mono ?_); rintro e u_ ⟨A7, c7, rfl, hm_, hl_, hf_, hb⟩; have HC7 := Aside0.mk hm_; clear hm_ hl_ hf_; replace HB := Aside0.mk (below_step HB.out hb); replace L0 := Aside0.mk (blk_below L0.out hb); replace L1 := Aside0.mk (blk_below L1.out hb); replace HRL := Aside0.mk (Kd.R_below (HRL.out) hb); (try clear c0 c1); obtain ⟨c0, c1⟩ := cs2 (L0.out); (try clear e0 e1); obtain ⟨e0, e1⟩ := cs2 (L1.out); clear hb)))
  go_loopw [8, 9] (fun s8 s9 wr => ∃ k cnt : Nat, k ≤ m.length ∧ s9 = .int .i64 (k : Int) ∧ s8 = .int .i64 (cnt : Int) ∧ cnt = ((nearI (adjI ns es) ns.length i).take k).countP (gb l) ∧ cnt ≤ k ∧ Aside0 (kN.C wr A7 m.length m) ∧ Aside0 (KB.R 4 wr b (fun _ => True) (.slice (some ⟨g, 0, none⟩) ns.length cc) l) ∧ wr.heap[w.heap.size]? = some (.cells #[.slice A ns.length c, .slice B es.length d] 26 (0, 0)) ∧ Below w.heap.size w wr) (fun _ s9 _ => (m.length - intOf s9).toNat)
  case atStart => exact ⟨0, 0, Nat.zero_le _, rfl, rfl, by simp, Nat.le_refl _, HC7, HRL, L0.out, HB.out⟩
  case round =>
    clear HB L0 L1 HC7 HRL
    obtain ⟨k, cnt, hk_, rfl, rfl, hn_, hcb_, HC7, HRL, l0_, hb_⟩ := hrel
    have HK := Aside0.mk hk_
    have HN := Aside0.mk hn_
    have HCB := Aside0.mk hcb_
    have L0 := Aside0.mk l0_
    have HB := Aside0.mk hb_
    obtain ⟨c0, c1⟩ := cs2 (L0.out)
    clear hk_ hn_ hcb_ l0_ hb_
    by_cases hlt : k < m.length
    · have hkl : (k : Int) < (m.length : Int) := by omega
      have HKT := Aside0.mk hlt
      have hkk : k < (nearI (adjI ns es) ns.length i).length := by have := HMK.out; omega
      obtain ⟨p, hp⟩ : ∃ p, (nearI (adjI ns es) ns.length i)[k] = p := ⟨_, rfl⟩
      have HPV := Aside0.mk (show p < ns.length from (nearI_mem.1 (hp ▸ List.getElem_mem hkk)).1)
      have hpn : (p : Int) < (ns.length : Int) := by have := HPV.out; omega
      have HTC := Aside0.mk (take_cnt (p := gb l) hkk hp)
      obtain ⟨z, hz⟩ : ∃ z, at_ ns p = z := ⟨_, rfl⟩
      have HPZ := Aside0.mk (show placeI ns z = (p : Int) by rw [← hz, placeI_in (at_mem HPV.out), idx_at HOG.out HPV.out])
      obtain ⟨a7, e7, z0, z1⟩ := nd_at HC7.out k hlt
      cases e7
      rw [show at_ m k = z by rw [HMA.out, tds_get ns hkk, hp, hz]] at z0 z1
      obtain ⟨x9, hx9⟩ : ∃ x, gb l p = x := ⟨_, rfl⟩
      have k0 := (outAtB HRL.out p HPV.out).1
      rw [hx9] at k0
      have HX := Aside0.mk hx9
      have hcn : (cnt : Int) ≤ 40 := by have := HCB.out; omega
      clear hlt hkk hp hz hx9
      cases x9
      all_goals
        go_wp2_with (fail)
        have ZL0 := L0
        refine region_bp [] sLl6 (by kernel_rfl) sLl6_ok (by decide) (fun d _ _ _ _ h => by cases d <;> exact h) ?_
        intro u hb
        have hS := hb
        replace HB := Aside0.mk (below_step HB.out hb)
        replace L0 := Aside0.mk (blk_below L0.out hb)
        replace HRL := Aside0.mk (Kd.R_below (HRL.out) hb)
        replace HC7 := Aside0.mk (Kd.C_below (HC7.out) hb)
        (try clear c0 c1)
        obtain ⟨c0, c1⟩ := cs2 (L0.out)
        clear hb
        repeat (first | (refine p_off hS gt_ (by rfl) ?_; intro a_ ha_; (simp only [Act.put, List.setIfInBounds_toArray, List.set_cons_zero, List.set_cons_succ] at ha_); subst ha_) | (refine p_on (v := ?_) hS gt_ (by rfl) ?_ ?_; rotate_left; (· rintro w_ hS_; obtain ⟨c0_, c1_⟩ := cs2 (blk_below ZL0.out hS_); have z0_ := pw_cell_below hS_ z0; have z1_ := pw_cell_below hS_ z1; have k0_ := pw_cell_below hS_ k0; go_simp; with_reducible rfl); intro a_ ha_; (simp only [Act.put, List.setIfInBounds_toArray, List.set_cons_zero, List.set_cons_succ] at ha_); subst ha_) | (refine p_poff gt_ (by rfl) ?_; intro a_ ha_; (simp only [Act.put, List.setIfInBounds_toArray, List.set_cons_zero, List.set_cons_succ] at ha_); subst ha_) | (refine p_pon (v := ?_) gt_ (by rfl) ?_ ?_; rotate_left; (· go_simp; with_reducible rfl); intro a_ ha_; (simp only [Act.put, List.setIfInBounds_toArray, List.set_cons_zero, List.set_cons_succ] at ha_); subst ha_) | (refine p_ooff hS gt_ (by rfl) ?_; intro a_ ha_; (simp only [Act.put, List.setIfInBounds_toArray, List.set_cons_zero, List.set_cons_succ] at ha_); subst ha_) | (refine p_loff gt_ (by rfl) ?_; intro a_ ha_; (simp only [Act.put, List.setIfInBounds_toArray, List.set_cons_zero, List.set_cons_succ] at ha_); subst ha_) | (refine p_call (f := 101) (args := #[.agg #[.slice A ns.length c, .slice B es.length d], .agg #[.int .i64 z.lab, .int .i64 z.num]]) Try.func101 (by kernel_rfl) rfl gt_ (by rfl) (by rfl) mp_ ?_; (refine (place_as HPZ.out A c B d _ (HR.out.below HB.out) HOG.out).mono ?_); rintro e_ u_ ⟨rfl, hb⟩; replace HB := Aside0.mk (below_step HB.out hb); replace L0 := Aside0.mk (blk_below L0.out hb); replace HRL := Aside0.mk (Kd.R_below (HRL.out) hb); replace HC7 := Aside0.mk (Kd.C_below (HC7.out) hb); (try clear c0 c1); obtain ⟨c0, c1⟩ := cs2 (L0.out); replace hS := below_step hS hb; refine ⟨_, rfl, hS, fun a_ ha_ => ?_⟩; (simp only [Act.put, List.setIfInBounds_toArray, List.set_cons_zero, List.set_cons_succ] at ha_); subst ha_; clear hb))
        refine p_fin ?_
        clear hS ZL0
        go_wp2_with (fail)
        go_roundw
        case rel => first | exact ⟨k + 1, cnt + 1, HKT.out, by go_num, by go_num, by rw [HTC.out, HX.out, HN.out]; rfl, by have := HCB.out; omega, HC7, HRL, L0.out, HB.out⟩ | exact ⟨k + 1, cnt, HKT.out, by go_num, rfl, by rw [HTC.out, HX.out, HN.out]; rfl, by have := HCB.out; omega, HC7, HRL, L0.out, HB.out⟩
        case measure => have := HKT.out; simp [intOf]; omega
    · have hkl : ¬ (k : Int) < (m.length : Int) := by omega
      have HTF := Aside0.mk (show cnt = cd by rw [HN.out, List.take_of_length_le (by have := HMK.out; omega), HCD.out])
      clear hlt
      go_wp2_with (fail)
      go_ret
      exact ⟨by rw [← HTF.out]; rfl, HB.out⟩
/-- How many of a row's first n cells are true. -/
def truesN (w : World) (g n : Nat) : Nat := (List.range n).countP fun j => match w.cell? ⟨g, j, none⟩ with | some v => isT v | none => false
theorem truesN_eq {e : TypeId} {w : World} {b g n c : Nat} {ok : Nat → Prop} {xs : List Bool} (ho : KB.R e w b ok (.slice (some ⟨g, 0, none⟩) n c) xs) : truesN w g n = xs.countP id := by
  have hl : n = xs.length := (Kd.R_reads' ho).1
  have h1 : truesN w g n = (List.range n).countP fun j => gb xs j := by
    unfold truesN
    refine List.countP_congr fun j hj => ?_
    rw [(outAtB ho j (List.mem_range.1 hj)).1]
    rfl
  have h2 : xs = (List.range n).map (gb xs) := by
    apply List.ext_getElem (by simp [hl])
    intro i h3 h4
    rw [List.getElem_map, List.getElem_range, gb_get h3]
  rw [h1]
  conv => rhs; rw [h2]
  rw [List.countP_map]
  rfl
def SpL (W0 w : World) (a1 : Addr) (c : Nat) (ns : List Nd) (B : Option Addr) (d : Nat) (es : List Eg) (k g cc b : Nat) (l : List Bool) (wr : World) : Prop :=
  KB.R 4 wr b (fun _ => True) (.slice (some ⟨g, 0, none⟩) ns.length cc) l ∧ w.grownBy wr (some g) ∧ wr.heap[w.heap.size]? = some (.cells #[.slice (some a1) ns.length c, .slice B es.length d] 26 (0, 0)) ∧ Below W0.heap.size W0 wr
def SpPO (W0 w : World) (a1 : Addr) (c : Nat) (ns : List Nd) (B : Option Addr) (d : Nat) (es : List Eg) (k g cc b : Nat) (s7 : Value) (wr : World) : Prop :=
  ∃ (v : Bool) (l : List Bool), s7 = .bool v ∧ Peel (adjI ns es) ns.length k l ∧ (v = false → Quiet (adjI ns es) ns.length k ns.length l) ∧ SpL W0 w a1 c ns B d es k g cc b l wr
def SpPI (W0 w : World) (a1 : Addr) (c : Nat) (ns : List Nd) (B : Option Addr) (d : Nat) (es : List Eg) (k g cc b : Nat) (lo : List Bool) (s7 s8 : Value) (wr : World) : Prop :=
  ∃ (j : Nat) (v : Bool) (l : List Bool), j ≤ ns.length ∧ s7 = .bool v ∧ s8 = .int .i64 (j : Int) ∧ Peel (adjI ns es) ns.length k l ∧ (v = false → l = lo ∧ Quiet (adjI ns es) ns.length k j l) ∧ (v = true → l.countP id < lo.countP id) ∧ l.countP id ≤ lo.countP id ∧ SpL W0 w a1 c ns B d es k g cc b l wr
set_option maxHeartbeats 12800000 in
set_option maxRecDepth 100000 in
theorem sPeel_calls (W0 w : World) (a1 : Addr) (c : Nat) (ns : List Nd) (B : Option Addr) (d : Nat) (es : List Eg) (k g cc b : Nat) (l : List Bool) (hr : GR W0 (some a1) c ns B d es) (hB : Below W0.heap.size W0 w) (hg : OkG ns es) (hl : KB.R 4 w b (fun _ => True) (.slice (some ⟨g, 0, none⟩) ns.length cc) l) (hb : W0.heap.size ≤ g) (hk : k ≤ 1000) (hp : Peel (adjI ns es) ns.length k l) :
    Calls Try.prog 144 #[.agg #[.slice (some a1) ns.length c, .slice B es.length d], .slice (some ⟨g, 0, none⟩) ns.length cc, .int .i64 (k : Int)] w fun e w' => e = .returned (.slice (some ⟨g, 0, none⟩) ns.length cc) ∧ KB.R 4 w' b (fun _ => True) (.slice (some ⟨g, 0, none⟩) ns.length cc) (kcL (adjI ns es) ns.length k) ∧ w.grownBy w' (some g) := by
  have HR := Aside0.mk hr
  have HB0 := Aside0.mk hB
  have HOG := Aside0.mk hg
  have HRL := Aside0.mk hl
  have HP := Aside0.mk hp
  have HG := Aside0.mk (And.intro hb (show g < w.heap.size from Kd.R_lt hl g rfl))
  have HLM := Aside0.mk (NsOk.mk hg.nok hg.nasc hg.nfew).len
  have hnn : (ns.length : Int) ≤ 40 := by have := HLM.out; omega
  have hkk : (k : Int) ≤ 1000 := by omega
  clear hr hB hg hl hb hk hp
  obtain ⟨L0, HB1⟩ := al1 w #[.slice (some a1) ns.length c, .slice B es.length d] 26
  replace HRL := Aside0.mk (Kd.R_below HRL.out HB1.out)
  have HGW := Aside0.mk (grown_of_below HB1.out (some g))
  have HB := Aside0.mk (below_step HB0.out HB1.out)
  clear HB0 HB1
  go_enter Try.func144, Try.ntmps144
  go_wp2_with (fail)
  go_loopw [7, 8] (fun s7 _ wr => SpPO W0 w a1 c ns B d es k g cc b s7 wr) (fun s7 _ wr => truesN wr g ns.length + flag s7)
  case atStart => exact ⟨true, l, rfl, HP.out, (by intro h; cases h), HRL.out, HGW.out, L0.out, HB.out⟩
  case round =>
    clear HB HRL HP HGW L0 l
    obtain ⟨v, l, rfl, hp_, hq_, hrl_, hgw_, l0_, hb_⟩ := hrel
    have HRL := Aside0.mk hrl_
    have HP := Aside0.mk hp_
    have HGW := Aside0.mk hgw_
    have L0 := Aside0.mk l0_
    have HB := Aside0.mk hb_
    have HQ := Aside0.mk hq_
    have HT := Aside0.mk (truesN_eq hrl_)
    obtain ⟨c0, c1⟩ := cs2 (L0.out)
    clear hrl_ hp_ hq_ hgw_ l0_ hb_
    cases v
    · obtain rfl := kcL_of HP.out.len (fun v _ => HP.out.done (HQ.out rfl) v)
      clear HT
      go_wp2_with (fail)
      go_ret
      exact ⟨rfl, HRL.out, HGW.out⟩
    · go_wp2_with (fail)
      go_loopw [7, 8] (fun s7 s8 wr => SpPI W0 w a1 c ns B d es k g cc b l s7 s8 wr) (fun _ s8 _ => (ns.length - intOf s8).toNat)
      case atStart => exact ⟨0, false, l, Nat.zero_le _, rfl, rfl, HP.out, (fun _ => ⟨rfl, fun i hi => absurd hi (Nat.not_lt_zero _)⟩), (by intro h; cases h), Nat.le_refl _, HRL.out, HGW.out, L0.out, HB.out⟩
      case round =>
        clear HB HRL HP HGW HQ L0 c0 c1
        obtain ⟨j, v, m, hj, rfl, rfl, hp_, hf_, ht_, hc_, hrl_, hgw_, l0_, hb_⟩ := hrel
        have HJ := Aside0.mk hj
        have HRL := Aside0.mk hrl_
        have HP := Aside0.mk hp_
        have HF := Aside0.mk hf_
        have HC := Aside0.mk ht_
        have HCL := Aside0.mk hc_
        have HGW := Aside0.mk hgw_
        have L0 := Aside0.mk l0_
        have HB := Aside0.mk hb_
        obtain ⟨c0, c1⟩ := cs2 (L0.out)
        clear hj hrl_ hp_ hf_ ht_ hc_ hgw_ l0_ hb_
        by_cases hlt : j < ns.length
        · have hjn : (j : Int) < (ns.length : Int) := by omega
          have HJN := Aside0.mk hlt
          obtain ⟨y, hy⟩ : ∃ y, at_ ns j = y := ⟨_, rfl⟩
          have HYA := Aside0.mk hy
          obtain ⟨a1_, e1, r0, r1⟩ := nd_at (HR.out.below HB.out).cn j hlt
          obtain rfl := Option.some.inj e1
          rw [hy] at r0 r1
          obtain ⟨x, hx⟩ : ∃ x, gb m j = x := ⟨_, rfl⟩
          have k0 := (outAtB HRL.out j hlt).1
          rw [hx] at k0
          have HX := Aside0.mk hx
          clear hlt hx hy e1
          cases x
          · go_wp2_with (fail)
            have ZL0 := L0
            refine region_bp [] sLp7 (by kernel_rfl) sLp7_ok (by decide) (fun d _ _ _ _ h => by cases d <;> exact h) ?_
            intro u hb
            have hS := hb
            replace HB := Aside0.mk (below_step HB.out hb)
            replace L0 := Aside0.mk (blk_below L0.out hb)
            replace HRL := Aside0.mk (Kd.R_below (HRL.out) hb)
            replace HGW := Aside0.mk (grown_trans (HGW.out) (grown_of_below hb (some g)))
            (try clear c0 c1)
            obtain ⟨c0, c1⟩ := cs2 (L0.out)
            clear hb
            repeat (first | (refine p_off hS gt_ (by rfl) ?_; intro a_ ha_; (simp only [Act.put, List.setIfInBounds_toArray, List.set_cons_zero, List.set_cons_succ] at ha_); subst ha_) | (refine p_on (v := ?_) hS gt_ (by rfl) ?_ ?_; rotate_left; (· rintro w_ hS_; obtain ⟨c0_, c1_⟩ := cs2 (blk_below ZL0.out hS_); have r0_ := pw_cell_below hS_ r0; have r1_ := pw_cell_below hS_ r1; have k0_ := pw_cell_below hS_ k0; go_simp; with_reducible rfl); intro a_ ha_; (simp only [Act.put, List.setIfInBounds_toArray, List.set_cons_zero, List.set_cons_succ] at ha_); subst ha_) | (refine p_poff gt_ (by rfl) ?_; intro a_ ha_; (simp only [Act.put, List.setIfInBounds_toArray, List.set_cons_zero, List.set_cons_succ] at ha_); subst ha_) | (refine p_pon (v := ?_) gt_ (by rfl) ?_ ?_; rotate_left; (· go_simp; with_reducible rfl); intro a_ ha_; (simp only [Act.put, List.setIfInBounds_toArray, List.set_cons_zero, List.set_cons_succ] at ha_); subst ha_) | (refine p_ooff hS gt_ (by rfl) ?_; intro a_ ha_; (simp only [Act.put, List.setIfInBounds_toArray, List.set_cons_zero, List.set_cons_succ] at ha_); subst ha_) | (refine p_loff gt_ (by rfl) ?_; intro a_ ha_; (simp only [Act.put, List.setIfInBounds_toArray, List.set_cons_zero, List.set_cons_succ] at ha_); subst ha_))
            refine p_fin ?_
            clear hS ZL0
            go_wp2_with (fail)
            go_roundw
            case rel => exact ⟨j + 1, v, m, HJN.out, rfl, by go_num, HP.out, (fun e => ⟨(HF.out e).1, (HF.out e).2.next (fun h => by rw [HX.out] at h; cases h)⟩), HC.out, HCL.out, HRL.out, HGW.out, L0.out, HB.out⟩
            case measure => have := HJN.out; simp [intOf]; omega
          · obtain ⟨cd, hcd⟩ : ∃ cd, (nearI (adjI ns es) ns.length j).countP (gb m) = cd := ⟨_, rfl⟩
            have HCD := Aside0.mk hcd
            have HDG := Aside0.mk (show degS (adjI ns es) ns.length (gb m) j = cd by rw [← deg_near, ← hcd])
            clear hcd
            by_cases hck : cd < k
            · have HST := Aside0.mk (HP.out.strike HJN.out (by have := HDG.out; omega))
              have HCS := Aside0.mk (cnt_set HX.out)
              have hcb : decide (cd < k) = true := decide_eq_true hck
              go_wp2_with (fail)
              have ZL0 := L0
              refine region_bp [] sLp7 (by kernel_rfl) sLp7_ok (by decide) (fun d _ _ _ _ h => by cases d <;> exact h) ?_
              intro u hb
              have hS := hb
              replace HB := Aside0.mk (below_step HB.out hb)
              replace L0 := Aside0.mk (blk_below L0.out hb)
              replace HRL := Aside0.mk (Kd.R_below (HRL.out) hb)
              replace HGW := Aside0.mk (grown_trans (HGW.out) (grown_of_below hb (some g)))
              (try clear c0 c1)
              obtain ⟨c0, c1⟩ := cs2 (L0.out)
              clear hb
              repeat (first | (refine p_off hS gt_ (by rfl) ?_; intro a_ ha_; (simp only [Act.put, List.setIfInBounds_toArray, List.set_cons_zero, List.set_cons_succ] at ha_); subst ha_) | (refine p_on (v := ?_) hS gt_ (by rfl) ?_ ?_; rotate_left; (· rintro w_ hS_; obtain ⟨c0_, c1_⟩ := cs2 (blk_below ZL0.out hS_); have r0_ := pw_cell_below hS_ r0; have r1_ := pw_cell_below hS_ r1; have k0_ := pw_cell_below hS_ k0; go_simp; with_reducible rfl); intro a_ ha_; (simp only [Act.put, List.setIfInBounds_toArray, List.set_cons_zero, List.set_cons_succ] at ha_); subst ha_) | (refine p_poff gt_ (by rfl) ?_; intro a_ ha_; (simp only [Act.put, List.setIfInBounds_toArray, List.set_cons_zero, List.set_cons_succ] at ha_); subst ha_) | (refine p_pon (v := ?_) gt_ (by rfl) ?_ ?_; rotate_left; (· go_simp; with_reducible rfl); intro a_ ha_; (simp only [Act.put, List.setIfInBounds_toArray, List.set_cons_zero, List.set_cons_succ] at ha_); subst ha_) | (refine p_ooff hS gt_ (by rfl) ?_; intro a_ ha_; (simp only [Act.put, List.setIfInBounds_toArray, List.set_cons_zero, List.set_cons_succ] at ha_); subst ha_) | (refine p_loff gt_ (by rfl) ?_; intro a_ ha_; (simp only [Act.put, List.setIfInBounds_toArray, List.set_cons_zero, List.set_cons_succ] at ha_); subst ha_) | (refine p_call (f := 192) (args := #[.agg #[.slice (some a1) ns.length c, .slice B es.length d], .slice (some ⟨g, 0, none⟩) ns.length cc, .agg #[.int .i64 y.lab, .int .i64 y.num]]) Try.func192 (by kernel_rfl) rfl gt_ (by rfl) (by rfl) mp_ ?_; (refine (left_calls (some a1) c ns B d es y j cd g cc b m _ (HR.out.below HB.out) HOG.out HYA.out HJN.out HRL.out HCD.out).mono ?_); rintro e_ u_ ⟨rfl, hb⟩; replace HB := Aside0.mk (below_step HB.out hb); replace L0 := Aside0.mk (blk_below L0.out hb); replace HRL := Aside0.mk (Kd.R_below (HRL.out) hb); replace HGW := Aside0.mk (grown_trans (HGW.out) (grown_of_below hb (some g))); (try clear c0 c1); obtain ⟨c0, c1⟩ := cs2 (L0.out); replace hS := below_step hS hb; refine ⟨_, rfl, hS, fun a_ ha_ => ?_⟩; (simp only [Act.put, List.setIfInBounds_toArray, List.set_cons_zero, List.set_cons_succ] at ha_); subst ha_; clear hb))
              refine p_fin ?_
              clear hS ZL0
              go_wp2_with (first | ((with_reducible refine gate_store (p := 34) rfl ?_); go_must ((refine wpList_plain rfl fun K_ hK_ => wp_cellB g j false rfl rfl rfl ⟨_, (outAtB HRL.out j HJN.out).1⟩ (outAtB HRL.out j HJN.out).2 (by kernel_rfl) (hK_ _ _ ?_)); refine named _ ?_; intro wz hwz; have hg_ : World.grownBy _ wz (some g) := hwz ▸ grown_setCell _ _ _ _; replace HRL := Aside0.mk (show KB.R 4 wz b (fun _ => True) (.slice (some ⟨g, 0, none⟩) ns.length cc) _ from hwz ▸ outPutB HRL.out j false); replace HGW := Aside0.mk (grown_trans HGW.out hg_); replace L0 := Aside0.mk (gw_blk hg_ L0.out (fun e => by have := Option.some.inj e; have := HG.out.2; omega)); (try clear c0 c1); obtain ⟨c0, c1⟩ := cs2 (L0.out); replace HB := Aside0.mk (HB.out.grown hg_ HB.out.size (fun k hk => by have := Option.some.inj hk; have := HG.out.1; omega)); clear hwz hg_)))
              go_roundw
              case rel => exact ⟨j + 1, true, m.set j false, HJN.out, rfl, by go_num, HST.out, (by intro h; cases h), (fun _ => by have := HCS.out; have := HCL.out; omega), (by have := HCS.out; have := HCL.out; omega), HRL.out, HGW.out, L0.out, HB.out⟩
              case measure => have := HJN.out; simp [intOf]; omega
            · have hcb : decide (cd < k) = false := decide_eq_false hck
              go_wp2_with (fail)
              have ZL0 := L0
              refine region_bp [] sLp7 (by kernel_rfl) sLp7_ok (by decide) (fun d _ _ _ _ h => by cases d <;> exact h) ?_
              intro u hb
              have hS := hb
              replace HB := Aside0.mk (below_step HB.out hb)
              replace L0 := Aside0.mk (blk_below L0.out hb)
              replace HRL := Aside0.mk (Kd.R_below (HRL.out) hb)
              replace HGW := Aside0.mk (grown_trans (HGW.out) (grown_of_below hb (some g)))
              (try clear c0 c1)
              obtain ⟨c0, c1⟩ := cs2 (L0.out)
              clear hb
              repeat (first | (refine p_off hS gt_ (by rfl) ?_; intro a_ ha_; (simp only [Act.put, List.setIfInBounds_toArray, List.set_cons_zero, List.set_cons_succ] at ha_); subst ha_) | (refine p_on (v := ?_) hS gt_ (by rfl) ?_ ?_; rotate_left; (· rintro w_ hS_; obtain ⟨c0_, c1_⟩ := cs2 (blk_below ZL0.out hS_); have r0_ := pw_cell_below hS_ r0; have r1_ := pw_cell_below hS_ r1; have k0_ := pw_cell_below hS_ k0; go_simp; with_reducible rfl); intro a_ ha_; (simp only [Act.put, List.setIfInBounds_toArray, List.set_cons_zero, List.set_cons_succ] at ha_); subst ha_) | (refine p_poff gt_ (by rfl) ?_; intro a_ ha_; (simp only [Act.put, List.setIfInBounds_toArray, List.set_cons_zero, List.set_cons_succ] at ha_); subst ha_) | (refine p_pon (v := ?_) gt_ (by rfl) ?_ ?_; rotate_left; (· go_simp; with_reducible rfl); intro a_ ha_; (simp only [Act.put, List.setIfInBounds_toArray, List.set_cons_zero, List.set_cons_succ] at ha_); subst ha_) | (refine p_ooff hS gt_ (by rfl) ?_; intro a_ ha_; (simp only [Act.put, List.setIfInBounds_toArray, List.set_cons_zero, List.set_cons_succ] at ha_); subst ha_) | (refine p_loff gt_ (by rfl) ?_; intro a_ ha_; (simp only [Act.put, List.setIfInBounds_toArray, List.set_cons_zero, List.set_cons_succ] at ha_); subst ha_) | (refine p_call (f := 192) (args := #[.agg #[.slice (some a1) ns.length c, .slice B es.length d], .slice (some ⟨g, 0, none⟩) ns.length cc, .agg #[.int .i64 y.lab, .int .i64 y.num]]) Try.func192 (by kernel_rfl) rfl gt_ (by rfl) (by rfl) mp_ ?_; (refine (left_calls (some a1) c ns B d es y j cd g cc b m _ (HR.out.below HB.out) HOG.out HYA.out HJN.out HRL.out HCD.out).mono ?_); rintro e_ u_ ⟨rfl, hb⟩; replace HB := Aside0.mk (below_step HB.out hb); replace L0 := Aside0.mk (blk_below L0.out hb); replace HRL := Aside0.mk (Kd.R_below (HRL.out) hb); replace HGW := Aside0.mk (grown_trans (HGW.out) (grown_of_below hb (some g))); (try clear c0 c1); obtain ⟨c0, c1⟩ := cs2 (L0.out); replace hS := below_step hS hb; refine ⟨_, rfl, hS, fun a_ ha_ => ?_⟩; (simp only [Act.put, List.setIfInBounds_toArray, List.set_cons_zero, List.set_cons_succ] at ha_); subst ha_; clear hb))
              refine p_fin ?_
              clear hS ZL0
              go_wp2_with (fail)
              go_roundw
              case rel => exact ⟨j + 1, v, m, HJN.out, rfl, by go_num, HP.out, (fun e => ⟨(HF.out e).1, (HF.out e).2.next (fun _ => by have := HDG.out; omega)⟩), HC.out, HCL.out, HRL.out, HGW.out, L0.out, HB.out⟩
              case measure => have := HJN.out; simp [intOf]; omega
        · have hjn : ¬ (j : Int) < (ns.length : Int) := by omega
          obtain rfl : j = ns.length := by have := HJ.out; omega
          clear hlt
          go_wp2_with (fail)
          go_roundw
          case rel => exact ⟨v, m, rfl, HP.out, (fun e => (HF.out e).2), HRL.out, HGW.out, L0.out, HB.out⟩
          case measure =>
            show truesN _ g _ + flag (.bool v) < truesN _ g _ + flag (.bool true)
            rw [truesN_eq HRL.out, HT.out]
            cases v
            · have := HCL.out
              show _ + 0 < _ + 1
              omega
            · have := HC.out rfl
              show _ + 1 < _ + 1
              omega
end Go.Proofs.Ytogmbeifbjgphaa.R
namespace Go.Proofs.Ytogmbeifbjgphaa.R
open Go.RowKit Go.Proofs.YtogmbeifbjgphaaV.PrintWords Go.Proofs.YtogmbeifbjgphaaV.PrintLast Go.Proofs.YtogmbeifbjgphaaV.PrintMore Go.Proofs.Ytogmbeifbjgphaa.M
set_option linter.unusedVariables false
set_option linter.unusedSimpArgs false
attribute [local go_sem high] eqN eqE
section
variable {w u : World}
theorem R_sep {α : Type} {d : Kd α} {e base : Nat} {ok : Nat → Prop} {v : Value} {xs : List α} (h : d.R e w base ok v xs) (hE : d.E = []) {row : Option Nat} (hg : w.grownBy u row) (hne : ∀ k, row = some k → v.ownBlock ≠ some k) : d.R e u base ok v xs := by
  rcases hv : v.ownBlock with _ | g
  · cases row with
    | none => exact Kd.R_grown1 (row := some 0) h hE ⟨hg.os, hg.tape, hg.output, hg.size, fun i hi _ => hg.block i hi (by simp)⟩ (by rw [hv]; simp)
    | some r => exact Kd.R_grown1 h hE hg (by rw [hv]; simp)
  · exact Kd.R_grown1 h hE hg (fun e => hne g (e.trans hv) hv)
variable {e b b' : Nat} {ok ok' : Nat → Prop} {v v' : Value} {xs : List Int} {ys : List Bool}
theorem sepIB (ho : (Kd.int .i64).R 3 w b ok v xs) (hl : KB.R 4 w b' ok' v' ys) : ∀ k, v.ownBlock = some k → v'.ownBlock ≠ some k := fun k h1 h2 => by
  obtain ⟨c1, e1⟩ := Kd.R_typed ho k h1
  obtain ⟨c2, e2⟩ := Kd.R_typed hl k h2
  rw [e1] at e2
  injection e2 with e2
  injection e2 with _ e2
  exact absurd e2 (by decide)
theorem sepBI (hl : KB.R 4 w b' ok' v' ys) (ho : (Kd.int .i64).R 3 w b ok v xs) : ∀ k, v'.ownBlock = some k → v.ownBlock ≠ some k := fun k h1 h2 => sepIB ho hl k h2 h1
theorem sepIB1 {g n c : Nat} (ho : (Kd.int .i64).R 3 w b ok (.slice (some ⟨g, 0, none⟩) n c) xs) (hl : KB.R 4 w b' ok' v' ys) : ∀ k, some g = some k → v'.ownBlock ≠ some k := sepIB ho hl
theorem sepBI1 {g n c : Nat} (hl : KB.R 4 w b' ok' (.slice (some ⟨g, 0, none⟩) n c) ys) (ho : (Kd.int .i64).R 3 w b ok v xs) : ∀ k, some g = some k → v.ownBlock ≠ some k := sepBI hl ho
end
def ScS (w : World) (A : Option Addr) (c : Nat) (ns : List Nd) (B : Option Addr) (d : Nat) (es : List Eg) (A3 : Option Addr) (c3 : Nat) (xs : List Int) (A4 : Option Addr) (c4 : Nat) (l : List Bool) (n : Nat) (wr : World) : Prop :=
  (Kd.int .i64).R 3 wr (w.heap.size + 1) (fun _ => True) (.slice A3 n c3) xs ∧ KB.R 4 wr (w.heap.size + 1) (fun _ => True) (.slice A4 n c4) l ∧ wr.heap[w.heap.size]? = some (.cells #[.slice A ns.length c, .slice B es.length d] 26 (0, 0)) ∧ Below w.heap.size w wr
def ScF (w : World) (A : Option Addr) (c : Nat) (ns : List Nd) (B : Option Addr) (d : Nat) (es : List Eg) (s3 s4 s5 : Value) (wr : World) : Prop :=
  ∃ (k : Nat) (A3 : Option Addr) (c3 : Nat) (A4 : Option Addr) (c4 : Nat), k ≤ ns.length ∧ s3 = .slice A3 k c3 ∧ s4 = .slice A4 k c4 ∧ s5 = .int .i64 (k : Int) ∧ ScS w A c ns B d es A3 c3 (List.replicate k 0) A4 c4 (List.replicate k true) k wr
def ScO (w : World) (A : Option Addr) (c : Nat) (ns : List Nd) (B : Option Addr) (d : Nat) (es : List Eg) (A3 : Option Addr) (c3 : Nat) (A4 : Option Addr) (c4 : Nat) (s4 s6 : Value) (wr : World) : Prop :=
  ∃ (k : Nat) (l : List Bool), (k = 0 ∨ k + 1 ≤ ns.length) ∧ s4 = .slice A4 ns.length c4 ∧ s6 = .int .i64 ((k + 1 : Nat) : Int) ∧ Peel (adjI ns es) ns.length (k + 1) l ∧ ScS w A c ns B d es A3 c3 (coreU (adjI ns es) ns.length k) A4 c4 l ns.length wr
def ScI (w : World) (A : Option Addr) (c : Nat) (ns : List Nd) (B : Option Addr) (d : Nat) (es : List Eg) (A3 : Option Addr) (c3 : Nat) (A4 : Option Addr) (c4 k : Nat) (s7 : Value) (wr : World) : Prop :=
  ∃ j : Nat, j ≤ ns.length ∧ s7 = .int .i64 (j : Int) ∧ ScS w A c ns B d es A3 c3 (coreV (adjI ns es) ns.length k j) A4 c4 (kcL (adjI ns es) ns.length (k + 1)) ns.length wr
set_option maxHeartbeats 25600000 in
set_option maxRecDepth 100000 in
theorem sWalkCore_calls (A : Option Addr) (c : Nat) (ns : List Nd) (B : Option Addr) (d : Nat) (es : List Eg) (w : World) (hr : GR w A c ns B d es) (hl : ns.length ≤ 100 ∧ es.length ≤ 100) :
    Calls Try.prog 73 #[.agg #[.slice A ns.length c, .slice B es.length d]] w fun e w' => RetI w.heap.size (wCore ns es) e w' ∧ Below w.heap.size w w' := by
  have HR := Aside0.mk hr
  have HLN := Aside0.mk hl
  clear hr hl
  obtain ⟨v, hv⟩ : ∃ v, okG ns es = v := ⟨_, rfl⟩
  have HOK := Aside0.mk hv
  clear hv
  obtain ⟨L0, HB⟩ := al1 w #[.slice A ns.length c, .slice B es.length d] 26
  cases v
  · have HW := Aside0.mk (show wCore ns es = [] from if_neg fun h => by rw [HOK.out] at h; cases h)
    go_enter Try.func73, Try.ntmps73
    go_wp2_with (first | ((with_reducible refine gate_dst (N := 8) rfl ?_); go_must ((refine w_lit #[] 3 0 rfl (by go_simp; (first | done | rfl)) ?_); intro g3 u_ hge_ hb0_ hb; have H3 := Aside0.mk (show w.heap.size + 1 ≤ g3 from Nat.le_trans (blk_lt L0.out) hge_); have HL3 := Aside0.mk (show Rw (Value.int .i64) 3 u_ g3 [] from hb0_); replace HB := Aside0.mk (below_step HB.out hb); replace L0 := Aside0.mk (blk_below L0.out hb); (try clear c0 c1); obtain ⟨c0, c1⟩ := cs2 (L0.out); clear hge_ hb0_ hb)) | (go_at_call 33; go_must ((refine (sGraphOk_calls A c ns B d es _ (HR.out.below HB.out) (by have := HLN.out; omega) (by have := HLN.out; omega)).mono ?_); rintro e u_ ⟨rfl, hb⟩; rw [HOK.out]; replace HB := Aside0.mk (below_step HB.out hb); replace L0 := Aside0.mk (blk_below L0.out hb); replace HL3 := Aside0.mk ((HL3.out).below hb); (try clear c0 c1); obtain ⟨c0, c1⟩ := cs2 (L0.out); clear hb)))
    go_ret
    exact ⟨by rw [HW.out]; exact RetI.row HL3.out rfl (by omega) (by have := H3.out; omega), HB.out⟩
  · have HOG := Aside0.mk (okG_true.1 HOK.out)
    have HLM := Aside0.mk (NsOk.mk HOG.out.nok HOG.out.nasc HOG.out.nfew).len
    have HW := Aside0.mk (show wCore ns es = coreL (adjI ns es) ns.length from if_pos HOK.out)
    have hnn : (ns.length : Int) ≤ 40 := by have := HLM.out; omega
    go_enter Try.func73, Try.ntmps73
    go_wp2_with (first | ((with_reducible refine gate_dst (N := 8) rfl ?_); go_must ((refine w_lit #[] 3 0 rfl (by go_simp; (first | done | rfl)) ?_); intro g3 u_ hge_ hb0_ hb; have H3 := Aside0.mk (show w.heap.size + 1 ≤ g3 from Nat.le_trans (blk_lt L0.out) hge_); have HL3 := Aside0.mk (show Rw (Value.int .i64) 3 u_ g3 [] from hb0_); replace HB := Aside0.mk (below_step HB.out hb); replace L0 := Aside0.mk (blk_below L0.out hb); (try clear c0 c1); obtain ⟨c0, c1⟩ := cs2 (L0.out); clear hge_ hb0_ hb)) | (go_at_call 33; go_must ((refine (sGraphOk_calls A c ns B d es _ (HR.out.below HB.out) (by have := HLN.out; omega) (by have := HLN.out; omega)).mono ?_); rintro e u_ ⟨rfl, hb⟩; rw [HOK.out]; replace HB := Aside0.mk (below_step HB.out hb); replace L0 := Aside0.mk (blk_below L0.out hb); replace HL3 := Aside0.mk ((HL3.out).below hb); (try clear c0 c1); obtain ⟨c0, c1⟩ := cs2 (L0.out); clear hb)) | ((with_reducible refine gate_dst (N := 13) rfl ?_); go_must ((refine w_lit #[] 4 0 rfl (by go_simp; (first | done | rfl)) ?_); intro g4 u_ hge_ hb0_ hb; have H4 := Aside0.mk (show w.heap.size + 1 ≤ g4 from Nat.le_trans (blk_lt L0.out) hge_); have HL4 := Aside0.mk (show Rw Value.bool 4 u_ g4 [] from hb0_); replace HB := Aside0.mk (below_step HB.out hb); replace L0 := Aside0.mk (blk_below L0.out hb); replace HL3 := Aside0.mk ((HL3.out).below hb); (try clear c0 c1); obtain ⟨c0, c1⟩ := cs2 (L0.out); clear hge_ hb0_ hb)))
    go_loopw [3, 4, 5] (fun s3 s4 s5 wr => ScF w A c ns B d es s3 s4 s5 wr) (fun _ _ s5 _ => (ns.length - intOf s5).toNat)
    case atStart => exact ⟨0, some ⟨g3, 0, none⟩, 0, some ⟨g4, 0, none⟩, 0, Nat.zero_le _, rfl, rfl, rfl, HL3.out.own (fun _ => rfl) H3.out (by simp), HL4.out.own (fun _ => rfl) H4.out (by simp), L0.out, HB.out⟩
    case round =>
      clear HB L0 HL3 H3 HL4 H4
      obtain ⟨k, A3, c3, A4, c4, hk, rfl, rfl, rfl, hro_, hrl_, l0_, hb_⟩ := hrel
      have HK := Aside0.mk hk
      clear hk
      have HRO := Aside0.mk hro_
      have HRL := Aside0.mk hrl_
      have L0 := Aside0.mk l0_
      have HB := Aside0.mk hb_
      obtain ⟨c0, c1⟩ := cs2 (L0.out)
      clear hro_ hrl_ l0_ hb_
      by_cases hlt : k < ns.length
      · have hkl : (k : Int) < (ns.length : Int) := by omega
        have HKN := Aside0.mk hlt
        clear hlt
        go_wp2_with (first | ((with_reducible refine gate_dst (N := 22) rfl ?_); go_must ((refine w_lit #[.int .i64 0] 3 1 rfl (by go_simp; (first | done | rfl)) ?_); intro gl u_ hge_ hb0_ hb; have LT := Aside0.mk hb0_; replace HB := Aside0.mk (below_step HB.out hb); replace L0 := Aside0.mk (blk_below L0.out hb); replace HRO := Aside0.mk (Kd.R_below (HRO.out) hb); replace HRL := Aside0.mk (Kd.R_below (HRL.out) hb); (try clear c0 c1); obtain ⟨c0, c1⟩ := cs2 (L0.out); clear hge_ hb0_ hb)) | ((with_reducible refine gate_dst (N := 23) rfl ?_); go_must ((refine w_append (flatI .i64) (base := w.heap.size + 1) (e := 3) (.int .i64 0) 8 (.slice A3 k c3) (List.replicate k (0 : Int)) [(0 : Int)] rfl rfl Try.underlying58 (by kernel_rfl) rfl (by decide) HRO.out (C_lit [(0 : Int)] LT.out rfl (by simp)) rfl rfl (blk_lt L0.out) (by have := HLM.out; have := HKN.out; simp only [List.length_replicate, List.length_singleton]; omega) ?_); intro B3 n3 p3 wt hn9_ hp9_ hr_ hg_ ho_; obtain rfl : n3 = (List.replicate k (0 : Int) ++ [(0 : Int)]).length := hn9_; have HR3 := Aside0.mk hr_; replace HRL := Aside0.mk (R_sep HRL.out rfl hg_ (sepIB HRO.out HRL.out)); replace L0 := Aside0.mk (gw_blk hg_ L0.out (fun e => by have := Kd.R_base HRO.out _ e.symm; omega)); (try clear c0 c1); obtain ⟨c0, c1⟩ := cs2 (L0.out); replace HB := Aside0.mk (HB.out.grown hg_ HB.out.size (fun k hk => by have := Kd.R_base HRO.out k hk; omega)); clear hp9_ hr_ hg_ ho_ HRO LT)) | ((with_reducible refine gate_dst (N := 25) rfl ?_); go_must ((refine w_lit #[.bool true] 4 1 rfl (by go_simp; (first | done | rfl)) ?_); intro gl u_ hge_ hb0_ hb; have LT := Aside0.mk hb0_; replace HB := Aside0.mk (below_step HB.out hb); replace L0 := Aside0.mk (blk_below L0.out hb); replace HR3 := Aside0.mk (Kd.R_below (HR3.out) hb); replace HRL := Aside0.mk (Kd.R_below (HRL.out) hb); (try clear c0 c1); obtain ⟨c0, c1⟩ := cs2 (L0.out); clear hge_ hb0_ hb)) | ((with_reducible refine gate_dst (N := 26) rfl ?_); go_must ((refine w_append flatB (base := w.heap.size + 1) (e := 4) (.bool false) 1 (.slice A4 k c4) (List.replicate k true) [true] rfl rfl Try.underlying124 (by kernel_rfl) rfl (by decide) HRL.out (C_litB [true] LT.out rfl (by simp)) rfl rfl (blk_lt L0.out) (by have := HLM.out; have := HKN.out; simp only [List.length_replicate, List.length_singleton]; omega) ?_); intro B4 n4 p4 wt hn9_ hp9_ hr_ hg_ ho_; obtain rfl : n4 = (List.replicate k true ++ [true]).length := hn9_; have HR4 := Aside0.mk hr_; replace HR3 := Aside0.mk (R_sep HR3.out rfl hg_ (sepBI HRL.out HR3.out)); replace L0 := Aside0.mk (gw_blk hg_ L0.out (fun e => by have := Kd.R_base HRL.out _ e.symm; omega)); (try clear c0 c1); obtain ⟨c0, c1⟩ := cs2 (L0.out); replace HB := Aside0.mk (HB.out.grown hg_ HB.out.size (fun k hk => by have := Kd.R_base HRL.out k hk; omega)); clear hp9_ hr_ hg_ ho_ HRL LT)))
        go_roundw
        case rel => exact ⟨k + 1, B3, p3, B4, p4, HKN.out, rfl, rfl, by go_num, by have h := HR3.out; rw [List.length_append, List.length_replicate, ← List.replicate_succ'] at h; exact h, by have h := HR4.out; rw [List.length_append, List.length_replicate, ← List.replicate_succ'] at h; exact h, L0.out, HB.out⟩
        case measure => have := HKN.out; simp [intOf]; omega
      · have hkl : ¬ (k : Int) < (ns.length : Int) := by omega
        obtain rfl : k = ns.length := by have := HK.out; omega
        clear hlt HK
        go_wp2_with (fail)
        go_loopw [4, 6, 7] (fun s4 s6 _ wr => ScO w A c ns B d es A3 c3 A4 c4 s4 s6 wr) (fun _ s6 _ _ => (ns.length - intOf s6).toNat)
        case atStart => exact ⟨0, _, .inl rfl, rfl, rfl, Peel.first, by rw [coreU_zero]; exact HRO.out, HRL.out, L0.out, HB.out⟩
        case round =>
          clear HB L0 HRO HRL
          obtain ⟨k, l, hk, rfl, rfl, hpl_, hro_, hrl_, l0_, hb_⟩ := hrel
          have HK := Aside0.mk hk
          have HPL := Aside0.mk hpl_
          clear hk hpl_
          have HRO := Aside0.mk hro_
          have HRL := Aside0.mk hrl_
          have L0 := Aside0.mk l0_
          have HB := Aside0.mk hb_
          obtain ⟨c0, c1⟩ := cs2 (L0.out)
          clear hro_ hrl_ l0_ hb_
          have hkb : (k : Int) ≤ 40 := by have := HK.out; have := HLM.out; omega
          by_cases hlt : k + 1 < ns.length
          · have hkl2 : ((k + 1 : Nat) : Int) < (ns.length : Int) := by omega
            have HKL := Aside0.mk hlt
            obtain ⟨a1, rfl⟩ : ∃ ad, A = some ad := by obtain ⟨ad, e, _⟩ := HR.out.cn.2.2 (by omega); exact ⟨ad, e⟩
            obtain ⟨g3, rfl⟩ := own_addrI HRO.out (by omega)
            obtain ⟨g4, rfl⟩ := own_addrB HRL.out (by omega)
            clear hlt
            go_wp2_with (first | (go_at_call 144; go_must ((refine (sPeel_calls w _ a1 c ns B d es (k + 1) g4 c4 (w.heap.size + 1) l HR.out HB.out HOG.out HRL.out (by have := Kd.R_base HRL.out g4 rfl; omega) (by have := HLM.out; have := HKL.out; omega) HPL.out).mono ?_); rintro e u_ ⟨rfl, hrl_, hg_⟩; replace HRO := Aside0.mk (R_sep HRO.out rfl hg_ (sepBI1 HRL.out HRO.out)); replace L0 := Aside0.mk (gw_blk hg_ L0.out (fun e => by have := Option.some.inj e; have := Kd.R_base HRL.out g4 rfl; omega)); (try clear c0 c1); obtain ⟨c0, c1⟩ := cs2 (L0.out); replace HB := Aside0.mk (HB.out.grown hg_ HB.out.size (fun k hk => by have := Option.some.inj hk; have := Kd.R_base HRL.out g4 rfl; omega)); replace HRL := Aside0.mk hrl_; clear hrl_ hg_ HPL)))
            go_loopw [7] (fun s7 wr => ScI w (some a1) c ns B d es (some ⟨g3, 0, none⟩) c3 (some ⟨g4, 0, none⟩) c4 k s7 wr) (fun s7 _ => (ns.length - intOf s7).toNat)
            case atStart => exact ⟨0, Nat.zero_le _, rfl, by rw [coreV_zero]; exact HRO.out, HRL.out, L0.out, HB.out⟩
            case round =>
              clear HB L0 HRO HRL
              obtain ⟨j, hj, rfl, hro_, hrl_, l0_, hb_⟩ := hrel
              have HJ := Aside0.mk hj
              clear hj
              have HRO := Aside0.mk hro_
              have HRL := Aside0.mk hrl_
              have L0 := Aside0.mk l0_
              have HB := Aside0.mk hb_
              obtain ⟨c0, c1⟩ := cs2 (L0.out)
              clear hro_ hrl_ l0_ hb_
              by_cases hlt : j < ns.length
              · have hjl : (j : Int) < (ns.length : Int) := by omega
                have HJN := Aside0.mk hlt
                obtain ⟨x, hx⟩ : ∃ x, kc (adjI ns es) ns.length (k + 1) j = x := ⟨_, rfl⟩
                have k0 := (outAtB HRL.out j hlt).1
                rw [kc_gb hlt, hx] at k0
                have HX := Aside0.mk hx
                clear hlt hx
                cases x
                · go_wp2_with (fail)
                  go_roundw
                  case rel => exact ⟨j + 1, HJN.out, by go_num, by rw [coreV_off HJN.out HX.out]; exact HRO.out, HRL.out, L0.out, HB.out⟩
                  case measure => have := HJN.out; simp [intOf]; omega
                · go_wp2_with (first | ((with_reducible refine gate_store (p := 51) rfl ?_); go_must ((refine wpList_plain rfl fun K_ hK_ => wp_cellI g3 j .i64 ((k + 1 : Nat) : Int) rfl rfl rfl ⟨_, (outAt HRO.out j HJN.out).1⟩ (outAt HRO.out j HJN.out).2 (by kernel_rfl) (hK_ _ _ ?_)); refine named _ ?_; intro wz hwz; have hg_ : World.grownBy _ wz (some g3) := hwz ▸ grown_setCell _ _ _ _; replace HRL := Aside0.mk (R_sep HRL.out rfl hg_ (sepIB1 HRO.out HRL.out)); replace L0 := Aside0.mk (gw_blk hg_ L0.out (fun e => by have := Option.some.inj e; have := Kd.R_base HRO.out g3 rfl; omega)); (try clear c0 c1); obtain ⟨c0, c1⟩ := cs2 (L0.out); replace HB := Aside0.mk (HB.out.grown hg_ HB.out.size (fun k hk => by have := Option.some.inj hk; have := Kd.R_base HRO.out g3 rfl; omega)); replace HRO := Aside0.mk (show (Kd.int .i64).R 3 wz (w.heap.size + 1) (fun _ => True) (.slice (some ⟨g3, 0, none⟩) ns.length c3) _ from hwz ▸ outPut HRO.out j ((k + 1 : Nat) : Int)); clear hwz hg_)))
                  go_roundw
                  case rel => exact ⟨j + 1, HJN.out, by go_num, by rw [← coreV_on HJN.out HX.out]; exact HRO.out, HRL.out, L0.out, HB.out⟩
                  case measure => have := HJN.out; simp [intOf]; omega
              · have hjl : ¬ (j : Int) < (ns.length : Int) := by omega
                obtain rfl : j = ns.length := by have := HJ.out; omega
                clear hlt
                go_wp2_with (fail)
                go_roundw
                case rel => exact ⟨k + 1, _, .inr (by have := HKL.out; omega), rfl, by go_num, Peel.next (kcL_len _ _ _) (fun v => gb_kc v), by rw [← coreV_end]; exact HRO.out, HRL.out, L0.out, HB.out⟩
                case measure => have := HKL.out; simp [intOf]; omega
          · have hkl2 : ¬ ((k + 1 : Nat) : Int) < (ns.length : Int) := by omega
            have HE := Aside0.mk (show coreU (adjI ns es) ns.length k = coreL (adjI ns es) ns.length from coreU_end fun v hv => by have := core_few (adjI_irr HOG.out) hv; omega)
            have HRD := Aside0.mk (Kd.R_reads' HRO.out)
            rw [HE.out] at HRD
            clear hlt
            go_wp2_with (fail)
            go_ret
            exact ⟨by rw [HW.out]; exact ⟨A3, c3, by rw [coreL_length]; rfl, HRD.out.2.2, by rw [coreL_length]; exact HRD.out.2.1, fun ad e => by have := Kd.R_base HRO.out ad.block (by rw [e]; rfl); omega⟩, HB.out⟩
end Go.Proofs.Ytogmbeifbjgphaa.R
