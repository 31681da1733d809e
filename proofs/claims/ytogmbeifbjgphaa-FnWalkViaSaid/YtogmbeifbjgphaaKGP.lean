/- slices.Compact at nodes, in a row of one's own. -/
import Derived.Test.YtogmbeifbjgphaaKGN
import Derived.Test.YtogmbeifbjgphaaKB22
import Derived.Test.YtogmbeifbjgphaaKB5
namespace Go.Proofs.Ytogmbeifbjgphaa.R
open Go.RowKit Go.Proofs.YtogmbeifbjgphaaV.PrintWords Go.Proofs.YtogmbeifbjgphaaV.PrintLast Go.Proofs.YtogmbeifbjgphaaV.PrintMore Go.Proofs.Ytogmbeifbjgphaa.M
set_option linter.unusedVariables false
set_option linter.unusedSimpArgs false
attribute [local go_sem high] eqN eqE
abbrev sCo6 : Pl := (.tk 0 (.tk 1 (.tk 2 (.tk 3 (.tk 4 (.tk 5 (.tk 6 (.tk 7 (.tk 8 (.tk 9 .fin))))))))))
theorem sCo6_ok : planB .any (opsOf Try.f115 6) [] sCo6 (Array.replicate (opsOf Try.f115 6).size false) = true := by kernel_rfl
abbrev sCo11 : Pl := (.tk 0 (.tk 1 (.tk 2 (.tk 3 (.tk 4 (.tk 5 (.tk 6 (.tk 7 (.tk 8 (.tk 9 .fin))))))))))
theorem sCo11_ok : planB .any (opsOf Try.f115 11) [] sCo11 (Array.replicate (opsOf Try.f115 11).size false) = true := by kernel_rfl
section
variable {P : Program} {ops : Array Oper} {rest : List Oper} {o : Oper} {a : Act} {Q : Exit → Act → World → Prop}
/-- A node is stored into a row of nodes. -/
theorem store_nd {W : World} {base g n cap : Nat} {e : TypeId} {xs : List Nd} (i : Nat) (x : Nd) (hN : o.dst = none) (hgd : o.guard = none) (t : TypeId) (p y : Operand) (ho : o.op = .store t p y) (haddr : a.eval p = .pointer (some ⟨g, i * 2, none⟩)) (hx : a.eval y = .agg #[.int .i64 x.lab, .int .i64 x.num]) (ht : (P.info? t).map (·.size) = some 2)
    (HO : kN.R e W base (fun _ => True) (.slice (some ⟨g, 0, none⟩) n cap) xs) (hi : i < n) (h : ∀ w1, kN.R e w1 base (fun _ => True) (.slice (some ⟨g, 0, none⟩) n cap) (xs.set i x) → W.grownBy w1 (some g) → wpList P ops Q rest a w1) : wpList P ops Q (o :: rest) a W := by
  obtain ⟨hn, hnc, hC⟩ := Kd.R_reads' HO
  obtain ⟨ad, e1, r0, r1⟩ := nd_at hC i (by omega)
  cases e1
  rw [add_plain] at r0 r1
  have HO2 := R_okN HO (ok' := fun k => True) (fun k _ => trivial)
  refine Kd.R_store kN (w0 := W) base hN hgd t p y ho e (i : Int) 0 xs x (.agg #[.int .i64 x.lab, .int .i64 x.num]) (cN x) (cN (at_ xs i)) (fun _ => True) (fun k => k ≠ g) haddr (by simp [kN, Kd.iso, Kd.pair]; try rfl) hx rfl ht (by simp [Value.oneCell']) HO2 (by omega) (by omega) rfl ?_ (Nat.le_refl 2) (kN_mkM _ _ _ x) (fun k hk => ⟨trivial, hk⟩) (Below.refl _ _) fun w1 h1 h2 h3 => h w1 (by simpa using h1) h3
  intro j u hj
  show W.cell? ⟨g, (i : Int).toNat * 2 + j, none⟩ = some u
  rw [Int.toNat_natCast]
  match j, hj with
  | 0, hj => injection hj with hj; subst hj; exact r0
  | 1, hj => injection hj with hj; subst hj; exact r1
end
theorem at_drop {l m : List Nd} {j i : Nat} (h : l.drop j = m.drop j) (hj : j ≤ i) (hi : i < m.length) : at_ l i = at_ m i := by
  unfold at_
  rw [List.getD_eq_getElem?_getD, List.getD_eq_getElem?_getD, show l[i]? = (l.drop j)[i - j]? by rw [List.getElem?_drop]; congr 1; omega, show m[i]? = (m.drop j)[i - j]? by rw [List.getElem?_drop]; congr 1; omega, h]
theorem take_snN' {l : List Nd} {j : Nat} (h : j < l.length) : l.take (j + 1) = l.take j ++ [at_ l j] := by
  rw [List.take_add_one, List.getElem?_eq_getElem h, at_lt h]
  rfl
theorem row_takeN {e : TypeId} {w : World} {base g n c m : Nat} {xs : List Nd} (h : kN.R e w base (fun _ => True) (.slice (some ⟨g, 0, none⟩) n c) xs) (hm : m ≤ n) : kN.R e w base (fun _ => True) (.slice (some ⟨g, 0, none⟩) m c) (xs.take m) := by
  obtain ⟨cs, cur, hn, hr, hcl, hb, hh, hnc, hcm, hcs, htk⟩ := flat_open flatN.1 h
  refine flat_close flatN (Kd.reps_take hr (by omega)) (by rw [List.length_take]; omega) hb hh (by omega) hcm hcs ?_
  rw [← htk, List.take_take]
  congr 1
  exact (Nat.min_eq_left (Nat.mul_le_mul_right _ hm)).symm
/-- The first j of a row, less each that is as the one ahead of it. -/
def ddT (l : List Nd) : Nat → List Nd
  | 0 => []
  | j + 1 => if 0 < j ∧ at_ l j = at_ l (j - 1) then ddT l j else ddT l j ++ [at_ l j]
def dd (l : List Nd) : List Nd := ddT l l.length
theorem ddT_same {l : List Nd} {j : Nat} (h0 : 0 < j) (h : at_ l j = at_ l (j - 1)) : ddT l (j + 1) = ddT l j := if_pos ⟨h0, h⟩
theorem ddT_more {l : List Nd} {j : Nat} (h : at_ l j ≠ at_ l (j - 1)) : ddT l (j + 1) = ddT l j ++ [at_ l j] := if_neg fun q => h q.2
theorem ddT_one {l : List Nd} (h : 0 < l.length) : ddT l 1 = l.take 1 := by
  rw [take_snN' h]
  rfl
set_option maxHeartbeats 6400000 in
set_option maxRecDepth 100000 in
theorem compactN_calls (base g c : Nat) (l : List Nd) (w : World) (hr : kN.R 28 w base (fun _ => True) (.slice (some ⟨g, 0, none⟩) l.length c) l) (hl : l.length ≤ 1000000) :
    Calls Try.prog 115 #[.slice (some ⟨g, 0, none⟩) l.length c] w fun e w' => e = .returned (.slice (some ⟨g, 0, none⟩) (dd l).length c) ∧ kN.R 28 w' base (fun _ => True) (.slice (some ⟨g, 0, none⟩) (dd l).length c) (dd l) ∧ w.grownBy w' (some g) := by
  have HR := Aside0.mk hr
  have HL := Aside0.mk hl
  clear hr
  by_cases hl2 : l.length < 2
  · have hq : (l.length : Int) < 2 := by omega
    have HD := Aside0.mk (show dd l = l by
      unfold dd
      rcases Nat.lt_or_ge 0 l.length with h | h
      · rw [show l.length = 1 by omega, ddT_one h, show (1 : Nat) = l.length by omega, List.take_length]
      · rw [show l.length = 0 by omega, List.length_eq_zero_iff.1 (show l.length = 0 by omega)]
        rfl)
    go_enter Try.func115, Try.ntmps115
    go_wp2_with (fail)
    go_ret
    exact ⟨by rw [HD.out]; rfl, by rw [HD.out]; exact HR.out, grown_of (Below.refl _ _) _⟩
  have hq : ¬ (l.length : Int) < 2 := by omega
  go_enter Try.func115, Try.ntmps115
  go_wp2_with (fail)
  go_loopw [3, 4, 5] (fun s3 _ _ wr => ∃ k : Nat, 1 ≤ k ∧ k ≤ l.length ∧ s3 = .int .i64 (k : Int) ∧ Aside0 (ddT l k = l.take k) ∧ Aside0 (Below w.heap.size w wr)) (fun s3 _ _ _ => (l.length - intOf s3).toNat)
  case atStart => exact ⟨1, Nat.le_refl _, by omega, rfl, ⟨ddT_one (by omega)⟩, ⟨Below.refl _ _⟩⟩
  case round =>
    obtain ⟨k, hk1, hkl, rfl, HT, HB⟩ := hrel
    by_cases hlt : k < l.length
    · have hjl : (k : Int) < (l.length : Int) := by omega
      have hk2 : k - 1 < l.length := by omega
      have hw1 : IntKind.i64.wrap ((k : Int) - 1) = ((k - 1 : Nat) : Int) := by rw [IntKind.wrap_i64]; omega
      have HTS := Aside0.mk (take_snN' hlt)
      have HRC := Aside0.mk (Kd.C_below (Kd.R_reads' HR.out).2.2 HB.out)
      obtain ⟨ad, e1, r0, r1⟩ := nd_at HRC.out k hlt
      cases e1
      obtain ⟨ad2, e2, t0, t1⟩ := nd_at HRC.out (k - 1) hk2
      cases e2
      simp only [add_plain] at r0 r1 t0 t1
      have HNE := Aside0.mk (ddT_more (l := l) (j := k))
      have HSM := Aside0.mk (ddT_same (l := l) (j := k) (by omega))
      generalize hx : at_ l k = x at r0 r1 HTS HNE HSM
      generalize hy : at_ l (k - 1) = y at t0 t1 HNE HSM
      clear hx hy
      obtain ⟨v, hv⟩ : ∃ v, (x.lab == y.lab && (x.num == y.num)) = v := ⟨_, rfl⟩
      have HV := Aside0.mk ((nd_eq x y).symm.trans hv)
      cases v
      · go_wp2_with (fail)
        refine region_bp [] sCo6 (by kernel_rfl) sCo6_ok (by decide) (fun d _ _ _ _ h => by cases d <;> exact h) ?_
        intro u hb
        have hS := hb
        replace HB := Aside0.mk (below_step HB.out hb)
        clear hb
        repeat (first | (refine p_off hS gt_ (by rfl) ?_; intro a_ ha_; (simp only [Act.put, List.setIfInBounds_toArray, List.set_cons_zero, List.set_cons_succ] at ha_); subst ha_) | (refine p_on (v := ?_) hS gt_ (by rfl) ?_ ?_; rotate_left; (· rintro w_ hS_; have r0_ := pw_cell_below hS_ r0; have r1_ := pw_cell_below hS_ r1; have t0_ := pw_cell_below hS_ t0; have t1_ := pw_cell_below hS_ t1; go_simp; with_reducible rfl); intro a_ ha_; (simp only [Act.put, List.setIfInBounds_toArray, List.set_cons_zero, List.set_cons_succ] at ha_); subst ha_) | (refine p_poff gt_ (by rfl) ?_; intro a_ ha_; (simp only [Act.put, List.setIfInBounds_toArray, List.set_cons_zero, List.set_cons_succ] at ha_); subst ha_) | (refine p_pon (v := ?_) gt_ (by rfl) ?_ ?_; rotate_left; (· go_simp; with_reducible rfl); intro a_ ha_; (simp only [Act.put, List.setIfInBounds_toArray, List.set_cons_zero, List.set_cons_succ] at ha_); subst ha_) | (refine p_ooff hS gt_ (by rfl) ?_; intro a_ ha_; (simp only [Act.put, List.setIfInBounds_toArray, List.set_cons_zero, List.set_cons_succ] at ha_); subst ha_) | (refine p_loff gt_ (by rfl) ?_; intro a_ ha_; (simp only [Act.put, List.setIfInBounds_toArray, List.set_cons_zero, List.set_cons_succ] at ha_); subst ha_))
        refine p_fin ?_
        clear hS 
        clear hw1
        go_wp2
        go_roundw
        case rel => exact ⟨k + 1, by omega, by omega, by go_num, ⟨by rw [HNE.out (of_decide_eq_false HV.out), HT.out, HTS.out]⟩, HB⟩
        case measure => simp [intOf]; omega
      · have HS1 := Aside0.mk (HSM.out (of_decide_eq_true HV.out))
        have p2 : ¬ c = k := by have := (Kd.R_reads' HR.out).2.1; omega
        have p3 : k ≤ c := by have := (Kd.R_reads' HR.out).2.1; omega
        have p1 : k ≤ l.length := by omega
        go_wp2_with (fail)
        refine region_bp [] sCo6 (by kernel_rfl) sCo6_ok (by decide) (fun d _ _ _ _ h => by cases d <;> exact h) ?_
        intro u hb
        have hS := hb
        replace HB := Aside0.mk (below_step HB.out hb)
        clear hb
        repeat (first | (refine p_off hS gt_ (by rfl) ?_; intro a_ ha_; (simp only [Act.put, List.setIfInBounds_toArray, List.set_cons_zero, List.set_cons_succ] at ha_); subst ha_) | (refine p_on (v := ?_) hS gt_ (by rfl) ?_ ?_; rotate_left; (· rintro w_ hS_; have r0_ := pw_cell_below hS_ r0; have r1_ := pw_cell_below hS_ r1; have t0_ := pw_cell_below hS_ t0; have t1_ := pw_cell_below hS_ t1; go_simp; with_reducible rfl); intro a_ ha_; (simp only [Act.put, List.setIfInBounds_toArray, List.set_cons_zero, List.set_cons_succ] at ha_); subst ha_) | (refine p_poff gt_ (by rfl) ?_; intro a_ ha_; (simp only [Act.put, List.setIfInBounds_toArray, List.set_cons_zero, List.set_cons_succ] at ha_); subst ha_) | (refine p_pon (v := ?_) gt_ (by rfl) ?_ ?_; rotate_left; (· go_simp; with_reducible rfl); intro a_ ha_; (simp only [Act.put, List.setIfInBounds_toArray, List.set_cons_zero, List.set_cons_succ] at ha_); subst ha_) | (refine p_ooff hS gt_ (by rfl) ?_; intro a_ ha_; (simp only [Act.put, List.setIfInBounds_toArray, List.set_cons_zero, List.set_cons_succ] at ha_); subst ha_) | (refine p_loff gt_ (by rfl) ?_; intro a_ ha_; (simp only [Act.put, List.setIfInBounds_toArray, List.set_cons_zero, List.set_cons_succ] at ha_); subst ha_))
        refine p_fin ?_
        clear hS 
        clear hw1 HTS HNE HSM
        go_wp2_with (fail)
        go_loopw [3, 5] (fun s3 s5 wr => ∃ (i m : Nat) (xs : List Nd), i ≤ k + m - 1 ∧ 1 ≤ m ∧ k + m ≤ l.length ∧ s3 = .int .i64 (i : Int) ∧ s5 = .int .i64 (m : Int) ∧ Aside0 (kN.R 28 wr base (fun _ => True) (.slice (some ⟨g, 0, none⟩) l.length c) xs) ∧ Aside0 (xs.take i = ddT l (k + m)) ∧ Aside0 (xs.drop (k + m - 1) = l.drop (k + m - 1)) ∧ Aside0 (w.grownBy wr (some g))) (fun _ s5 _ => (l.length - intOf s5).toNat)
        case atStart => exact ⟨k, 1, l, by omega, by omega, by omega, rfl, rfl, ⟨Kd.R_below HR.out HB.out⟩, ⟨by rw [HS1.out, HT.out]⟩, ⟨rfl⟩, ⟨grown_of HB.out _⟩⟩
        case round =>
          clear HB
          obtain ⟨i, m, xs, him, hm1, hml, rfl, rfl, HX, H1, H2, HG⟩ := hrel
          have HXL := Aside0.mk (Kd.R_reads' HX.out).1
          have hlc : l.length ≤ c := (Kd.R_reads' HX.out).2.1
          by_cases hlt2 : k + m < l.length
          · have hjl2 : (m : Int) < ((l.length - k : Nat) : Int) := by omega
            have hm0 : m < l.length - k := by omega
            have hm3 : m - 1 < l.length - k := by omega
            have hw2 : IntKind.i64.wrap ((m : Int) - 1) = ((m - 1 : Nat) : Int) := by rw [IntKind.wrap_i64]; omega
            have HRC := Aside0.mk (Kd.R_reads' HX.out).2.2
            obtain ⟨ad, e1, r0, r1⟩ := nd_at HRC.out (k + m) (by have := HXL.out; omega)
            cases e1
            obtain ⟨ad2, e2, t0, t1⟩ := nd_at HRC.out (k + m - 1) (by have := HXL.out; omega)
            cases e2
            rw [at_drop H2.out (by omega) hlt2] at r0 r1
            rw [at_drop H2.out (by omega) (by omega)] at t0 t1
            simp only [add_plain, show (k + m) * 2 = k * 2 + m * 2 by omega] at r0 r1
            simp only [add_plain, show (k + m - 1) * 2 = k * 2 + (m - 1) * 2 by omega] at t0 t1
            have HD2 := Aside0.mk (show xs.drop (k + m) = l.drop (k + m) by
              have h2 := congrArg (List.drop 1) H2.out
              rw [List.drop_drop, List.drop_drop, show k + m - 1 + 1 = k + m by omega] at h2
              exact h2)
            have HNE := Aside0.mk (ddT_more (l := l) (j := k + m))
            have HSM := Aside0.mk (ddT_same (l := l) (j := k + m) (by omega))
            generalize hx : at_ l (k + m) = x at r0 r1 HNE HSM
            generalize hy : at_ l (k + m - 1) = y at t0 t1 HNE HSM
            clear hx hy
            obtain ⟨v, hv⟩ : ∃ v, (x.lab == y.lab && (x.num == y.num)) = v := ⟨_, rfl⟩
            have HV := Aside0.mk ((nd_eq x y).symm.trans hv)
            have HB := Aside0.mk (Below.refl wr.heap.size wr)
            cases v
            · have HN1 := Aside0.mk (HNE.out (of_decide_eq_false HV.out))
              have hil : i < l.length := by omega
              go_wp2_with (fail)
              refine region_bp [] sCo11 (by kernel_rfl) sCo11_ok (by decide) (fun d _ _ _ _ h => by cases d <;> exact h) ?_
              intro u hb
              have hS := hb
              replace HB := Aside0.mk (below_step HB.out hb)
              replace HX := Aside0.mk (Kd.R_below (HX.out) hb)
              replace HG := Aside0.mk (grown_then (HG.out) (grown_of hb _))
              have R0n := Aside0.mk (pw_cell_below hb r0)
              have R1n := Aside0.mk (pw_cell_below hb r1)
              clear hb
              repeat (first | (refine p_off hS gt_ (by rfl) ?_; intro a_ ha_; (simp only [Act.put, List.setIfInBounds_toArray, List.set_cons_zero, List.set_cons_succ] at ha_); subst ha_) | (refine p_on (v := ?_) hS gt_ (by rfl) ?_ ?_; rotate_left; (· rintro w_ hS_; have r0_ := pw_cell_below hS_ r0; have r1_ := pw_cell_below hS_ r1; have t0_ := pw_cell_below hS_ t0; have t1_ := pw_cell_below hS_ t1; go_simp; with_reducible rfl); intro a_ ha_; (simp only [Act.put, List.setIfInBounds_toArray, List.set_cons_zero, List.set_cons_succ] at ha_); subst ha_) | (refine p_poff gt_ (by rfl) ?_; intro a_ ha_; (simp only [Act.put, List.setIfInBounds_toArray, List.set_cons_zero, List.set_cons_succ] at ha_); subst ha_) | (refine p_pon (v := ?_) gt_ (by rfl) ?_ ?_; rotate_left; (· go_simp; with_reducible rfl); intro a_ ha_; (simp only [Act.put, List.setIfInBounds_toArray, List.set_cons_zero, List.set_cons_succ] at ha_); subst ha_) | (refine p_ooff hS gt_ (by rfl) ?_; intro a_ ha_; (simp only [Act.put, List.setIfInBounds_toArray, List.set_cons_zero, List.set_cons_succ] at ha_); subst ha_) | (refine p_loff gt_ (by rfl) ?_; intro a_ ha_; (simp only [Act.put, List.setIfInBounds_toArray, List.set_cons_zero, List.set_cons_succ] at ha_); subst ha_))
              refine p_fin ?_
              clear hS 
              replace r0 := R0n.out
              replace r1 := R1n.out
              clear hw2
              go_wp2_with (first | ((with_reducible refine gate_store (p := 51) rfl ?_); go_must (refine store_nd i x rfl rfl 28 _ _ rfl rfl rfl (by kernel_rfl) HX.out (by omega) ?_); intro w3 hr3 hg3; have HX3 := Aside0.mk hr3; have HG3 := Aside0.mk (grown_then HG.out hg3); clear hr3 hg3))
              go_roundw
              case rel => exact ⟨i + 1, m + 1, xs.set i x, by omega, by omega, by omega, by go_num, by go_num, HX3, ⟨by rw [take_set (by have := HXL.out; omega), H1.out, ← HN1.out]; rfl⟩, ⟨by rw [show k + (m + 1) - 1 = k + m by omega, List.drop_set_of_lt (by omega)]; exact HD2.out⟩, HG3⟩
              case measure => simp [intOf]; omega
            · have HN1 := Aside0.mk (HSM.out (of_decide_eq_true HV.out))
              go_wp2_with (fail)
              refine region_bp [] sCo11 (by kernel_rfl) sCo11_ok (by decide) (fun d _ _ _ _ h => by cases d <;> exact h) ?_
              intro u hb
              have hS := hb
              replace HB := Aside0.mk (below_step HB.out hb)
              replace HX := Aside0.mk (Kd.R_below (HX.out) hb)
              replace HG := Aside0.mk (grown_then (HG.out) (grown_of hb _))
              have R0n := Aside0.mk (pw_cell_below hb r0)
              have R1n := Aside0.mk (pw_cell_below hb r1)
              clear hb
              repeat (first | (refine p_off hS gt_ (by rfl) ?_; intro a_ ha_; (simp only [Act.put, List.setIfInBounds_toArray, List.set_cons_zero, List.set_cons_succ] at ha_); subst ha_) | (refine p_on (v := ?_) hS gt_ (by rfl) ?_ ?_; rotate_left; (· rintro w_ hS_; have r0_ := pw_cell_below hS_ r0; have r1_ := pw_cell_below hS_ r1; have t0_ := pw_cell_below hS_ t0; have t1_ := pw_cell_below hS_ t1; go_simp; with_reducible rfl); intro a_ ha_; (simp only [Act.put, List.setIfInBounds_toArray, List.set_cons_zero, List.set_cons_succ] at ha_); subst ha_) | (refine p_poff gt_ (by rfl) ?_; intro a_ ha_; (simp only [Act.put, List.setIfInBounds_toArray, List.set_cons_zero, List.set_cons_succ] at ha_); subst ha_) | (refine p_pon (v := ?_) gt_ (by rfl) ?_ ?_; rotate_left; (· go_simp; with_reducible rfl); intro a_ ha_; (simp only [Act.put, List.setIfInBounds_toArray, List.set_cons_zero, List.set_cons_succ] at ha_); subst ha_) | (refine p_ooff hS gt_ (by rfl) ?_; intro a_ ha_; (simp only [Act.put, List.setIfInBounds_toArray, List.set_cons_zero, List.set_cons_succ] at ha_); subst ha_) | (refine p_loff gt_ (by rfl) ?_; intro a_ ha_; (simp only [Act.put, List.setIfInBounds_toArray, List.set_cons_zero, List.set_cons_succ] at ha_); subst ha_))
              refine p_fin ?_
              clear hS 
              replace r0 := R0n.out
              replace r1 := R1n.out
              clear hw2
              go_wp2_with (fail)
              go_roundw
              case rel => exact ⟨i, m + 1, xs, by omega, by omega, by omega, rfl, by go_num, HX, ⟨by rw [H1.out]; exact HN1.out.symm⟩, ⟨by rw [show k + (m + 1) - 1 = k + m by omega]; exact HD2.out⟩, HG⟩
              case measure => simp [intOf]; omega
          · have hjl2 : ¬ (m : Int) < ((l.length - k : Nat) : Int) := by omega
            have hkm : k + m = l.length := by omega
            rw [hkm] at H1
            have HR4 := Aside0.mk (row_takeN HX.out (m := i) (by omega))
            have HL4 := Aside0.mk (show (xs.take i).length = i by have := HXL.out; rw [List.length_take]; omega)
            have HF := Aside0.mk (show xs.take i = dd l from H1.out)
            have q1 : i ≤ l.length := by omega
            have q2 : ¬ c = i := by omega
            have q3 : i ≤ c := by omega
            go_wp2_with (first | ((with_reducible refine gate_builtin (b := .clear) rfl ?_); go_must (refine clear_tail flatN rfl _ 23 rfl Try.underlying23 (.agg #[(.int .i64 0), (.int .i64 0)]) 16 infoN rfl zoneN (off := i * 2) (m := l.length - i) rfl rfl HR4.out (by omega) (by omega) ?_); intro w4 hr4 hg4; have HR5 := Aside0.mk hr4; have HG4 := Aside0.mk (grown_then HG.out hg4); clear hr4 hg4))
            go_ret
            exact ⟨by rw [← HF.out, HL4.out]; rfl, by rw [← HF.out, HL4.out]; exact HR5.out, HG4.out⟩

    · have hjl : ¬ (k : Int) < (l.length : Int) := by omega
      obtain rfl : k = l.length := by omega
      have HD := Aside0.mk (show dd l = l by unfold dd; rw [HT.out, List.take_length])
      go_wp2_with (fail)
      go_ret
      exact ⟨by rw [HD.out]; rfl, by rw [HD.out]; exact Kd.R_below HR.out HB.out, grown_of HB.out _⟩
end Go.Proofs.Ytogmbeifbjgphaa.R
