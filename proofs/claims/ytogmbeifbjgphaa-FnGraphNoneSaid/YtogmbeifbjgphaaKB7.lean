/- Lists of nodes and of edges: copies, and whether two are one; Whether two graphs are one; a graph in new memory; the label of what is done; The label of what is done. -/
import Derived.Test.YtogmbeifbjgphaaKB6
namespace Go.Proofs.Ytogmbeifbjgphaa.R
open Go.RowKit Go.Proofs.YtogmbeifbjgphaaV.PrintWords Go.Proofs.YtogmbeifbjgphaaV.PrintLast Go.Proofs.YtogmbeifbjgphaaV.PrintMore Go.Proofs.Ytogmbeifbjgphaa.M
set_option linter.unusedVariables false
set_option linter.unusedSimpArgs false
attribute [local go_sem high] eqN eqE
theorem at_ext {l m : List Nd} (h : l.length = m.length) (h2 : ∀ t, t < l.length → at_ l t = at_ m t) : l = m :=
  List.ext_getElem h fun i h1 h3 => by rw [← at_lt h1, ← at_lt h3]; exact h2 i h1
theorem eat_ext {l m : List Eg} (h : l.length = m.length) (h2 : ∀ t, t < l.length → eat l t = eat m t) : l = m :=
  List.ext_getElem h fun i h1 h3 => by rw [← eat_lt h1, ← eat_lt h3]; exact h2 i h1
set_option maxHeartbeats 800000 in
set_option maxRecDepth 100000 in
theorem copyN_calls (A : Option Addr) (c : Nat) (l : List Nd) (w : World) (hr : kN.C w A l.length l) (hc : l.length ≤ c) (hl : l.length ≤ 1099511627776) :
    Calls Try.prog 159 #[.slice A l.length c] w fun e w' => ∃ A' : Option Addr, e = .returned (.slice A' l.length l.length) ∧ kN.R 28 w' w.heap.size (fun _ => True) (.slice A' l.length l.length) l ∧ Below w.heap.size w w' := by
  by_cases h0 : l.length = 0
  · obtain rfl := List.eq_nil_of_length_eq_zero h0
    go_enter Try.func159, Try.ntmps159
    go_wp2
    go_ret
    exact ⟨none, rfl, Kd.R_nil _ _ _ _ _, Below.refl _ _⟩
  · have z1 : ((l.length : Int) == 0) = false := by rw [beq_eq_false_iff_ne]; omega
    have HR := Aside0.mk hr
    have HL := Aside0.mk hl
    have HP := Aside0.mk (Nat.pos_of_ne_zero h0)
    clear hr hc hl h0
    go_enter Try.func159, Try.ntmps159
    go_wp2_with (first | ((with_reducible refine gate_dst (N := 9) rfl ?_); refine make_row kN _ 28 rfl 23 _ _ rfl l.length rfl rfl Try.underlying23 (.agg #[(.int .i64 0), (.int .i64 0)]) 16 infoN rfl (by decide) (by omega) zN (fun _ => kN_mkM _ _ _ zN) (by have := HL.out; omega) (Below.refl _ _) (Nat.le_refl _) ?_; intro w1 ho1 hb1; have HO1 := Aside0.mk ho1; have HB1 := Aside0.mk hb1; clear ho1 hb1) | ((with_reducible refine gate_builtin (b := .copy) rfl ?_); refine Cp.R_copy kN (w0 := w) w.heap.size 28 rfl (.tmp 10) (.tmp 11) 23 23 rfl Try.underlying23 (by kernel_rfl) _ (List.replicate l.length zN) l A c rfl rfl (by simp) HP.out HO1.out (Kd.C_below HR.out HB1.out) (fun x c h W' ok' => kN_KM x c _ h W' _ ok') HB1.out ?_; intro w2 ho2 hb2; have HO2 := Aside0.mk ho2; have HB2 := Aside0.mk hb2; clear ho2 hb2))
    go_ret
    exact ⟨_, rfl, HO2.out, HB2.out⟩
set_option maxHeartbeats 800000 in
set_option maxRecDepth 100000 in
theorem copyE_calls (A : Option Addr) (c : Nat) (l : List Eg) (w : World) (hr : kE.C w A l.length l) (hc : l.length ≤ c) (hl : l.length ≤ 1099511627776) :
    Calls Try.prog 160 #[.slice A l.length c] w fun e w' => ∃ A' : Option Addr, e = .returned (.slice A' l.length l.length) ∧ kE.R 30 w' w.heap.size (fun _ => True) (.slice A' l.length l.length) l ∧ Below w.heap.size w w' := by
  by_cases h0 : l.length = 0
  · obtain rfl := List.eq_nil_of_length_eq_zero h0
    go_enter Try.func160, Try.ntmps160
    go_wp2
    go_ret
    exact ⟨none, rfl, Kd.R_nil _ _ _ _ _, Below.refl _ _⟩
  · have z1 : ((l.length : Int) == 0) = false := by rw [beq_eq_false_iff_ne]; omega
    have HR := Aside0.mk hr
    have HL := Aside0.mk hl
    have HP := Aside0.mk (Nat.pos_of_ne_zero h0)
    clear hr hc hl h0
    go_enter Try.func160, Try.ntmps160
    go_wp2_with (first | ((with_reducible refine gate_dst (N := 9) rfl ?_); refine make_row kE _ 30 rfl 24 _ _ rfl l.length rfl rfl Try.underlying24 (.agg #[(.int .i64 0), (.int .i64 0), (.int .i64 0), (.int .i64 0), (.int .i64 0)]) 40 infoE rfl (by decide) (by omega) zE (fun _ => kE_mkM _ _ _ zE) (by have := HL.out; omega) (Below.refl _ _) (Nat.le_refl _) ?_; intro w1 ho1 hb1; have HO1 := Aside0.mk ho1; have HB1 := Aside0.mk hb1; clear ho1 hb1) | ((with_reducible refine gate_builtin (b := .copy) rfl ?_); refine Cp.R_copy kE (w0 := w) w.heap.size 30 rfl (.tmp 10) (.tmp 11) 24 24 rfl Try.underlying24 (by kernel_rfl) _ (List.replicate l.length zE) l A c rfl rfl (by simp) HP.out HO1.out (Kd.C_below HR.out HB1.out) (fun x c h W' ok' => kE_KM x c _ h W' _ ok') HB1.out ?_; intro w2 ho2 hb2; have HO2 := Aside0.mk ho2; have HB2 := Aside0.mk hb2; clear ho2 hb2))
    go_ret
    exact ⟨_, rfl, HO2.out, HB2.out⟩
abbrev sEqN : List (Nat × Bool) := [(0, true), (1, true), (2, true), (3, true), (4, true), (5, true), (6, true), (7, true), (8, true)]
theorem sEqN_ok : schedB .any (opsOf Try.f105 6) sEqN (Array.replicate (opsOf Try.f105 6).size false) = true := by kernel_rfl
set_option maxHeartbeats 3200000 in
set_option maxRecDepth 100000 in
theorem equalN_calls (A : Option Addr) (c : Nat) (l : List Nd) (B : Option Addr) (d : Nat) (m : List Nd) (w : World) (hr : kN.C w A l.length l) (hr2 : kN.C w B m.length m) (hl : l.length ≤ 1000000) :
    Calls Try.prog 105 #[.slice A l.length c, .slice B m.length d] w fun e w' => e = .returned (.bool (decide (l = m))) ∧ Below w.heap.size w w' := by
  have HR := Aside0.mk hr
  have HR2 := Aside0.mk hr2
  have HLL := Aside0.mk hl
  clear hr hr2 hl
  generalize hfin : decide (l = m) = fin
  have HF := Aside0.mk hfin
  clear hfin
  by_cases hlen : l.length = m.length
  · have HL := Aside0.mk hlen
    have hnb : decide ((l.length : Int) = (m.length : Int)) = true := decide_eq_true (by omega)
    have hnb2 : ((l.length : Int) == (m.length : Int)) = true := beq_iff_eq.2 (by omega)
    go_enter Try.func105, Try.ntmps105
    go_wp2_with (fail)
    go_loopw [13, 5] (fun s13 _ wr => ∃ j : Nat, j ≤ l.length ∧ s13 = .int .i64 (j : Int) ∧ Aside0 (∀ t, t < j → at_ l t = at_ m t) ∧ Aside0 (Below w.heap.size w wr)) (fun s13 _ _ => (l.length - intOf s13).toNat)
    case atStart => exact ⟨0, Nat.zero_le _, rfl, ⟨fun t ht => absurd ht (Nat.not_lt_zero _)⟩, ⟨Below.refl _ _⟩⟩
    case round =>
      obtain ⟨j, hj, rfl, H1, HB⟩ := hrel
      by_cases hlt : j < l.length
      · obtain ⟨ad, e1, r0, r1⟩ := nd_at (Kd.C_below HR.out HB.out) j hlt
        cases e1
        obtain ⟨ae, e2, t0, t1⟩ := nd_at (Kd.C_below HR2.out HB.out) j (by omega)
        cases e2
        generalize hx : at_ l j = x at r0 r1
        have HX := Aside0.mk hx
        clear hx
        generalize hy : at_ m j = y at t0 t1
        have HY := Aside0.mk hy
        clear hy
        have hjm : j < m.length := by omega
        by_cases hxy : x = y
        · subst hxy
          have hl := HLL.out
          go_wp2_with (fail)
          have HK_ := Aside0.mk (show Reg (fun u_ => Below w.heap.size w u_ ∧ u_.cell? (ad.add (j * 2)) = some (.int .i64 x.lab) ∧ u_.cell? ⟨(ad.add (j * 2)).block, (ad.add (j * 2)).off + 1, none⟩ = some (.int .i64 x.num) ∧ u_.cell? (ae.add (j * 2)) = some (.int .i64 x.lab) ∧ u_.cell? ⟨(ae.add (j * 2)).block, (ae.add (j * 2)).off + 1, none⟩ = some (.int .i64 x.num) ∧ True) from ⟨fun _ _ hb_ ⟨q_, s0_, s1_, s2_, s3_, _⟩ => ⟨below_step q_ hb_, pw_cell_below hb_ s0_, pw_cell_below hb_ s1_, pw_cell_below hb_ s2_, pw_cell_below hb_ s3_, trivial⟩⟩)
          refine region_by _ sEqN (by kernel_rfl) sEqN_ok rfl (fun d _ _ _ _ h => by cases d <;> exact h) HK_.out ⟨HB.out, r0, r1, t0, t1, trivial⟩ ?_
          intro u hS
          clear r0 r1 t0 t1
          repeat (first | (refine h_off gt_ (by rfl) ?_; intro a_ ha_; (simp only [Act.put, List.setIfInBounds_toArray, List.set_cons_zero, List.set_cons_succ] at ha_); subst ha_) | (refine h_on (v := ?_) gt_ (by rfl) ?_ ?_; rotate_left; (· rintro w_ ⟨-, s0_, s1_, s2_, s3_, -⟩; go_simp; with_reducible rfl); intro a_ ha_; (simp only [Act.put, List.setIfInBounds_toArray, List.set_cons_zero, List.set_cons_succ] at ha_); subst ha_) | (refine h_offc hS gt_ (by rfl) ?_; intro a_ ha_; (simp only [Act.put, List.setIfInBounds_toArray, List.set_cons_zero, List.set_cons_succ] at ha_); subst ha_))
          refine h_end ?_
          clear HK_ HB
          obtain ⟨hB_, r0, r1, t0, t1, -⟩ := hS
          have HB := Aside0.mk hB_
          clear hB_
          go_wp2
          go_roundw
          case rel => exact ⟨j + 1, by omega, by go_num, ⟨fun t ht => by
            rcases Nat.lt_succ_iff_lt_or_eq.1 ht with h | rfl
            · exact H1.out t h
            · rw [HX.out, HY.out]⟩, HB⟩
          case measure => simp [intOf]; omega
        · have hne : (!x.lab == y.lab || !x.num == y.num) = true := by
            have h := (nd_eq x y).trans (decide_eq_false hxy)
            revert h
            cases x.lab == y.lab <;> cases x.num == y.num <;> decide
          have HG := Aside0.mk (show fin = false by
            rw [← HF.out]
            exact decide_eq_false fun h => hxy (by rw [← HX.out, ← HY.out, h]))
          clear hxy
          go_wp2_with (fail)
          have HK_ := Aside0.mk (show Reg (fun u_ => Below w.heap.size w u_ ∧ u_.cell? (ad.add (j * 2)) = some (.int .i64 x.lab) ∧ u_.cell? ⟨(ad.add (j * 2)).block, (ad.add (j * 2)).off + 1, none⟩ = some (.int .i64 x.num) ∧ u_.cell? (ae.add (j * 2)) = some (.int .i64 y.lab) ∧ u_.cell? ⟨(ae.add (j * 2)).block, (ae.add (j * 2)).off + 1, none⟩ = some (.int .i64 y.num) ∧ True) from ⟨fun _ _ hb_ ⟨q_, s0_, s1_, s2_, s3_, _⟩ => ⟨below_step q_ hb_, pw_cell_below hb_ s0_, pw_cell_below hb_ s1_, pw_cell_below hb_ s2_, pw_cell_below hb_ s3_, trivial⟩⟩)
          refine region_by _ sEqN (by kernel_rfl) sEqN_ok rfl (fun d _ _ _ _ h => by cases d <;> exact h) HK_.out ⟨HB.out, r0, r1, t0, t1, trivial⟩ ?_
          intro u hS
          clear r0 r1 t0 t1
          repeat (first | (refine h_off gt_ (by rfl) ?_; intro a_ ha_; (simp only [Act.put, List.setIfInBounds_toArray, List.set_cons_zero, List.set_cons_succ] at ha_); subst ha_) | (refine h_on (v := ?_) gt_ (by rfl) ?_ ?_; rotate_left; (· rintro w_ ⟨-, s0_, s1_, s2_, s3_, -⟩; go_simp; with_reducible rfl); intro a_ ha_; (simp only [Act.put, List.setIfInBounds_toArray, List.set_cons_zero, List.set_cons_succ] at ha_); subst ha_) | (refine h_offc hS gt_ (by rfl) ?_; intro a_ ha_; (simp only [Act.put, List.setIfInBounds_toArray, List.set_cons_zero, List.set_cons_succ] at ha_); subst ha_))
          refine h_end ?_
          clear HK_ HB
          obtain ⟨hB_, r0, r1, t0, t1, -⟩ := hS
          have HB := Aside0.mk hB_
          clear hB_
          go_wp2
          go_ret
          exact ⟨retB HG.out.symm, HB.out⟩
      · have HG := Aside0.mk (show fin = true by
          rw [← HF.out]
          exact decide_eq_true (at_ext HL.out fun t ht => H1.out t (by omega)))
        go_wp2_with (fail)
        go_ret
        exact ⟨retB HG.out.symm, HB.out⟩
  · have HG := Aside0.mk (show fin = false by
      rw [← HF.out]
      exact decide_eq_false fun h => hlen (by rw [h]))
    have hnb : decide ((l.length : Int) = (m.length : Int)) = false := decide_eq_false (by omega)
    have hnb2 : ((l.length : Int) == (m.length : Int)) = false := beq_eq_false_iff_ne.2 (by omega)
    go_enter Try.func105, Try.ntmps105
    go_wp2_with (fail)
    go_ret
    exact ⟨retB HG.out.symm, Below.refl _ _⟩
abbrev sEqE : List (Nat × Bool) := [(0, true), (1, true), (2, true), (3, true), (4, true), (5, true), (6, true), (7, true), (8, true)]
theorem sEqE_ok : schedB .any (opsOf Try.f106 6) sEqE (Array.replicate (opsOf Try.f106 6).size false) = true := by kernel_rfl
set_option maxHeartbeats 3200000 in
set_option maxRecDepth 100000 in
theorem equalE_calls (A : Option Addr) (c : Nat) (l : List Eg) (B : Option Addr) (d : Nat) (m : List Eg) (w : World) (hr : kE.C w A l.length l) (hr2 : kE.C w B m.length m) (hl : l.length ≤ 1000000) :
    Calls Try.prog 106 #[.slice A l.length c, .slice B m.length d] w fun e w' => e = .returned (.bool (decide (l = m))) ∧ Below w.heap.size w w' := by
  have HR := Aside0.mk hr
  have HR2 := Aside0.mk hr2
  have HLL := Aside0.mk hl
  clear hr hr2 hl
  generalize hfin : decide (l = m) = fin
  have HF := Aside0.mk hfin
  clear hfin
  by_cases hlen : l.length = m.length
  · have HL := Aside0.mk hlen
    have hnb : decide ((l.length : Int) = (m.length : Int)) = true := decide_eq_true (by omega)
    have hnb2 : ((l.length : Int) == (m.length : Int)) = true := beq_iff_eq.2 (by omega)
    go_enter Try.func106, Try.ntmps106
    go_wp2_with (fail)
    go_loopw [13, 5] (fun s13 _ wr => ∃ j : Nat, j ≤ l.length ∧ s13 = .int .i64 (j : Int) ∧ Aside0 (∀ t, t < j → eat l t = eat m t) ∧ Aside0 (Below w.heap.size w wr)) (fun s13 _ _ => (l.length - intOf s13).toNat)
    case atStart => exact ⟨0, Nat.zero_le _, rfl, ⟨fun t ht => absurd ht (Nat.not_lt_zero _)⟩, ⟨Below.refl _ _⟩⟩
    case round =>
      obtain ⟨j, hj, rfl, H1, HB⟩ := hrel
      by_cases hlt : j < l.length
      · obtain ⟨ad, e1, r0, r1, r2, r3, r4⟩ := eg_at (Kd.C_below HR.out HB.out) j hlt
        cases e1
        obtain ⟨ae, e2, t0, t1, t2, t3, t4⟩ := eg_at (Kd.C_below HR2.out HB.out) j (by omega)
        cases e2
        generalize hx : eat l j = x at r0 r1 r2 r3 r4
        have HX := Aside0.mk hx
        clear hx
        generalize hy : eat m j = y at t0 t1 t2 t3 t4
        have HY := Aside0.mk hy
        clear hy
        have hjm : j < m.length := by omega
        by_cases hxy : x = y
        · subst hxy
          have hl := HLL.out
          go_wp2_with (fail)
          have HK_ := Aside0.mk (show Reg (fun u_ => Below w.heap.size w u_ ∧ u_.cell? (ad.add (j * 5)) = some (.int .i64 x.lab) ∧ u_.cell? ⟨(ad.add (j * 5)).block, (ad.add (j * 5)).off + 1, none⟩ = some (.int .i64 x.a.lab) ∧ u_.cell? ⟨(ad.add (j * 5)).block, (ad.add (j * 5)).off + 2, none⟩ = some (.int .i64 x.a.num) ∧ u_.cell? ⟨(ad.add (j * 5)).block, (ad.add (j * 5)).off + 3, none⟩ = some (.int .i64 x.b.lab) ∧ u_.cell? ⟨(ad.add (j * 5)).block, (ad.add (j * 5)).off + 4, none⟩ = some (.int .i64 x.b.num) ∧ u_.cell? (ae.add (j * 5)) = some (.int .i64 x.lab) ∧ u_.cell? ⟨(ae.add (j * 5)).block, (ae.add (j * 5)).off + 1, none⟩ = some (.int .i64 x.a.lab) ∧ u_.cell? ⟨(ae.add (j * 5)).block, (ae.add (j * 5)).off + 2, none⟩ = some (.int .i64 x.a.num) ∧ u_.cell? ⟨(ae.add (j * 5)).block, (ae.add (j * 5)).off + 3, none⟩ = some (.int .i64 x.b.lab) ∧ u_.cell? ⟨(ae.add (j * 5)).block, (ae.add (j * 5)).off + 4, none⟩ = some (.int .i64 x.b.num) ∧ True) from ⟨fun _ _ hb_ ⟨q_, s0_, s1_, s2_, s3_, s4_, s5_, s6_, s7_, s8_, s9_, _⟩ => ⟨below_step q_ hb_, pw_cell_below hb_ s0_, pw_cell_below hb_ s1_, pw_cell_below hb_ s2_, pw_cell_below hb_ s3_, pw_cell_below hb_ s4_, pw_cell_below hb_ s5_, pw_cell_below hb_ s6_, pw_cell_below hb_ s7_, pw_cell_below hb_ s8_, pw_cell_below hb_ s9_, trivial⟩⟩)
          refine region_by _ sEqE (by kernel_rfl) sEqE_ok rfl (fun d _ _ _ _ h => by cases d <;> exact h) HK_.out ⟨HB.out, r0, r1, r2, r3, r4, t0, t1, t2, t3, t4, trivial⟩ ?_
          intro u hS
          clear r0 r1 r2 r3 r4 t0 t1 t2 t3 t4
          repeat (first | (refine h_off gt_ (by rfl) ?_; intro a_ ha_; (simp only [Act.put, List.setIfInBounds_toArray, List.set_cons_zero, List.set_cons_succ] at ha_); subst ha_) | (refine h_on (v := ?_) gt_ (by rfl) ?_ ?_; rotate_left; (· rintro w_ ⟨-, s0_, s1_, s2_, s3_, s4_, s5_, s6_, s7_, s8_, s9_, -⟩; go_simp; with_reducible rfl); intro a_ ha_; (simp only [Act.put, List.setIfInBounds_toArray, List.set_cons_zero, List.set_cons_succ] at ha_); subst ha_) | (refine h_offc hS gt_ (by rfl) ?_; intro a_ ha_; (simp only [Act.put, List.setIfInBounds_toArray, List.set_cons_zero, List.set_cons_succ] at ha_); subst ha_))
          refine h_end ?_
          clear HK_ HB
          obtain ⟨hB_, r0, r1, r2, r3, r4, t0, t1, t2, t3, t4, -⟩ := hS
          have HB := Aside0.mk hB_
          clear hB_
          go_wp2
          go_roundw
          case rel => exact ⟨j + 1, by omega, by go_num, ⟨fun t ht => by
            rcases Nat.lt_succ_iff_lt_or_eq.1 ht with h | rfl
            · exact H1.out t h
            · rw [HX.out, HY.out]⟩, HB⟩
          case measure => simp [intOf]; omega
        · have hne : (!x.lab == y.lab || ((!x.a.lab == y.a.lab || !x.a.num == y.a.num) || (!x.b.lab == y.b.lab || !x.b.num == y.b.num))) = true := by
            have h := (eg_eq x y).trans (decide_eq_false hxy)
            revert h
            cases x.lab == y.lab <;> cases x.a.lab == y.a.lab <;> cases x.a.num == y.a.num <;> cases x.b.lab == y.b.lab <;> cases x.b.num == y.b.num <;> decide
          have HG := Aside0.mk (show fin = false by
            rw [← HF.out]
            exact decide_eq_false fun h => hxy (by rw [← HX.out, ← HY.out, h]))
          clear hxy
          go_wp2_with (fail)
          have HK_ := Aside0.mk (show Reg (fun u_ => Below w.heap.size w u_ ∧ u_.cell? (ad.add (j * 5)) = some (.int .i64 x.lab) ∧ u_.cell? ⟨(ad.add (j * 5)).block, (ad.add (j * 5)).off + 1, none⟩ = some (.int .i64 x.a.lab) ∧ u_.cell? ⟨(ad.add (j * 5)).block, (ad.add (j * 5)).off + 2, none⟩ = some (.int .i64 x.a.num) ∧ u_.cell? ⟨(ad.add (j * 5)).block, (ad.add (j * 5)).off + 3, none⟩ = some (.int .i64 x.b.lab) ∧ u_.cell? ⟨(ad.add (j * 5)).block, (ad.add (j * 5)).off + 4, none⟩ = some (.int .i64 x.b.num) ∧ u_.cell? (ae.add (j * 5)) = some (.int .i64 y.lab) ∧ u_.cell? ⟨(ae.add (j * 5)).block, (ae.add (j * 5)).off + 1, none⟩ = some (.int .i64 y.a.lab) ∧ u_.cell? ⟨(ae.add (j * 5)).block, (ae.add (j * 5)).off + 2, none⟩ = some (.int .i64 y.a.num) ∧ u_.cell? ⟨(ae.add (j * 5)).block, (ae.add (j * 5)).off + 3, none⟩ = some (.int .i64 y.b.lab) ∧ u_.cell? ⟨(ae.add (j * 5)).block, (ae.add (j * 5)).off + 4, none⟩ = some (.int .i64 y.b.num) ∧ True) from ⟨fun _ _ hb_ ⟨q_, s0_, s1_, s2_, s3_, s4_, s5_, s6_, s7_, s8_, s9_, _⟩ => ⟨below_step q_ hb_, pw_cell_below hb_ s0_, pw_cell_below hb_ s1_, pw_cell_below hb_ s2_, pw_cell_below hb_ s3_, pw_cell_below hb_ s4_, pw_cell_below hb_ s5_, pw_cell_below hb_ s6_, pw_cell_below hb_ s7_, pw_cell_below hb_ s8_, pw_cell_below hb_ s9_, trivial⟩⟩)
          refine region_by _ sEqE (by kernel_rfl) sEqE_ok rfl (fun d _ _ _ _ h => by cases d <;> exact h) HK_.out ⟨HB.out, r0, r1, r2, r3, r4, t0, t1, t2, t3, t4, trivial⟩ ?_
          intro u hS
          clear r0 r1 r2 r3 r4 t0 t1 t2 t3 t4
          repeat (first | (refine h_off gt_ (by rfl) ?_; intro a_ ha_; (simp only [Act.put, List.setIfInBounds_toArray, List.set_cons_zero, List.set_cons_succ] at ha_); subst ha_) | (refine h_on (v := ?_) gt_ (by rfl) ?_ ?_; rotate_left; (· rintro w_ ⟨-, s0_, s1_, s2_, s3_, s4_, s5_, s6_, s7_, s8_, s9_, -⟩; go_simp; with_reducible rfl); intro a_ ha_; (simp only [Act.put, List.setIfInBounds_toArray, List.set_cons_zero, List.set_cons_succ] at ha_); subst ha_) | (refine h_offc hS gt_ (by rfl) ?_; intro a_ ha_; (simp only [Act.put, List.setIfInBounds_toArray, List.set_cons_zero, List.set_cons_succ] at ha_); subst ha_))
          refine h_end ?_
          clear HK_ HB
          obtain ⟨hB_, r0, r1, r2, r3, r4, t0, t1, t2, t3, t4, -⟩ := hS
          have HB := Aside0.mk hB_
          clear hB_
          go_wp2
          go_ret
          exact ⟨retB HG.out.symm, HB.out⟩
      · have HG := Aside0.mk (show fin = true by
          rw [← HF.out]
          exact decide_eq_true (eat_ext HL.out fun t ht => H1.out t (by omega)))
        go_wp2_with (fail)
        go_ret
        exact ⟨retB HG.out.symm, HB.out⟩
  · have HG := Aside0.mk (show fin = false by
      rw [← HF.out]
      exact decide_eq_false fun h => hlen (by rw [h]))
    have hnb : decide ((l.length : Int) = (m.length : Int)) = false := decide_eq_false (by omega)
    have hnb2 : ((l.length : Int) == (m.length : Int)) = false := beq_eq_false_iff_ne.2 (by omega)
    go_enter Try.func106, Try.ntmps106
    go_wp2_with (fail)
    go_ret
    exact ⟨retB HG.out.symm, Below.refl _ _⟩
end Go.Proofs.Ytogmbeifbjgphaa.R
namespace Go.Proofs.Ytogmbeifbjgphaa.R
open Go.RowKit Go.Proofs.YtogmbeifbjgphaaV.PrintWords Go.Proofs.YtogmbeifbjgphaaV.PrintLast Go.Proofs.YtogmbeifbjgphaaV.PrintMore Go.Proofs.Ytogmbeifbjgphaa.M
set_option linter.unusedVariables false
set_option linter.unusedSimpArgs false
attribute [local go_sem high] eqN eqE
section
variable {P : Program} {ops : Array Oper} {Q : Exit → Act → World → Prop} {S : World → Prop} {E : Act → World → Prop} {i : Nat} {r : List (Nat × Bool)} {o : Oper} {v : Value} {a : Act} {w w1 : World}
end
/-- A struct is stored into a block. -/
theorem h_row {P : Program} {ops : Array Oper} {Q : Exit → Act → World → Prop} {S : World → Prop} {E : Act → World → Prop} {i : Nat} {r : List (Nat × Bool)} {o : Oper} {a : Act} {w : World} {ty : TypeId} {x y : Operand} (g : Nat) (cells : Array Value) (t : TypeId) (old : Array Value) (hg : w.heap[g]? = some (.cells old t (0, 0)))
    (ho : ops[i]? = some o) (hw : Region.wanted o (yielded ops a.tmps) = true) (hop : o.op = .store ty x y) (hx : a.eval x = .pointer (some ⟨g, 0, none⟩)) (hy : a.eval y = .agg cells) (hi : (P.info? ty).map (·.size) = some cells.size)
    (hold : old.size = cells.size) (h1 : cells.all (·.oneCell') = true) (hS : S (w.setRow g cells)) (h : ∀ a', a.put o.dst undef = a' → wpH P ops Q S E r a' (w.setRow g cells)) : wpH P ops Q S E ((i, false) :: r) a w :=
  ⟨o, ho, fun K hK => by
    rw [hw, if_pos rfl]
    exact wp_store_row ty x y hop g cells hx hy t old hg hi hold h1 (hK _ _ hS fun _ => h _ rfl)⟩
/-- Rows of nodes, of edges: what is asked of the blocks is asked of the row's own block alone. -/
theorem R_okN {e : TypeId} {w : World} {base : Nat} {ok ok' : Nat → Prop} {v : Value} {xs : List Nd} (h : kN.R e w base ok v xs) (hk : ∀ k, v.ownBlock = some k → ok' k) : kN.R e w base ok' v xs := by
  obtain ⟨h0, inner, ho, hr⟩ := h
  exact ⟨hk, inner, ho, hr.imp_ fun p c hp => kN_KM p c w (kN.K_of_M hp) w base _⟩
theorem R_okE {e : TypeId} {w : World} {base : Nat} {ok ok' : Nat → Prop} {v : Value} {xs : List Eg} (h : kE.R e w base ok v xs) (hk : ∀ k, v.ownBlock = some k → ok' k) : kE.R e w base ok' v xs := by
  obtain ⟨h0, inner, ho, hr⟩ := h
  exact ⟨hk, inner, ho, hr.imp_ fun p c hp => kE_KM p c w (kE.K_of_M hp) w base _⟩
theorem grown_setRow (w : World) (g : Nat) (cs : Array Value) : w.grownBy (w.setRow g cs) (some g) := ⟨rfl, rfl, rfl, by simp, fun k _ hk => setRow_other w g k cs (fun e => hk (by rw [e]))⟩
/-- A row stays where another block, or none, has been written. -/
theorem R_farN {e : TypeId} {w w1 : World} {base : Nat} {ok : Nat → Prop} {v : Value} {xs : List Nd} (h : kN.R e w base ok v xs) {row : Option Nat} (hg : w.grownBy w1 row) (hk : ∀ k, v.ownBlock = some k → some k ≠ row) : kN.R e w1 base ok v xs :=
  Kd.R_mono (Kd.R_grown (R_okN h (ok' := fun k => ok k ∧ some k ≠ row) fun k hv => ⟨h.1 k hv, hk k hv⟩) hg fun _ h => h.2) fun _ h => h.1
theorem R_farE {e : TypeId} {w w1 : World} {base : Nat} {ok : Nat → Prop} {v : Value} {xs : List Eg} (h : kE.R e w base ok v xs) {row : Option Nat} (hg : w.grownBy w1 row) (hk : ∀ k, v.ownBlock = some k → some k ≠ row) : kE.R e w1 base ok v xs :=
  Kd.R_mono (Kd.R_grown (R_okE h (ok' := fun k => ok k ∧ some k ≠ row) fun k hv => ⟨h.1 k hv, hk k hv⟩) hg fun _ h => h.2) fun _ h => h.1
/-- No block is both rows'. -/
def Off (u v : Value) : Prop := ∀ k, u.ownBlock = some k → v.ownBlock ≠ some k
set_option maxHeartbeats 800000 in
theorem graphSame_calls (A : Option Addr) (c : Nat) (ns : List Nd) (A2 : Option Addr) (c2 : Nat) (es : List Eg) (B : Option Addr) (d : Nat) (ms : List Nd) (B2 : Option Addr) (d2 : Nat) (fs : List Eg) (w : World) (hr : kN.C w A ns.length ns) (hr2 : kE.C w A2 es.length es) (hs : kN.C w B ms.length ms) (hs2 : kE.C w B2 fs.length fs) (hn : ns.length ≤ 1000000) (he : es.length ≤ 1000000) :
    Calls Try.prog 35 #[.agg #[.slice A ns.length c, .slice A2 es.length c2], .agg #[.slice B ms.length d, .slice B2 fs.length d2]] w fun e w' => e = .returned (.bool (decide (ns = ms) && decide (es = fs))) ∧ Below w.heap.size w w' := by
  have HR := Aside0.mk hr
  have HR2 := Aside0.mk hr2
  have HS := Aside0.mk hs
  have HS2 := Aside0.mk hs2
  have HN := Aside0.mk hn
  have HE := Aside0.mk he
  clear hr hr2 hs hs2 hn he
  cases h : decide (ns = ms) with
  | false =>
    have H := Aside0.mk h
    clear h
    go_enter Try.func35, Try.ntmps35
    go_wp2_with (first | (go_at_call 105; (refine (equalN_calls A c ns B d ms _ (Kd.C_alloc (Kd.C_alloc HR.out _) _) (Kd.C_alloc (Kd.C_alloc HS.out _) _) HN.out).mono ?_); rintro e w1 ⟨rfl, hb⟩; rw [H.out]; have HB := Aside0.mk (below_step (below_alloc (below_alloc (Below.refl w.heap.size w) _) _) hb); clear hb))
    go_ret
    exact ⟨retB (by simp), HB.out⟩
  | true =>
    have H := Aside0.mk h
    clear h
    go_enter Try.func35, Try.ntmps35
    go_wp2_with (first | (go_at_call 105; (refine (equalN_calls A c ns B d ms _ (Kd.C_alloc (Kd.C_alloc HR.out _) _) (Kd.C_alloc (Kd.C_alloc HS.out _) _) HN.out).mono ?_); rintro e w1 ⟨rfl, hb⟩; rw [H.out]; have HB := Aside0.mk (below_step (below_alloc (below_alloc (Below.refl w.heap.size w) _) _) hb); have c0 : w1.cell? ⟨w.heap.size, 1, none⟩ = some (.slice A2 es.length c2) := pw_cell_below hb (by simp); have c1 : w1.cell? ⟨w.heap.size + 1, 1, none⟩ = some (.slice B2 fs.length d2) := pw_cell_below hb (by simp); clear hb) | (go_at_call 106; (refine (equalE_calls A2 c2 es B2 d2 fs _ (Kd.C_below HR2.out HB.out) (Kd.C_below HS2.out HB.out) HE.out).mono ?_); rintro e w2 ⟨rfl, hb⟩; have HB2 := Aside0.mk (below_step HB.out hb); clear hb))
    go_ret
    exact ⟨retB (by simp), HB2.out⟩
abbrev sGc : List (Nat × Bool) := [(0, true), (1, true), (3, true), (4, true), (2, false), (5, false), (6, true), (7, false)]
theorem sGc_ok : schedB .any (opsOf Try.f90 1) sGc (Array.replicate (opsOf Try.f90 1).size false) = true := by kernel_rfl
set_option maxHeartbeats 800000 in
theorem graphCopy_calls (A : Option Addr) (c : Nat) (ns : List Nd) (A2 : Option Addr) (c2 : Nat) (es : List Eg) (w : World) (hr : kN.C w A ns.length ns) (hr2 : kE.C w A2 es.length es) (hc : ns.length ≤ c) (hc2 : es.length ≤ c2) (hn : ns.length ≤ 1000000) (he : es.length ≤ 1000000) :
    Calls Try.prog 90 #[.agg #[.slice A ns.length c, .slice A2 es.length c2]] w fun e w' => ∃ B B2 : Option Addr, e = .returned (.agg #[.slice B ns.length ns.length, .slice B2 es.length es.length]) ∧ kN.R 28 w' w.heap.size (fun _ => True) (.slice B ns.length ns.length) ns ∧ kE.R 30 w' w.heap.size (fun _ => True) (.slice B2 es.length es.length) es ∧ Off (.slice B ns.length ns.length) (.slice B2 es.length es.length) ∧ Below w.heap.size w w' := by
  have HR := Aside0.mk hr
  have HR2 := Aside0.mk hr2
  have HN := Aside0.mk hn
  have HE := Aside0.mk he
  have HC := Aside0.mk hc
  have HC2 := Aside0.mk hc2
  clear hr hr2 hn he hc hc2
  go_enter Try.func90, Try.ntmps90
  go_wp2_with (fail)
  refine named _ ?_
  intro W hW
  have c0 : W.cell? ⟨w.heap.size, 0, none⟩ = some (.slice A ns.length c) := by subst hW; simp
  have c1 : W.cell? ⟨w.heap.size, 1, none⟩ = some (.slice A2 es.length c2) := by subst hW; simp
  have HG := Aside0.mk (show W.heap[w.heap.size + 1]? = some (.cells #[.slice none 0 0, .slice none 0 0] 26 (0, 0)) by subst hW; exact (by simpa using heap_alloc_new (w.alloc (.cells #[.slice A ns.length c, .slice A2 es.length c2] 26)) (.cells #[.slice none 0 0, .slice none 0 0] 26)))
  have HB := Aside0.mk (show Below w.heap.size w W by subst hW; exact below_alloc (below_alloc (Below.refl _ _) _) _)
  clear hW
  have HK_ := Aside0.mk (show Reg (fun u_ => Below w.heap.size w u_ ∧ u_.cell? ⟨w.heap.size, 0, none⟩ = some (.slice A ns.length c) ∧ u_.cell? ⟨w.heap.size, 1, none⟩ = some (.slice A2 es.length c2) ∧ True) from ⟨fun _ _ hb_ ⟨q_, s0_, s1_, _⟩ => ⟨below_step q_ hb_, pw_cell_below hb_ s0_, pw_cell_below hb_ s1_, trivial⟩⟩)
  refine region_by2 _ sGc (by kernel_rfl) sGc_ok rfl (fun d _ _ _ _ h => by cases d <;> exact h) HK_.out ⟨HB.out, c0, c1, trivial⟩ ?_
  intro u hS hbu_
  have HGx_ := Aside0.mk (blk_below HG.out hbu_)
  clear HG
  have HG := Aside0.mk HGx_.out
  clear HGx_
  clear hbu_
  clear c0 c1
  repeat (first | (refine h_off gt_ (by rfl) ?_; intro a_ ha_; (simp only [Act.put, List.setIfInBounds_toArray, List.set_cons_zero, List.set_cons_succ] at ha_); subst ha_) | (refine h_on (v := ?_) gt_ (by rfl) ?_ ?_; rotate_left; (· rintro w_ ⟨-, s0_, s1_, -⟩; go_simp; with_reducible rfl); intro a_ ha_; (simp only [Act.put, List.setIfInBounds_toArray, List.set_cons_zero, List.set_cons_succ] at ha_); subst ha_) | (refine h_offc hS gt_ (by rfl) ?_; intro a_ ha_; (simp only [Act.put, List.setIfInBounds_toArray, List.set_cons_zero, List.set_cons_succ] at ha_); subst ha_) | (refine h_call (f := 159) (args := #[.slice A ns.length c]) HK_.out hS Try.func159 (by kernel_rfl) rfl gt_ (by rfl) (by rfl) mp_ ?_; (refine (copyN_calls A c ns _ (Kd.C_below HR.out hS.1) HC.out (by have := HN.out; omega)).mono ?_); rintro e_ u_ ⟨B, rfl, hr_, hb_⟩; have HL := Aside0.mk (Kd.R_lower hr_ (Nat.succ_le_of_lt (blk_lt HG.out))); clear hr_; have HGx_ := Aside0.mk (blk_below HG.out hb_); clear HG; have HG := Aside0.mk HGx_.out; clear HGx_; refine ⟨_, rfl, hb_, fun a_ ha_ hS_ => ?_⟩; (simp only [Act.put, List.setIfInBounds_toArray, List.set_cons_zero, List.set_cons_succ] at ha_); subst ha_; clear hS; have hS := hS_; clear hS_ hb_) | (refine h_call (f := 160) (args := #[.slice A2 es.length c2]) HK_.out hS Try.func160 (by kernel_rfl) rfl gt_ (by rfl) (by rfl) mp_ ?_; (refine (copyE_calls A2 c2 es _ (Kd.C_below HR2.out hS.1) HC2.out (by have := HE.out; omega)).mono ?_); rintro e_ u_ ⟨B2, rfl, hr_, hb_⟩; have HO := Aside0.mk (show Off (.slice B ns.length ns.length) (.slice B2 es.length es.length) from fun k h1 h2 => by have h3 := Kd.R_lt HL.out k h1; have h4 := Kd.R_base hr_ k h2; omega); have HL2 := Aside0.mk (Kd.R_lower hr_ (Nat.succ_le_of_lt (blk_lt HG.out))); clear hr_; have HGx_ := Aside0.mk (blk_below HG.out hb_); clear HG; have HG := Aside0.mk HGx_.out; clear HGx_; have HLx_ := Aside0.mk (Kd.R_below HL.out hb_); clear HL; have HL := Aside0.mk HLx_.out; clear HLx_; refine ⟨_, rfl, hb_, fun a_ ha_ hS_ => ?_⟩; (simp only [Act.put, List.setIfInBounds_toArray, List.set_cons_zero, List.set_cons_succ] at ha_); subst ha_; clear hS; have hS := hS_; clear hS_ hb_))
  refine h_row (w.heap.size + 1) #[.slice B ns.length ns.length, .slice B2 es.length es.length] _ _ HG.out gt_ (by rfl) rfl rfl rfl (by kernel_rfl) rfl (by simp [Value.oneCell']) ⟨below_setRow hS.1 (by omega) _, ?_, ?_, trivial⟩ ?_
  · exact (cell_setRow_other _ _ _ _ (by simp)).trans hS.2.1
  · exact (cell_setRow_other _ _ _ _ (by simp)).trans hS.2.2.1
  intro a_ ha_
  simp only [Act.put] at ha_
  subst ha_
  have HG2 := Aside0.mk (setRow_heap _ _ _ #[.slice B ns.length ns.length, .slice B2 es.length es.length] _ _ HG.out)
  have HB2 := Aside0.mk (below_setRow hS.1 (show w.heap.size ≤ w.heap.size + 1 by omega) #[.slice B ns.length ns.length, .slice B2 es.length es.length])
  have HL3 := Aside0.mk (R_farN HL.out (grown_setRow _ (w.heap.size + 1) #[.slice B ns.length ns.length, .slice B2 es.length es.length]) fun k hk he => by have := Kd.R_base HL.out k hk; injection he; omega)
  have HL4 := Aside0.mk (R_farE HL2.out (grown_setRow _ (w.heap.size + 1) #[.slice B ns.length ns.length, .slice B2 es.length es.length]) fun k hk he => by have := Kd.R_base HL2.out k hk; injection he; omega)
  clear hS HL HL2 HG HK_ HB
  refine h_end ?_
  go_wp2
  refine bodyPost_ret (results_cell_row rfl _ _ (w.heap.size + 1) _ #[.slice B ns.length ns.length, .slice B2 es.length es.length] (0, 0) _ rfl HG2.out Try.underlying26 rfl (by kernel_rfl)) rfl ⟨B, B2, rfl, Kd.R_lower HL3.out (by omega), Kd.R_lower HL4.out (by omega), HO.out, HB2.out⟩
end Go.Proofs.Ytogmbeifbjgphaa.R
namespace Go.Proofs.Ytogmbeifbjgphaa.R
open Go.RowKit Go.Proofs.YtogmbeifbjgphaaV.PrintWords Go.Proofs.YtogmbeifbjgphaaV.PrintLast Go.Proofs.YtogmbeifbjgphaaV.PrintMore Go.Proofs.Ytogmbeifbjgphaa.M
set_option linter.unusedVariables false
set_option linter.unusedSimpArgs false
attribute [local go_sem high] eqN eqE
set_option maxHeartbeats 3200000 in
set_option maxRecDepth 100000 in
theorem opLabel_calls (k : Int) (n : Nd) (x : Eg) (w : World) : Calls Try.prog 37 #[.agg #[.int .i64 k, .int .i64 n.lab, .int .i64 n.num, .int .i64 x.lab, .int .i64 x.a.lab, .int .i64 x.a.num, .int .i64 x.b.lab, .int .i64 x.b.num]] w fun e w' => e = .returned (.int .i64 (opLabel ⟨k, n, x⟩)) ∧ Below w.heap.size w w' := by
  by_cases hk : k = 1 ∨ k = 4
  ·
    cases h1 : okN n with
    | false =>
      have H := Aside0.mk h1
      have HG := Aside0.mk (show opLabel ⟨k, n, x⟩ = -1 by unfold opLabel; rcases hk with rfl | rfl <;> simp [h1])
      clear h1
      rcases hk with rfl | rfl
      all_goals
        go_enter Try.func37, Try.ntmps37
        go_wp2_with (first | (go_at_call 104; (refine (nodeOk_calls n _).mono ?_); rintro e w1 ⟨rfl, hb⟩; rw [H.out]; have HB := Aside0.mk (below_step (below_alloc (Below.refl w.heap.size w) _) hb); have d1 : w1.cell? ⟨w.heap.size, 1, none⟩ = some (.int .i64 n.lab) := pw_cell_below hb (by simp); have d2 : w1.cell? ⟨w.heap.size, 2, none⟩ = some (.int .i64 n.num) := pw_cell_below hb (by simp); have d3 : w1.cell? ⟨w.heap.size, 3, none⟩ = some (.int .i64 x.lab) := pw_cell_below hb (by simp); have d4 : w1.cell? ⟨w.heap.size, 4, none⟩ = some (.int .i64 x.a.lab) := pw_cell_below hb (by simp); have d5 : w1.cell? ⟨w.heap.size, 5, none⟩ = some (.int .i64 x.a.num) := pw_cell_below hb (by simp); have d6 : w1.cell? ⟨w.heap.size, 6, none⟩ = some (.int .i64 x.b.lab) := pw_cell_below hb (by simp); have d7 : w1.cell? ⟨w.heap.size, 7, none⟩ = some (.int .i64 x.b.num) := pw_cell_below hb (by simp); clear hb))
        go_ret
        exact ⟨retI HG.out.symm, HB.out⟩
    | true =>
      have H := Aside0.mk h1
      by_cases h2 : x = zE
      · have hz : (x.lab == 0 && ((x.a.lab == 0 && (x.a.num == 0)) && (x.b.lab == 0 && (x.b.num == 0)))) = true := (eg_eq x zE).trans (decide_eq_true h2)
        have HG := Aside0.mk (show opLabel ⟨k, n, x⟩ = n.lab by unfold opLabel; rcases hk with rfl | rfl <;> simp [h1, h2])
        clear h1 h2
        rcases hk with rfl | rfl
        all_goals
          go_enter Try.func37, Try.ntmps37
          go_wp2_with (first | (go_at_call 104; (refine (nodeOk_calls n _).mono ?_); rintro e w1 ⟨rfl, hb⟩; rw [H.out]; have HB := Aside0.mk (below_step (below_alloc (Below.refl w.heap.size w) _) hb); have d1 : w1.cell? ⟨w.heap.size, 1, none⟩ = some (.int .i64 n.lab) := pw_cell_below hb (by simp); have d2 : w1.cell? ⟨w.heap.size, 2, none⟩ = some (.int .i64 n.num) := pw_cell_below hb (by simp); have d3 : w1.cell? ⟨w.heap.size, 3, none⟩ = some (.int .i64 x.lab) := pw_cell_below hb (by simp); have d4 : w1.cell? ⟨w.heap.size, 4, none⟩ = some (.int .i64 x.a.lab) := pw_cell_below hb (by simp); have d5 : w1.cell? ⟨w.heap.size, 5, none⟩ = some (.int .i64 x.a.num) := pw_cell_below hb (by simp); have d6 : w1.cell? ⟨w.heap.size, 6, none⟩ = some (.int .i64 x.b.lab) := pw_cell_below hb (by simp); have d7 : w1.cell? ⟨w.heap.size, 7, none⟩ = some (.int .i64 x.b.num) := pw_cell_below hb (by simp); clear hb))
          go_ret
          exact ⟨retI HG.out.symm, HB.out⟩
      · have hz : (x.lab == 0 && ((x.a.lab == 0 && (x.a.num == 0)) && (x.b.lab == 0 && (x.b.num == 0)))) = false := (eg_eq x zE).trans (decide_eq_false h2)
        have HG := Aside0.mk (show opLabel ⟨k, n, x⟩ = -1 by unfold opLabel; rcases hk with rfl | rfl <;> simp [h1, h2])
        clear h1 h2
        rcases hk with rfl | rfl
        all_goals
          go_enter Try.func37, Try.ntmps37
          go_wp2_with (first | (go_at_call 104; (refine (nodeOk_calls n _).mono ?_); rintro e w1 ⟨rfl, hb⟩; rw [H.out]; have HB := Aside0.mk (below_step (below_alloc (Below.refl w.heap.size w) _) hb); have d1 : w1.cell? ⟨w.heap.size, 1, none⟩ = some (.int .i64 n.lab) := pw_cell_below hb (by simp); have d2 : w1.cell? ⟨w.heap.size, 2, none⟩ = some (.int .i64 n.num) := pw_cell_below hb (by simp); have d3 : w1.cell? ⟨w.heap.size, 3, none⟩ = some (.int .i64 x.lab) := pw_cell_below hb (by simp); have d4 : w1.cell? ⟨w.heap.size, 4, none⟩ = some (.int .i64 x.a.lab) := pw_cell_below hb (by simp); have d5 : w1.cell? ⟨w.heap.size, 5, none⟩ = some (.int .i64 x.a.num) := pw_cell_below hb (by simp); have d6 : w1.cell? ⟨w.heap.size, 6, none⟩ = some (.int .i64 x.b.lab) := pw_cell_below hb (by simp); have d7 : w1.cell? ⟨w.heap.size, 7, none⟩ = some (.int .i64 x.b.num) := pw_cell_below hb (by simp); clear hb))
          go_ret
          exact ⟨retI HG.out.symm, HB.out⟩
  by_cases hk2 : k = 2 ∨ k = 3
  · have hk' := hk
    clear hk
    have hk := hk2
    clear hk2 hk'
    cases h1 : okE x with
    | false =>
      have H := Aside0.mk h1
      have HG := Aside0.mk (show opLabel ⟨k, n, x⟩ = -1 by unfold opLabel; rcases hk with rfl | rfl <;> simp [h1])
      clear h1
      rcases hk with rfl | rfl
      all_goals
        go_enter Try.func37, Try.ntmps37
        go_wp2_with (first | (go_at_call 109; (refine (edgeOk_calls x _).mono ?_); rintro e w1 ⟨rfl, hb⟩; rw [H.out]; have HB := Aside0.mk (below_step (below_alloc (Below.refl w.heap.size w) _) hb); have d1 : w1.cell? ⟨w.heap.size, 1, none⟩ = some (.int .i64 n.lab) := pw_cell_below hb (by simp); have d2 : w1.cell? ⟨w.heap.size, 2, none⟩ = some (.int .i64 n.num) := pw_cell_below hb (by simp); have d3 : w1.cell? ⟨w.heap.size, 3, none⟩ = some (.int .i64 x.lab) := pw_cell_below hb (by simp); have d4 : w1.cell? ⟨w.heap.size, 4, none⟩ = some (.int .i64 x.a.lab) := pw_cell_below hb (by simp); have d5 : w1.cell? ⟨w.heap.size, 5, none⟩ = some (.int .i64 x.a.num) := pw_cell_below hb (by simp); have d6 : w1.cell? ⟨w.heap.size, 6, none⟩ = some (.int .i64 x.b.lab) := pw_cell_below hb (by simp); have d7 : w1.cell? ⟨w.heap.size, 7, none⟩ = some (.int .i64 x.b.num) := pw_cell_below hb (by simp); clear hb))
        go_ret
        exact ⟨retI HG.out.symm, HB.out⟩
    | true =>
      have H := Aside0.mk h1
      by_cases h2 : n = zN
      · have hz : (n.lab == 0 && (n.num == 0)) = true := (nd_eq n zN).trans (decide_eq_true h2)
        have HG := Aside0.mk (show opLabel ⟨k, n, x⟩ = x.lab by unfold opLabel; rcases hk with rfl | rfl <;> simp [h1, h2])
        clear h1 h2
        rcases hk with rfl | rfl
        all_goals
          go_enter Try.func37, Try.ntmps37
          go_wp2_with (first | (go_at_call 109; (refine (edgeOk_calls x _).mono ?_); rintro e w1 ⟨rfl, hb⟩; rw [H.out]; have HB := Aside0.mk (below_step (below_alloc (Below.refl w.heap.size w) _) hb); have d1 : w1.cell? ⟨w.heap.size, 1, none⟩ = some (.int .i64 n.lab) := pw_cell_below hb (by simp); have d2 : w1.cell? ⟨w.heap.size, 2, none⟩ = some (.int .i64 n.num) := pw_cell_below hb (by simp); have d3 : w1.cell? ⟨w.heap.size, 3, none⟩ = some (.int .i64 x.lab) := pw_cell_below hb (by simp); have d4 : w1.cell? ⟨w.heap.size, 4, none⟩ = some (.int .i64 x.a.lab) := pw_cell_below hb (by simp); have d5 : w1.cell? ⟨w.heap.size, 5, none⟩ = some (.int .i64 x.a.num) := pw_cell_below hb (by simp); have d6 : w1.cell? ⟨w.heap.size, 6, none⟩ = some (.int .i64 x.b.lab) := pw_cell_below hb (by simp); have d7 : w1.cell? ⟨w.heap.size, 7, none⟩ = some (.int .i64 x.b.num) := pw_cell_below hb (by simp); clear hb))
          go_ret
          exact ⟨retI HG.out.symm, HB.out⟩
      · have hz : (n.lab == 0 && (n.num == 0)) = false := (nd_eq n zN).trans (decide_eq_false h2)
        have HG := Aside0.mk (show opLabel ⟨k, n, x⟩ = -1 by unfold opLabel; rcases hk with rfl | rfl <;> simp [h1, h2])
        clear h1 h2
        rcases hk with rfl | rfl
        all_goals
          go_enter Try.func37, Try.ntmps37
          go_wp2_with (first | (go_at_call 109; (refine (edgeOk_calls x _).mono ?_); rintro e w1 ⟨rfl, hb⟩; rw [H.out]; have HB := Aside0.mk (below_step (below_alloc (Below.refl w.heap.size w) _) hb); have d1 : w1.cell? ⟨w.heap.size, 1, none⟩ = some (.int .i64 n.lab) := pw_cell_below hb (by simp); have d2 : w1.cell? ⟨w.heap.size, 2, none⟩ = some (.int .i64 n.num) := pw_cell_below hb (by simp); have d3 : w1.cell? ⟨w.heap.size, 3, none⟩ = some (.int .i64 x.lab) := pw_cell_below hb (by simp); have d4 : w1.cell? ⟨w.heap.size, 4, none⟩ = some (.int .i64 x.a.lab) := pw_cell_below hb (by simp); have d5 : w1.cell? ⟨w.heap.size, 5, none⟩ = some (.int .i64 x.a.num) := pw_cell_below hb (by simp); have d6 : w1.cell? ⟨w.heap.size, 6, none⟩ = some (.int .i64 x.b.lab) := pw_cell_below hb (by simp); have d7 : w1.cell? ⟨w.heap.size, 7, none⟩ = some (.int .i64 x.b.num) := pw_cell_below hb (by simp); clear hb))
          go_ret
          exact ⟨retI HG.out.symm, HB.out⟩
  have e1 : (k == 1) = false := beq_eq_false_iff_ne.2 (by omega)
  have e2 : (k == 2) = false := beq_eq_false_iff_ne.2 (by omega)
  have e3 : (k == 3) = false := beq_eq_false_iff_ne.2 (by omega)
  have e4 : (k == 4) = false := beq_eq_false_iff_ne.2 (by omega)
  have HG := Aside0.mk (show opLabel ⟨k, n, x⟩ = -1 by unfold opLabel; rw [if_neg hk, if_neg hk2])
  clear hk hk2
  go_enter Try.func37, Try.ntmps37
  go_wp2
  go_ret
  exact ⟨retI HG.out.symm, below_alloc (Below.refl _ _) _⟩
end Go.Proofs.Ytogmbeifbjgphaa.R
