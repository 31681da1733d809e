/- The reference: where things stand, how many there are; The reference: the label of what is done. -/
import Derived.Test.YtogmbeifbjgphaaJB7
namespace Go.Proofs.Ytogmbeifbjgphaa.R
open Go.RowKit Go.Proofs.YtogmbeifbjgphaaV.PrintWords Go.Proofs.YtogmbeifbjgphaaV.PrintLast Go.Proofs.YtogmbeifbjgphaaV.PrintMore Go.Proofs.Ytogmbeifbjgphaa.M
set_option linter.unusedVariables false
set_option linter.unusedSimpArgs false
attribute [local go_sem high] eqN eqE
theorem at__lt' {ns : List Nd} {i : Nat} (h : i < ns.length) : at_ ns i = ns[i] := at_lt h
theorem eat_lt' {es : List Eg} {i : Nat} (h : i < es.length) : eat es i = es[i] := eat_lt h
abbrev sAtN : List (Nat × Bool) := [(0, true), (1, true), (2, true), (3, true), (4, true), (5, true), (6, true)]
theorem sAtN_ok : schedB .any (opsOf Try.f101 4) sAtN (Array.replicate (opsOf Try.f101 4).size false) = true := by kernel_rfl
set_option maxHeartbeats 3200000 in
set_option maxRecDepth 100000 in
theorem atN_calls (A : Option Addr) (c : Nat) (ns : List Nd) (B : Option Addr) (d : Nat) (es : List Eg) (x : Nd) (w : World) (hr : kN.C w A ns.length ns) (hl : ns.length ≤ 1000000) :
    Calls Try.prog 101 #[.agg #[.slice A ns.length c, .slice B es.length d], .agg #[.int .i64 x.lab, .int .i64 x.num]] w fun e w' => (∃ r : Int, -1 ≤ r ∧ (0 ≤ r ↔ x ∈ ns) ∧ e = .returned (.int .i64 r)) ∧ Below w.heap.size w w' := by
  have HR := Aside0.mk hr
  have HL := Aside0.mk hl
  clear hr hl
  go_enter Try.func101, Try.ntmps101
  go_wp2_with (fail)
  go_loopw [5] (fun s5 wr => ∃ j : Nat, j ≤ ns.length ∧ s5 = .int .i64 (j : Int) ∧ Aside0 (∀ t, t < j → at_ ns t ≠ x) ∧ Aside0 (wr.cell? ⟨w.heap.size, 0, none⟩ = some (.slice A ns.length c)) ∧ Aside0 (wr.cell? ⟨w.heap.size + 1, 0, none⟩ = some (.int .i64 x.lab)) ∧ Aside0 (wr.cell? ⟨w.heap.size + 1, 1, none⟩ = some (.int .i64 x.num)) ∧ Aside0 (Below w.heap.size w wr)) (fun s5 _ => (ns.length - intOf s5).toNat)
  case atStart => exact ⟨0, Nat.zero_le _, rfl, ⟨fun t ht => absurd ht (Nat.not_lt_zero _)⟩, ⟨by simp⟩, ⟨by simp⟩, ⟨by simp⟩, ⟨below_alloc (below_alloc (Below.refl _ _) _) _⟩⟩
  case round =>
    obtain ⟨j, hj, rfl, H1, Q0, X0, X1, HB⟩ := hrel
    have hl := HL.out
    have g0 := Q0.out
    by_cases hlt : j < ns.length
    · obtain ⟨ad, e1, r0, r1⟩ := nd_at (Kd.C_below HR.out HB.out) j hlt
      cases e1
      generalize hy : at_ ns j = y at r0 r1
      have HY := Aside0.mk hy
      clear hy
      have x0 := X0.out
      have x1 := X1.out
      by_cases hxy : y = x
      · have hne : (y.lab == x.lab && (y.num == x.num)) = true := (nd_eq y x).trans (decide_eq_true hxy)
        have HM := Aside0.mk (show x ∈ ns by rw [← hxy, ← HY.out]; exact at_mem hlt)
        clear hxy
        go_wp2_with (fail)
        have HK_ := Aside0.mk (show Reg (fun u_ => Below w.heap.size w u_ ∧ u_.cell? ⟨w.heap.size, 0, none⟩ = some (.slice (some ad) ns.length c) ∧ u_.cell? (ad.add (j * 2)) = some (.int .i64 y.lab) ∧ u_.cell? ⟨(ad.add (j * 2)).block, (ad.add (j * 2)).off + 1, none⟩ = some (.int .i64 y.num) ∧ u_.cell? ⟨w.heap.size + 1, 0, none⟩ = some (.int .i64 x.lab) ∧ u_.cell? ⟨w.heap.size + 1, 1, none⟩ = some (.int .i64 x.num) ∧ True) from ⟨fun _ _ hb_ ⟨q_, s0_, s1_, s2_, s3_, s4_, _⟩ => ⟨below_step q_ hb_, pw_cell_below hb_ s0_, pw_cell_below hb_ s1_, pw_cell_below hb_ s2_, pw_cell_below hb_ s3_, pw_cell_below hb_ s4_, trivial⟩⟩)
        refine region_by _ sAtN (by kernel_rfl) sAtN_ok rfl (fun d _ _ _ _ h => by cases d <;> exact h) HK_.out ⟨HB.out, g0, r0, r1, x0, x1, trivial⟩ ?_
        intro u hS
        clear g0 r0 r1 x0 x1
        repeat (first | (refine h_off gt_ (by rfl) ?_; intro a_ ha_; (simp only [Act.put, List.setIfInBounds_toArray, List.set_cons_zero, List.set_cons_succ] at ha_); subst ha_) | (refine h_on (v := ?_) gt_ (by rfl) ?_ ?_; rotate_left; (· rintro w_ ⟨-, s0_, s1_, s2_, s3_, s4_, -⟩; go_simp; with_reducible rfl); intro a_ ha_; (simp only [Act.put, List.setIfInBounds_toArray, List.set_cons_zero, List.set_cons_succ] at ha_); subst ha_) | (refine h_offc hS gt_ (by rfl) ?_; intro a_ ha_; (simp only [Act.put, List.setIfInBounds_toArray, List.set_cons_zero, List.set_cons_succ] at ha_); subst ha_))
        refine h_end ?_
        clear HK_ HB
        obtain ⟨hB_, g0, r0, r1, x0, x1, -⟩ := hS
        have HB := Aside0.mk hB_
        clear hB_
        go_wp2
        go_ret
        exact ⟨⟨(j : Int), by omega, ⟨fun _ => HM.out, fun _ => by omega⟩, rfl⟩, HB.out⟩
      · have hne : (y.lab == x.lab && (y.num == x.num)) = false := (nd_eq y x).trans (decide_eq_false hxy)
        have HNE := Aside0.mk hxy
        clear hxy
        go_wp2_with (fail)
        have HK_ := Aside0.mk (show Reg (fun u_ => Below w.heap.size w u_ ∧ u_.cell? ⟨w.heap.size, 0, none⟩ = some (.slice (some ad) ns.length c) ∧ u_.cell? (ad.add (j * 2)) = some (.int .i64 y.lab) ∧ u_.cell? ⟨(ad.add (j * 2)).block, (ad.add (j * 2)).off + 1, none⟩ = some (.int .i64 y.num) ∧ u_.cell? ⟨w.heap.size + 1, 0, none⟩ = some (.int .i64 x.lab) ∧ u_.cell? ⟨w.heap.size + 1, 1, none⟩ = some (.int .i64 x.num) ∧ True) from ⟨fun _ _ hb_ ⟨q_, s0_, s1_, s2_, s3_, s4_, _⟩ => ⟨below_step q_ hb_, pw_cell_below hb_ s0_, pw_cell_below hb_ s1_, pw_cell_below hb_ s2_, pw_cell_below hb_ s3_, pw_cell_below hb_ s4_, trivial⟩⟩)
        refine region_by _ sAtN (by kernel_rfl) sAtN_ok rfl (fun d _ _ _ _ h => by cases d <;> exact h) HK_.out ⟨HB.out, g0, r0, r1, x0, x1, trivial⟩ ?_
        intro u hS
        clear g0 r0 r1 x0 x1
        repeat (first | (refine h_off gt_ (by rfl) ?_; intro a_ ha_; (simp only [Act.put, List.setIfInBounds_toArray, List.set_cons_zero, List.set_cons_succ] at ha_); subst ha_) | (refine h_on (v := ?_) gt_ (by rfl) ?_ ?_; rotate_left; (· rintro w_ ⟨-, s0_, s1_, s2_, s3_, s4_, -⟩; go_simp; with_reducible rfl); intro a_ ha_; (simp only [Act.put, List.setIfInBounds_toArray, List.set_cons_zero, List.set_cons_succ] at ha_); subst ha_) | (refine h_offc hS gt_ (by rfl) ?_; intro a_ ha_; (simp only [Act.put, List.setIfInBounds_toArray, List.set_cons_zero, List.set_cons_succ] at ha_); subst ha_))
        refine h_end ?_
        clear HK_ HB
        obtain ⟨hB_, g0, r0, r1, x0, x1, -⟩ := hS
        have HB := Aside0.mk hB_
        clear hB_
        go_wp2
        go_roundw
        case rel => exact ⟨j + 1, by omega, by go_num, ⟨fun t ht => by
          rcases Nat.lt_succ_iff_lt_or_eq.1 ht with h | rfl
          · exact H1.out t h
          · rw [HY.out]; exact HNE.out⟩, ⟨g0⟩, ⟨x0⟩, ⟨x1⟩, HB⟩
        case measure => simp [intOf]; omega
    · have HM := Aside0.mk (show ¬ x ∈ ns by
        intro hm
        obtain ⟨t, ht, rfl⟩ := List.getElem_of_mem hm
        exact H1.out t (by omega) (at__lt' ht))
      go_wp2_with (fail)
      go_ret
      exact ⟨⟨-1, by omega, ⟨fun h => by omega, fun h => absurd h HM.out⟩, rfl⟩, HB.out⟩
abbrev sAtE : List (Nat × Bool) := [(0, true), (1, true), (2, true), (3, true), (4, true), (5, true), (6, true)]
theorem sAtE_ok : schedB .any (opsOf Try.f205 4) sAtE (Array.replicate (opsOf Try.f205 4).size false) = true := by kernel_rfl
set_option maxHeartbeats 3200000 in
set_option maxRecDepth 100000 in
theorem atE_calls (A : Option Addr) (c : Nat) (ns : List Nd) (B : Option Addr) (d : Nat) (es : List Eg) (x : Eg) (w : World) (hr : kE.C w B es.length es) (hl : es.length ≤ 1000000) :
    Calls Try.prog 205 #[.agg #[.slice A ns.length c, .slice B es.length d], .agg #[.int .i64 x.lab, .int .i64 x.a.lab, .int .i64 x.a.num, .int .i64 x.b.lab, .int .i64 x.b.num]] w fun e w' => (∃ r : Int, -1 ≤ r ∧ (0 ≤ r ↔ x ∈ es) ∧ e = .returned (.int .i64 r)) ∧ Below w.heap.size w w' := by
  have HR := Aside0.mk hr
  have HL := Aside0.mk hl
  clear hr hl
  go_enter Try.func205, Try.ntmps205
  go_wp2_with (fail)
  go_loopw [5] (fun s5 wr => ∃ j : Nat, j ≤ es.length ∧ s5 = .int .i64 (j : Int) ∧ Aside0 (∀ t, t < j → eat es t ≠ x) ∧ Aside0 (wr.cell? ⟨w.heap.size, 1, none⟩ = some (.slice B es.length d)) ∧ Aside0 (wr.cell? ⟨w.heap.size + 1, 0, none⟩ = some (.int .i64 x.lab)) ∧ Aside0 (wr.cell? ⟨w.heap.size + 1, 1, none⟩ = some (.int .i64 x.a.lab)) ∧ Aside0 (wr.cell? ⟨w.heap.size + 1, 2, none⟩ = some (.int .i64 x.a.num)) ∧ Aside0 (wr.cell? ⟨w.heap.size + 1, 3, none⟩ = some (.int .i64 x.b.lab)) ∧ Aside0 (wr.cell? ⟨w.heap.size + 1, 4, none⟩ = some (.int .i64 x.b.num)) ∧ Aside0 (Below w.heap.size w wr)) (fun s5 _ => (es.length - intOf s5).toNat)
  case atStart => exact ⟨0, Nat.zero_le _, rfl, ⟨fun t ht => absurd ht (Nat.not_lt_zero _)⟩, ⟨by simp⟩, ⟨by simp⟩, ⟨by simp⟩, ⟨by simp⟩, ⟨by simp⟩, ⟨by simp⟩, ⟨below_alloc (below_alloc (Below.refl _ _) _) _⟩⟩
  case round =>
    obtain ⟨j, hj, rfl, H1, Q0, X0, X1, X2, X3, X4, HB⟩ := hrel
    have hl := HL.out
    have g0 := Q0.out
    by_cases hlt : j < es.length
    · obtain ⟨ad, e1, r0, r1, r2, r3, r4⟩ := eg_at (Kd.C_below HR.out HB.out) j hlt
      cases e1
      generalize hy : eat es j = y at r0 r1 r2 r3 r4
      have HY := Aside0.mk hy
      clear hy
      have x0 := X0.out
      have x1 := X1.out
      have x2 := X2.out
      have x3 := X3.out
      have x4 := X4.out
      by_cases hxy : y = x
      · have hne : (y.lab == x.lab && ((y.a.lab == x.a.lab && (y.a.num == x.a.num)) && (y.b.lab == x.b.lab && (y.b.num == x.b.num)))) = true := (eg_eq y x).trans (decide_eq_true hxy)
        have HM := Aside0.mk (show x ∈ es by rw [← hxy, ← HY.out]; exact eat_mem hlt)
        clear hxy
        go_wp2_with (fail)
        have HK_ := Aside0.mk (show Reg (fun u_ => Below w.heap.size w u_ ∧ u_.cell? ⟨w.heap.size, 1, none⟩ = some (.slice (some ad) es.length d) ∧ u_.cell? (ad.add (j * 5)) = some (.int .i64 y.lab) ∧ u_.cell? ⟨(ad.add (j * 5)).block, (ad.add (j * 5)).off + 1, none⟩ = some (.int .i64 y.a.lab) ∧ u_.cell? ⟨(ad.add (j * 5)).block, (ad.add (j * 5)).off + 2, none⟩ = some (.int .i64 y.a.num) ∧ u_.cell? ⟨(ad.add (j * 5)).block, (ad.add (j * 5)).off + 3, none⟩ = some (.int .i64 y.b.lab) ∧ u_.cell? ⟨(ad.add (j * 5)).block, (ad.add (j * 5)).off + 4, none⟩ = some (.int .i64 y.b.num) ∧ u_.cell? ⟨w.heap.size + 1, 0, none⟩ = some (.int .i64 x.lab) ∧ u_.cell? ⟨w.heap.size + 1, 1, none⟩ = some (.int .i64 x.a.lab) ∧ u_.cell? ⟨w.heap.size + 1, 2, none⟩ = some (.int .i64 x.a.num) ∧ u_.cell? ⟨w.heap.size + 1, 3, none⟩ = some (.int .i64 x.b.lab) ∧ u_.cell? ⟨w.heap.size + 1, 4, none⟩ = some (.int .i64 x.b.num) ∧ True) from ⟨fun _ _ hb_ ⟨q_, s0_, s1_, s2_, s3_, s4_, s5_, s6_, s7_, s8_, s9_, s10_, _⟩ => ⟨below_step q_ hb_, pw_cell_below hb_ s0_, pw_cell_below hb_ s1_, pw_cell_below hb_ s2_, pw_cell_below hb_ s3_, pw_cell_below hb_ s4_, pw_cell_below hb_ s5_, pw_cell_below hb_ s6_, pw_cell_below hb_ s7_, pw_cell_below hb_ s8_, pw_cell_below hb_ s9_, pw_cell_below hb_ s10_, trivial⟩⟩)
        refine region_by _ sAtE (by kernel_rfl) sAtE_ok rfl (fun d _ _ _ _ h => by cases d <;> exact h) HK_.out ⟨HB.out, g0, r0, r1, r2, r3, r4, x0, x1, x2, x3, x4, trivial⟩ ?_
        intro u hS
        clear g0 r0 r1 r2 r3 r4 x0 x1 x2 x3 x4
        repeat (first | (refine h_off gt_ (by rfl) ?_; intro a_ ha_; (simp only [Act.put, List.setIfInBounds_toArray, List.set_cons_zero, List.set_cons_succ] at ha_); subst ha_) | (refine h_on (v := ?_) gt_ (by rfl) ?_ ?_; rotate_left; (· rintro w_ ⟨-, s0_, s1_, s2_, s3_, s4_, s5_, s6_, s7_, s8_, s9_, s10_, -⟩; go_simp; with_reducible rfl); intro a_ ha_; (simp only [Act.put, List.setIfInBounds_toArray, List.set_cons_zero, List.set_cons_succ] at ha_); subst ha_) | (refine h_offc hS gt_ (by rfl) ?_; intro a_ ha_; (simp only [Act.put, List.setIfInBounds_toArray, List.set_cons_zero, List.set_cons_succ] at ha_); subst ha_))
        refine h_end ?_
        clear HK_ HB
        obtain ⟨hB_, g0, r0, r1, r2, r3, r4, x0, x1, x2, x3, x4, -⟩ := hS
        have HB := Aside0.mk hB_
        clear hB_
        go_wp2
        go_ret
        exact ⟨⟨(j : Int), by omega, ⟨fun _ => HM.out, fun _ => by omega⟩, rfl⟩, HB.out⟩
      · have hne : (y.lab == x.lab && ((y.a.lab == x.a.lab && (y.a.num == x.a.num)) && (y.b.lab == x.b.lab && (y.b.num == x.b.num)))) = false := (eg_eq y x).trans (decide_eq_false hxy)
        have HNE := Aside0.mk hxy
        clear hxy
        go_wp2_with (fail)
        have HK_ := Aside0.mk (show Reg (fun u_ => Below w.heap.size w u_ ∧ u_.cell? ⟨w.heap.size, 1, none⟩ = some (.slice (some ad) es.length d) ∧ u_.cell? (ad.add (j * 5)) = some (.int .i64 y.lab) ∧ u_.cell? ⟨(ad.add (j * 5)).block, (ad.add (j * 5)).off + 1, none⟩ = some (.int .i64 y.a.lab) ∧ u_.cell? ⟨(ad.add (j * 5)).block, (ad.add (j * 5)).off + 2, none⟩ = some (.int .i64 y.a.num) ∧ u_.cell? ⟨(ad.add (j * 5)).block, (ad.add (j * 5)).off + 3, none⟩ = some (.int .i64 y.b.lab) ∧ u_.cell? ⟨(ad.add (j * 5)).block, (ad.add (j * 5)).off + 4, none⟩ = some (.int .i64 y.b.num) ∧ u_.cell? ⟨w.heap.size + 1, 0, none⟩ = some (.int .i64 x.lab) ∧ u_.cell? ⟨w.heap.size + 1, 1, none⟩ = some (.int .i64 x.a.lab) ∧ u_.cell? ⟨w.heap.size + 1, 2, none⟩ = some (.int .i64 x.a.num) ∧ u_.cell? ⟨w.heap.size + 1, 3, none⟩ = some (.int .i64 x.b.lab) ∧ u_.cell? ⟨w.heap.size + 1, 4, none⟩ = some (.int .i64 x.b.num) ∧ True) from ⟨fun _ _ hb_ ⟨q_, s0_, s1_, s2_, s3_, s4_, s5_, s6_, s7_, s8_, s9_, s10_, _⟩ => ⟨below_step q_ hb_, pw_cell_below hb_ s0_, pw_cell_below hb_ s1_, pw_cell_below hb_ s2_, pw_cell_below hb_ s3_, pw_cell_below hb_ s4_, pw_cell_below hb_ s5_, pw_cell_below hb_ s6_, pw_cell_below hb_ s7_, pw_cell_below hb_ s8_, pw_cell_below hb_ s9_, pw_cell_below hb_ s10_, trivial⟩⟩)
        refine region_by _ sAtE (by kernel_rfl) sAtE_ok rfl (fun d _ _ _ _ h => by cases d <;> exact h) HK_.out ⟨HB.out, g0, r0, r1, r2, r3, r4, x0, x1, x2, x3, x4, trivial⟩ ?_
        intro u hS
        clear g0 r0 r1 r2 r3 r4 x0 x1 x2 x3 x4
        repeat (first | (refine h_off gt_ (by rfl) ?_; intro a_ ha_; (simp only [Act.put, List.setIfInBounds_toArray, List.set_cons_zero, List.set_cons_succ] at ha_); subst ha_) | (refine h_on (v := ?_) gt_ (by rfl) ?_ ?_; rotate_left; (· rintro w_ ⟨-, s0_, s1_, s2_, s3_, s4_, s5_, s6_, s7_, s8_, s9_, s10_, -⟩; go_simp; with_reducible rfl); intro a_ ha_; (simp only [Act.put, List.setIfInBounds_toArray, List.set_cons_zero, List.set_cons_succ] at ha_); subst ha_) | (refine h_offc hS gt_ (by rfl) ?_; intro a_ ha_; (simp only [Act.put, List.setIfInBounds_toArray, List.set_cons_zero, List.set_cons_succ] at ha_); subst ha_))
        refine h_end ?_
        clear HK_ HB
        obtain ⟨hB_, g0, r0, r1, r2, r3, r4, x0, x1, x2, x3, x4, -⟩ := hS
        have HB := Aside0.mk hB_
        clear hB_
        go_wp2
        go_roundw
        case rel => exact ⟨j + 1, by omega, by go_num, ⟨fun t ht => by
          rcases Nat.lt_succ_iff_lt_or_eq.1 ht with h | rfl
          · exact H1.out t h
          · rw [HY.out]; exact HNE.out⟩, ⟨g0⟩, ⟨x0⟩, ⟨x1⟩, ⟨x2⟩, ⟨x3⟩, ⟨x4⟩, HB⟩
        case measure => simp [intOf]; omega
    · have HM := Aside0.mk (show ¬ x ∈ es by
        intro hm
        obtain ⟨t, ht, rfl⟩ := List.getElem_of_mem hm
        exact H1.out t (by omega) (eat_lt' ht))
      go_wp2_with (fail)
      go_ret
      exact ⟨⟨-1, by omega, ⟨fun h => by omega, fun h => absurd h HM.out⟩, rfl⟩, HB.out⟩
set_option maxHeartbeats 3200000 in
set_option maxRecDepth 100000 in
theorem cntN_calls (A : Option Addr) (c : Nat) (ns : List Nd) (B : Option Addr) (d : Nat) (es : List Eg) (a : Int) (w : World) (hr : kN.C w A ns.length ns) (hl : ns.length ≤ 1000000) :
    Calls Try.prog 102 #[.agg #[.slice A ns.length c, .slice B es.length d], .int .i64 a] w fun e w' => e = .returned (.int .i64 ((ns.countP fun y => y.lab == a : Nat) : Int)) ∧ Below w.heap.size w w' := by
  have HR := Aside0.mk hr
  have HL := Aside0.mk hl
  generalize hr : (ns.countP fun y => y.lab == a) = r
  have HE := Aside0.mk hr
  clear hr hl
  go_enter Try.func102, Try.ntmps102
  go_wp2_with (fail)
  go_loopw [5, 6] (fun s5 s6 wr => ∃ j : Nat, j ≤ ns.length ∧ s5 = .int .i64 (((ns.take j).countP fun y => y.lab == a : Nat) : Int) ∧ s6 = .int .i64 (j : Int) ∧ Aside0 (wr.cell? ⟨w.heap.size, 0, none⟩ = some (.slice A ns.length c)) ∧ Aside0 (Below w.heap.size w wr)) (fun _ s6 _ => (ns.length - intOf s6).toNat)
  case atStart => exact ⟨0, Nat.zero_le _, by simp, rfl, ⟨by simp⟩, ⟨below_alloc (Below.refl _ _) _⟩⟩
  case round =>
    obtain ⟨j, hj, rfl, rfl, Q0, HB⟩ := hrel
    have hl := HL.out
    have g0 := Q0.out
    have hcj : ((ns.take j).countP fun y => y.lab == a) ≤ 1000000 := Nat.le_trans List.countP_le_length (by rw [List.length_take]; omega)
    by_cases hlt : j < ns.length
    · obtain ⟨ad, e1, r0, r1⟩ := nd_at (Kd.C_below HR.out HB.out) j hlt
      cases e1
      have HT := Aside0.mk (count_snoc hlt a)
      generalize hy : at_ ns j = y at r0 r1 HT
      clear hy
      generalize hcn : ((ns.take j).countP fun y => y.lab == a) = cnt at hcj HT
      clear hcn
      cases hb : (y.lab == a)
      all_goals
        rw [hb] at HT
        go_wp2
        go_roundw
        case rel => exact ⟨j + 1, by omega, by rw [HT.out]; go_num, by go_num, ⟨g0⟩, HB⟩
        case measure => simp [intOf]; omega
    · obtain rfl : j = ns.length := by omega
      rw [List.take_length] at hcj ⊢
      rw [HE.out] at hcj ⊢
      go_wp2
      go_ret
      exact ⟨rfl, HB.out⟩
set_option maxHeartbeats 3200000 in
set_option maxRecDepth 100000 in
theorem cntE_calls (A : Option Addr) (c : Nat) (ns : List Nd) (B : Option Addr) (d : Nat) (es : List Eg) (a : Int) (w : World) (hr : kE.C w B es.length es) (hl : es.length ≤ 1000000) :
    Calls Try.prog 103 #[.agg #[.slice A ns.length c, .slice B es.length d], .int .i64 a] w fun e w' => e = .returned (.int .i64 ((es.countP fun y => y.lab == a : Nat) : Int)) ∧ Below w.heap.size w w' := by
  have HR := Aside0.mk hr
  have HL := Aside0.mk hl
  generalize hr : (es.countP fun y => y.lab == a) = r
  have HE := Aside0.mk hr
  clear hr hl
  go_enter Try.func103, Try.ntmps103
  go_wp2_with (fail)
  go_loopw [5, 6] (fun s5 s6 wr => ∃ j : Nat, j ≤ es.length ∧ s5 = .int .i64 (((es.take j).countP fun y => y.lab == a : Nat) : Int) ∧ s6 = .int .i64 (j : Int) ∧ Aside0 (wr.cell? ⟨w.heap.size, 1, none⟩ = some (.slice B es.length d)) ∧ Aside0 (Below w.heap.size w wr)) (fun _ s6 _ => (es.length - intOf s6).toNat)
  case atStart => exact ⟨0, Nat.zero_le _, by simp, rfl, ⟨by simp⟩, ⟨below_alloc (Below.refl _ _) _⟩⟩
  case round =>
    obtain ⟨j, hj, rfl, rfl, Q0, HB⟩ := hrel
    have hl := HL.out
    have g0 := Q0.out
    have hcj : ((es.take j).countP fun y => y.lab == a) ≤ 1000000 := Nat.le_trans List.countP_le_length (by rw [List.length_take]; omega)
    by_cases hlt : j < es.length
    · obtain ⟨ad, e1, r0, r1, r2, r3, r4⟩ := eg_at (Kd.C_below HR.out HB.out) j hlt
      cases e1
      have HT := Aside0.mk (count_snocE hlt a)
      generalize hy : eat es j = y at r0 r1 r2 r3 r4 HT
      clear hy
      generalize hcn : ((es.take j).countP fun y => y.lab == a) = cnt at hcj HT
      clear hcn
      cases hb : (y.lab == a)
      all_goals
        rw [hb] at HT
        go_wp2
        go_roundw
        case rel => exact ⟨j + 1, by omega, by rw [HT.out]; go_num, by go_num, ⟨g0⟩, HB⟩
        case measure => simp [intOf]; omega
    · obtain rfl : j = es.length := by omega
      rw [List.take_length] at hcj ⊢
      rw [HE.out] at hcj ⊢
      go_wp2
      go_ret
      exact ⟨rfl, HB.out⟩
end Go.Proofs.Ytogmbeifbjgphaa.R
namespace Go.Proofs.Ytogmbeifbjgphaa.R
open Go.RowKit Go.Proofs.YtogmbeifbjgphaaV.PrintWords Go.Proofs.YtogmbeifbjgphaaV.PrintLast Go.Proofs.YtogmbeifbjgphaaV.PrintMore Go.Proofs.Ytogmbeifbjgphaa.M
set_option linter.unusedVariables false
set_option linter.unusedSimpArgs false
attribute [local go_sem high] eqN eqE
set_option maxHeartbeats 3200000 in
set_option maxRecDepth 100000 in
theorem sOpLabel_calls (k : Int) (n : Nd) (x : Eg) (w : World) : Calls Try.prog 38 #[.agg #[.int .i64 k, .int .i64 n.lab, .int .i64 n.num, .int .i64 x.lab, .int .i64 x.a.lab, .int .i64 x.a.num, .int .i64 x.b.lab, .int .i64 x.b.num]] w fun e w' => e = .returned (.int .i64 (opLabel ⟨k, n, x⟩)) ∧ Below w.heap.size w w' := by
  by_cases hk : k = 1 ∨ k = 4
  ·
    cases h1 : okN n with
    | false =>
      have H := Aside0.mk h1
      have HG := Aside0.mk (show opLabel ⟨k, n, x⟩ = -1 by unfold opLabel; rcases hk with rfl | rfl <;> simp [h1])
      clear h1
      rcases hk with rfl | rfl
      all_goals
        go_enter Try.func38, Try.ntmps38
        go_wp2_with (first | (go_at_call 97; (refine (sNodeOk_calls n _).mono ?_); rintro e w1 ⟨rfl, hb⟩; rw [H.out]; have HB := Aside0.mk (below_step (below_alloc (Below.refl w.heap.size w) _) hb); have d1 : w1.cell? ⟨w.heap.size, 1, none⟩ = some (.int .i64 n.lab) := pw_cell_below hb (by simp); have d2 : w1.cell? ⟨w.heap.size, 2, none⟩ = some (.int .i64 n.num) := pw_cell_below hb (by simp); have d3 : w1.cell? ⟨w.heap.size, 3, none⟩ = some (.int .i64 x.lab) := pw_cell_below hb (by simp); have d4 : w1.cell? ⟨w.heap.size, 4, none⟩ = some (.int .i64 x.a.lab) := pw_cell_below hb (by simp); have d5 : w1.cell? ⟨w.heap.size, 5, none⟩ = some (.int .i64 x.a.num) := pw_cell_below hb (by simp); have d6 : w1.cell? ⟨w.heap.size, 6, none⟩ = some (.int .i64 x.b.lab) := pw_cell_below hb (by simp); have d7 : w1.cell? ⟨w.heap.size, 7, none⟩ = some (.int .i64 x.b.num) := pw_cell_below hb (by simp); clear hb))
        go_ret
        exact ⟨retI HG.out.symm, HB.out⟩
    | true =>
      have H := Aside0.mk h1
      by_cases h2 : x = zE
      · have hz : (x.lab == 0 && ((x.a.lab == 0 && (x.a.num == 0)) && (x.b.lab == 0 && (x.b.num == 0)))) = true := (eg_eq x zE).trans (decide_eq_true h2)
        have HG := Aside0.mk (show opLabel ⟨k, n, x⟩ = n.lab by unfold opLabel; rcases hk with rfl | rfl <;> simp [h1, h2])
        clear h1 h2
        rcases hk with rfl | rfl
        all_goals
          go_enter Try.func38, Try.ntmps38
          go_wp2_with (first | (go_at_call 97; (refine (sNodeOk_calls n _).mono ?_); rintro e w1 ⟨rfl, hb⟩; rw [H.out]; have HB := Aside0.mk (below_step (below_alloc (Below.refl w.heap.size w) _) hb); have d1 : w1.cell? ⟨w.heap.size, 1, none⟩ = some (.int .i64 n.lab) := pw_cell_below hb (by simp); have d2 : w1.cell? ⟨w.heap.size, 2, none⟩ = some (.int .i64 n.num) := pw_cell_below hb (by simp); have d3 : w1.cell? ⟨w.heap.size, 3, none⟩ = some (.int .i64 x.lab) := pw_cell_below hb (by simp); have d4 : w1.cell? ⟨w.heap.size, 4, none⟩ = some (.int .i64 x.a.lab) := pw_cell_below hb (by simp); have d5 : w1.cell? ⟨w.heap.size, 5, none⟩ = some (.int .i64 x.a.num) := pw_cell_below hb (by simp); have d6 : w1.cell? ⟨w.heap.size, 6, none⟩ = some (.int .i64 x.b.lab) := pw_cell_below hb (by simp); have d7 : w1.cell? ⟨w.heap.size, 7, none⟩ = some (.int .i64 x.b.num) := pw_cell_below hb (by simp); clear hb))
          go_ret
          exact ⟨retI HG.out.symm, HB.out⟩
      · have hz : (x.lab == 0 && ((x.a.lab == 0 && (x.a.num == 0)) && (x.b.lab == 0 && (x.b.num == 0)))) = false := (eg_eq x zE).trans (decide_eq_false h2)
        have HG := Aside0.mk (show opLabel ⟨k, n, x⟩ = -1 by unfold opLabel; rcases hk with rfl | rfl <;> simp [h1, h2])
        clear h1 h2
        rcases hk with rfl | rfl
        all_goals
          go_enter Try.func38, Try.ntmps38
          go_wp2_with (first | (go_at_call 97; (refine (sNodeOk_calls n _).mono ?_); rintro e w1 ⟨rfl, hb⟩; rw [H.out]; have HB := Aside0.mk (below_step (below_alloc (Below.refl w.heap.size w) _) hb); have d1 : w1.cell? ⟨w.heap.size, 1, none⟩ = some (.int .i64 n.lab) := pw_cell_below hb (by simp); have d2 : w1.cell? ⟨w.heap.size, 2, none⟩ = some (.int .i64 n.num) := pw_cell_below hb (by simp); have d3 : w1.cell? ⟨w.heap.size, 3, none⟩ = some (.int .i64 x.lab) := pw_cell_below hb (by simp); have d4 : w1.cell? ⟨w.heap.size, 4, none⟩ = some (.int .i64 x.a.lab) := pw_cell_below hb (by simp); have d5 : w1.cell? ⟨w.heap.size, 5, none⟩ = some (.int .i64 x.a.num) := pw_cell_below hb (by simp); have d6 : w1.cell? ⟨w.heap.size, 6, none⟩ = some (.int .i64 x.b.lab) := pw_cell_below hb (by simp); have d7 : w1.cell? ⟨w.heap.size, 7, none⟩ = some (.int .i64 x.b.num) := pw_cell_below hb (by simp); clear hb))
          go_ret
          exact ⟨retI HG.out.symm, HB.out⟩
  by_cases hk2 : k = 2 ∨ k = 3
  · have hk' := hk
    clear hk
    have hk := hk2
    clear hk2 hk'
    cases h1 : okE x with
    | false =>
      have H := Aside0.mk h1
      have HG := Aside0.mk (show opLabel ⟨k, n, x⟩ = -1 by unfold opLabel; rcases hk with rfl | rfl <;> simp [h1])
      clear h1
      rcases hk with rfl | rfl
      all_goals
        go_enter Try.func38, Try.ntmps38
        go_wp2_with (first | (go_at_call 99; (refine (spEdgeOk_calls x _).mono ?_); rintro e w1 ⟨rfl, hb⟩; rw [H.out]; have HB := Aside0.mk (below_step (below_alloc (Below.refl w.heap.size w) _) hb); have d1 : w1.cell? ⟨w.heap.size, 1, none⟩ = some (.int .i64 n.lab) := pw_cell_below hb (by simp); have d2 : w1.cell? ⟨w.heap.size, 2, none⟩ = some (.int .i64 n.num) := pw_cell_below hb (by simp); have d3 : w1.cell? ⟨w.heap.size, 3, none⟩ = some (.int .i64 x.lab) := pw_cell_below hb (by simp); have d4 : w1.cell? ⟨w.heap.size, 4, none⟩ = some (.int .i64 x.a.lab) := pw_cell_below hb (by simp); have d5 : w1.cell? ⟨w.heap.size, 5, none⟩ = some (.int .i64 x.a.num) := pw_cell_below hb (by simp); have d6 : w1.cell? ⟨w.heap.size, 6, none⟩ = some (.int .i64 x.b.lab) := pw_cell_below hb (by simp); have d7 : w1.cell? ⟨w.heap.size, 7, none⟩ = some (.int .i64 x.b.num) := pw_cell_below hb (by simp); clear hb))
        go_ret
        exact ⟨retI HG.out.symm, HB.out⟩
    | true =>
      have H := Aside0.mk h1
      by_cases h2 : n = zN
      · have hz : (n.lab == 0 && (n.num == 0)) = true := (nd_eq n zN).trans (decide_eq_true h2)
        have HG := Aside0.mk (show opLabel ⟨k, n, x⟩ = x.lab by unfold opLabel; rcases hk with rfl | rfl <;> simp [h1, h2])
        clear h1 h2
        rcases hk with rfl | rfl
        all_goals
          go_enter Try.func38, Try.ntmps38
          go_wp2_with (first | (go_at_call 99; (refine (spEdgeOk_calls x _).mono ?_); rintro e w1 ⟨rfl, hb⟩; rw [H.out]; have HB := Aside0.mk (below_step (below_alloc (Below.refl w.heap.size w) _) hb); have d1 : w1.cell? ⟨w.heap.size, 1, none⟩ = some (.int .i64 n.lab) := pw_cell_below hb (by simp); have d2 : w1.cell? ⟨w.heap.size, 2, none⟩ = some (.int .i64 n.num) := pw_cell_below hb (by simp); have d3 : w1.cell? ⟨w.heap.size, 3, none⟩ = some (.int .i64 x.lab) := pw_cell_below hb (by simp); have d4 : w1.cell? ⟨w.heap.size, 4, none⟩ = some (.int .i64 x.a.lab) := pw_cell_below hb (by simp); have d5 : w1.cell? ⟨w.heap.size, 5, none⟩ = some (.int .i64 x.a.num) := pw_cell_below hb (by simp); have d6 : w1.cell? ⟨w.heap.size, 6, none⟩ = some (.int .i64 x.b.lab) := pw_cell_below hb (by simp); have d7 : w1.cell? ⟨w.heap.size, 7, none⟩ = some (.int .i64 x.b.num) := pw_cell_below hb (by simp); clear hb))
          go_ret
          exact ⟨retI HG.out.symm, HB.out⟩
      · have hz : (n.lab == 0 && (n.num == 0)) = false := (nd_eq n zN).trans (decide_eq_false h2)
        have HG := Aside0.mk (show opLabel ⟨k, n, x⟩ = -1 by unfold opLabel; rcases hk with rfl | rfl <;> simp [h1, h2])
        clear h1 h2
        rcases hk with rfl | rfl
        all_goals
          go_enter Try.func38, Try.ntmps38
          go_wp2_with (first | (go_at_call 99; (refine (spEdgeOk_calls x _).mono ?_); rintro e w1 ⟨rfl, hb⟩; rw [H.out]; have HB := Aside0.mk (below_step (below_alloc (Below.refl w.heap.size w) _) hb); have d1 : w1.cell? ⟨w.heap.size, 1, none⟩ = some (.int .i64 n.lab) := pw_cell_below hb (by simp); have d2 : w1.cell? ⟨w.heap.size, 2, none⟩ = some (.int .i64 n.num) := pw_cell_below hb (by simp); have d3 : w1.cell? ⟨w.heap.size, 3, none⟩ = some (.int .i64 x.lab) := pw_cell_below hb (by simp); have d4 : w1.cell? ⟨w.heap.size, 4, none⟩ = some (.int .i64 x.a.lab) := pw_cell_below hb (by simp); have d5 : w1.cell? ⟨w.heap.size, 5, none⟩ = some (.int .i64 x.a.num) := pw_cell_below hb (by simp); have d6 : w1.cell? ⟨w.heap.size, 6, none⟩ = some (.int .i64 x.b.lab) := pw_cell_below hb (by simp); have d7 : w1.cell? ⟨w.heap.size, 7, none⟩ = some (.int .i64 x.b.num) := pw_cell_below hb (by simp); clear hb))
          go_ret
          exact ⟨retI HG.out.symm, HB.out⟩
  have e1 : (k == 1) = false := beq_eq_false_iff_ne.2 (by omega)
  have e2 : (k == 2) = false := beq_eq_false_iff_ne.2 (by omega)
  have e3 : (k == 3) = false := beq_eq_false_iff_ne.2 (by omega)
  have e4 : (k == 4) = false := beq_eq_false_iff_ne.2 (by omega)
  have HG := Aside0.mk (show opLabel ⟨k, n, x⟩ = -1 by unfold opLabel; rw [if_neg hk, if_neg hk2])
  clear hk hk2
  go_enter Try.func38, Try.ntmps38
  go_wp2
  go_ret
  exact ⟨retI HG.out.symm, below_alloc (Below.refl _ _) _⟩
end Go.Proofs.Ytogmbeifbjgphaa.R
