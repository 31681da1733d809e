/- The label of what is done; Rows of structs without pointers: a longer row in new memory (append; append of zeros), copies into a row; slices.Insert at nodes, at edges: of a list without room one gets a list in new memory; clear of what lies behind a row. -/
import Derived.ArgAppend
import Derived.Test.YtogmbeifbjgphaaGreatKB6
namespace Go.Proofs.YtogmbeifbjgphaaGreat.R
open Go.RowKit Go.Proofs.YtogmbeifbjgphaaGreatV.PrintWords Go.Proofs.YtogmbeifbjgphaaGreatV.PrintLast Go.Proofs.YtogmbeifbjgphaaGreatV.PrintMore Go.Proofs.YtogmbeifbjgphaaGreat.M
set_option linter.unusedVariables false
set_option linter.unusedSimpArgs false
attribute [local go_sem high] eqN eqE
set_option maxHeartbeats 3200000 in
set_option maxRecDepth 100000 in
theorem opLabel_calls (k : Int) (n : Nd) (x : Eg) (w : World) : Calls Tryz.prog 30 #[.agg #[.int .i64 k, .int .i64 n.lab, .int .i64 n.num, .int .i64 x.lab, .int .i64 x.a.lab, .int .i64 x.a.num, .int .i64 x.b.lab, .int .i64 x.b.num]] w fun e w' => e = .returned (.int .i64 (opLabel ⟨k, n, x⟩)) ∧ Below w.heap.size w w' := by
 by_cases hk : k = 1 ∨ k = 4
 ·
  cases h1 : okN n with
  | false =>
    have H := Aside0.mk h1
    have HG := Aside0.mk (show opLabel ⟨k, n, x⟩ = -1 by unfold opLabel; rcases hk with rfl | rfl <;> simp [h1])
    clear h1
    rcases hk with rfl | rfl
    all_goals
     go_enter Tryz.func30, Tryz.ntmps30
     go_wp2_with (first | (go_at_call 74; (refine (nodeOk_calls n _).mono ?_); rintro e w1 ⟨rfl, hb⟩; rw [H.out]; have HB := Aside0.mk (below_step (below_alloc (Below.refl w.heap.size w) _) hb); have d1 : w1.cell? ⟨w.heap.size, 1, none⟩ = some (.int .i64 n.lab) := pw_cell_below hb (by simp); have d2 : w1.cell? ⟨w.heap.size, 2, none⟩ = some (.int .i64 n.num) := pw_cell_below hb (by simp); have d3 : w1.cell? ⟨w.heap.size, 3, none⟩ = some (.int .i64 x.lab) := pw_cell_below hb (by simp); have d4 : w1.cell? ⟨w.heap.size, 4, none⟩ = some (.int .i64 x.a.lab) := pw_cell_below hb (by simp); have d5 : w1.cell? ⟨w.heap.size, 5, none⟩ = some (.int .i64 x.a.num) := pw_cell_below hb (by simp); have d6 : w1.cell? ⟨w.heap.size, 6, none⟩ = some (.int .i64 x.b.lab) := pw_cell_below hb (by simp); have d7 : w1.cell? ⟨w.heap.size, 7, none⟩ = some (.int .i64 x.b.num) := pw_cell_below hb (by simp); clear hb))
     go_ret
     exact ⟨retI HG.out.symm, HB.out⟩
  | true =>
    have H := Aside0.mk h1
    by_cases h2 : x = zE
    ·have hz : (x.lab == 0 && ((x.a.lab == 0 && (x.a.num == 0)) && (x.b.lab == 0 && (x.b.num == 0)))) = true := (eg_eq x zE).trans (decide_eq_true h2)
     have HG := Aside0.mk (show opLabel ⟨k, n, x⟩ = n.lab by unfold opLabel; rcases hk with rfl | rfl <;> simp [h1, h2])
     clear h1 h2
     rcases hk with rfl | rfl
     all_goals
      go_enter Tryz.func30, Tryz.ntmps30
      go_wp2_with (first | (go_at_call 74; (refine (nodeOk_calls n _).mono ?_); rintro e w1 ⟨rfl, hb⟩; rw [H.out]; have HB := Aside0.mk (below_step (below_alloc (Below.refl w.heap.size w) _) hb); have d1 : w1.cell? ⟨w.heap.size, 1, none⟩ = some (.int .i64 n.lab) := pw_cell_below hb (by simp); have d2 : w1.cell? ⟨w.heap.size, 2, none⟩ = some (.int .i64 n.num) := pw_cell_below hb (by simp); have d3 : w1.cell? ⟨w.heap.size, 3, none⟩ = some (.int .i64 x.lab) := pw_cell_below hb (by simp); have d4 : w1.cell? ⟨w.heap.size, 4, none⟩ = some (.int .i64 x.a.lab) := pw_cell_below hb (by simp); have d5 : w1.cell? ⟨w.heap.size, 5, none⟩ = some (.int .i64 x.a.num) := pw_cell_below hb (by simp); have d6 : w1.cell? ⟨w.heap.size, 6, none⟩ = some (.int .i64 x.b.lab) := pw_cell_below hb (by simp); have d7 : w1.cell? ⟨w.heap.size, 7, none⟩ = some (.int .i64 x.b.num) := pw_cell_below hb (by simp); clear hb))
      go_ret
      exact ⟨retI HG.out.symm, HB.out⟩
    ·have hz : (x.lab == 0 && ((x.a.lab == 0 && (x.a.num == 0)) && (x.b.lab == 0 && (x.b.num == 0)))) = false := (eg_eq x zE).trans (decide_eq_false h2)
     have HG := Aside0.mk (show opLabel ⟨k, n, x⟩ = -1 by unfold opLabel; rcases hk with rfl | rfl <;> simp [h1, h2])
     clear h1 h2
     rcases hk with rfl | rfl
     all_goals
      go_enter Tryz.func30, Tryz.ntmps30
      go_wp2_with (first | (go_at_call 74; (refine (nodeOk_calls n _).mono ?_); rintro e w1 ⟨rfl, hb⟩; rw [H.out]; have HB := Aside0.mk (below_step (below_alloc (Below.refl w.heap.size w) _) hb); have d1 : w1.cell? ⟨w.heap.size, 1, none⟩ = some (.int .i64 n.lab) := pw_cell_below hb (by simp); have d2 : w1.cell? ⟨w.heap.size, 2, none⟩ = some (.int .i64 n.num) := pw_cell_below hb (by simp); have d3 : w1.cell? ⟨w.heap.size, 3, none⟩ = some (.int .i64 x.lab) := pw_cell_below hb (by simp); have d4 : w1.cell? ⟨w.heap.size, 4, none⟩ = some (.int .i64 x.a.lab) := pw_cell_below hb (by simp); have d5 : w1.cell? ⟨w.heap.size, 5, none⟩ = some (.int .i64 x.a.num) := pw_cell_below hb (by simp); have d6 : w1.cell? ⟨w.heap.size, 6, none⟩ = some (.int .i64 x.b.lab) := pw_cell_below hb (by simp); have d7 : w1.cell? ⟨w.heap.size, 7, none⟩ = some (.int .i64 x.b.num) := pw_cell_below hb (by simp); clear hb))
      go_ret
      exact ⟨retI HG.out.symm, HB.out⟩
 by_cases hk2 : k = 2 ∨ k = 3
 ·have hk' := hk
  clear hk
  have hk := hk2
  clear hk2 hk'
  cases h1 : okE x with
  | false =>
    have H := Aside0.mk h1
    have HG := Aside0.mk (show opLabel ⟨k, n, x⟩ = -1 by unfold opLabel; rcases hk with rfl | rfl <;> simp [h1])
    clear h1
    rcases hk with rfl | rfl
    all_goals
     go_enter Tryz.func30, Tryz.ntmps30
     go_wp2_with (first | (go_at_call 75; (refine (edgeOk_calls x _).mono ?_); rintro e w1 ⟨rfl, hb⟩; rw [H.out]; have HB := Aside0.mk (below_step (below_alloc (Below.refl w.heap.size w) _) hb); have d1 : w1.cell? ⟨w.heap.size, 1, none⟩ = some (.int .i64 n.lab) := pw_cell_below hb (by simp); have d2 : w1.cell? ⟨w.heap.size, 2, none⟩ = some (.int .i64 n.num) := pw_cell_below hb (by simp); have d3 : w1.cell? ⟨w.heap.size, 3, none⟩ = some (.int .i64 x.lab) := pw_cell_below hb (by simp); have d4 : w1.cell? ⟨w.heap.size, 4, none⟩ = some (.int .i64 x.a.lab) := pw_cell_below hb (by simp); have d5 : w1.cell? ⟨w.heap.size, 5, none⟩ = some (.int .i64 x.a.num) := pw_cell_below hb (by simp); have d6 : w1.cell? ⟨w.heap.size, 6, none⟩ = some (.int .i64 x.b.lab) := pw_cell_below hb (by simp); have d7 : w1.cell? ⟨w.heap.size, 7, none⟩ = some (.int .i64 x.b.num) := pw_cell_below hb (by simp); clear hb))
     go_ret
     exact ⟨retI HG.out.symm, HB.out⟩
  | true =>
    have H := Aside0.mk h1
    by_cases h2 : n = zN
    ·have hz : (n.lab == 0 && (n.num == 0)) = true := (nd_eq n zN).trans (decide_eq_true h2)
     have HG := Aside0.mk (show opLabel ⟨k, n, x⟩ = x.lab by unfold opLabel; rcases hk with rfl | rfl <;> simp [h1, h2])
     clear h1 h2
     rcases hk with rfl | rfl
     all_goals
      go_enter Tryz.func30, Tryz.ntmps30
      go_wp2_with (first | (go_at_call 75; (refine (edgeOk_calls x _).mono ?_); rintro e w1 ⟨rfl, hb⟩; rw [H.out]; have HB := Aside0.mk (below_step (below_alloc (Below.refl w.heap.size w) _) hb); have d1 : w1.cell? ⟨w.heap.size, 1, none⟩ = some (.int .i64 n.lab) := pw_cell_below hb (by simp); have d2 : w1.cell? ⟨w.heap.size, 2, none⟩ = some (.int .i64 n.num) := pw_cell_below hb (by simp); have d3 : w1.cell? ⟨w.heap.size, 3, none⟩ = some (.int .i64 x.lab) := pw_cell_below hb (by simp); have d4 : w1.cell? ⟨w.heap.size, 4, none⟩ = some (.int .i64 x.a.lab) := pw_cell_below hb (by simp); have d5 : w1.cell? ⟨w.heap.size, 5, none⟩ = some (.int .i64 x.a.num) := pw_cell_below hb (by simp); have d6 : w1.cell? ⟨w.heap.size, 6, none⟩ = some (.int .i64 x.b.lab) := pw_cell_below hb (by simp); have d7 : w1.cell? ⟨w.heap.size, 7, none⟩ = some (.int .i64 x.b.num) := pw_cell_below hb (by simp); clear hb))
      go_ret
      exact ⟨retI HG.out.symm, HB.out⟩
    ·have hz : (n.lab == 0 && (n.num == 0)) = false := (nd_eq n zN).trans (decide_eq_false h2)
     have HG := Aside0.mk (show opLabel ⟨k, n, x⟩ = -1 by unfold opLabel; rcases hk with rfl | rfl <;> simp [h1, h2])
     clear h1 h2
     rcases hk with rfl | rfl
     all_goals
      go_enter Tryz.func30, Tryz.ntmps30
      go_wp2_with (first | (go_at_call 75; (refine (edgeOk_calls x _).mono ?_); rintro e w1 ⟨rfl, hb⟩; rw [H.out]; have HB := Aside0.mk (below_step (below_alloc (Below.refl w.heap.size w) _) hb); have d1 : w1.cell? ⟨w.heap.size, 1, none⟩ = some (.int .i64 n.lab) := pw_cell_below hb (by simp); have d2 : w1.cell? ⟨w.heap.size, 2, none⟩ = some (.int .i64 n.num) := pw_cell_below hb (by simp); have d3 : w1.cell? ⟨w.heap.size, 3, none⟩ = some (.int .i64 x.lab) := pw_cell_below hb (by simp); have d4 : w1.cell? ⟨w.heap.size, 4, none⟩ = some (.int .i64 x.a.lab) := pw_cell_below hb (by simp); have d5 : w1.cell? ⟨w.heap.size, 5, none⟩ = some (.int .i64 x.a.num) := pw_cell_below hb (by simp); have d6 : w1.cell? ⟨w.heap.size, 6, none⟩ = some (.int .i64 x.b.lab) := pw_cell_below hb (by simp); have d7 : w1.cell? ⟨w.heap.size, 7, none⟩ = some (.int .i64 x.b.num) := pw_cell_below hb (by simp); clear hb))
      go_ret
      exact ⟨retI HG.out.symm, HB.out⟩
 have e1 : (k == 1) = false := beq_eq_false_iff_ne.2 (by omega)
 have e2 : (k == 2) = false := beq_eq_false_iff_ne.2 (by omega)
 have e3 : (k == 3) = false := beq_eq_false_iff_ne.2 (by omega)
 have e4 : (k == 4) = false := beq_eq_false_iff_ne.2 (by omega)
 have HG := Aside0.mk (show opLabel ⟨k, n, x⟩ = -1 by unfold opLabel; rw [if_neg hk, if_neg hk2])
 clear hk hk2
 go_enter Tryz.func30, Tryz.ntmps30
 go_wp2
 go_ret
 exact ⟨retI HG.out.symm, below_alloc (Below.refl _ _) _⟩
end Go.Proofs.YtogmbeifbjgphaaGreat.R
namespace Go.Proofs.YtogmbeifbjgphaaGreat.R
open Go.RowKit Go.Proofs.YtogmbeifbjgphaaGreatV.PrintWords Go.Proofs.YtogmbeifbjgphaaGreatV.PrintLast Go.Proofs.YtogmbeifbjgphaaGreatV.PrintMore Go.Proofs.YtogmbeifbjgphaaGreat.M
set_option linter.unusedVariables false
set_option linter.unusedSimpArgs false
/-- A kind whose cells tell no addresses. -/
def Flat {α : Type} (d : Kd α) : Prop := 0 < d.sz ∧ ∀ (x : α) (c : List Value) (W : World), d.K W x c → ∀ (W' : World) (base : Nat) (ok' : Nat → Prop), d.M W' base ok' x c
theorem flatN : Flat kN := ⟨by decide, fun x c W h W' base ok' => kN_KM x c W h W' base ok'⟩
theorem flatE : Flat kE := ⟨by decide, fun x c W h W' base ok' => kE_KM x c W h W' base ok'⟩
section
variable {α : Type} {d : Kd α}
theorem flat_R (hf : Flat d) {w W : World} {base n : Nat} {e : TypeId} {v : Value} {xs : List α} {cs : List Value} (hown : w.ownsRow base e d.sz v n cs) (hr : Reps (d.K W) d.sz xs cs) (hn : xs.length = n) : d.R e w base (fun _ => True) v xs :=
 ⟨fun _ _ => trivial, cs, by subst hn; exact hown, hr.imp_ fun p c hp => hf.2 p c W hp _ _ _⟩
theorem flat_one (hf : Flat d) {W : World} {xs : List α} {cs : List Value} (hr : Reps (d.K W) d.sz xs cs) : ∀ u ∈ cs, u.oneCell' = true := Kd.reps_one hr hf.1 (fun _ _ hp => d.K_one hp)
/-- What a row that is read holds, cell by cell. -/
theorem flat_cells {W : World} {A : Option Addr} {n : Nat} {xs : List α} (h : d.C W A n xs) : ∃ cs, Reps (d.K W) d.sz xs cs ∧ xs.length = n ∧ ∀ ad, A = some ad → ∀ j u, cs[j]? = some u → W.cell? (ad.add j) = some u := by
 cases A with
 | none =>
   have hn : n = 0 := by
    rcases Nat.eq_zero_or_pos n with h0 | h0
    ·exact h0
    ·obtain ⟨ad, he, -⟩ := h.2.2 h0
     cases he
   have hx : xs = [] := List.eq_nil_of_length_eq_zero (by rw [h.1, hn])
   subst hx
   exact ⟨[], Reps.none _ _, h.1, fun ad he => by cases he⟩
 | some ad =>
   obtain ⟨cs, h1, h2⟩ := ReadsRow.inner_ h
   exact ⟨cs, h1, h.1, fun b he => by cases he; exact h2⟩
theorem grown_below {w w' : World} (h : w.grownBy w' none) : Below w.heap.size w w' := (Below.refl _ _).grown h (Nat.le_refl _) (fun k hk => by cases hk)
variable {P : Program} {ops : Array Oper} {rest : List Oper} {o : Oper} {a : Act} {Q : Exit → Act → World → Prop}
theorem append_new (hf : Flat d) {W : World} (hgd : o.guard = none) (s x : Operand) (t e : TypeId) (ho : o.op = .call { callee := .builtin .append, args := #[s, x], argTypes := #[t, t] })
 (ht : P.underlying t = some (.slice e)) (z : Value) (bytes : Nat) (hinfo : (P.info? e).map (fun i => (i.zero, i.size, i.bytes)) = some (some z, d.sz, bytes)) (hz : z.cells.size = d.sz) (hb0 : 0 < bytes)
 {A : Option Addr} {n c : Nat} {xs : List α} (hs : a.eval s = .slice A n c) (hC : d.C W A n xs) (hnc : A = none → c = 0) {ad : Addr} {m c2 : Nat} {ys : List α} (hx : a.eval x = .slice (some ad) m c2) (hC2 : d.C W (some ad) m ys)
 (hfull : c < n + m) (hl : (n + m) * bytes ≤ 140737488355328)
 (h : ∀ g cap w', n + m ≤ cap → d.R e w' W.heap.size (fun _ => True) (.slice (some ⟨g, 0, none⟩) (n + m) cap) (xs ++ ys) → Below W.heap.size W w' → wpList P ops Q rest (a.put o.dst (.slice (some ⟨g, 0, none⟩) (n + m) cap)) w') : wpList P ops Q (o :: rest) a W := by
 obtain ⟨i0, hi, hzz⟩ := Option.map_eq_some_iff.1 hinfo
 simp only [Prod.mk.injEq] at hzz
 obtain ⟨hz0, hz1, hz2⟩ := hzz
 obtain ⟨cs, hr1, hn1, hc1⟩ := flat_cells hC
 obtain ⟨ds, hr2, hn2, hc2⟩ := flat_cells hC2
 have hmax : n + m ≤ maxLen := by
  have : n + m ≤ (n + m) * bytes := Nat.le_mul_of_pos_right _ hb0
  simp only [maxLen]
  omega
 refine wpList_append_grows W hgd s x t ho e i0 z d.sz bytes ht hi hz0 hz1 hz2 hz hf.1 A n c cs hs (fun he => ⟨?_, hnc he⟩) (by rw [hr1.1, hn1]) hc1 ad m c2 ds hx (by rw [hr2.1, hn2]) (hc2 ad rfl) (flat_one hf hr2) hfull hmax hl fun v' w' hown hg => ?_
 ·rcases Nat.eq_zero_or_pos n with h0 | h0
  ·exact h0
  ·obtain ⟨ad, hh, -⟩ := hC.2.2 h0
   rw [he] at hh
   cases hh
 ·have hR := flat_R hf hown (Kd.reps_append hr1 hr2) (by simp [hn1, hn2])
  rcases hown.2 with ⟨-, h0⟩ | ⟨g, cap, cur, rfl, -, -, hcap, -⟩
  ·omega
  ·exact h g cap w' hcap hR (grown_below hg)
/-- append(s, make([]T, m)...) where there is no room: the cells behind the old ones are whatever the type's zero is. -/
theorem zeros_new (hf : Flat d) {W : World} (hgd : o.guard = none) (s x : Operand) (t ti e : TypeId) (ho : o.op = .call { callee := .builtin .append, args := #[s, x], argTypes := #[t, ti] })
 (ht : P.underlying t = some (.slice e)) (hti : P.underlying ti = some (.int .i64)) (z : Value) (bytes : Nat) (hinfo : (P.info? e).map (fun i => (i.zero, i.size, i.bytes)) = some (some z, d.sz, bytes)) (hz : z.cells.size = d.sz) (hb0 : 0 < bytes)
 {b : Addr} {n c : Nat} {cs : List Value} (hs : a.eval s = .slice (some b) n c) (hcl : cs.length = n * d.sz) (hcs : ∀ j u, cs[j]? = some u → W.cell? (b.add j) = some u) {m : Nat} (hx : a.eval x = .int .i64 (m : Int))
 (N : Nat) (hN : n + m = N) (hfull : c < N) (hm : 0 < m) (hl : N * bytes ≤ 140737488355328)
 (h : ∀ g cap w' cur, N ≤ cap → cap ≤ maxLen → w'.heap[g]? = some (.cells cur e (0, 0)) → cur.size = cap * d.sz → cur.toList.take (n * d.sz) = cs → W.heap.size ≤ g → Below W.heap.size W w' → wpList P ops Q rest (a.put o.dst (.slice (some ⟨g, 0, none⟩) N cap)) w') : wpList P ops Q (o :: rest) a W := by
 subst hN
 obtain ⟨i, hi, hzz⟩ := Option.map_eq_some_iff.1 hinfo
 simp only [Prod.mk.injEq] at hzz
 obtain ⟨hz0, hz1, hz2⟩ := hzz
 have hle : n + m ≤ 140737488355328 := Nat.le_trans (Nat.le_mul_of_pos_right _ hb0) hl
 have h63 : n + m ≤ maxLen := by simp only [maxLen]; omega
 have hw : IntKind.i64.wrap (m : Int) = m := by rw [IntKind.wrap_i64]; omega
 have hneg : ¬ ((m : Int) < 0) := by omega
 have hmb : m * i.bytes ≤ 140737488355328 := by rw [hz2]; exact Nat.le_trans (Nat.mul_le_mul_right _ (Nat.le_add_left m n)) hl
 have hbig : ¬ (281474976710656 < (m : Int) * (i.bytes : Int)) := by
  rw [← Int.natCast_mul]
  omega
 have hn : ¬ (n + m ≤ c) := by omega
 have h63' : ¬ (9223372036854775807 < ((n : Int) + (m : Int))) := by simp only [maxLen] at h63; omega
 have hfit := growslice_fits hfull hl
 have h48' : ¬ (281474976710656 < Builtin.nextslicecap (n + m) c * i.bytes) := by rw [hz2]; omega
 have hmz : ¬ (m * i.size = 0) := by
  have := hf.1
  exact Nat.mul_ne_zero (by omega) (by omega)
 have hfo := run_firstCells_some (P := P) W.drew i.size n b n c cs (by rw [hcl, hz1]) hcs
 have hge := grownCap_ge W (n + m) c e
 have hrun : (Builtin.append_ #[t, ti] o.type #[.slice (some b) n c, .int .i64 m]).run P W =
  .ok (.slice (some ⟨W.heap.size, 0, none⟩) (n + m) (grownCap W (n + m) c e)) (W.drew.alloc (.cells (cs.toArray ++ Builtin.zeroCells z.cells m ++ Builtin.zeroCells z.cells (grownCap W (n + m) c e - (n + m))) e)) := by
  simp [Builtin.append_, run_underlying ht, run_underlying hti, sizeOf, typeInfo, zeroValue, hi, hz0, asInt, asIntOf, hw, hneg, hbig, hn, h63', h48', Question.forced, hfo, newRow, grownCap, hmz]
 refine wpList_plain hgd fun K hK => ?_
 unfold Oper.wp execOp
 simp only [ho, resolve, invoke, builtin, Sem.run_bind, Sem.run_pure, Result.andThen_ok, List.map_toArray, List.map_cons, List.map_nil, hs, hx, hrun]
 refine hK _ _ (h W.heap.size _ _ _ hge (grownCap_le_maxLen W (n + m) c e h63) (heap_alloc_new W.drew _) ?_ ?_ (Nat.le_refl _) ((Below.refl _ _).drew.alloc (Nat.le_refl _) _))
 ·simp only [Array.size_append, List.size_toArray, size_zeroCells, hz, hcl, ← Nat.add_mul]
  congr 1
  omega
 ·simp only [Array.toList_append, List.append_assoc]
  rw [← hcl]
  exact List.take_left ..
/-- copy(dst, src), dst somewhere in a row that the call itself made. -/
theorem run_copy_to {w : World} (dT sT ty elem : TypeId) (k g off dLen dCap : Nat) (ad : Addr) (sLen sCap m : Nat) (cur : Array Value) (t : TypeId) (cs : List Value)
 (hu : P.underlying dT = some (.slice elem)) (hs : (P.info? elem).map (·.size) = some k)
 (hg : w.heap[g]? = some (.cells cur t (0, 0))) (hm : Nat.min sLen dLen = m) (hn : cs.length = m * k)
 (hsrc : ∀ j v, cs[j]? = some v → w.cell? (ad.add j) = some v) (hfit : off + cs.length ≤ cur.size) (h1 : ∀ v ∈ cs, v.oneCell' = true) :
 (Builtin.copy_ #[dT, sT] ty #[.slice (some ⟨g, off, none⟩) dLen dCap, .slice (some ad) sLen sCap]).run P w =
  .ok (goInt m) (w.setRow g (splice cur.toList off cs).toArray) := by
 have hl := run_loadCells_list (P := P) w ad cs hsrc
 have hst := run_storeCells_at P g off t cs 0 cur w hg (by simpa using hfit) h1
 cases hq : P.info? elem with
 | none => simp [hq] at hs
 | some i =>
   have hi : i.size = k := by simpa [hq] using hs
   rw [hn] at hl
   simp only [Nat.add_zero] at hst
   simp [Builtin.copy_, run_underlying hu, Builtin.lenOf, Builtin.firstCells, sizeOf, typeInfo, hq, hi, hm, hl, hst, splice]
theorem wp_copy_to {W : World} {K : Act → World → Prop} (x y : Operand) (t t2 e : TypeId) (ho : o.op = .call { callee := .builtin .copy, args := #[x, y], argTypes := #[t, t2] }) (hu : P.underlying t = some (.slice e))
 (k : Nat) (hs : (P.info? e).map (·.size) = some k) (g off dLen dCap : Nat) (ad : Addr) (sLen sCap m : Nat) (hv : a.eval x = .slice (some ⟨g, off, none⟩) dLen dCap) (hy : a.eval y = .slice (some ad) sLen sCap) (cur : Array Value) (te : TypeId) (cs : List Value)
 (hg : W.heap[g]? = some (.cells cur te (0, 0))) (hm : Nat.min sLen dLen = m) (hn : cs.length = m * k) (hsrc : ∀ j v, cs[j]? = some v → W.cell? (ad.add j) = some v) (hfit : off + cs.length ≤ cur.size) (h1 : ∀ v ∈ cs, v.oneCell' = true)
 (h : K (a.put o.dst (goInt m)) (W.setRow g (splice cur.toList off cs).toArray)) : Oper.wp P o a W K Q := by
 have hrun := run_copy_to (P := P) (w := W) t t2 o.type e k g off dLen dCap ad sLen sCap m cur te cs hu hs hg hm hn hsrc hfit h1
 unfold Oper.wp execOp
 simp only [ho, resolve, invoke, builtin, Sem.run_bind, Sem.run_pure, Result.andThen_ok, List.map_toArray, List.map_cons, List.map_nil, hv, hy, hrun]
 exact h
end
theorem splice_two {β : Type} (L : List β) (a : Nat) (c d : List β) (h : a + c.length + d.length ≤ L.length) : (splice (splice L a c) (a + c.length) d).take (a + c.length + d.length) = L.take a ++ c ++ d := by
 have h1 : (L.take a).length = a := by rw [List.length_take]; omega
 have h2 : (splice L a c).take (a + c.length) = L.take a ++ c := by
  unfold splice
  rw [← List.append_assoc]
  exact List.take_left' (by rw [List.length_append, h1])
 unfold splice at *
 rw [h2, ← List.append_assoc]
 exact List.take_left' (by rw [List.length_append, List.length_append, h1])
end Go.Proofs.YtogmbeifbjgphaaGreat.R
namespace Go.Proofs.YtogmbeifbjgphaaGreat.R
open Go.RowKit Go.Proofs.YtogmbeifbjgphaaGreatV.PrintWords Go.Proofs.YtogmbeifbjgphaaGreatV.PrintLast Go.Proofs.YtogmbeifbjgphaaGreatV.PrintMore Go.Proofs.YtogmbeifbjgphaaGreat.M
set_option linter.unusedVariables false
set_option linter.unusedSimpArgs false
attribute [local go_sem high] eqN eqE
theorem take_some {β : Type} {l : List β} {n j : Nat} {u : β} (h : (l.take n)[j]? = some u) : l[j]? = some u := by
 rw [List.getElem?_take] at h
 split at h
 ·exact h
 ·cases h
theorem drop_some {β : Type} {l : List β} {n j : Nat} {u : β} (h : (l.drop n)[j]? = some u) : l[n + j]? = some u := by
 rwa [List.getElem?_drop] at h
theorem flat_nil {α : Type} {d : Kd α} {W : World} {n : Nat} {xs : List α} (h : d.C W none n xs) : n = 0 := by
 rcases Nat.eq_zero_or_pos n with h0 | h0
 ·exact h0
 ·obtain ⟨ad, he, -⟩ := h.2.2 h0
  cases he
abbrev sInsN : List (Nat × Bool) := [(0, true), (1, true), (2, true), (3, true), (4, true), (5, true), (6, true), (7, true), (8, false)]
theorem sInsN_ok : schedB .any (opsOf Tryz.f89 11) sInsN (Array.replicate (opsOf Tryz.f89 11).size false) = true := by kernel_rfl
set_option maxHeartbeats 3200000 in
set_option maxRecDepth 100000 in
theorem insN_calls (A : Option Addr) (l : List Nd) (i : Nat) (x : Nd) (V : Addr) (c2 : Nat) (w : World) (hr : kN.C w A l.length l) (hv : kN.C w (some V) 1 [x]) (hi : i ≤ l.length) (hl : l.length ≤ 1000000) :
 Calls Tryz.prog 89 #[.slice A l.length l.length, .int .i64 (i : Int), .slice (some V) 1 c2] w fun e w' => ∃ g cap, e = .returned (.slice (some ⟨g, 0, none⟩) (l.length + 1) cap) ∧ l.length + 1 ≤ cap ∧ kN.R 28 w' w.heap.size (fun _ => True) (.slice (some ⟨g, 0, none⟩) (l.length + 1) cap) (l.take i ++ x :: l.drop i) ∧ Below w.heap.size w w' := by
 have HR := Aside0.mk hr
 have HV := Aside0.mk hv
 have HL := Aside0.mk hl
 clear hr hv
 by_cases he : i = l.length
 ·subst he
  clear hi
  go_enter Tryz.func89, Tryz.ntmps89
  go_wp2_with (first | ((with_reducible refine gate_builtin (b := .append) rfl ?_); refine append_new flatN rfl _ _ 23 28 rfl Tryz.underlying23 (.agg #[(.int .i64 0), (.int .i64 0)]) 16 infoN rfl (by decide) (A := A) (n := l.length) (c := l.length) (xs := l) rfl HR.out (fun e => by subst e; exact (flat_nil HR.out)) (ad := V) (m := 1) (c2 := c2) (ys := [x]) rfl HV.out (by omega) (by have := HL.out; omega) ?_; intro g cap w1 hcap hr1 hb1; have HO1 := Aside0.mk hr1; have HB1 := Aside0.mk hb1; clear hr1 hb1))
  go_ret
  exact ⟨_, _, rfl, hcap, by rw [List.take_length, List.drop_length]; exact HO1.out, HB1.out⟩
 ·have hi2 : i < l.length := by omega
  clear he hi
  obtain ⟨cs, hr1, hn1, hc1⟩ := flat_cells HR.out
  cases A with
  | none => exact absurd (flat_nil HR.out) (by omega)
  | some ad =>
  have hcl : cs.length = l.length * 2 := hr1.1
  have HCS := Aside0.mk (hc1 ad rfl)
  have HP1 := Aside0.mk hr1
  clear hr1 hc1 hn1
  obtain ⟨dx, hd1, hd2, hd3⟩ := flat_cells HV.out
  have hdl : dx.length = 2 := by rw [hd1.1]; rfl
  have HDX := Aside0.mk (hd3 V rfl)
  have HD1 := Aside0.mk hd1
  clear hd1 hd2 hd3
  have hmin : Nat.min 1 (l.length + 1 - i) = 1 := Nat.min_eq_left (by omega)
  have hmin2 : Nat.min (l.length - i) (l.length + 1 - (i + 1)) = l.length - i := Nat.min_eq_left (by omega)
  have hsub : ((l.length + 1 - i : Nat) : Int) = (l.length : Int) + 1 - (i : Int) := by omega
  go_enter Tryz.func89, Tryz.ntmps89
  go_wp2_with (first | ((with_reducible refine gate_builtin (b := .append) rfl ?_); go_must (refine zeros_new flatN rfl _ _ 23 3 28 rfl Tryz.underlying23 Tryz.underlying3 (.agg #[(.int .i64 0), (.int .i64 0)]) 16 infoN rfl (by decide) (b := ad) (n := i) (c := l.length) (cs := cs.take (i * 2)) rfl (by rw [List.length_take, hcl]; exact Nat.min_eq_left (Nat.mul_le_mul_right _ (by omega))) (fun j u hj => HCS.out j u (take_some hj)) (m := l.length + 1 - i) (congrArg (Value.int .i64) hsub.symm) (l.length + 1) (by omega) (by omega) (by omega) (by omega) ?_); intro g cap w1 cur hcap hmax hg1 hsz htk hge hb1; have HG1 := Aside0.mk hg1; have HB1 := Aside0.mk hb1; have HSZ := Aside0.mk hsz; have HTK := Aside0.mk htk; clear hg1 hb1 hsz htk) | ((with_reducible refine gate_builtin (b := .copy) rfl ?_); go_must (refine wpList_plain rfl fun K_ hK_ => wp_copy_to _ _ 23 23 28 rfl Tryz.underlying23 2 (by kernel_rfl) g (i * 2) (l.length + 1 - i) (cap - i) V 1 c2 1 rfl rfl cur _ dx HG1.out hmin (by rw [hdl]) (fun j v hj => pw_cell_below HB1.out (HDX.out j v hj)) (by have h_ : cur.size = cap * 2 := HSZ.out; omega) (flat_one flatN HD1.out) (hK_ _ _ ?_)); refine named _ ?_; intro w2 hw2; have HG2 := Aside0.mk (show w2.heap[g]? = some (.cells (splice cur.toList (i * 2) dx).toArray _ (0, 0)) by rw [hw2]; exact setRow_heap _ _ _ _ _ _ HG1.out); have HB2 := Aside0.mk (show Below w.heap.size w w2 by rw [hw2]; exact below_setRow HB1.out hge _); clear hw2 HG1 HB1))
  have hw1 : IntKind.i64.wrap ((i : Int) + 1) = ((i + 1 : Nat) : Int) := by rw [IntKind.wrap_i64]; omega
  have q1 : 0 ≤ (i : Int) + 1 := by omega
  have q2 : ¬ cap = i + 1 := by omega
  have q3 : ¬ l.length = i := by omega
  have q4 : i ≤ l.length := by omega
  have HK_ := Aside0.mk (show Reg (fun _ => True) from ⟨fun _ _ _ _ => trivial⟩)
  refine region_by2 (fun _ => True) sInsN (by kernel_rfl) sInsN_ok rfl (fun d _ _ _ _ h => by cases d <;> exact h) HK_.out trivial ?_
  intro u hS hbu_
  have HG2x_ := Aside0.mk (blk_below HG2.out hbu_)
  clear HG2
  have HG2 := Aside0.mk HG2x_.out
  clear HG2x_
  have HB2x_ := Aside0.mk (below_step HB2.out hbu_)
  clear HB2
  have HB2 := Aside0.mk HB2x_.out
  clear HB2x_
  clear hbu_
  repeat (first | (refine h_off gt_ (by rfl) ?_; intro a_ ha_; (simp only [Act.put, pu1, pu2, pu3] at ha_); subst ha_) | (refine h_on (v := ?_) gt_ (by rfl) ?_ ?_; rotate_left; (· rintro w_ -; go_simp; with_reducible rfl); intro a_ ha_; (simp only [Act.put, pu1, pu2, pu3] at ha_); subst ha_) | (refine h_offc hS gt_ (by rfl) ?_; intro a_ ha_; (simp only [Act.put, pu1, pu2, pu3] at ha_); subst ha_))
  have hcd : (cs.drop (i * 2)).length = (l.length - i) * 2 := by rw [List.length_drop, hcl]; omega
  have hsz1 : cur.size = cap * 2 := HSZ.out
  have hct : cur.toList.length = cap * 2 := by rw [Array.length_toList]; exact hsz1
  refine ⟨_, gt_, fun K_ hK_ => ?_⟩
  rw [if_pos (by rfl)]
  refine wp_copy_to _ _ 23 23 28 rfl Tryz.underlying23 2 (by kernel_rfl) g ((i + 1) * 2) (l.length - i) (cap - (i + 1)) (ad.add (i * 2)) (l.length - i) (l.length - i) (l.length - i) rfl rfl _ _ (cs.drop (i * 2)) HG2.out (Nat.min_self _) hcd (fun j v hj => by
   rw [add_add]
   exact pw_cell_below HB2.out (HCS.out _ _ (drop_some hj))) (by
   show (i + 1) * 2 + (cs.drop (i * 2)).length ≤ (splice cur.toList (i * 2) dx).length
   rw [length_splice _ _ _ (by omega)]
   omega) (fun u hu => flat_one flatN HP1.out u (List.mem_of_mem_drop hu)) (hK_ _ _ trivial fun _ => ?_)
  refine named _ ?_
  intro w3 hw3
  have HG3 := Aside0.mk (show w3.heap[g]? = some (.cells (splice (splice cur.toList (i * 2) dx) ((i + 1) * 2) (cs.drop (i * 2))).toArray 28 (0, 0)) by rw [hw3]; exact setRow_heap _ _ _ _ _ _ HG2.out)
  have HB3 := Aside0.mk (show Below w.heap.size w w3 by rw [hw3]; exact below_setRow HB2.out hge _)
  clear hw3
  have hR : kN.R 28 w3 w.heap.size (fun _ => True) (.slice (some ⟨g, 0, none⟩) (l.length + 1) cap) (l.take i ++ x :: l.drop i) := by
   have hlen : (splice (splice cur.toList (i * 2) dx) ((i + 1) * 2) (cs.drop (i * 2))).length = cap * 2 := by
    rw [length_splice _ _ _ (by rw [length_splice _ _ _ (by omega)]; omega), length_splice _ _ _ (by omega), hct]
   refine flat_R flatN (cs := cs.take (i * 2) ++ (dx ++ cs.drop (i * 2))) ⟨?_, .inr ⟨g, cap, _, rfl, hge, HG3.out, hcap, hmax, by rw [List.size_toArray, hlen]; rfl, ?_⟩⟩ (Kd.reps_append (Kd.reps_take HP1.out (by omega)) (Kd.reps_append (ps := [x]) HD1.out (Kd.reps_drop HP1.out))) (by simp; omega)
   ·rw [List.length_append, List.length_append, List.length_take, hdl, hcd, hcl]
    show _ = _ * 2
    omega
   ·have h := splice_two cur.toList (i * 2) dx (cs.drop (i * 2)) (by omega)
    rw [show cur.toList.take (i * 2) = cs.take (i * 2) from HTK.out] at h
    rw [hdl, hcd] at h
    rw [← List.append_assoc]
    refine Eq.trans ?_ h
    rw [show i * 2 + 2 = (i + 1) * 2 by omega]
    congr 1
    show _ * 2 = _
    omega
  have HR3 := Aside0.mk hR
  clear hR HG3 HB2 HG2 hS
  refine h_end ?_
  simp only [Act.put, pu1, pu2, pu3]
  go_wp2
  go_ret
  exact ⟨_, _, rfl, hcap, HR3.out, HB3.out⟩
abbrev sInsE : List (Nat × Bool) := [(0, true), (1, true), (2, true), (3, true), (4, true), (5, true), (6, true), (7, true), (8, false)]
theorem sInsE_ok : schedB .any (opsOf Tryz.f96 11) sInsE (Array.replicate (opsOf Tryz.f96 11).size false) = true := by kernel_rfl
set_option maxHeartbeats 3200000 in
set_option maxRecDepth 100000 in
theorem insE_calls (A : Option Addr) (l : List Eg) (i : Nat) (x : Eg) (V : Addr) (c2 : Nat) (w : World) (hr : kE.C w A l.length l) (hv : kE.C w (some V) 1 [x]) (hi : i ≤ l.length) (hl : l.length ≤ 1000000) :
 Calls Tryz.prog 96 #[.slice A l.length l.length, .int .i64 (i : Int), .slice (some V) 1 c2] w fun e w' => ∃ g cap, e = .returned (.slice (some ⟨g, 0, none⟩) (l.length + 1) cap) ∧ l.length + 1 ≤ cap ∧ kE.R 30 w' w.heap.size (fun _ => True) (.slice (some ⟨g, 0, none⟩) (l.length + 1) cap) (l.take i ++ x :: l.drop i) ∧ Below w.heap.size w w' := by
 have HR := Aside0.mk hr
 have HV := Aside0.mk hv
 have HL := Aside0.mk hl
 clear hr hv
 by_cases he : i = l.length
 ·subst he
  clear hi
  go_enter Tryz.func96, Tryz.ntmps96
  go_wp2_with (first | ((with_reducible refine gate_builtin (b := .append) rfl ?_); refine append_new flatE rfl _ _ 24 30 rfl Tryz.underlying24 (.agg #[(.int .i64 0), (.int .i64 0), (.int .i64 0), (.int .i64 0), (.int .i64 0)]) 40 infoE rfl (by decide) (A := A) (n := l.length) (c := l.length) (xs := l) rfl HR.out (fun e => by subst e; exact (flat_nil HR.out)) (ad := V) (m := 1) (c2 := c2) (ys := [x]) rfl HV.out (by omega) (by have := HL.out; omega) ?_; intro g cap w1 hcap hr1 hb1; have HO1 := Aside0.mk hr1; have HB1 := Aside0.mk hb1; clear hr1 hb1))
  go_ret
  exact ⟨_, _, rfl, hcap, by rw [List.take_length, List.drop_length]; exact HO1.out, HB1.out⟩
 ·have hi2 : i < l.length := by omega
  clear he hi
  obtain ⟨cs, hr1, hn1, hc1⟩ := flat_cells HR.out
  cases A with
  | none => exact absurd (flat_nil HR.out) (by omega)
  | some ad =>
  have hcl : cs.length = l.length * 5 := hr1.1
  have HCS := Aside0.mk (hc1 ad rfl)
  have HP1 := Aside0.mk hr1
  clear hr1 hc1 hn1
  obtain ⟨dx, hd1, hd2, hd3⟩ := flat_cells HV.out
  have hdl : dx.length = 5 := by rw [hd1.1]; rfl
  have HDX := Aside0.mk (hd3 V rfl)
  have HD1 := Aside0.mk hd1
  clear hd1 hd2 hd3
  have hmin : Nat.min 1 (l.length + 1 - i) = 1 := Nat.min_eq_left (by omega)
  have hmin2 : Nat.min (l.length - i) (l.length + 1 - (i + 1)) = l.length - i := Nat.min_eq_left (by omega)
  have hsub : ((l.length + 1 - i : Nat) : Int) = (l.length : Int) + 1 - (i : Int) := by omega
  go_enter Tryz.func96, Tryz.ntmps96
  go_wp2_with (first | ((with_reducible refine gate_builtin (b := .append) rfl ?_); go_must (refine zeros_new flatE rfl _ _ 24 3 30 rfl Tryz.underlying24 Tryz.underlying3 (.agg #[(.int .i64 0), (.int .i64 0), (.int .i64 0), (.int .i64 0), (.int .i64 0)]) 40 infoE rfl (by decide) (b := ad) (n := i) (c := l.length) (cs := cs.take (i * 5)) rfl (by rw [List.length_take, hcl]; exact Nat.min_eq_left (Nat.mul_le_mul_right _ (by omega))) (fun j u hj => HCS.out j u (take_some hj)) (m := l.length + 1 - i) (congrArg (Value.int .i64) hsub.symm) (l.length + 1) (by omega) (by omega) (by omega) (by omega) ?_); intro g cap w1 cur hcap hmax hg1 hsz htk hge hb1; have HG1 := Aside0.mk hg1; have HB1 := Aside0.mk hb1; have HSZ := Aside0.mk hsz; have HTK := Aside0.mk htk; clear hg1 hb1 hsz htk) | ((with_reducible refine gate_builtin (b := .copy) rfl ?_); go_must (refine wpList_plain rfl fun K_ hK_ => wp_copy_to _ _ 24 24 30 rfl Tryz.underlying24 5 (by kernel_rfl) g (i * 5) (l.length + 1 - i) (cap - i) V 1 c2 1 rfl rfl cur _ dx HG1.out hmin (by rw [hdl]) (fun j v hj => pw_cell_below HB1.out (HDX.out j v hj)) (by have h_ : cur.size = cap * 5 := HSZ.out; omega) (flat_one flatE HD1.out) (hK_ _ _ ?_)); refine named _ ?_; intro w2 hw2; have HG2 := Aside0.mk (show w2.heap[g]? = some (.cells (splice cur.toList (i * 5) dx).toArray _ (0, 0)) by rw [hw2]; exact setRow_heap _ _ _ _ _ _ HG1.out); have HB2 := Aside0.mk (show Below w.heap.size w w2 by rw [hw2]; exact below_setRow HB1.out hge _); clear hw2 HG1 HB1))
  have hw1 : IntKind.i64.wrap ((i : Int) + 1) = ((i + 1 : Nat) : Int) := by rw [IntKind.wrap_i64]; omega
  have q1 : 0 ≤ (i : Int) + 1 := by omega
  have q2 : ¬ cap = i + 1 := by omega
  have q3 : ¬ l.length = i := by omega
  have q4 : i ≤ l.length := by omega
  have HK_ := Aside0.mk (show Reg (fun _ => True) from ⟨fun _ _ _ _ => trivial⟩)
  refine region_by2 (fun _ => True) sInsE (by kernel_rfl) sInsE_ok rfl (fun d _ _ _ _ h => by cases d <;> exact h) HK_.out trivial ?_
  intro u hS hbu_
  have HG2x_ := Aside0.mk (blk_below HG2.out hbu_)
  clear HG2
  have HG2 := Aside0.mk HG2x_.out
  clear HG2x_
  have HB2x_ := Aside0.mk (below_step HB2.out hbu_)
  clear HB2
  have HB2 := Aside0.mk HB2x_.out
  clear HB2x_
  clear hbu_
  repeat (first | (refine h_off gt_ (by rfl) ?_; intro a_ ha_; (simp only [Act.put, pu1, pu2, pu3] at ha_); subst ha_) | (refine h_on (v := ?_) gt_ (by rfl) ?_ ?_; rotate_left; (· rintro w_ -; go_simp; with_reducible rfl); intro a_ ha_; (simp only [Act.put, pu1, pu2, pu3] at ha_); subst ha_) | (refine h_offc hS gt_ (by rfl) ?_; intro a_ ha_; (simp only [Act.put, pu1, pu2, pu3] at ha_); subst ha_))
  have hcd : (cs.drop (i * 5)).length = (l.length - i) * 5 := by rw [List.length_drop, hcl]; omega
  have hsz1 : cur.size = cap * 5 := HSZ.out
  have hct : cur.toList.length = cap * 5 := by rw [Array.length_toList]; exact hsz1
  refine ⟨_, gt_, fun K_ hK_ => ?_⟩
  rw [if_pos (by rfl)]
  refine wp_copy_to _ _ 24 24 30 rfl Tryz.underlying24 5 (by kernel_rfl) g ((i + 1) * 5) (l.length - i) (cap - (i + 1)) (ad.add (i * 5)) (l.length - i) (l.length - i) (l.length - i) rfl rfl _ _ (cs.drop (i * 5)) HG2.out (Nat.min_self _) hcd (fun j v hj => by
   rw [add_add]
   exact pw_cell_below HB2.out (HCS.out _ _ (drop_some hj))) (by
   show (i + 1) * 5 + (cs.drop (i * 5)).length ≤ (splice cur.toList (i * 5) dx).length
   rw [length_splice _ _ _ (by omega)]
   omega) (fun u hu => flat_one flatE HP1.out u (List.mem_of_mem_drop hu)) (hK_ _ _ trivial fun _ => ?_)
  refine named _ ?_
  intro w3 hw3
  have HG3 := Aside0.mk (show w3.heap[g]? = some (.cells (splice (splice cur.toList (i * 5) dx) ((i + 1) * 5) (cs.drop (i * 5))).toArray 30 (0, 0)) by rw [hw3]; exact setRow_heap _ _ _ _ _ _ HG2.out)
  have HB3 := Aside0.mk (show Below w.heap.size w w3 by rw [hw3]; exact below_setRow HB2.out hge _)
  clear hw3
  have hR : kE.R 30 w3 w.heap.size (fun _ => True) (.slice (some ⟨g, 0, none⟩) (l.length + 1) cap) (l.take i ++ x :: l.drop i) := by
   have hlen : (splice (splice cur.toList (i * 5) dx) ((i + 1) * 5) (cs.drop (i * 5))).length = cap * 5 := by
    rw [length_splice _ _ _ (by rw [length_splice _ _ _ (by omega)]; omega), length_splice _ _ _ (by omega), hct]
   refine flat_R flatE (cs := cs.take (i * 5) ++ (dx ++ cs.drop (i * 5))) ⟨?_, .inr ⟨g, cap, _, rfl, hge, HG3.out, hcap, hmax, by rw [List.size_toArray, hlen]; rfl, ?_⟩⟩ (Kd.reps_append (Kd.reps_take HP1.out (by omega)) (Kd.reps_append (ps := [x]) HD1.out (Kd.reps_drop HP1.out))) (by simp; omega)
   ·rw [List.length_append, List.length_append, List.length_take, hdl, hcd, hcl]
    show _ = _ * 5
    omega
   ·have h := splice_two cur.toList (i * 5) dx (cs.drop (i * 5)) (by omega)
    rw [show cur.toList.take (i * 5) = cs.take (i * 5) from HTK.out] at h
    rw [hdl, hcd] at h
    rw [← List.append_assoc]
    refine Eq.trans ?_ h
    rw [show i * 5 + 5 = (i + 1) * 5 by omega]
    congr 1
    show _ * 5 = _
    omega
  have HR3 := Aside0.mk hR
  clear hR HG3 HB2 HG2 hS
  refine h_end ?_
  simp only [Act.put, pu1, pu2, pu3]
  go_wp2
  go_ret
  exact ⟨_, _, rfl, hcap, HR3.out, HB3.out⟩
end Go.Proofs.YtogmbeifbjgphaaGreat.R
namespace Go.Proofs.YtogmbeifbjgphaaGreat.R
open Go.RowKit Go.Proofs.YtogmbeifbjgphaaGreatV.PrintWords Go.Proofs.YtogmbeifbjgphaaGreatV.PrintLast Go.Proofs.YtogmbeifbjgphaaGreatV.PrintMore Go.Proofs.YtogmbeifbjgphaaGreat.M
set_option linter.unusedVariables false
set_option linter.unusedSimpArgs false
section
variable {α : Type} {d : Kd α} {P : Program} {ops : Array Oper} {rest : List Oper} {o : Oper} {a : Act} {Q : Exit → Act → World → Prop}
/-- A row, opened. -/
theorem flat_open {w : World} {base g n c : Nat} {e : TypeId} {ok : Nat → Prop} {xs : List α} (hpos : 0 < d.sz) (h : d.R e w base ok (.slice (some ⟨g, 0, none⟩) n c) xs) :
 ∃ cs cur, xs.length = n ∧ Reps (d.K w) d.sz xs cs ∧ cs.length = n * d.sz ∧ base ≤ g ∧ w.heap[g]? = some (.cells cur e (0, 0)) ∧ n ≤ c ∧ c ≤ maxLen ∧ cur.size = c * d.sz ∧ cur.toList.take (n * d.sz) = cs := by
 obtain ⟨h0, cs, hown, hr⟩ := h
 have hK : Reps (d.K w) d.sz xs cs := hr.imp_ fun p c hp => d.K_of_M hp
 rcases hown.2 with ⟨hv, _⟩ | ⟨g', cap, cur, hv, hb, hh, hnc, hcm, hcs, ht⟩
 ·cases hv
 ·injection hv with ha hn hc
  injection ha with ha
  injection ha with hg
  subst hg; subst hc
  rw [← hn] at hnc ht
  refine ⟨cs, cur, hn.symm, hK, by rw [hr.1, hn], hb, hh, hnc, hcm, hcs, ht⟩
theorem flat_close (hf : Flat d) {w W : World} {base g n c : Nat} {e : TypeId} {xs : List α} {cs : List Value} {cur : Array Value} (hr : Reps (d.K W) d.sz xs cs) (hn : xs.length = n) (hb : base ≤ g) (hh : w.heap[g]? = some (.cells cur e (0, 0))) (hnc : n ≤ c) (hcm : c ≤ maxLen) (hcs : cur.size = c * d.sz) (ht : cur.toList.take (n * d.sz) = cs) :
 d.R e w base (fun _ => True) (.slice (some ⟨g, 0, none⟩) n c) xs :=
 flat_R hf ⟨by rw [hr.1, hn], .inr ⟨g, c, cur, rfl, hb, hh, hnc, hcm, hcs, ht⟩⟩ hr hn
theorem clear_tail (hf : Flat d) {W : World} {base g n c : Nat} {e : TypeId} {ok : Nat → Prop} {xs : List α} (hgd : o.guard = none) (s : Operand) (t : TypeId) (ho : o.op = .call { callee := .builtin .clear, args := #[s], argTypes := #[t] })
 (ht : P.underlying t = some (.slice e)) (z : Value) (bytes : Nat) (hinfo : (P.info? e).map (fun i => (i.zero, i.size, i.bytes)) = some (some z, d.sz, bytes)) (hz : z.cells.size = d.sz) (h1 : ∀ m, ∀ u ∈ (Builtin.zeroCells z.cells m).toList, u.oneCell' = true)
 {off m c2 : Nat} (hs : a.eval s = .slice (some ⟨g, off, none⟩) m c2) (hoff : off = n * d.sz) (HO : d.R e W base ok (.slice (some ⟨g, 0, none⟩) n c) xs) (hm : 0 < m) (hfit : n + m ≤ c)
 (h : ∀ w1, d.R e w1 base (fun _ => True) (.slice (some ⟨g, 0, none⟩) n c) xs → W.grownBy w1 (some g) → wpList P ops Q rest (a.put o.dst (.tuple #[])) w1) : wpList P ops Q (o :: rest) a W := by
 obtain ⟨cs, cur, hn, hr, hcl, hb, hh, hnc, hcm, hcs, htk⟩ := flat_open hf.1 HO
 obtain ⟨i0, hi, hzz⟩ := Option.map_eq_some_iff.1 hinfo
 simp only [Prod.mk.injEq] at hzz
 obtain ⟨hz0, hz1, hz2⟩ := hzz
 subst hoff
 have hzl : (Builtin.zeroCells z.cells m).toList.length = m * d.sz := by rw [Array.length_toList, size_zeroCells, hz]
 have hle : n * d.sz + m * d.sz ≤ c * d.sz := by rw [← Nat.add_mul]; exact Nat.mul_le_mul_right _ hfit
 have hct : cur.toList.length = c * d.sz := by rw [Array.length_toList, hcs]
 have hst := run_storeCells_at P g (n * d.sz) e (Builtin.zeroCells z.cells m).toList 0 cur W hh (by rw [hzl]; omega) (h1 m)
 simp only [Nat.add_zero] at hst
 have hrun : (Builtin.clear_ #[t] o.type #[.slice (some ⟨g, n * d.sz, none⟩) m c2]).run P W = .ok (.tuple #[]) (W.setRow g (splice cur.toList (n * d.sz) (Builtin.zeroCells z.cells m).toList).toArray) := by
  obtain ⟨m', rfl⟩ : ∃ m', m = m' + 1 := ⟨m - 1, by omega⟩
  simp [Builtin.clear_, run_underlying ht, zeroValue, typeInfo, hi, hz0, hst, splice]
 refine wpList_plain hgd fun K hK => ?_
 unfold Oper.wp execOp
 simp only [ho, resolve, invoke, builtin, Sem.run_bind, Sem.run_pure, Result.andThen_ok, List.map_toArray, List.map_cons, List.map_nil, hs, hrun]
 have hsl : (splice cur.toList (n * d.sz) (Builtin.zeroCells z.cells m).toList).length = c * d.sz := by rw [length_splice _ _ _ (by omega), hct]
 refine hK _ _ (h _ (flat_close hf hr hn hb (setRow_heap _ _ _ _ _ _ hh) hnc hcm (by rw [List.size_toArray, hsl]) ?_) (grown_setRow _ _ _))
 show (splice cur.toList (n * d.sz) (Builtin.zeroCells z.cells m).toList).take (n * d.sz) = cs
 rw [← htk]
 unfold splice
 exact List.take_left' (by rw [List.length_take]; omega)
end
end Go.Proofs.YtogmbeifbjgphaaGreat.R
