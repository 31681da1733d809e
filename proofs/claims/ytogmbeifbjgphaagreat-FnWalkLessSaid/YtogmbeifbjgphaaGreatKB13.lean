/- The reference: the label of what is done; The reference: is a graph right?; A region that draws its order in which now and then two operations that make memory may come up: a tree of lists. -/
import Derived.Test.YtogmbeifbjgphaaGreatKB12
namespace Go.Proofs.YtogmbeifbjgphaaGreat.R
open Go.RowKit Go.Proofs.YtogmbeifbjgphaaGreatV.PrintWords Go.Proofs.YtogmbeifbjgphaaGreatV.PrintLast Go.Proofs.YtogmbeifbjgphaaGreatV.PrintMore Go.Proofs.YtogmbeifbjgphaaGreat.M
set_option linter.unusedVariables false
set_option linter.unusedSimpArgs false
attribute [local go_sem high] eqN eqE
set_option maxHeartbeats 3200000 in
set_option maxRecDepth 100000 in
theorem sOpLabel_calls (k : Int) (n : Nd) (x : Eg) (w : World) : Calls Tryz.prog 98 #[.agg #[.int .i64 k, .int .i64 n.lab, .int .i64 n.num, .int .i64 x.lab, .int .i64 x.a.lab, .int .i64 x.a.num, .int .i64 x.b.lab, .int .i64 x.b.num]] w fun e w' => e = .returned (.int .i64 (opLabel ⟨k, n, x⟩)) ∧ Below w.heap.size w w' := by
 by_cases hk : k = 1 ∨ k = 4
 ·
  cases h1 : okN n with
  | false =>
    have H := Aside0.mk h1
    have HG := Aside0.mk (show opLabel ⟨k, n, x⟩ = -1 by unfold opLabel; rcases hk with rfl | rfl <;> simp [h1])
    clear h1
    rcases hk with rfl | rfl
    all_goals
     go_enter Tryz.func98, Tryz.ntmps98
     go_wp2_with (first | (go_at_call 51; (refine (sNodeOk_calls n _).mono ?_); rintro e w1 ⟨rfl, hb⟩; rw [H.out]; have HB := Aside0.mk (below_step (below_alloc (Below.refl w.heap.size w) _) hb); have d1 : w1.cell? ⟨w.heap.size, 1, none⟩ = some (.int .i64 n.lab) := pw_cell_below hb (by simp); have d2 : w1.cell? ⟨w.heap.size, 2, none⟩ = some (.int .i64 n.num) := pw_cell_below hb (by simp); have d3 : w1.cell? ⟨w.heap.size, 3, none⟩ = some (.int .i64 x.lab) := pw_cell_below hb (by simp); have d4 : w1.cell? ⟨w.heap.size, 4, none⟩ = some (.int .i64 x.a.lab) := pw_cell_below hb (by simp); have d5 : w1.cell? ⟨w.heap.size, 5, none⟩ = some (.int .i64 x.a.num) := pw_cell_below hb (by simp); have d6 : w1.cell? ⟨w.heap.size, 6, none⟩ = some (.int .i64 x.b.lab) := pw_cell_below hb (by simp); have d7 : w1.cell? ⟨w.heap.size, 7, none⟩ = some (.int .i64 x.b.num) := pw_cell_below hb (by simp); clear hb))
     go_ret
     exact ⟨retI HG.out.symm, HB.out⟩
  | true =>
    have H := Aside0.mk h1
    by_cases h2 : x = zE
    ·have hz : (x.lab == 0 && ((x.a.lab == 0 && (x.a.num == 0)) && (x.b.lab == 0 && (x.b.num == 0)))) = true := (eg_eq x zE).trans (decide_eq_true h2)
     have HG := Aside0.mk (show opLabel ⟨k, n, x⟩ = n.lab by unfold opLabel; rcases hk with rfl | rfl <;> simp [h1, h2])
     clear h1 h2
     rcases hk with rfl | rfl
     all_goals
      go_enter Tryz.func98, Tryz.ntmps98
      go_wp2_with (first | (go_at_call 51; (refine (sNodeOk_calls n _).mono ?_); rintro e w1 ⟨rfl, hb⟩; rw [H.out]; have HB := Aside0.mk (below_step (below_alloc (Below.refl w.heap.size w) _) hb); have d1 : w1.cell? ⟨w.heap.size, 1, none⟩ = some (.int .i64 n.lab) := pw_cell_below hb (by simp); have d2 : w1.cell? ⟨w.heap.size, 2, none⟩ = some (.int .i64 n.num) := pw_cell_below hb (by simp); have d3 : w1.cell? ⟨w.heap.size, 3, none⟩ = some (.int .i64 x.lab) := pw_cell_below hb (by simp); have d4 : w1.cell? ⟨w.heap.size, 4, none⟩ = some (.int .i64 x.a.lab) := pw_cell_below hb (by simp); have d5 : w1.cell? ⟨w.heap.size, 5, none⟩ = some (.int .i64 x.a.num) := pw_cell_below hb (by simp); have d6 : w1.cell? ⟨w.heap.size, 6, none⟩ = some (.int .i64 x.b.lab) := pw_cell_below hb (by simp); have d7 : w1.cell? ⟨w.heap.size, 7, none⟩ = some (.int .i64 x.b.num) := pw_cell_below hb (by simp); clear hb))
      go_ret
      exact ⟨retI HG.out.symm, HB.out⟩
    ·have hz : (x.lab == 0 && ((x.a.lab == 0 && (x.a.num == 0)) && (x.b.lab == 0 && (x.b.num == 0)))) = false := (eg_eq x zE).trans (decide_eq_false h2)
     have HG := Aside0.mk (show opLabel ⟨k, n, x⟩ = -1 by unfold opLabel; rcases hk with rfl | rfl <;> simp [h1, h2])
     clear h1 h2
     rcases hk with rfl | rfl
     all_goals
      go_enter Tryz.func98, Tryz.ntmps98
      go_wp2_with (first | (go_at_call 51; (refine (sNodeOk_calls n _).mono ?_); rintro e w1 ⟨rfl, hb⟩; rw [H.out]; have HB := Aside0.mk (below_step (below_alloc (Below.refl w.heap.size w) _) hb); have d1 : w1.cell? ⟨w.heap.size, 1, none⟩ = some (.int .i64 n.lab) := pw_cell_below hb (by simp); have d2 : w1.cell? ⟨w.heap.size, 2, none⟩ = some (.int .i64 n.num) := pw_cell_below hb (by simp); have d3 : w1.cell? ⟨w.heap.size, 3, none⟩ = some (.int .i64 x.lab) := pw_cell_below hb (by simp); have d4 : w1.cell? ⟨w.heap.size, 4, none⟩ = some (.int .i64 x.a.lab) := pw_cell_below hb (by simp); have d5 : w1.cell? ⟨w.heap.size, 5, none⟩ = some (.int .i64 x.a.num) := pw_cell_below hb (by simp); have d6 : w1.cell? ⟨w.heap.size, 6, none⟩ = some (.int .i64 x.b.lab) := pw_cell_below hb (by simp); have d7 : w1.cell? ⟨w.heap.size, 7, none⟩ = some (.int .i64 x.b.num) := pw_cell_below hb (by simp); clear hb))
      go_ret
      exact ⟨retI HG.out.symm, HB.out⟩
 by_cases hk2 : k = 2 ∨ k = 3
 ·have hk' := hk
  clear hk
  have hk := hk2
  clear hk2 hk'
  cases h1 : okE x with
  | false =>
    have H := Aside0.mk h1
    have HG := Aside0.mk (show opLabel ⟨k, n, x⟩ = -1 by unfold opLabel; rcases hk with rfl | rfl <;> simp [h1])
    clear h1
    rcases hk with rfl | rfl
    all_goals
     go_enter Tryz.func98, Tryz.ntmps98
     go_wp2_with (first | (go_at_call 53; (refine (spEdgeOk_calls x _).mono ?_); rintro e w1 ⟨rfl, hb⟩; rw [H.out]; have HB := Aside0.mk (below_step (below_alloc (Below.refl w.heap.size w) _) hb); have d1 : w1.cell? ⟨w.heap.size, 1, none⟩ = some (.int .i64 n.lab) := pw_cell_below hb (by simp); have d2 : w1.cell? ⟨w.heap.size, 2, none⟩ = some (.int .i64 n.num) := pw_cell_below hb (by simp); have d3 : w1.cell? ⟨w.heap.size, 3, none⟩ = some (.int .i64 x.lab) := pw_cell_below hb (by simp); have d4 : w1.cell? ⟨w.heap.size, 4, none⟩ = some (.int .i64 x.a.lab) := pw_cell_below hb (by simp); have d5 : w1.cell? ⟨w.heap.size, 5, none⟩ = some (.int .i64 x.a.num) := pw_cell_below hb (by simp); have d6 : w1.cell? ⟨w.heap.size, 6, none⟩ = some (.int .i64 x.b.lab) := pw_cell_below hb (by simp); have d7 : w1.cell? ⟨w.heap.size, 7, none⟩ = some (.int .i64 x.b.num) := pw_cell_below hb (by simp); clear hb))
     go_ret
     exact ⟨retI HG.out.symm, HB.out⟩
  | true =>
    have H := Aside0.mk h1
    by_cases h2 : n = zN
    ·have hz : (n.lab == 0 && (n.num == 0)) = true := (nd_eq n zN).trans (decide_eq_true h2)
     have HG := Aside0.mk (show opLabel ⟨k, n, x⟩ = x.lab by unfold opLabel; rcases hk with rfl | rfl <;> simp [h1, h2])
     clear h1 h2
     rcases hk with rfl | rfl
     all_goals
      go_enter Tryz.func98, Tryz.ntmps98
      go_wp2_with (first | (go_at_call 53; (refine (spEdgeOk_calls x _).mono ?_); rintro e w1 ⟨rfl, hb⟩; rw [H.out]; have HB := Aside0.mk (below_step (below_alloc (Below.refl w.heap.size w) _) hb); have d1 : w1.cell? ⟨w.heap.size, 1, none⟩ = some (.int .i64 n.lab) := pw_cell_below hb (by simp); have d2 : w1.cell? ⟨w.heap.size, 2, none⟩ = some (.int .i64 n.num) := pw_cell_below hb (by simp); have d3 : w1.cell? ⟨w.heap.size, 3, none⟩ = some (.int .i64 x.lab) := pw_cell_below hb (by simp); have d4 : w1.cell? ⟨w.heap.size, 4, none⟩ = some (.int .i64 x.a.lab) := pw_cell_below hb (by simp); have d5 : w1.cell? ⟨w.heap.size, 5, none⟩ = some (.int .i64 x.a.num) := pw_cell_below hb (by simp); have d6 : w1.cell? ⟨w.heap.size, 6, none⟩ = some (.int .i64 x.b.lab) := pw_cell_below hb (by simp); have d7 : w1.cell? ⟨w.heap.size, 7, none⟩ = some (.int .i64 x.b.num) := pw_cell_below hb (by simp); clear hb))
      go_ret
      exact ⟨retI HG.out.symm, HB.out⟩
    ·have hz : (n.lab == 0 && (n.num == 0)) = false := (nd_eq n zN).trans (decide_eq_false h2)
     have HG := Aside0.mk (show opLabel ⟨k, n, x⟩ = -1 by unfold opLabel; rcases hk with rfl | rfl <;> simp [h1, h2])
     clear h1 h2
     rcases hk with rfl | rfl
     all_goals
      go_enter Tryz.func98, Tryz.ntmps98
      go_wp2_with (first | (go_at_call 53; (refine (spEdgeOk_calls x _).mono ?_); rintro e w1 ⟨rfl, hb⟩; rw [H.out]; have HB := Aside0.mk (below_step (below_alloc (Below.refl w.heap.size w) _) hb); have d1 : w1.cell? ⟨w.heap.size, 1, none⟩ = some (.int .i64 n.lab) := pw_cell_below hb (by simp); have d2 : w1.cell? ⟨w.heap.size, 2, none⟩ = some (.int .i64 n.num) := pw_cell_below hb (by simp); have d3 : w1.cell? ⟨w.heap.size, 3, none⟩ = some (.int .i64 x.lab) := pw_cell_below hb (by simp); have d4 : w1.cell? ⟨w.heap.size, 4, none⟩ = some (.int .i64 x.a.lab) := pw_cell_below hb (by simp); have d5 : w1.cell? ⟨w.heap.size, 5, none⟩ = some (.int .i64 x.a.num) := pw_cell_below hb (by simp); have d6 : w1.cell? ⟨w.heap.size, 6, none⟩ = some (.int .i64 x.b.lab) := pw_cell_below hb (by simp); have d7 : w1.cell? ⟨w.heap.size, 7, none⟩ = some (.int .i64 x.b.num) := pw_cell_below hb (by simp); clear hb))
      go_ret
      exact ⟨retI HG.out.symm, HB.out⟩
 have e1 : (k == 1) = false := beq_eq_false_iff_ne.2 (by omega)
 have e2 : (k == 2) = false := beq_eq_false_iff_ne.2 (by omega)
 have e3 : (k == 3) = false := beq_eq_false_iff_ne.2 (by omega)
 have e4 : (k == 4) = false := beq_eq_false_iff_ne.2 (by omega)
 have HG := Aside0.mk (show opLabel ⟨k, n, x⟩ = -1 by unfold opLabel; rw [if_neg hk, if_neg hk2])
 clear hk hk2
 go_enter Tryz.func98, Tryz.ntmps98
 go_wp2
 go_ret
 exact ⟨retI HG.out.symm, below_alloc (Below.refl _ _) _⟩
end Go.Proofs.YtogmbeifbjgphaaGreat.R
namespace Go.Proofs.YtogmbeifbjgphaaGreat.R
open Go.RowKit Go.Proofs.YtogmbeifbjgphaaGreatV.PrintWords Go.Proofs.YtogmbeifbjgphaaGreatV.PrintLast Go.Proofs.YtogmbeifbjgphaaGreatV.PrintMore Go.Proofs.YtogmbeifbjgphaaGreat.M
set_option linter.unusedVariables false
set_option linter.unusedSimpArgs false
attribute [local go_sem high] eqN eqE
abbrev sGo4 : List (Nat × Bool) := [(0, true), (1, true), (2, true), (3, true), (4, true), (5, false), (6, true), (7, true), (8, true), (9, true), (10, true), (11, true), (12, true), (13, true), (14, true), (15, true), (16, true), (18, true), (19, true), (20, true), (21, true), (22, true), (17, false), (23, false), (24, true), (25, true), (26, true), (27, true), (28, true), (29, true), (30, true)]
theorem sGo4_ok : schedB .any (opsOf Tryz.f19 4) sGo4 (Array.replicate (opsOf Tryz.f19 4).size false) = true := by kernel_rfl
abbrev sGo10 : List (Nat × Bool) := [(0, true), (1, false), (2, true), (3, true), (4, true), (5, true), (6, true), (7, true), (8, true), (9, true), (10, true), (11, true), (12, true), (13, true), (14, false), (15, true), (16, true), (17, true), (18, true), (19, true), (20, true), (21, true), (22, false), (23, true), (24, true), (25, true), (26, true), (27, true), (28, true), (29, false), (30, true), (31, true), (32, true), (33, true), (34, true), (35, true)]
theorem sGo10_ok : schedB .any (opsOf Tryz.f19 10) sGo10 (Array.replicate (opsOf Tryz.f19 10).size false) = true := by kernel_rfl
theorem neg_at {r : Int} {p : Prop} [Decidable p] {v : Bool} (h : 0 ≤ r ↔ p) (hm : decide p = v) : decide (r < 0) = !v := by
 subst hm
 by_cases hp : p
 ·rw [decide_eq_true hp]
  exact decide_eq_false (by have := h.2 hp; omega)
 ·rw [decide_eq_false hp]
  exact decide_eq_true (Int.not_le.1 fun h0 => hp (h.1 h0))
theorem few_all {α : Type} {l : List α} {f : α → Int} {m : Nat} (hok : ∀ x ∈ l, okL (f x) = true) (h : ∀ t : Nat, t < 8 → (l.countP fun y => f y == (t : Int)) ≤ m) (a : Int) : (l.countP fun y => f y == a) ≤ m := by
 by_cases ha : 0 ≤ a ∧ a < 8
 ·obtain ⟨t, rfl⟩ := Int.eq_ofNat_of_zero_le ha.1
  exact h t (by omega)
 ·rw [List.countP_eq_zero.2]
  ·omega
  ·intro x hx
   have := okL_iff.1 (hok x hx)
   simp only [beq_iff_eq]
   omega
theorem asc_steps {α : Type} {key : α → Int} {l : List α} (h : ∀ t (ht : t + 1 < l.length), key l[t] < key l[t + 1]) : Asc key l := by
 have h2 : ∀ i k (hk : i + k + 1 < l.length), key l[i] < key l[i + k + 1] := by
  intro i k
  induction k with
  | zero => intro hk; exact h i hk
  | succ k ih =>
    intro hk
    have := ih (by omega)
    have h3 : key l[i + k + 1] < key l[i + (k + 1) + 1] := h (i + k + 1) (by omega)
    omega
 unfold Asc
 rw [List.pairwise_iff_getElem]
 intro i j hi hj hij
 have := h2 i (j - i - 1) (by omega)
 simpa [show i + (j - i - 1) + 1 = j by omega] using this
set_option maxHeartbeats 100000000 in
set_option maxRecDepth 100000 in
theorem sGraphOk_calls (A : Option Addr) (c : Nat) (ns : List Nd) (B : Option Addr) (d : Nat) (es : List Eg) (w : World) (hr : GR w A c ns B d es) (hn : ns.length ≤ 1000000) (he : es.length ≤ 1000000) :
 Calls Tryz.prog 19 #[.agg #[.slice A ns.length c, .slice B es.length d]] w fun e w' => e = .returned (.bool (okG ns es)) ∧ Below w.heap.size w w' := by
 have HR := Aside0.mk hr.cn
 have HR2 := Aside0.mk hr.ce
 have HNL := Aside0.mk hn
 have HEL := Aside0.mk he
 generalize hfin : okG ns es = fin
 have HFIN := Aside0.mk hfin
 clear hr hfin
 go_enter Tryz.func19, Tryz.ntmps19
 go_wp2_with (fail)
 go_loopw [3] (fun s3 wr => ∃ j : Nat, j ≤ ns.length ∧ j ≤ 40 ∧ s3 = .int .i64 (j : Int) ∧ Aside0 (∀ t, t < j → okN (at_ ns t) = true) ∧ Aside0 (∀ t, t + 1 < j → code (at_ ns t) < code (at_ ns (t + 1))) ∧ Aside0 (wr.cell? ⟨w.heap.size, 0, none⟩ = some (.slice A ns.length c)) ∧ Aside0 (wr.cell? ⟨w.heap.size, 1, none⟩ = some (.slice B es.length d)) ∧ Aside0 (Below w.heap.size w wr)) (fun s3 _ => (ns.length - intOf s3).toNat)
 case atStart => exact ⟨0, Nat.zero_le _, by omega, rfl, ⟨fun t ht => absurd ht (Nat.not_lt_zero _)⟩, ⟨fun t ht => absurd ht (Nat.not_lt_zero _)⟩, ⟨by simp⟩, ⟨by simp⟩, ⟨below_alloc (Below.refl _ _) _⟩⟩
 case round =>
  obtain ⟨j, hj, hj40, rfl, H1, H2, Q0, Q1, HB⟩ := hrel
  have g0 := Q0.out
  have g1 := Q1.out
  by_cases hlt : j < ns.length
  ·have hj1 : j - 1 < ns.length := by omega
   obtain ⟨ad, e1, r0, r1⟩ := nd_at (Kd.C_below HR.out HB.out) j hlt
   cases e1
   obtain ⟨ad2, e2, t0, t1⟩ := nd_at (Kd.C_below HR.out HB.out) (j - 1) hj1
   cases e2
   have HYM := Aside0.mk (at_mem hlt)
   generalize hy : at_ ns j = y at r0 r1 HYM
   generalize hz : at_ ns (j - 1) = z at t0 t1
   have HY := Aside0.mk hy
   have HZE := Aside0.mk hz
   clear hy hz
   cases hy1 : okN y
   all_goals
    have HY1 := Aside0.mk hy1
    clear hy1
   case' false => have HF := Aside0.mk (show fin = false by rw [← HFIN.out]; exact okG_false.2 fun h => by have h9 := h.nok y HYM.out; rw [HY1.out] at h9; cases h9)
   case' true =>
    by_cases hj0 : 0 < j
    case' neg =>
     have HS := Aside0.mk (show ∀ t, t + 1 = j → code (at_ ns t) < code y from fun t ht => by omega)
     have h40' : decide ((40 : Int) ≤ (j : Int)) = false := decide_eq_false (by omega)
    case' pos =>
     have HZ1 : Aside0 (okN z = true) := ⟨HZE.out ▸ H1.out (j - 1) (by omega)⟩
     have hw1 : IntKind.i64.wrap ((j : Int) - 1) = ((j - 1 : Nat) : Int) := by rw [IntKind.wrap_i64]; omega
     by_cases hc : code y ≤ code z
     case' pos =>
      have HF := Aside0.mk (show fin = false by
       rw [← HFIN.out]
       refine okG_false.2 fun h => ?_
       have h9 := h.nasc.lt (i := j - 1) (j := j) (by omega) hlt
       rw [← at_lt hj1, ← at_lt hlt, HY.out, HZE.out] at h9
       omega)
     case' neg =>
      have hc2 : decide (code y ≤ code z) = false := decide_eq_false hc
      have HS := Aside0.mk (show ∀ t, t + 1 = j → code (at_ ns t) < code y from fun t ht => by
       obtain rfl : t = j - 1 := by omega
       rw [HZE.out]
       omega)
      by_cases h40 : 40 ≤ j
      case' pos =>
       have h40' : decide ((40 : Int) ≤ (j : Int)) = true := decide_eq_true (by omega)
       have HF := Aside0.mk (show fin = false by
        rw [← HFIN.out]
        refine okG_false.2 fun h => ?_
        have h9 := (NsOk.mk h.nok h.nasc h.nfew).len
        omega)
      case' neg => have h40' : decide ((40 : Int) ≤ (j : Int)) = false := decide_eq_false (by omega)
   all_goals
    go_wp2_with (fail)
    have HK_ := Aside0.mk (show Reg (fun u_ => Below w.heap.size w u_ ∧ u_.cell? ⟨w.heap.size, 0, none⟩ = some (.slice (some ad) ns.length c) ∧ u_.cell? ⟨w.heap.size, 1, none⟩ = some (.slice B es.length d) ∧ u_.cell? (ad.add (j * 2)) = some (.int .i64 y.lab) ∧ u_.cell? ⟨(ad.add (j * 2)).block, (ad.add (j * 2)).off + 1, none⟩ = some (.int .i64 y.num) ∧ u_.cell? (ad.add ((j - 1) * 2)) = some (.int .i64 z.lab) ∧ u_.cell? ⟨(ad.add ((j - 1) * 2)).block, (ad.add ((j - 1) * 2)).off + 1, none⟩ = some (.int .i64 z.num) ∧ True) from ⟨fun _ _ hb_ ⟨q_, s0_, s1_, s2_, s3_, s4_, s5_, _⟩ => ⟨below_step q_ hb_, pw_cell_below hb_ s0_, pw_cell_below hb_ s1_, pw_cell_below hb_ s2_, pw_cell_below hb_ s3_, pw_cell_below hb_ s4_, pw_cell_below hb_ s5_, trivial⟩⟩)
    refine region_by _ sGo4 (by kernel_rfl) sGo4_ok rfl (fun d _ _ _ _ h => by cases d <;> exact h) HK_.out ⟨HB.out, g0, g1, r0, r1, t0, t1, trivial⟩ ?_
    intro u hS
    clear g0 g1 r0 r1 t0 t1
    repeat (first | (refine h_off gt_ (by rfl) ?_; intro a_ ha_; (simp only [Act.put, pu1, pu2, pu3] at ha_); subst ha_) | (refine h_on (v := ?_) gt_ (by rfl) ?_ ?_; rotate_left; (· rintro w_ ⟨-, s0_, s1_, s2_, s3_, s4_, s5_, -⟩; go_simp; with_reducible rfl); intro a_ ha_; (simp only [Act.put, pu1, pu2, pu3] at ha_); subst ha_) | (refine h_offc hS gt_ (by rfl) ?_; intro a_ ha_; (simp only [Act.put, pu1, pu2, pu3] at ha_); subst ha_) | (refine h_call (f := 51) (args := #[.agg #[.int .i64 y.lab, .int .i64 y.num]]) HK_.out hS Tryz.func51 (by kernel_rfl) rfl gt_ (by rfl) (by rfl) mp_ ?_; (with_reducible refine (sNodeOk_calls y _).mono ?_); rintro e_ u_ ⟨rfl, hb_⟩; rw [HY1.out]; refine ⟨_, rfl, hb_, fun a_ ha_ hS_ => ?_⟩; (simp only [Act.put, pu1, pu2, pu3] at ha_); subst ha_; clear hS; have hS := hS_; clear hS_; clear hb_) | (refine h_call (f := 52) (args := #[.agg #[.int .i64 z.lab, .int .i64 z.num]]) HK_.out hS Tryz.func52 (by kernel_rfl) rfl gt_ (by rfl) (by rfl) mp_ ?_; (with_reducible refine (sCode_calls z HZ1.out _).mono ?_); rintro e_ u_ ⟨rfl, hb_⟩; refine ⟨_, rfl, hb_, fun a_ ha_ hS_ => ?_⟩; (simp only [Act.put, pu1, pu2, pu3] at ha_); subst ha_; clear hS; have hS := hS_; clear hS_; clear hb_) | (refine h_call (f := 52) (args := #[.agg #[.int .i64 y.lab, .int .i64 y.num]]) HK_.out hS Tryz.func52 (by kernel_rfl) rfl gt_ (by rfl) (by rfl) mp_ ?_; (with_reducible refine (sCode_calls y HY1.out _).mono ?_); rintro e_ u_ ⟨rfl, hb_⟩; refine ⟨_, rfl, hb_, fun a_ ha_ hS_ => ?_⟩; (simp only [Act.put, pu1, pu2, pu3] at ha_); subst ha_; clear hS; have hS := hS_; clear hS_; clear hb_))
    refine h_end ?_
    clear HK_ HB
    obtain ⟨hB_, g0, g1, r0, r1, t0, t1, -⟩ := hS
    have HB := Aside0.mk hB_
    clear hB_
    try clear hw1
    go_wp2
    first
    | (go_ret; exact ⟨retB HF.out.symm, HB.out⟩)
    | (go_roundw
       case rel => exact ⟨j + 1, by omega, by omega, by go_num, ⟨fun t ht => by
        rcases Nat.lt_succ_iff_lt_or_eq.1 ht with h | rfl
        ·exact H1.out t h
        ·rw [HY.out]; exact HY1.out⟩, ⟨fun t ht => by
        rcases Nat.lt_succ_iff_lt_or_eq.1 ht with h | h
        ·exact H2.out t h
        ·have h9 := HS.out t h; rw [h, HY.out]; exact h9⟩, ⟨g0⟩, ⟨g1⟩, HB⟩
       case measure => simp [intOf]; omega)
  ·obtain rfl : j = ns.length := by omega
   have HNO := Aside0.mk (show ∀ n ∈ ns, okN n = true from fun n hn => by
    obtain ⟨t, ht, rfl⟩ := List.getElem_of_mem hn
    rw [← at_lt ht]
    exact H1.out t ht)
   have HNA := Aside0.mk (asc_steps (key := code) (l := ns) fun t ht => by
    have h := H2.out t ht
    rwa [at_lt (by omega), at_lt ht] at h)
   go_wp2_with (fail)
   clear H1 H2 Q0 Q1
   have HBL := Aside0.mk HB.out
   go_loopw [4, 5] (fun s4 _ wr => ∃ j : Nat, j ≤ es.length ∧ j ≤ 56 ∧ s4 = .int .i64 (j : Int) ∧ Aside0 (∀ t, t < j → okE (eat es t) = true) ∧ Aside0 (∀ t, t + 1 < j → key (eat es t) < key (eat es (t + 1))) ∧ Aside0 (∀ t, t < j → (eat es t).a ∈ ns ∧ (eat es t).b ∈ ns) ∧ Aside0 (wr.cell? ⟨w.heap.size, 0, none⟩ = some (.slice A ns.length c)) ∧ Aside0 (wr.cell? ⟨w.heap.size, 1, none⟩ = some (.slice B es.length d)) ∧ Aside0 (Below w.heap.size w wr)) (fun s4 _ _ => (es.length - intOf s4).toNat)
   case atStart => exact ⟨0, Nat.zero_le _, by omega, rfl, ⟨fun t ht => absurd ht (Nat.not_lt_zero _)⟩, ⟨fun t ht => absurd ht (Nat.not_lt_zero _)⟩, ⟨fun t ht => absurd ht (Nat.not_lt_zero _)⟩, ⟨g0⟩, ⟨g1⟩, HB⟩
   case round =>
    clear g0 g1 HB HBL
    obtain ⟨j, hj, hj56, rfl, E1, E2, E3, Q0, Q1, HBQ⟩ := hrel
    have k0 := Q0.out
    have k1 := Q1.out
    by_cases hlt : j < es.length
    ·have hj1 : j - 1 < es.length := by omega
     obtain ⟨ad, e1, r0, r1, r2, r3, r4⟩ := eg_at (Kd.C_below HR2.out HBQ.out) j hlt
     cases e1
     obtain ⟨ad2, e2, t0, t1, t2, t3, t4⟩ := eg_at (Kd.C_below HR2.out HBQ.out) (j - 1) hj1
     cases e2
     have HYM := Aside0.mk (eat_mem hlt)
     generalize hy : eat es j = y at r0 r1 r2 r3 r4 HYM
     generalize hz : eat es (j - 1) = z at t0 t1 t2 t3 t4
     have HY := Aside0.mk hy
     have HZE := Aside0.mk hz
     have T0 := Aside0.mk t0
     have T1 := Aside0.mk t1
     have T2 := Aside0.mk t2
     have T3 := Aside0.mk t3
     have T4 := Aside0.mk t4
     clear hy hz t0 t1 t2 t3 t4
     cases hy1 : okE y
     all_goals
      have HY1 := Aside0.mk hy1
      clear hy1
     case' false => have HF := Aside0.mk (show fin = false by rw [← HFIN.out]; exact okG_false.2 fun h => by have h9 := h.eok y HYM.out; rw [HY1.out] at h9; cases h9)
     case' true =>
      obtain ⟨v, hls⟩ : ∃ v, decide (key z < key y) = v := ⟨_, rfl⟩
      have HLS := Aside0.mk hls
      clear hls
      by_cases hj0 : 0 < j
      case' pos =>
       have HZ1 : Aside0 (okE z = true) := ⟨HZE.out ▸ E1.out (j - 1) (by omega)⟩
       have hw1 : IntKind.i64.wrap ((j : Int) - 1) = ((j - 1 : Nat) : Int) := by rw [IntKind.wrap_i64]; omega
       cases v
       case' false =>
        have HF := Aside0.mk (show fin = false by
         rw [← HFIN.out]
         refine okG_false.2 fun h => ?_
         have h9 := h.easc.lt (i := j - 1) (j := j) (by omega) hlt
         rw [← eat_lt hj1, ← eat_lt hlt, HY.out, HZE.out] at h9
         exact of_decide_eq_false HLS.out h9)
      all_goals first
      | (have h_ := HF.out; clear h_)
      | (have HS := Aside0.mk (show ∀ t, t + 1 = j → key (eat es t) < key y from fun t ht => by
       obtain rfl : t = j - 1 := by omega
       rw [HZE.out]
       first | exact of_decide_eq_true HLS.out | omega)
         cases hma : decide (y.a ∈ ns)
         all_goals
          have HMA := Aside0.mk hma
          clear hma
         case' false =>
          have HMB : Aside0 (decide (y.b ∈ ns) = decide (y.b ∈ ns)) := ⟨rfl⟩
          have HF := Aside0.mk (show fin = false by
           rw [← HFIN.out]
           exact okG_false.2 fun h => of_decide_eq_false HMA.out (h.ends y HYM.out).1)
         case' true =>
          cases hmb : decide (y.b ∈ ns)
          all_goals
           have HMB := Aside0.mk hmb
           clear hmb
          case' false =>
           have HF := Aside0.mk (show fin = false by
            rw [← HFIN.out]
            exact okG_false.2 fun h => of_decide_eq_false HMB.out (h.ends y HYM.out).2)
          case' true =>
           by_cases h56 : 56 ≤ j
           case' pos =>
            first
            | (exfalso; omega)
            | (have h56' : decide ((56 : Int) ≤ (j : Int)) = true := decide_eq_true (by omega)
               have HF := Aside0.mk (show fin = false by
                rw [← HFIN.out]
                refine okG_false.2 fun h => ?_
                have h9 := (EsOk.mk h.eok h.easc h.efew h.ends).len
                omega))
           case' neg => have h56' : decide ((56 : Int) ≤ (j : Int)) = false := decide_eq_false (by omega))
     all_goals
      go_wp2_with (fail)
      refine named _ ?_
      intro W hW
      have g0 : W.cell? ⟨w.heap.size, 0, none⟩ = some (.slice A ns.length c) := by subst hW; exact pw_cell_below (below_alloc (Below.refl _ _) _) Q0.out
      have g1 : W.cell? ⟨w.heap.size, 1, none⟩ = some (.slice (some ad) es.length d) := by subst hW; exact pw_cell_below (below_alloc (Below.refl _ _) _) Q1.out
      have y0 : W.cell? ⟨wr.heap.size, 0, none⟩ = some (.int .i64 y.lab) := by subst hW; simp
      have y1 : W.cell? ⟨wr.heap.size, 1, none⟩ = some (.int .i64 y.a.lab) := by subst hW; simp
      have y2 : W.cell? ⟨wr.heap.size, 2, none⟩ = some (.int .i64 y.a.num) := by subst hW; simp
      have y3 : W.cell? ⟨wr.heap.size, 3, none⟩ = some (.int .i64 y.b.lab) := by subst hW; simp
      have y4 : W.cell? ⟨wr.heap.size, 4, none⟩ = some (.int .i64 y.b.num) := by subst hW; simp
      have t0 : W.cell? (ad.add ((j - 1) * 5)) = some (.int .i64 z.lab) := by subst hW; exact pw_cell_below (below_alloc (Below.refl _ _) _) T0.out
      have t1 : W.cell? ⟨(ad.add ((j - 1) * 5)).block, (ad.add ((j - 1) * 5)).off + 1, none⟩ = some (.int .i64 z.a.lab) := by subst hW; exact pw_cell_below (below_alloc (Below.refl _ _) _) T1.out
      have t2 : W.cell? ⟨(ad.add ((j - 1) * 5)).block, (ad.add ((j - 1) * 5)).off + 2, none⟩ = some (.int .i64 z.a.num) := by subst hW; exact pw_cell_below (below_alloc (Below.refl _ _) _) T2.out
      have t3 : W.cell? ⟨(ad.add ((j - 1) * 5)).block, (ad.add ((j - 1) * 5)).off + 3, none⟩ = some (.int .i64 z.b.lab) := by subst hW; exact pw_cell_below (below_alloc (Below.refl _ _) _) T3.out
      have t4 : W.cell? ⟨(ad.add ((j - 1) * 5)).block, (ad.add ((j - 1) * 5)).off + 4, none⟩ = some (.int .i64 z.b.num) := by subst hW; exact pw_cell_below (below_alloc (Below.refl _ _) _) T4.out
      have HB := Aside0.mk (show Below w.heap.size w W by subst hW; exact below_alloc HBQ.out _)
      clear hW r0 r1 r2 r3 r4
      have HK_ := Aside0.mk (show Reg (fun u_ => Below w.heap.size w u_ ∧ u_.cell? ⟨w.heap.size, 0, none⟩ = some (.slice A ns.length c) ∧ u_.cell? ⟨w.heap.size, 1, none⟩ = some (.slice (some ad) es.length d) ∧ u_.cell? ⟨wr.heap.size, 0, none⟩ = some (.int .i64 y.lab) ∧ u_.cell? ⟨wr.heap.size, 1, none⟩ = some (.int .i64 y.a.lab) ∧ u_.cell? ⟨wr.heap.size, 2, none⟩ = some (.int .i64 y.a.num) ∧ u_.cell? ⟨wr.heap.size, 3, none⟩ = some (.int .i64 y.b.lab) ∧ u_.cell? ⟨wr.heap.size, 4, none⟩ = some (.int .i64 y.b.num) ∧ u_.cell? (ad.add ((j - 1) * 5)) = some (.int .i64 z.lab) ∧ u_.cell? ⟨(ad.add ((j - 1) * 5)).block, (ad.add ((j - 1) * 5)).off + 1, none⟩ = some (.int .i64 z.a.lab) ∧ u_.cell? ⟨(ad.add ((j - 1) * 5)).block, (ad.add ((j - 1) * 5)).off + 2, none⟩ = some (.int .i64 z.a.num) ∧ u_.cell? ⟨(ad.add ((j - 1) * 5)).block, (ad.add ((j - 1) * 5)).off + 3, none⟩ = some (.int .i64 z.b.lab) ∧ u_.cell? ⟨(ad.add ((j - 1) * 5)).block, (ad.add ((j - 1) * 5)).off + 4, none⟩ = some (.int .i64 z.b.num) ∧ True) from ⟨fun _ _ hb_ ⟨q_, s0_, s1_, s2_, s3_, s4_, s5_, s6_, s7_, s8_, s9_, s10_, s11_, _⟩ => ⟨below_step q_ hb_, pw_cell_below hb_ s0_, pw_cell_below hb_ s1_, pw_cell_below hb_ s2_, pw_cell_below hb_ s3_, pw_cell_below hb_ s4_, pw_cell_below hb_ s5_, pw_cell_below hb_ s6_, pw_cell_below hb_ s7_, pw_cell_below hb_ s8_, pw_cell_below hb_ s9_, pw_cell_below hb_ s10_, pw_cell_below hb_ s11_, trivial⟩⟩)
      refine region_by _ sGo10 (by kernel_rfl) sGo10_ok rfl (fun d _ _ _ _ h => by cases d <;> exact h) HK_.out ⟨HB.out, g0, g1, y0, y1, y2, y3, y4, t0, t1, t2, t3, t4, trivial⟩ ?_
      intro u hS
      clear g0 g1 y0 y1 y2 y3 y4 t0 t1 t2 t3 t4
      repeat (first | (refine h_off gt_ (by rfl) ?_; intro a_ ha_; (simp only [Act.put, pu1, pu2, pu3] at ha_); subst ha_) | (refine h_on (v := ?_) gt_ (by rfl) ?_ ?_; rotate_left; (· rintro w_ ⟨-, s0_, s1_, s2_, s3_, s4_, s5_, s6_, s7_, s8_, s9_, s10_, s11_, -⟩; go_simp; with_reducible rfl); intro a_ ha_; (simp only [Act.put, pu1, pu2, pu3] at ha_); subst ha_) | (refine h_offc hS gt_ (by rfl) ?_; intro a_ ha_; (simp only [Act.put, pu1, pu2, pu3] at ha_); subst ha_) | (refine h_call (f := 53) (args := #[.agg #[.int .i64 y.lab, .int .i64 y.a.lab, .int .i64 y.a.num, .int .i64 y.b.lab, .int .i64 y.b.num]]) HK_.out hS Tryz.func53 (by kernel_rfl) rfl gt_ (by rfl) (by rfl) mp_ ?_; (with_reducible refine (spEdgeOk_calls y _).mono ?_); rintro e_ u_ ⟨rfl, hb_⟩; rw [HY1.out]; refine ⟨_, rfl, hb_, fun a_ ha_ hS_ => ?_⟩; (simp only [Act.put, pu1, pu2, pu3] at ha_); subst ha_; clear hS; have hS := hS_; clear hS_; clear hb_) | (refine h_call (f := 54) (args := #[.agg #[.int .i64 z.lab, .int .i64 z.a.lab, .int .i64 z.a.num, .int .i64 z.b.lab, .int .i64 z.b.num], .agg #[.int .i64 y.lab, .int .i64 y.a.lab, .int .i64 y.a.num, .int .i64 y.b.lab, .int .i64 y.b.num]]) HK_.out hS Tryz.func54 (by kernel_rfl) rfl gt_ (by rfl) (by rfl) mp_ ?_; (with_reducible refine (sLess_calls z y HZ1.out HY1.out _).mono ?_); rintro e_ u_ ⟨rfl, hb_⟩; rw [HLS.out]; refine ⟨_, rfl, hb_, fun a_ ha_ hS_ => ?_⟩; (simp only [Act.put, pu1, pu2, pu3] at ha_); subst ha_; clear hS; have hS := hS_; clear hS_; clear hb_) | (refine h_call (f := 55) (args := #[.agg #[.slice A ns.length c, .slice (some ad) es.length d], .agg #[.int .i64 y.a.lab, .int .i64 y.a.num]]) HK_.out hS Tryz.func55 (by kernel_rfl) rfl gt_ (by rfl) (by rfl) mp_ ?_; (refine (atN_calls A c ns (some ad) d es y.a _ (Kd.C_below HR.out hS.1) HNL.out).mono ?_); rintro e_ u_ ⟨⟨r1_, hr0_, hr1_, rfl⟩, hb_⟩; have hq1_ := neg_at hr1_ HMA.out; simp only [Bool.not_true, Bool.not_false] at hq1_; clear hr0_ hr1_; refine ⟨_, rfl, hb_, fun a_ ha_ hS_ => ?_⟩; (simp only [Act.put, pu1, pu2, pu3] at ha_); subst ha_; clear hS; have hS := hS_; clear hS_ hb_) | (refine h_call (f := 55) (args := #[.agg #[.slice A ns.length c, .slice (some ad) es.length d], .agg #[.int .i64 y.b.lab, .int .i64 y.b.num]]) HK_.out hS Tryz.func55 (by kernel_rfl) rfl gt_ (by rfl) (by rfl) mp_ ?_; (refine (atN_calls A c ns (some ad) d es y.b _ (Kd.C_below HR.out hS.1) HNL.out).mono ?_); rintro e_ u_ ⟨⟨r2_, hr0_, hr1_, rfl⟩, hb_⟩; have hq2_ := neg_at hr1_ HMB.out; simp only [Bool.not_true, Bool.not_false] at hq2_; clear hr0_ hr1_; refine ⟨_, rfl, hb_, fun a_ ha_ hS_ => ?_⟩; (simp only [Act.put, pu1, pu2, pu3] at ha_); subst ha_; clear hS; have hS := hS_; clear hS_ hb_))
      refine h_end ?_
      clear HK_ HB
      obtain ⟨hB_, g0, g1, y0, y1, y2, y3, y4, t0, t1, t2, t3, t4, -⟩ := hS
      have HB := Aside0.mk hB_
      clear hB_
      try clear hw1
      go_wp2
      first
      | (go_ret; exact ⟨retB HF.out.symm, HB.out⟩)
      | (go_roundw
         case rel => exact ⟨j + 1, by omega, by omega, by go_num, ⟨fun t ht => by
          rcases Nat.lt_succ_iff_lt_or_eq.1 ht with h | rfl
          ·exact E1.out t h
          ·rw [HY.out]; exact HY1.out⟩, ⟨fun t ht => by
          rcases Nat.lt_succ_iff_lt_or_eq.1 ht with h | h
          ·exact E2.out t h
          ·have h9 := HS.out t h; rw [h, HY.out]; exact h9⟩, ⟨fun t ht => by
          rcases Nat.lt_succ_iff_lt_or_eq.1 ht with h | rfl
          ·exact E3.out t h
          ·rw [HY.out]; exact ⟨of_decide_eq_true HMA.out, of_decide_eq_true HMB.out⟩⟩, ⟨g0⟩, ⟨g1⟩, HB⟩
         case measure => simp [intOf]; omega)
    ·obtain rfl : j = es.length := by omega
     have HEO := Aside0.mk (show ∀ n ∈ es, okE n = true from fun n hn => by
      obtain ⟨t, ht, rfl⟩ := List.getElem_of_mem hn
      rw [← eat_lt ht]
      exact E1.out t ht)
     have HEN := Aside0.mk (show ∀ n ∈ es, n.a ∈ ns ∧ n.b ∈ ns from fun n hn => by
      obtain ⟨t, ht, rfl⟩ := List.getElem_of_mem hn
      rw [← eat_lt ht]
      exact E3.out t ht)
     have HEA := Aside0.mk (asc_steps (key := key) (l := es) fun t ht => by
      have h := E2.out t ht
      rwa [eat_lt (by omega), eat_lt ht] at h)
     go_wp2_with (fail)
     clear E1 E2 E3
     go_loopw [6] (fun s6 wr => ∃ a : Nat, a ≤ 8 ∧ s6 = .int .i64 (a : Int) ∧ Aside0 (∀ t : Nat, t < a → (ns.countP fun y => y.lab == (t : Int)) ≤ 5 ∧ (es.countP fun y => y.lab == (t : Int)) ≤ 7) ∧ Aside0 (wr.cell? ⟨w.heap.size, 0, none⟩ = some (.slice A ns.length c)) ∧ Aside0 (wr.cell? ⟨w.heap.size, 1, none⟩ = some (.slice B es.length d)) ∧ Aside0 (Below w.heap.size w wr)) (fun s6 _ => (8 - intOf s6).toNat)
     case atStart => exact ⟨0, by omega, rfl, ⟨fun t ht => absurd ht (Nat.not_lt_zero _)⟩, ⟨k0⟩, ⟨k1⟩, HBQ⟩
     case round =>
      clear k0 k1 HBQ Q0 Q1
      obtain ⟨a, ha, rfl, E4, Q0, Q1, HB⟩ := hrel
      have g0 := Q0.out
      have g1 := Q1.out
      by_cases hlt3 : a < 8
      ·have HT1 := Aside0.mk (fun (W : World) (h : Below w.heap.size w W) => cntN_calls A c ns B d es (a : Int) W (Kd.C_below HR.out h) HNL.out)
       have HT2 := Aside0.mk (fun (W : World) (h : Below w.heap.size w W) => cntE_calls A c ns B d es (a : Int) W (Kd.C_below HR2.out h) HEL.out)
       generalize hc1 : (ns.countP fun y => y.lab == (a : Int)) = c1 at HT1
       generalize hc2 : (es.countP fun y => y.lab == (a : Int)) = c2 at HT2
       have HC1 := Aside0.mk hc1
       have HC2 := Aside0.mk hc2
       clear hc1 hc2
       have p7 : (a : Int) ≤ 7 := by omega
       by_cases h5 : 5 < c1
       ·have h5' : decide ((5 : Int) < (c1 : Int)) = true := decide_eq_true (by omega)
        have HF := Aside0.mk (show fin = false by
         rw [← HFIN.out]
         refine okG_false.2 fun h => ?_
         have h9 := h.nfew (a : Int)
         rw [HC1.out] at h9
         omega)
        go_wp2_with (first | (go_at_call 56; (refine (HT1.out _ HB.out).mono ?_); rintro e w1 ⟨rfl, hb⟩; have HB2 := Aside0.mk (below_step HB.out hb); clear hb))
        go_ret
        exact ⟨retB HF.out.symm, HB2.out⟩
       ·have h5' : decide ((5 : Int) < (c1 : Int)) = false := decide_eq_false (by omega)
        have H5 := Aside0.mk h5
        clear h5
        by_cases h7 : 7 < c2
        ·have h7' : decide ((7 : Int) < (c2 : Int)) = true := decide_eq_true (by omega)
         have HF := Aside0.mk (show fin = false by
          rw [← HFIN.out]
          refine okG_false.2 fun h => ?_
          have h9 := h.efew (a : Int)
          rw [HC2.out] at h9
          omega)
         go_wp2_with (first | (go_at_call 56; (refine (HT1.out _ HB.out).mono ?_); rintro e w1 ⟨rfl, hb⟩; have HB2 := Aside0.mk (below_step HB.out hb); have q0 : w1.cell? ⟨w.heap.size, 0, none⟩ = some (.slice A ns.length c) := pw_cell_below hb g0; have q1 : w1.cell? ⟨w.heap.size, 1, none⟩ = some (.slice B es.length d) := pw_cell_below hb g1; clear hb) | (go_at_call 57; (refine (HT2.out _ HB2.out).mono ?_); rintro e w2 ⟨rfl, hb⟩; have HB3 := Aside0.mk (below_step HB2.out hb); have u0 : w2.cell? ⟨w.heap.size, 0, none⟩ = some (.slice A ns.length c) := pw_cell_below hb q0; have u1 : w2.cell? ⟨w.heap.size, 1, none⟩ = some (.slice B es.length d) := pw_cell_below hb q1; clear hb))
         go_ret
         exact ⟨retB HF.out.symm, HB3.out⟩
        ·have h7' : decide ((7 : Int) < (c2 : Int)) = false := decide_eq_false (by omega)
         have H7 := Aside0.mk h7
         clear h7
         go_wp2_with (first | (go_at_call 56; (refine (HT1.out _ HB.out).mono ?_); rintro e w1 ⟨rfl, hb⟩; have HB2 := Aside0.mk (below_step HB.out hb); have q0 : w1.cell? ⟨w.heap.size, 0, none⟩ = some (.slice A ns.length c) := pw_cell_below hb g0; have q1 : w1.cell? ⟨w.heap.size, 1, none⟩ = some (.slice B es.length d) := pw_cell_below hb g1; clear hb) | (go_at_call 57; (refine (HT2.out _ HB2.out).mono ?_); rintro e w2 ⟨rfl, hb⟩; have HB3 := Aside0.mk (below_step HB2.out hb); have u0 : w2.cell? ⟨w.heap.size, 0, none⟩ = some (.slice A ns.length c) := pw_cell_below hb q0; have u1 : w2.cell? ⟨w.heap.size, 1, none⟩ = some (.slice B es.length d) := pw_cell_below hb q1; clear hb))
         go_roundw
         case rel => exact ⟨a + 1, by omega, by go_num, ⟨fun t ht => by
          rcases Nat.lt_succ_iff_lt_or_eq.1 ht with h | rfl
          ·exact E4.out t h
          ·rw [HC1.out, HC2.out]
           have := H5.out
           have := H7.out
           exact ⟨by omega, by omega⟩⟩, ⟨u0⟩, ⟨u1⟩, HB3⟩
         case measure => simp [intOf]; omega
      ·have p7 : ¬ (a : Int) ≤ 7 := by omega
       obtain rfl : a = 8 := by omega
       have HF := Aside0.mk (show fin = true by
        rw [← HFIN.out]
        exact okG_true.2 ⟨HNO.out, HNA.out, few_all (fun n hn => okN_lab (HNO.out n hn)) (fun t ht => (E4.out t ht).1), HEO.out, HEA.out, few_all (fun n hn => okL_iff.2 (okE_iff.1 (HEO.out n hn)).1) (fun t ht => (E4.out t ht).2), HEN.out⟩)
       go_wp2_with (fail)
       go_ret
       exact ⟨retB HF.out.symm, HB.out⟩
end Go.Proofs.YtogmbeifbjgphaaGreat.R
namespace Go.Proofs.YtogmbeifbjgphaaGreat.R
open Go.RowKit Go.Proofs.YtogmbeifbjgphaaGreatV.PrintWords Go.Proofs.YtogmbeifbjgphaaGreatV.PrintLast Go.Proofs.YtogmbeifbjgphaaGreatV.PrintMore Go.Proofs.YtogmbeifbjgphaaGreat.M
set_option linter.unusedVariables false
inductive Sch where
 | fin : Sch
 | fork (i : Nat) (li : List (Nat × Bool)) (ti : Sch) (j : Nat) (lj : List (Nat × Bool)) (tj : Sch) : Sch
section
variable {P : Program} {ops : Array Oper} {Q : Exit → Act → World → Prop} {md : Region.Mode} {S : World → Prop}
def EndT (P : Program) (ops : Array Oper) (Q : Exit → Act → World → Prop) (S : World → Prop) : Sch → Act → World → Prop
 | .fin => Q .normal
 | .fork i li ti j lj tj => fun a w => wpH P ops Q S (EndT P ops Q S ti) ((i, false) :: li) a w ∧ wpH P ops Q S (EndT P ops Q S tj) ((j, false) :: lj) a w
/-- How many operations come up at most. -/
def depthT : Sch → Nat
 | .fin => 0
 | .fork _ li ti _ lj tj => 1 + (max (li.length + depthT ti) (lj.length + depthT tj))
def runB (md : Region.Mode) (ops : Array Oper) (K : Array Bool → Bool) : List (Nat × Bool) → Array Bool → Bool
 | [], l => K l
 | (k, true) :: r, l => takeB md ops [] l (l.setIfInBounds k true) k && runB md ops K r (l.setIfInBounds k true)
 | (k, false) :: r, l => readyB md ops l (l.setIfInBounds k true) k && runB md ops K r (l.setIfInBounds k true)
def schedT (md : Region.Mode) (ops : Array Oper) : Sch → List (Nat × Bool) → Array Bool → Bool
 | .fin => schedB md ops
 | .fork i li ti j lj tj => runB md ops fun l => ((Region.ready md ops l == [i, j]) && schedT md ops ti li (l.setIfInBounds i true)) && schedT md ops tj lj (l.setIfInBounds j true)
theorem last_of_wpT (hQ : ∀ (d : Option Tmp) (v : Value) (c : _) (a : Act) (w : World), Q (.panic c) (a.put d v) w → Q (.panic c) a w) :
 ∀ (T : Sch) (sched : List (Nat × Bool)) (fuel : Nat) (l : Array Bool) (a : Act) (w : World), schedT md ops T sched l = true → sched.length + depthT T ≤ fuel → S w → wpH P ops Q S (EndT P ops Q S T) sched a w → wpAnyLast P md ops Q S [] fuel l a w := by
 intro T
 induction T with
 | fin => exact fun sched fuel l a w hc hf hS h => last_of_wpH hQ sched fuel l a w hc hf hS h
 | fork i li ti j lj tj ihi ihj =>
   intro sched
   induction sched with
   | nil =>
     intro fuel l a w hc hf hS h
     obtain ⟨⟨oi, hoi, h1⟩, ⟨oj, hoj, h2⟩⟩ := h
     simp only [schedT, runB, Bool.and_eq_true] at hc
     simp only [List.length_nil, depthT] at hf
     obtain ⟨f, rfl⟩ : ∃ f, fuel = f + 1 := ⟨fuel - 1, by omega⟩
     have hl1 : li.length + depthT ti ≤ f := by omega
     have hl2 : lj.length + depthT tj ≤ f := by omega
     exact two_ _ _ hoi hoj rfl rfl (by simp [hc.1.1]) (by simp) (by simp)
      (fun K hK => h1 K fun a' w' hS' hr => hK a' w' hS' fun hS'' => ihi li f _ _ w' hc.1.2 hl1 hS'' (hr hS''))
      (fun K hK => h2 K fun a' w' hS' hr => hK a' w' hS' fun hS'' => ihj lj f _ _ w' hc.2 hl2 hS'' (hr hS''))
   | cons p r ih =>
     intro fuel l a w hc hf hS h
     obtain ⟨f, rfl⟩ : ∃ f, fuel = f + 1 := ⟨fuel - 1, by simp only [List.length_cons] at hf; omega⟩
     have hf' : r.length + depthT (.fork i li ti j lj tj) ≤ f := by simp only [List.length_cons] at hf; omega
     match p, hc, h with
     | (k, true), hc, h =>
       obtain ⟨o, v, ho, hy, h⟩ := h
       simp only [schedT, runB, Bool.and_eq_true] at hc
       exact take_ _ ho rfl hc.1 (fun c a w => hQ o.dst v c a w) hy hS rfl (ih f _ _ w hc.2 hf' hS h)
     | (k, false), hc, h =>
       obtain ⟨o, ho, h⟩ := h
       simp only [schedT, runB, Bool.and_eq_true] at hc
       exact one_ _ ho rfl hc.1 (by simp) fun K hK => h K fun a' w' hS' hr => hK a' w' hS' fun hS'' => ih f _ _ w' hc.2 hf' hS'' (hr hS'')
theorem region_tree {id : Nat} {a : Act} {w : World} (S : World → Prop) (sched : List (Nat × Bool)) (T : Sch) (hm : P.follows .mixedOrders = true) (hc : schedT .any ops T sched (Array.replicate ops.size false) = true) (hl : sched.length + depthT T ≤ ops.size)
 (hQ : ∀ (d : Option Tmp) (v : Value) (c : _) (a : Act) (w : World), Q (.panic c) (a.put d v) w → Q (.panic c) a w) (hk : Reg S) (hS : S w) (h : ∀ u, S u → Below w.heap.size w u → wpH P ops Q S (EndT P ops Q S T) sched a u) : (Code.region id ops true).wp P Q a w := by
 have hS' : S w.drew := hk.keep w w.drew (Below.refl _ _).drew hS
 exact wp_region_last hm (last_of_wpT hQ T sched ops.size _ a w.drew hc hl hS' (h _ hS' (Below.refl _ _).drew))
theorem h_fork {i j : Nat} {li lj : List (Nat × Bool)} {ti tj : Sch} {a : Act} {w : World} (h1 : wpH P ops Q S (EndT P ops Q S ti) ((i, false) :: li) a w) (h2 : wpH P ops Q S (EndT P ops Q S tj) ((j, false) :: lj) a w) : wpH P ops Q S (EndT P ops Q S (.fork i li ti j lj tj)) [] a w := ⟨h1, h2⟩
theorem h_fin {a : Act} {w : World} (h : Q .normal a w) : wpH P ops Q S (EndT P ops Q S .fin) [] a w := h
end
end Go.Proofs.YtogmbeifbjgphaaGreat.R
