/- PoolUse comes to what the plain function tells: the list with the page ahead where pool and page are right, else nothing. No condition. -/
import Derived.Test.YtcobbpghipeoeaaC38
import Derived.Test.YtcobbpghipeoeaaC22
import Derived.Test.YtcobbpghipeoeaaG
namespace Go.Proofs.Ytcobbpghipeoeaa.R
open Go.RowKit Go.Proofs.YtcobbpghipeoeaaV.PrintWords Go.Proofs.YtcobbpghipeoeaaV.PrintLast Go.Proofs.YtcobbpghipeoeaaV.PrintMore
attribute [local go_sem] max2_int min2_int max_two min_two max_three min_three max_four min_four
attribute [local go_sem high] eqA25
set_option linter.unusedVariables false
set_option linter.unusedSimpArgs false

/-- Is the page right? -/
def okPage (p : S25) : Bool := decide (0 ≤ p.f0) && decide (p.f0 ≤ 7) && decide (0 ≤ p.f1) && decide (p.f1 < 1000)
/-- Are the pages behind those of pre right, and no two the same? -/
def okAcc : List S25 → List S25 → Bool
  | _, [] => true
  | pre, x :: xs => okPage x && !hasP pre x && okAcc (pre ++ [x]) xs
/-- Is the pool right? -/
def poolOkB (s : Int) (l : List S25) : Bool := decide (0 ≤ s) && decide (s ≤ 12) && decide ((l.length : Int) ≤ s) && okAcc [] l
theorem pageOk_tells (a b : Int) : impl_PageOk.f a b = some (okPage ⟨a, b⟩) := by
  unfold impl_PageOk.f impl_LabelOk.f okPage
  by_cases h0 : 0 ≤ a
  · by_cases h1 : a ≤ 7
    · by_cases h2 : 0 ≤ b <;> simp [h0, h1, h2]
    · simp [h0, h1]
  · simp [h0]
theorem poolOk_loop (s : Int) (l : List S25) (hl : l.length ≤ 12) : ∀ (d j : Nat), j + d = l.length → ∀ k, d + 20 < k → impl_PoolOk.l0 k l (l.length : Int) (j : Int) s l = some (okAcc (l.take j) (l.drop j)) := by
  intro d
  induction d with
  | zero =>
    intro j hj k hk
    obtain ⟨k, rfl⟩ : ∃ m, k = m + 1 := ⟨k - 1, by omega⟩
    simp only [impl_PoolOk.l0]
    rw [if_neg (by omega), List.drop_of_length_le (by omega)]
    rfl
  | succ d ih =>
    intro j hj k hk
    obtain ⟨k, rfl⟩ : ∃ m, k = m + 1 := ⟨k - 1, by omega⟩
    have hlt : j < l.length := by omega
    have ht : ((j : Int)).toNat = j := Int.toNat_natCast j
    have hc := contains_ev (l.take j) (rd_T25 l (j : Int)) (by rw [List.length_take]; omega) k (by rw [List.length_take]; omega)
    simp only [impl_PoolOk.l0]
    rw [if_pos (by omega), if_pos (by omega), if_pos (by omega), pageOk_tells, Option.bind_some, rd_drop l j hlt]
    unfold okAcc
    cases hq : okPage (rd_T25 l (j : Int)) with
    | false =>
      rw [if_neg (by decide)]
      simp
    | true =>
      rw [if_pos rfl, if_pos (by omega), ht, hc, Option.bind_some]
      cases hb : hasP (l.take j) (rd_T25 l (j : Int)) with
      | true => rw [if_pos rfl]; simp
      | false =>
        rw [if_neg (by decide), wrap_next (by omega), ih (j + 1) (by omega) k (by omega), take_snoc' l j hlt]
        simp
theorem poolOk_ev (s : Int) (l : List S25) (k : Nat) (hk : 40 < k) : impl_PoolOk.f k s l = some (poolOkB s l) := by
  unfold impl_PoolOk.f poolOkB
  obtain ⟨k, rfl⟩ : ∃ m, k = m + 1 := ⟨k - 1, by omega⟩
  simp only [impl_PoolOk.j0]
  by_cases h0 : s < 0
  · rw [if_pos h0, decide_eq_false (by omega)]
    simp
  · rw [if_neg h0]
    by_cases h1 : s > 12
    · rw [if_pos h1, decide_eq_false (p := s ≤ 12) (by omega)]
      simp
    · rw [if_neg h1]
      by_cases h2 : (l.length : Int) > s
      · rw [if_pos (decide_eq_true h2), decide_eq_false (p := (l.length : Int) ≤ s) (by omega)]
        simp
      · rw [if_neg (by simpa using h2), decide_eq_true (p := 0 ≤ s) (by omega), decide_eq_true (p := s ≤ 12) (by omega), decide_eq_true (p := (l.length : Int) ≤ s) (by omega)]
        have := poolOk_loop s l (by omega) l.length 0 (by omega) k (by omega)
        rw [Int.natCast_zero] at this
        rw [this]
        rfl
def impl_PoolUse.f (s : Int) (l : List S25) (p0 p1 : Int) : Option (Int × List S25 × Bool) :=
  if (poolOkB s l && okPage ⟨p0, p1⟩) = true then some (s, useL s l ⟨p0, p1⟩, hasP l ⟨p0, p1⟩) else some (0, [], false)
theorem two_facts {w : World} {g : Nat} {t : TypeId} {x y : Value} (h : w.heap[g]? = some (.cells #[x, y] t (0, 0))) : w.cell? ⟨g, 0, none⟩ = some x ∧ w.cell? ⟨g, 1, none⟩ = some y ∧ w.frozen? ⟨g, 0, none⟩ = false ∧ w.frozen? ⟨g, 1, none⟩ = false :=
  ⟨(blk_cell h 0).trans rfl, (blk_cell h 1).trans rfl, blk_frozen h 0, blk_frozen h 1⟩
theorem blk_at (w : World) (o : Obj) {n : Nat} (h : w.heap.size = n) : (w.alloc o).heap[n]? = some o := h ▸ blk_new w o
theorem poolOk_small {s : Int} {l : List S25} (h : poolOkB s l = true) : 0 ≤ s ∧ s ≤ 12 ∧ (l.length : Int) ≤ s := by
  unfold poolOkB at h
  simp only [Bool.and_eq_true, decide_eq_true_eq] at h
  exact ⟨h.1.1.1, h.1.1.2, h.1.2⟩
set_option maxHeartbeats 1600000 in
set_option maxRecDepth 100000 in
theorem impl_PoolUse.calls (a0_0 : Int) (A0_1 : Option Addr) (c0_1 : Nat) (l0_1 : List S25) (a1_0 a1_1 : Int) (r1 : Int) (r2 : List S25) (r3 : Bool) (w : World)
    (hr0_1 : Kd.C k25 w A0_1 l0_1.length l0_1) (hc0_1 : l0_1.length ≤ c0_1) (h : impl_PoolUse.f a0_0 l0_1 a1_0 a1_1 = some (r1, r2, r3)) :
    Calls Try.prog 42 #[.agg #[.int .i64 a0_0, .slice A0_1 l0_1.length c0_1], .agg #[.int .i64 a1_0, .int .i64 a1_1]] w fun e w' => ∃ v1_ : Value, e = .returned (.tuple #[.agg #[.int .i64 r1, v1_], .bool r3]) ∧ Kd.R k25 25 w' w.heap.size (fun _ => True) v1_ r2 ∧ Below w.heap.size w w' := by
  have hu46 := Try.underlying46
  have hu25 := Try.underlying25
  have HR := Aside0.mk hr0_1
  have HC := Aside0.mk hc0_1
  have HK := Aside0.mk (poolOk_ev a0_0 l0_1 41 (by omega))
  have HQ := Aside0.mk (pageOk_tells a1_0 a1_1)
  clear hr0_1 hc0_1
  cases hp : poolOkB a0_0 l0_1 with
  | false =>
    rw [hp] at HK
    unfold impl_PoolUse.f at h
    rw [hp, Bool.false_and, if_neg (by decide)] at h
    simp only [Option.some.injEq, Prod.mk.injEq] at h
    obtain ⟨rfl, rfl, rfl⟩ := h
    clear hp HQ
    go_enter Try.func42, Try.ntmps42
    go_wp2_with (first | (go_at_call 38; go_must (refine (impl_PoolOk.calls 41 a0_0 _ _ l0_1 false _ (Kd.C_alloc (Kd.C_alloc (Kd.C_alloc HR.out _) _) _) HC.out HK.out).mono ?_); rintro e w1 ⟨rfl, hb⟩; have HB := Aside0.mk (below_step (below_alloc (below_alloc (below_alloc (Below.refl w.heap.size w) _) _) _) hb); have HG := Aside0.mk (blk_below (blk_at _ _ (n := w.heap.size + 2) (by simp)) hb); obtain ⟨f1, f2, f3, f4⟩ := two_facts HG.out; clear hb))
    refine bodyPost_ret (results_ct rfl _ _ (w.heap.size + 2) 46 #[.int .i64 0, .slice none 0 0] (0, 0) _ rfl (blk_put (blk_put HG.out 0 (.int .i64 0) rfl) 1 (.slice none 0 0) rfl) Try.underlying46 rfl (by kernel_rfl)) rfl ?_
    exact ⟨_, rfl, Kd.R_nil _ _ _ _ _, below_set (below_set HB.out (by omega)) (by omega)⟩
  | true =>
    rw [hp] at HK
    have HS := Aside0.mk (poolOk_small hp)
    cases hq : okPage ⟨a1_0, a1_1⟩ with
    | false =>
      rw [hq] at HQ
      unfold impl_PoolUse.f at h
      rw [hp, hq, Bool.true_and, if_neg (by decide)] at h
      simp only [Option.some.injEq, Prod.mk.injEq] at h
      obtain ⟨rfl, rfl, rfl⟩ := h
      clear hp hq
      go_enter Try.func42, Try.ntmps42
      go_wp2_with (first | (go_at_call 38; go_must (refine (impl_PoolOk.calls 41 a0_0 _ _ l0_1 true _ (Kd.C_alloc (Kd.C_alloc (Kd.C_alloc HR.out _) _) _) HC.out HK.out).mono ?_); rintro e w1 ⟨rfl, hb⟩; have HB := Aside0.mk (below_step (below_alloc (below_alloc (below_alloc (Below.refl w.heap.size w) _) _) _) hb); have HP := Aside0.mk (blk_below (blk_alloc (blk_at _ _ (n := w.heap.size + 1) (by simp)) _) hb); have HG := Aside0.mk (blk_below (blk_at _ _ (n := w.heap.size + 2) (by simp)) hb); obtain ⟨d1, d2, d3, d4⟩ := two_facts HP.out; clear hb) | (go_at_call 22; go_must (refine (impl_PageOk.calls a1_0 a1_1 false _ HQ.out).mono ?_); rintro e w2 ⟨rfl, hb⟩; have HB2 := Aside0.mk (below_step HB.out hb); have HG2 := Aside0.mk (blk_below HG.out hb); obtain ⟨f1, f2, f3, f4⟩ := two_facts HG2.out; clear hb))
      refine bodyPost_ret (results_ct rfl _ _ (w.heap.size + 2) 46 #[.int .i64 0, .slice none 0 0] (0, 0) _ rfl (blk_put (blk_put HG2.out 0 (.int .i64 0) rfl) 1 (.slice none 0 0) rfl) Try.underlying46 rfl (by kernel_rfl)) rfl ?_
      exact ⟨_, rfl, Kd.R_nil _ _ _ _ _, below_set (below_set HB2.out (by omega)) (by omega)⟩
    | true =>
      rw [hq] at HQ
      unfold impl_PoolUse.f at h
      rw [hp, hq, Bool.true_and, if_pos rfl] at h
      simp only [Option.some.injEq, Prod.mk.injEq] at h
      obtain ⟨rfl, rfl, rfl⟩ := h
      clear hp hq
      go_enter Try.func42, Try.ntmps42
      go_wp2_with (first | (go_at_call 38; go_must (refine (impl_PoolOk.calls 41 a0_0 _ _ l0_1 true _ (Kd.C_alloc (Kd.C_alloc (Kd.C_alloc HR.out _) _) _) HC.out HK.out).mono ?_); rintro e w1 ⟨rfl, hb⟩; have HB := Aside0.mk (below_step (below_alloc (below_alloc (below_alloc (Below.refl w.heap.size w) _) _) _) hb); have HX := Aside0.mk (blk_below (blk_alloc (blk_alloc (blk_at _ _ (n := w.heap.size) rfl) _) _) hb); have HP := Aside0.mk (blk_below (blk_alloc (blk_at _ _ (n := w.heap.size + 1) (by simp)) _) hb); have HG := Aside0.mk (blk_below (blk_at _ _ (n := w.heap.size + 2) (by simp)) hb); obtain ⟨d1, d2, d3, d4⟩ := two_facts HP.out; clear hb) | (go_at_call 22; go_must (refine (impl_PageOk.calls a1_0 a1_1 true _ HQ.out).mono ?_); rintro e w2 ⟨rfl, hb⟩; have HB2 := Aside0.mk (below_step HB.out hb); have HG2 := Aside0.mk (blk_below HG.out hb); have HX2 := Aside0.mk (blk_below HX.out hb); have HP2 := Aside0.mk (blk_below HP.out hb); clear d1 d2 d3 d4; obtain ⟨d1, d2, d3, d4⟩ := two_facts HP2.out; clear hb) | (go_at_call 65; go_must (refine (use_calls w.heap.size a0_0 A0_1 c0_1 l0_1 ⟨a1_0, a1_1⟩ _ HX2.out (Kd.C_below HR.out HB2.out) HC.out (by have := HS.out; omega) HS.out.1).mono ?_); rintro e w3 ⟨v3, rfl, hX3, hR3, hK3, hB3⟩; obtain ⟨A3, c3, rfl, _, _⟩ := Kd.R_reads hR3.out; have hsz := HB2.out.size; have HG3 := Aside0.mk (KeepBut.blk hK3.out HG2.out (by omega) (by simp)); have HX3 := hX3; have HR3 := Aside0.mk (Kd.R_lower hR3.out hsz); have HB3 := Aside0.mk (HB2.out.trans (hB3.out w.heap.size (Nat.le_refl _) hsz)); obtain ⟨f1, f2, f3, f4⟩ := two_facts HG3.out; obtain ⟨q1, q2, q3, q4⟩ := two_facts HX3.out; clear hX3 hR3 hK3 hB3 hsz))
      refine bodyPost_ret (results_ct rfl _ _ (w.heap.size + 2) 46 #[.int .i64 a0_0, .slice A3 _ c3] (0, 0) _ rfl (blk_put (blk_put HG3.out 0 (.int .i64 a0_0) rfl) 1 _ rfl) Try.underlying46 rfl (by kernel_rfl)) rfl ?_
      refine ⟨_, rfl, Kd.R_mono (Kd.R_far (p := ⟨w.heap.size + 2, 1, none⟩) (Kd.R_far (p := ⟨w.heap.size + 2, 0, none⟩) (Kd.R_types HR3.out HG3.out (by decide)) (fun _ hk => hk.2) _) (fun _ hk => hk.2) _) (fun _ _ => trivial), below_set (below_set HB3.out (by omega)) (by omega)⟩
end Go.Proofs.Ytcobbpghipeoeaa.R
