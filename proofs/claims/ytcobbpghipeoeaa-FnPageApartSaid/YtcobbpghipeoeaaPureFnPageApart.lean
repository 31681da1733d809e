/- Spans that meet share at most one page: what the law FnPageApart comes to is true at every input. No condition. -/
import Derived.Test.YtcobbpghipeoeaaR15
import Derived.Test.YtcobbpghipeoeaaQP
namespace Go.Proofs.Ytcobbpghipeoeaa.Pure
set_option linter.unusedVariables false
open Go.RowKit Go.Proofs.Ytcobbpghipeoeaa.R Go.Proofs.YtcobbpghipeoeaaV.PrintWords Go.Proofs.YtcobbpghipeoeaaV.PrintLast

theorem span_take (a : Int) : ∀ (n m : Nat) (i : Int), n ≤ m → (spanL a i m).take n = spanL a i n
  | 0, _, _, _ => by simp [spanL]
  | n + 1, 0, _, h => by omega
  | n + 1, m + 1, i, h => by simp only [spanL, List.take_succ_cons]; rw [span_take a n m (i + 1) (by omega)]
/-- The pages behind the first do not meet. -/
theorem apart_rest (a t : Int) (p q : Nat) (fi ti : Int) (M : List S25) (c : Int) (i : Nat) (hi : i < p) (hp : p ≤ 1001) (hq : q ≤ 1001) (hne : fi + i ≤ ti) (hfi : 0 ≤ fi) (r : Option Bool) (k0 : Nat)
    (hend : ∀ k, k0 < k → laws_FnPageApart.l0 k t (spanL a fi p) (spanL a ti q) M c ((i + 1 : Nat) : Int) = r) : ∀ (d j : Nat), j + d = q → 1 ≤ j ∨ fi + i < ti → ∀ k, k0 + d + 1 < k → laws_FnPageApart.l1 k t (spanL a fi p) (spanL a ti q) M c (i : Int) (j : Int) = r := by
  intro d
  induction d with
  | zero =>
    intro j hj h1 k hk
    obtain ⟨k, rfl⟩ : ∃ m, k = m + 1 := ⟨k - 1, by omega⟩
    simp only [laws_FnPageApart.l1]
    rw [if_neg (by rw [spanL_len]; omega), wrap_next (by omega)]
    exact hend k (by omega)
  | succ d ih =>
    intro j hj h1 k hk
    obtain ⟨k, rfl⟩ : ∃ m, k = m + 1 := ⟨k - 1, by omega⟩
    simp only [laws_FnPageApart.l1]
    rw [if_pos (by rw [spanL_len]; omega), if_pos (by omega), if_pos (by rw [spanL_len]; omega), if_pos (by omega), spanL_rd a p fi i hi, spanL_rd a q ti j (by omega), if_neg ?_, wrap_next (by omega)]
    · exact ih (j + 1) (by omega) (by omega) k (by omega)
    · simp
      omega
theorem apart_l0 (a t : Int) (p q : Nat) (fi ti : Int) (M : List S25) (hp : p ≤ 1001) (hq : q ≤ 1001) (hfi : 0 ≤ fi) (hend : fi + p ≤ ti + 1) (c0 : Int) (hc0 : c0 = if fi + p = ti + 1 ∧ 0 < q then 1 else 0) (r : Option Bool) (k0 : Nat)
    (he : ∀ k, k0 < k → laws_FnPageApart.l0 k t (spanL a fi p) (spanL a ti q) M c0 (p : Int) = r) : ∀ (d i : Nat), i + d = p → 0 < p → ∀ k, k0 + 2000 * d < k → laws_FnPageApart.l0 k t (spanL a fi p) (spanL a ti q) M (if d = 0 then c0 else 0) (i : Int) = r := by
  intro d
  induction d with
  | zero =>
    intro i hi hp0 k hk
    obtain rfl : i = p := by omega
    exact he k (by omega)
  | succ d ih =>
    intro i hi hp0 k hk
    obtain ⟨k, rfl⟩ : ∃ m, k = m + 1 := ⟨k - 1, by omega⟩
    have hih := ih (i + 1) (by omega) hp0
    simp only [laws_FnPageApart.l0]
    rw [if_pos (by rw [spanL_len]; omega), if_neg (by omega)]
    by_cases hm : fi + i = ti ∧ 0 < q
    · obtain ⟨k, rfl⟩ : ∃ m, k = m + 1 := ⟨k - 1, by omega⟩
      obtain rfl : d = 0 := by omega
      rw [if_pos rfl] at hih
      simp only [laws_FnPageApart.l1]
      rw [if_pos (by rw [spanL_len]; omega), if_pos (by omega), if_pos (by rw [spanL_len]; omega), if_pos (by omega), spanL_rd a p fi i (by omega), show (0 : Int) = ((0 : Nat) : Int) from rfl, spanL_rd a q ti 0 (by omega), if_pos (by simp; omega),
        show ((0 : Nat) : Int) = 0 from rfl, wrap_id (0 + 1) (by omega) (by omega)]
      refine apart_rest a t p q fi ti M (0 + 1) i (by omega) hp hq (by omega) hfi r (k0 + 2000 * 0) (fun k hk => ?_) (q - 1) 1 (by omega) (.inl (by omega)) k (by omega)
      have := hih k hk
      rw [hc0, if_pos ⟨by omega, hm.2⟩] at this
      exact this
    · by_cases hq0 : 0 < q
      · refine apart_rest a t p q fi ti M 0 i (by omega) hp hq (by omega) hfi r (k0 + 2000 * d) (fun k hk => ?_) q 0 (by omega) (.inr ?_) k (by omega)
        · have := hih k hk
          by_cases hd : d = 0
          · subst hd
            rw [if_pos rfl, hc0, if_neg (by omega)] at this
            exact this
          · rw [if_neg hd] at this
            exact this
        · omega
      · obtain rfl : q = 0 := by omega
        obtain ⟨k, rfl⟩ : ∃ m, k = m + 1 := ⟨k - 1, by omega⟩
        simp only [laws_FnPageApart.l1]
        rw [if_neg (by simp [spanL]), wrap_next (by omega)]
        have := hih k (by omega)
        by_cases hd : d = 0
        · subst hd
          rw [if_pos rfl, hc0, if_neg (by omega)] at this
          exact this
        · rw [if_neg hd] at this
          exact this
theorem FnPageApart : laws_FnPageApart.Pure := by
  intro l0 l1 _ _ hw0 _ _ hw1
  refine ⟨3000000, ?_⟩
  have hbad : laws_FnPageApart.j0 3000000 l0 l1 true = some true := by
    simp only [laws_FnPageApart.j0]
    rw [if_pos trivial]
  unfold laws_FnPageApart.f
  by_cases hb : (l0.length : Int) > 1048576
  · rw [if_pos hb]; exact hbad
  rw [if_neg hb]
  by_cases hb1 : (l1.length : Int) > 1048576
  · rw [decide_eq_true hb1]; exact hbad
  rw [decide_eq_false hb1]
  obtain ⟨a, f, t, hf0, hf1, ht0, ht1, h1⟩ := drawSpan_ev l0 hw0
  have hP := spanP_len a f t
  have hbad1 : ∀ k, 2500 < k → laws_FnPageApart.j1 k l1 a f t (spanP a f t) true = some true := by
    intro k hk
    obtain ⟨k, rfl⟩ : ∃ m, k = m + 1 := ⟨k - 1, by omega⟩
    simp only [laws_FnPageApart.j1]
    rw [if_pos trivial, specSpan_ev a f t _ (by omega), Option.bind_some, wpPages_ev _ _ (by omega) _ (by omega)]
    simp
  simp only [laws_FnPageApart.j0]
  rw [if_neg (by decide), h1 _ (by omega), Option.bind_some]
  dsimp only
  rw [implSpan_ev a f t _ (by omega), Option.bind_some, specSpan_ev a f t _ (by omega), Option.bind_some, wpPages_ev _ _ (by omega) _ (by omega), Option.bind_some, if_pos (by simp)]
  by_cases hz : ((spanP a f t).length : Int) = 0
  · rw [if_pos hz]; exact hbad1 _ (by omega)
  rw [if_neg hz, wrap_id (t + (l1.length : Int)) (by omega) (by omega)]
  by_cases h8 : t + (l1.length : Int) > 8000
  · rw [decide_eq_true h8]; exact hbad1 _ (by omega)
  rw [decide_eq_false h8]
  have hok : spanOk a f t := by
    by_cases h : spanOk a f t
    · exact h
    · exact absurd (by rw [spanP, if_neg h]; rfl) hz
  obtain ⟨a0, a7, f0, ft, t8⟩ := hok
  generalize hr : (l1.length : Int) % 20 = rr
  have hr0 : 0 ≤ rr ∧ rr < 20 ∧ rr ≤ (l1.length : Int) := by omega
  simp only [laws_FnPageApart.j1]
  rw [if_neg (by decide), hr, wrap_id (t + 1) (by omega) (by omega), wrap_id (t + 1 + rr) (by omega) (by omega), wrap_id (t + rr) (by omega) (by omega), implSpan_ev _ _ _ _ (by omega), Option.bind_some, implSpan_ev _ _ _ _ (by omega), Option.bind_some]
  obtain ⟨p, hp, hpe⟩ : ∃ p : Nat, (p : Int) = (t - 1) / 8 - f / 8 + 1 ∧ spanP a f t = spanL a (f / 8) p :=
    ⟨((t - 1) / 8 - f / 8 + 1).toNat, by omega, by rw [spanP, if_pos ⟨a0, a7, f0, ft, t8⟩]⟩
  obtain ⟨q, hq, hqe⟩ : ∃ q : Nat, q ≤ 1001 ∧ spanP a t (t + 1 + rr) = spanL a (t / 8) q := by
    by_cases h : spanOk a t (t + 1 + rr)
    · refine ⟨((t + 1 + rr - 1) / 8 - t / 8 + 1).toNat, ?_, by rw [spanP, if_pos h]⟩
      omega
    · exact ⟨0, by omega, by rw [spanP, if_neg h]; rfl⟩
  obtain ⟨z, hz2, hze⟩ : ∃ z : Nat, p ≤ z ∧ spanP a f (t + rr) = spanL a (f / 8) z :=
    ⟨((t + rr - 1) / 8 - f / 8 + 1).toNat, by omega, by rw [spanP, if_pos ⟨a0, a7, f0, by omega, by omega⟩]⟩
  rw [hpe, hqe, hze]
  have hlast := apart_l0 a t p q (f / 8) (t / 8) (spanL a (f / 8) z) (by omega) hq (by omega) (by omega) _ rfl (some true) 2000 ?_ p 0 (by omega) (by omega) 2999998 (by omega)
  · rw [if_neg (by omega)] at hlast
    exact hlast
  intro k hk
  obtain ⟨k, rfl⟩ : ∃ m, k = m + 1 := ⟨k - 1, by omega⟩
  simp only [laws_FnPageApart.l0]
  have hmod : Int.tmod t 8 = t % 8 := Int.tmod_eq_emod_of_nonneg (by omega)
  rw [spanL_len, spanL_len, spanL_len, if_neg (by omega), hmod, if_pos (by split <;> omega)]
  by_cases hm : t % 8 = 0
  · rw [if_pos hm, if_neg (show ¬ (f / 8 + (p : Int) = t / 8 + 1 ∧ 0 < q) by omega), if_pos (by decide), if_pos (by omega), if_pos (by omega), if_pos (by omega), Int.toNat_natCast, span_take _ _ _ _ hz2, wpPages_ev _ _ (by rw [spanL_len]; omega) _ (by rw [spanL_len]; omega)]
    simp
  · rw [if_neg hm]
    have hc : f / 8 + (p : Int) = t / 8 + 1 := by omega
    rw [if_pos, if_pos (by omega), if_pos (by omega), if_pos (by omega), Int.toNat_natCast, span_take _ _ _ _ hz2, wpPages_ev _ _ (by rw [spanL_len]; omega) _ (by rw [spanL_len]; omega)]
    · simp
    · by_cases hq0 : 0 < q
      · rw [if_pos ⟨hc, hq0⟩, decide_eq_true (show ((q : Nat) : Int) > 0 by omega)]; rfl
      · rw [if_neg (fun h => hq0 h.2), decide_eq_false (show ¬ ((q : Nat) : Int) > 0 by omega)]; rfl

end Go.Proofs.Ytcobbpghipeoeaa.Pure
