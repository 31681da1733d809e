/- Pages cover bytes exactly: what the law FnPageSpan comes to is true at every input. No condition. -/
import Derived.Test.YtcobbpghipeoeaaR16
import Derived.Test.YtcobbpghipeoeaaQP
namespace Go.Proofs.Ytcobbpghipeoeaa.Pure
open Go.RowKit Go.Proofs.Ytcobbpghipeoeaa.R Go.Proofs.YtcobbpghipeoeaaV.PrintWords Go.Proofs.YtcobbpghipeoeaaV.PrintLast

theorem span_loop (a f t : Int) (h : spanOk a f t) (n : Nat) (hn : f / 8 + n = (t - 1) / 8 + 1) (hn1 : 1 ≤ n) : ∀ (d j : Nat), j + d = n → ∀ k, d < k → laws_FnPageSpan.l0 k a f t (spanL a (f / 8) n) (j : Int) = some true := by
  obtain ⟨a0, a1, f0, ft, t0⟩ := h
  intro d
  induction d with
  | zero =>
    intro j hj k hk
    obtain ⟨k, rfl⟩ : ∃ m, k = m + 1 := ⟨k - 1, by omega⟩
    have hl : ((spanL a (f / 8) n).length : Int) = n := by rw [spanL_len]
    have hw : wrap64 (((spanL a (f / 8) n).length : Int) - 1) = ((n - 1 : Nat) : Int) := by rw [hl, wrap_id _ (by omega) (by omega)]; omega
    have ht : wrap64 (Int.tdiv (wrap64 (t - 1)) 8) = (t - 1) / 8 := by
      rw [wrap_id (t - 1) (by omega) (by omega), Int.tdiv_eq_ediv_of_nonneg (by omega)]
      exact wrap_id _ (by omega) (by omega)
    simp only [laws_FnPageSpan.l0]
    rw [hw, ht, if_neg (by omega), if_pos (by omega), if_pos (by omega), spanL_rd _ _ _ _ (by omega)]
    simp only [Option.some.injEq, beq_iff_eq]
    omega
  | succ d ih =>
    intro j hj k hk
    obtain ⟨k, rfl⟩ : ∃ m, k = m + 1 := ⟨k - 1, by omega⟩
    have hl : ((spanL a (f / 8) n).length : Int) = n := by rw [spanL_len]
    have hf : wrap64 (wrap64 (Int.tdiv f 8) + (j : Int)) = f / 8 + j := by
      rw [Int.tdiv_eq_ediv_of_nonneg (by omega), wrap_id (f / 8) (by omega) (by omega)]
      exact wrap_id _ (by omega) (by omega)
    simp only [laws_FnPageSpan.l0]
    rw [hf, if_pos (by omega), if_pos (by omega), spanL_rd _ _ _ _ (by omega), if_pos rfl, if_pos rfl, pageOk_tells, Option.bind_some, if_pos (by unfold okPage; simp; omega), wrap_next (by omega)]
    exact ih (j + 1) (by omega) k (by omega)
theorem FnPageSpan : laws_FnPageSpan.Pure := by
  intro l _ _ hw
  obtain ⟨a, f, t, b1, b2, b3, b4, h1⟩ := drawSpan_ev l hw
  obtain ⟨p, q, h2⟩ := drawPage_ev l hw
  have hl := spanP_len a f t
  refine ⟨3000, ?_⟩
  unfold laws_FnPageSpan.f
  by_cases hb : (l.length : Int) > 1048576
  · rw [if_pos hb]
  rw [if_neg hb, h1 _ (by omega), Option.bind_some, h2 _ (by omega), Option.bind_some]
  simp only
  rw [implSpan_ev a f t _ (by omega), Option.bind_some, specSpan_ev a f t _ (by omega), Option.bind_some, wpPages_ev _ _ (by omega) _ (by omega), Option.bind_some, if_pos (by simp), pageOk_tells, Option.bind_some, specPage_tells, Option.bind_some, bne_self_eq_false]
  simp only [laws_FnPageSpan.j0, laws_FnPageSpan.j1, impl_LabelOk.f]
  by_cases h : spanOk a f t
  · have hs : spanP a f t = spanL a (f / 8) ((t - 1) / 8 - f / 8 + 1).toNat := if_pos h
    rw [hs]
    have h' := h
    obtain ⟨a0, a1, f0, ft, t0⟩ := h'
    have := span_loop a f t h ((t - 1) / 8 - f / 8 + 1).toNat (by omega) (by omega) ((t - 1) / 8 - f / 8 + 1).toNat 0 (by omega) 2998 (by omega)
    rw [Int.natCast_zero] at this
    simp [a0, a1, show ¬ f < 0 from by omega, show ¬ t ≤ f from by omega, show ¬ t > 8000 from by omega, this]
  · have hs : spanP a f t = [] := if_neg h
    rw [hs]
    by_cases a0 : 0 ≤ a
    · by_cases a1 : a ≤ 7
      · by_cases f0 : f < 0
        · simp [a0, a1, f0]
        · by_cases ft : t ≤ f
          · simp [a0, a1, f0, ft]
          · by_cases t0 : t > 8000
            · simp [a0, a1, f0, ft, t0]
            · exact absurd ⟨a0, a1, by omega, by omega, by omega⟩ h
      · simp [a0, a1]
    · simp [a0]

end Go.Proofs.Ytcobbpghipeoeaa.Pure
