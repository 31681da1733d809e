/- A pool without room keeps nothing: what the law FnPoolNone comes to is true at every input. No condition. -/
import Derived.Test.YtcobbpghipeoeaaR23
import Derived.Test.YtcobbpghipeoeaaQD
import Derived.Test.YtcobbpghipeoeaaQL
namespace Go.Proofs.Ytcobbpghipeoeaa.Pure
set_option linter.unusedVariables false
open Go.RowKit Go.Proofs.Ytcobbpghipeoeaa.R Go.Proofs.YtcobbpghipeoeaaV.PrintWords Go.Proofs.YtcobbpghipeoeaaV.PrintLast

theorem allA_zero (ps : List S25) : allA 0 [] ps = ([], (ps.length : Int)) := by
  induction ps using snoc_ind with
  | h0 => rfl
  | h1 ps p ih =>
    rw [allA_snoc, ih]
    unfold stepA
    simp [hasP, useL]
theorem allA_size (s : Int) (ps : List S25) : (((allA s [] ps).1.length : Nat) : Int) ≤ (allA s [] ps).2 := by
  induction ps using snoc_ind with
  | h0 => simp [allA]
  | h1 ps p ih =>
    have hn := nodup_allA s [] ps List.nodup_nil
    have hl := accP_len (allA s [] ps).1 p hn
    rw [allA_snoc]
    unfold stepA useL
    simp only [List.length_take]
    split
    · rename_i h
      rw [if_pos h] at hl
      omega
    · rename_i h
      rw [if_neg h] at hl
      omega
theorem allA_first (ps : List S25) : (allA 12 [] ps).2 > 0 ↔ (ps.length : Int) > 0 := by
  have h := allA_size 12 ps
  have h2 := allA_nonneg 12 [] ps
  have h3 : 0 < ps.length → 0 < (allA 12 [] ps).1.length := by
    intro hp
    have := allA_once 12 ps [] List.nodup_nil (by simp)
    rw [this, List.length_take]
    have : 0 < (onceL (ps.reverse ++ [])).length := by
      obtain ⟨p, hp2⟩ := List.exists_mem_of_length_pos hp
      exact List.length_pos_of_mem ((mem_once _ p).2 (by simpa using hp2))
    have : (12 : Int).toNat = 12 := rfl
    omega
  omega
theorem none_loop (ps : List S25) (hps : ps.length ≤ 30) (n s : Int) (l : List S25) (h : impl_PoolAll.f 0 [] ps = some (s, l, n)) : ∀ (d j : Nat), j + d = ps.length → (∀ x ∈ ps.take j, okPage x = true) → ∀ k, 100 + d < k → laws_FnPoolNone.l0 k ps n (j : Int) s l = some true := by
  have hok : ∀ c : Int, 0 ≤ c → c ≤ 12 → poolOkB c [] = true := fun c h0 h12 => by rw [poolOk_iff]; exact ⟨h0, h12, by simpa using h0, by simp, List.nodup_nil⟩
  unfold impl_PoolAll.f at h
  rw [if_pos (by omega), hok 0 (by omega) (by omega), Bool.true_and, allA_zero] at h
  intro d
  induction d with
  | zero =>
    intro j hj hall k hk
    obtain ⟨k, rfl⟩ : ∃ m, k = m + 1 := ⟨k - 1, by omega⟩
    rw [List.take_of_length_le (by omega)] at hall
    have ha : ps.all okPage = true := List.all_eq_true.2 hall
    rw [ha, if_pos rfl] at h
    simp only [Option.some.injEq, Prod.mk.injEq] at h
    obtain ⟨rfl, rfl, rfl⟩ := h
    simp only [laws_FnPoolNone.l0]
    unfold impl_PoolAll.f
    rw [if_neg (by omega), if_pos (by omega), hok 12 (by omega) (by omega), ha, if_pos (by decide), Option.bind_some, if_pos trivial, if_pos (by simp)]
    have h1 := allA_first ps
    have h2 := allA_nonneg 12 [] ps
    have h3 := allA_size 12 ps
    simp only
    rw [if_pos h2.2, if_pos (by rw [beq_iff_eq, Bool.eq_iff_iff, decide_eq_true_eq, decide_eq_true_eq]; exact h1), decide_eq_true h3]
  | succ d ih =>
    intro j hj hall k hk
    obtain ⟨k, rfl⟩ : ∃ m, k = m + 1 := ⟨k - 1, by omega⟩
    simp only [laws_FnPoolNone.l0]
    rw [if_pos (by omega), if_pos (by omega), rd_get ps j (by omega), pageOk_tells, Option.bind_some]
    cases hq : okPage ps[j] with
    | true =>
      rw [if_pos rfl, wrap_next (by omega)]
      refine ih (j + 1) (by omega) ?_ k (by omega)
      rw [take_snoc' ps j (by omega), rd_get ps j (by omega)]
      intro x hx
      rcases List.mem_append.1 hx with hx | hx
      · exact hall x hx
      · rw [List.mem_singleton.1 hx]; exact hq
    | false =>
      have ha : ps.all okPage = false := by
        rw [Bool.eq_false_iff]
        intro e
        rw [List.all_eq_true.1 e _ (List.getElem_mem (show j < ps.length by omega))] at hq
        exact absurd hq (by decide)
      rw [ha, if_neg (by decide)] at h
      simp only [Option.some.injEq, Prod.mk.injEq] at h
      obtain ⟨rfl, rfl, rfl⟩ := h
      rw [if_neg (by decide), if_pos rfl]
      simp
theorem FnPoolNone : laws_FnPoolNone.Pure := by
  intro l _ _ hw
  obtain ⟨s0, m, ps, hm, hps, h1⟩ := drawAll_ev l hw
  refine ⟨1000, ?_⟩
  unfold laws_FnPoolNone.f
  by_cases hb : (l.length : Int) > 1048576
  · rw [if_pos hb]
  rw [if_neg hb, h1 _ (by omega), Option.bind_some]
  simp only
  obtain ⟨r1, r2, r3, hr, hr2⟩ : ∃ r1 r2 r3, impl_PoolAll.f 0 [] ps = some (r1, r2, r3) ∧ r2.length ≤ 24 := by
    unfold impl_PoolAll.f
    rw [if_pos (by omega)]
    split
    · rename_i h
      rw [Bool.and_eq_true] at h
      have := poolOk_small (poolOk_all h.1 h.2)
      exact ⟨_, _, _, rfl, by omega⟩
    · exact ⟨_, _, _, rfl, by simp⟩
  rw [specPoolAll_ev 0 [] ps (by omega) _ (by omega), hr, Option.bind_some, Option.bind_some, if_pos rfl, implSame_ev r1 r1 r2 r2 (by omega) _ (by omega), Option.bind_some]
  dsimp only
  simp only [laws_FnPoolNone.j0]
  rw [if_neg (by simp)]
  exact none_loop ps (by omega) r3 r1 r2 hr ps.length 0 (by omega) (by simp) _ (by omega)

end Go.Proofs.Ytcobbpghipeoeaa.Pure
