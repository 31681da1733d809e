/- More room never misses more: what the law FnPoolMore comes to is true at every input. No condition. -/
import Derived.Test.YtcobbpghipeoeaaR28
import Derived.Test.YtcobbpghipeoeaaQD
import Derived.Test.YtcobbpghipeoeaaQL
namespace Go.Proofs.Ytcobbpghipeoeaa.Pure
set_option linter.unusedVariables false
open Go.RowKit Go.Proofs.Ytcobbpghipeoeaa.R Go.Proofs.YtcobbpghipeoeaaV.PrintWords Go.Proofs.YtcobbpghipeoeaaV.PrintLast

theorem more_miss (a b : Int) (ha : 0 ≤ a) (hab : a ≤ b) (ps : List S25) : (allA b [] ps).2 ≤ (allA a [] ps).2 := by
  induction ps using snoc_ind with
  | h0 => exact Int.le_refl _
  | h1 ps p ih =>
    rw [allA_snoc, allA_snoc]
    have h1 := allA_once a ps [] List.nodup_nil (by simp)
    have h2 := allA_once b ps [] List.nodup_nil (by simp)
    rw [List.append_nil] at h1 h2
    unfold stepA
    rw [h1, h2]
    simp only
    cases e : hasP ((onceL ps.reverse).take a.toNat) p with
    | true =>
      have h3 : hasP ((onceL ps.reverse).take b.toNat) p = true := by
        rw [hasP_iff] at e ⊢
        have := List.take_subset_take_left (onceL ps.reverse) (show a.toNat ≤ b.toNat by omega)
        exact this e
      rw [h3]
      simpa using ih
    | false =>
      simp only [Bool.false_eq_true, if_false]
      split <;> omega
theorem FnPoolMore : laws_FnPoolMore.Pure := by
  intro l0 l1 _ _ hw0 _ _ hw1
  refine ⟨1000, ?_⟩
  have hbad : laws_FnPoolMore.j0 1000 l0 l1 true = some true := by
    simp only [laws_FnPoolMore.j0]
    rw [if_pos trivial]
  unfold laws_FnPoolMore.f
  by_cases hb : (l0.length : Int) > 1048576
  · rw [if_pos hb]; exact hbad
  rw [if_neg hb]
  by_cases hb1 : (l1.length : Int) > 1048576
  · rw [decide_eq_true hb1]; exact hbad
  rw [decide_eq_false hb1]
  obtain ⟨s, m, ps, hm, hps, h1⟩ := drawAll_ev l0 hw0
  simp only [laws_FnPoolMore.j0]
  rw [if_neg (by decide), h1 _ (by omega), Option.bind_some]
  simp only
  generalize ha : (l1.length : Int) % 6 = a
  generalize hb2 : a + 1 + (l0.length : Int) % 3 = b
  have ha0 : 0 ≤ a ∧ a < 6 := by omega
  have hab : a < b ∧ b ≤ 8 := by omega
  have hok : ∀ c : Int, 0 ≤ c → c ≤ 12 → poolOkB c [] = true := fun c h0 h12 => by rw [poolOk_iff]; exact ⟨h0, h12, by simpa using h0, by simp, List.nodup_nil⟩
  have hA : ∀ c : Int, 0 ≤ c → c ≤ 12 → impl_PoolAll.f c [] ps = if ps.all okPage = true then some (c, (allA c [] ps).1, (allA c [] ps).2) else some (0, [], 0) := fun c h0 h12 => by
    unfold impl_PoolAll.f
    rw [if_pos (show ps.length ≤ 1099511627776 by omega), hok c h0 h12, Bool.true_and]
  rw [specPoolAll_ev a [] ps (by omega) _ (by omega), hA a (by omega) (by omega), hA b (by omega) (by omega)]
  cases hall : ps.all okPage with
  | false =>
    simp only [Bool.false_eq_true, if_false, Option.bind_some]
    rw [if_pos trivial, implSame_ev _ _ _ _ (by simp) _ (by simp), Option.bind_some, if_pos (by simp), if_neg (by omega), if_neg (by simp), if_pos (by simp), if_pos (by simp), wpPages_ev _ _ (by simp) _ (by simp)]
    simp
  | true =>
    have hl1 := allA_once a ps [] List.nodup_nil (by simp)
    have hl2 := allA_once b ps [] List.nodup_nil (by simp)
    rw [List.append_nil] at hl1 hl2
    have hmm := more_miss a b (by omega) (by omega) ps
    have hlen1 : (allA a [] ps).1.length ≤ 8 := by rw [hl1, List.length_take]; omega
    have hlen : (allA a [] ps).1.length ≤ (allA b [] ps).1.length := by rw [hl1, hl2, List.length_take, List.length_take]; omega
    have hpre : (allA b [] ps).1.take (allA a [] ps).1.length = (allA a [] ps).1 := by
      rw [hl1, hl2, List.take_take, List.length_take]
      by_cases h : a.toNat ≤ (onceL ps.reverse).length
      · congr 1; omega
      · rw [List.take_of_length_le (l := onceL ps.reverse) (by omega), List.take_of_length_le (by omega)]
    simp only [if_true, Option.bind_some]
    rw [implSame_ev _ _ _ _ (by omega) _ (by omega), Option.bind_some, if_pos (by simp), if_neg (by omega), if_neg (by omega), if_pos (by omega), if_pos (by omega), Int.toNat_natCast, hpre, wpPages_ev _ _ (by omega) _ (by omega)]
    simp

end Go.Proofs.Ytcobbpghipeoeaa.Pure
