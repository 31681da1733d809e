/- Uses can be cut anywhere: what the law FnPoolAll comes to is true at every input. No condition. -/
import Derived.Test.YtcobbpghipeoeaaH22
import Derived.Test.YtcobbpghipeoeaaQD
import Derived.Test.YtcobbpghipeoeaaQL
namespace Go.Proofs.Ytcobbpghipeoeaa.Pure
set_option linter.unusedVariables false
open Go.RowKit Go.Proofs.Ytcobbpghipeoeaa.R Go.Proofs.YtcobbpghipeoeaaV.PrintWords Go.Proofs.YtcobbpghipeoeaaV.PrintLast

theorem all_any (x : List S25) (p : S25) (i : Nat) (h : i < x.length) : hasP (x.take (i + 1)) p = (hasP (x.take i) p || isP x[i] p) := by
  rw [take_snoc' x i h, rd_get x i h]
  unfold hasP
  rw [List.any_append]
  simp
theorem hasP_append (a b : List S25) (p : S25) : hasP (a ++ b) p = (hasP a p || hasP b p) := by unfold hasP; rw [List.any_append]
/-- How many pages are new, in no pool and not used ahead. -/
def freshN (ps m : List S25) : Nat → Nat
  | 0 => 0
  | j + 1 => freshN ps m j + if (hasP (ps.take j) (rd_T25 ps (j : Int)) || hasP m (rd_T25 ps (j : Int))) = true then 0 else 1
theorem fresh_le (ps m : List S25) : ∀ j, freshN ps m j ≤ j
  | 0 => Nat.le_refl _
  | j + 1 => by have := fresh_le ps m j; unfold freshN; split <;> omega
theorem fresh_miss (s : Int) (ps m : List S25) : ∀ j, j ≤ ps.length → (freshN ps m j : Int) ≤ (allA s m (ps.take j)).2
  | 0, _ => by simp [freshN, allA]
  | j + 1, h => by
    have ih := fresh_miss s ps m j (by omega)
    rw [take_snoc' ps j (by omega), allA_snoc]
    unfold freshN stepA
    simp only
    by_cases hc : (hasP (ps.take j) (rd_T25 ps (j : Int)) || hasP m (rd_T25 ps (j : Int))) = true
    · rw [if_pos hc]
      split <;> omega
    · rw [if_neg hc]
      have hno : hasP (allA s m (ps.take j)).1 (rd_T25 ps (j : Int)) = false := by
        rw [Bool.eq_false_iff]
        intro e
        rw [hasP_iff] at e
        apply hc
        rcases allA_mem s m (ps.take j) _ e with h | h
        · rw [(hasP_iff m _).2 h, Bool.or_true]
        · rw [(hasP_iff _ _).2 h, Bool.true_or]
      rw [hno, if_neg (by decide)]
      omega
section
variable (ps m : List S25) (s n a1 a2 : Int) (l1 : List S25) (s1 : Int) (s2 : Int) (z : List S25) (hps : ps.length ≤ 30) (hm : m.length ≤ 30)
theorem all_l2 (j : Nat) (hj : j < ps.length) (f : Nat) (hf : f ≤ 100) (hps : ps.length ≤ 30) (hm : m.length ≤ 30) (r : Option Bool) (k0 : Nat) (b0 : Bool)
    (hend : ∀ k, k0 < k → laws_FnPoolAll.l0 k ps n a1 a2 ((f + (if (b0 || hasP m ps[j]) = true then 0 else 1) : Nat) : Int) ((j + 1 : Nat) : Int) s m s1 l1 s2 z = r) : ∀ (d i : Nat), i + d = m.length → ∀ k, k0 + d + 1 < k →
    laws_FnPoolAll.l2 k ps n a1 a2 (f : Int) (j : Int) (b0 || hasP (m.take i) ps[j]) (i : Int) s m s1 l1 s2 z = r := by
  intro d
  induction d with
  | zero =>
    intro i hi k hk
    obtain ⟨k, rfl⟩ : ∃ m, k = m + 1 := ⟨k - 1, by omega⟩
    obtain rfl : i = m.length := by omega
    have := hend k (by omega)
    simp only [laws_FnPoolAll.l2]
    rw [if_neg (by omega), List.take_length, wrap_next (by omega)]
    split
    · rename_i h
      rw [if_pos h] at this
      exact this
    · rename_i h
      rw [if_neg h] at this
      rw [wrap_next (by omega)]
      exact this
  | succ d ih =>
    intro i hi k hk
    obtain ⟨k, rfl⟩ : ∃ m, k = m + 1 := ⟨k - 1, by omega⟩
    have hih := ih (i + 1) (by omega) k (by omega)
    rw [all_any m _ i (by omega), ← Bool.or_assoc] at hih
    simp only [laws_FnPoolAll.l2]
    rw [if_pos (by omega), wrap_next (by omega)]
    cases h : (b0 || hasP (m.take i) ps[j]) with
    | true =>
      rw [h, Bool.true_or] at hih
      rw [if_pos rfl]
      exact hih
    | false =>
      rw [h, Bool.false_or] at hih
      rw [if_neg (by decide), if_pos (by omega), if_pos (by omega), if_pos (by omega), rd_get m i (by omega), rd_get ps j hj]
      exact hih
theorem all_l1 (j : Nat) (hj : j < ps.length) (f : Nat) (hf : f ≤ 100) (hps : ps.length ≤ 30) (hm : m.length ≤ 30) (r : Option Bool) (k0 : Nat)
    (hend : ∀ k, k0 < k → laws_FnPoolAll.l0 k ps n a1 a2 ((f + (if (hasP (ps.take j) ps[j] || hasP m ps[j]) = true then 0 else 1) : Nat) : Int) ((j + 1 : Nat) : Int) s m s1 l1 s2 z = r) : ∀ (d i : Nat), i + d = j → ∀ k, k0 + d + 40 < k →
    laws_FnPoolAll.l1 k ps n a1 a2 (f : Int) (j : Int) (hasP (ps.take i) ps[j]) (i : Int) s m s1 l1 s2 z = r := by
  intro d
  induction d with
  | zero =>
    intro i hi k hk
    obtain ⟨k, rfl⟩ : ∃ m, k = m + 1 := ⟨k - 1, by omega⟩
    obtain rfl : i = j := by omega
    simp only [laws_FnPoolAll.l1]
    rw [if_neg (by omega)]
    have := all_l2 ps m s n a1 a2 l1 s1 s2 z i hj f hf hps hm r k0 (hasP (ps.take i) ps[i]) hend m.length 0 (by omega) k (by omega)
    simpa [hasP] using this
  | succ d ih =>
    intro i hi k hk
    obtain ⟨k, rfl⟩ : ∃ m, k = m + 1 := ⟨k - 1, by omega⟩
    have hih := ih (i + 1) (by omega) k (by omega)
    rw [all_any ps _ i (by omega)] at hih
    simp only [laws_FnPoolAll.l1]
    rw [if_pos (by omega), wrap_next (by omega)]
    cases h : hasP (ps.take i) ps[j] with
    | true =>
      rw [h, Bool.true_or] at hih
      rw [if_pos rfl]
      exact hih
    | false =>
      rw [h, Bool.false_or] at hih
      rw [if_neg (by decide), if_pos (by omega), if_pos (by omega), if_pos (by omega), if_pos (by omega), rd_get ps i (by omega), rd_get ps j hj]
      exact hih
theorem all_l0 (hps : ps.length ≤ 30) (hm : m.length ≤ 30) (r : Option Bool) (k0 : Nat)
    (hend : ∀ k, k0 < k → laws_FnPoolAll.l0 k ps n a1 a2 (freshN ps m ps.length : Int) (ps.length : Int) s m s1 l1 s2 z = r) : ∀ (d j : Nat), j + d = ps.length → ∀ k, k0 + 100 * d < k →
    laws_FnPoolAll.l0 k ps n a1 a2 (freshN ps m j : Int) (j : Int) s m s1 l1 s2 z = r := by
  intro d
  induction d with
  | zero =>
    intro j hj k hk
    obtain rfl : j = ps.length := by omega
    exact hend k (by omega)
  | succ d ih =>
    intro j hj k hk
    obtain ⟨k, rfl⟩ : ∃ m, k = m + 1 := ⟨k - 1, by omega⟩
    have hfl := fresh_le ps m j
    simp only [laws_FnPoolAll.l0]
    rw [if_pos (by omega)]
    have := all_l1 ps m s n a1 a2 l1 s1 s2 z j (by omega) (freshN ps m j) (by omega) hps hm r (k0 + 100 * d) (fun k hk => ?_) j 0 (by omega) k (by omega)
    · simpa [hasP] using this
    · have := ih (j + 1) (by omega) k hk
      unfold freshN at this
      rw [rd_get ps j (by omega)] at this
      exact this
end
theorem FnPoolAll : laws_FnPoolAll.Pure := by
  intro l0 l1 _ _ hw0 _ _ hw1
  refine ⟨10000, ?_⟩
  have hbad : laws_FnPoolAll.j0 10000 l0 l1 true = some true := by
    simp only [laws_FnPoolAll.j0]
    rw [if_pos trivial]
  unfold laws_FnPoolAll.f
  by_cases hb : (l0.length : Int) > 1048576
  · rw [if_pos hb]; exact hbad
  rw [if_neg hb]
  by_cases hb1 : (l1.length : Int) > 1048576
  · rw [decide_eq_true hb1]; exact hbad
  rw [decide_eq_false hb1]
  obtain ⟨s, m, ps, hm, hps, h1⟩ := drawAll_ev l0 hw0
  simp only [laws_FnPoolAll.j0]
  rw [if_neg (by decide), h1 _ (by omega), Option.bind_some]
  simp only
  obtain ⟨r1, r2, r3, hr, hr2⟩ : ∃ r1 r2 r3, impl_PoolAll.f s m ps = some (r1, r2, r3) ∧ r2.length ≤ 24 := by
    unfold impl_PoolAll.f
    rw [if_pos (by omega)]
    split
    · rename_i h
      rw [Bool.and_eq_true] at h
      have := poolOk_small (poolOk_all h.1 h.2)
      exact ⟨_, _, _, rfl, by omega⟩
    · exact ⟨_, _, _, rfl, by simp⟩
  rw [specPoolAll_ev s m ps (by omega) _ (by omega), hr, Option.bind_some, Option.bind_some]
  dsimp only
  rw [if_pos rfl, implSame_ev r1 r1 r2 r2 (by omega) _ (by omega), Option.bind_some, if_pos (by simp), specPoolOk_ev s m _ (by omega), Option.bind_some]
  have hbad2 : ∀ k, 50 < k → laws_FnPoolAll.j1 k l1 ps r3 r3 true s m r1 r2 r1 r2 = some true := by
    intro k hk
    obtain ⟨k, rfl⟩ : ∃ m, k = m + 1 := ⟨k - 1, by omega⟩
    simp only [laws_FnPoolAll.j1]
    rw [if_pos trivial, if_pos trivial, implSame_ev _ _ _ _ (by omega) _ (by omega)]
    simp
  cases hp : poolOkB s m with
  | false => rw [if_neg (by decide)]; exact hbad2 _ (by omega)
  | true =>
    rw [if_pos rfl]
    have hgood : ∀ k, 5000 < k → (r2.length ≠ 0 ∨ r1 ≠ 0) → laws_FnPoolAll.j1 k l1 ps r3 r3 false s m r1 r2 r1 r2 = some true := by
      intro k hk hne
      obtain ⟨k, rfl⟩ : ∃ m, k = m + 1 := ⟨k - 1, by omega⟩
      have hS := (poolOk_iff s m).1 hp
      unfold impl_PoolAll.f at hr
      rw [if_pos (by omega), hp, Bool.true_and] at hr
      cases hall : ps.all okPage with
      | false =>
        rw [hall, if_neg (by decide)] at hr
        simp only [Option.some.injEq, Prod.mk.injEq] at hr
        obtain ⟨rfl, rfl, rfl⟩ := hr
        simp at hne
      | true =>
        rw [hall, if_pos rfl] at hr
        simp only [Option.some.injEq, Prod.mk.injEq] at hr
        obtain ⟨e1, e2, e3⟩ := hr
        subst e1; subst e2; subst e3
        simp only [laws_FnPoolAll.j1]
        rw [if_neg (by decide), wrap_next (by omega), if_neg (by omega)]
        generalize hc : (l1.length : Int) % ((ps.length + 1 : Nat) : Int) = c
        have hc0 : 0 ≤ c ∧ c ≤ (ps.length : Int) := by
          have := Int.emod_nonneg (l1.length : Int) (show ((ps.length + 1 : Nat) : Int) ≠ 0 by omega)
          have := Int.emod_lt_of_pos (l1.length : Int) (show 0 < ((ps.length + 1 : Nat) : Int) by omega)
          omega
        have hpt : (ps.take c.toNat).all okPage = true := List.all_eq_true.2 fun x hx => List.all_eq_true.1 hall x (List.mem_of_mem_take hx)
        have hpd : (ps.drop c.toNat).all okPage = true := List.all_eq_true.2 fun x hx => List.all_eq_true.1 hall x (List.mem_of_mem_drop hx)
        have hoka := poolOk_all hp hpt
        have happ := allA_append s m (ps.take c.toNat) (ps.drop c.toNat)
        rw [List.take_append_drop] at happ
        have ha : impl_PoolAll.f s m (ps.take c.toNat) = some (s, (allA s m (ps.take c.toNat)).1, (allA s m (ps.take c.toNat)).2) := by
          unfold impl_PoolAll.f
          rw [if_pos (by rw [List.length_take]; omega), hp, hpt, if_pos (by decide)]
        have hb : impl_PoolAll.f s (allA s m (ps.take c.toNat)).1 (ps.drop c.toNat) = some (s, (allA s m ps).1, (allA s (allA s m (ps.take c.toNat)).1 (ps.drop c.toNat)).2) := by
          unfold impl_PoolAll.f
          rw [if_pos (by rw [List.length_drop]; omega), hoka, hpd, if_pos (by decide), happ]
        rw [if_pos hc0.1, if_pos hc0.2, ha, Option.bind_some]
        dsimp only
        rw [hb, Option.bind_some]
        dsimp only
        have h0 : (freshN ps m 0 : Int) = 0 := rfl
        have n1 := allA_nonneg s m (ps.take c.toNat)
        have n2 := allA_nonneg s (allA s m (ps.take c.toNat)).1 (ps.drop c.toNat)
        have n3 := allA_nonneg s m ps
        have hfm := fresh_miss s ps m ps.length (Nat.le_refl _)
        rw [List.take_length] at hfm
        rw [List.length_take] at n1
        rw [List.length_drop] at n2
        have := all_l0 ps m s (allA s m ps).2 (allA s m (ps.take c.toNat)).2 (allA s (allA s m (ps.take c.toNat)).1 (ps.drop c.toNat)).2 (allA s m ps).1 s s (allA s m ps).1 (by omega) (by omega) (some true) 100 (fun k hk => ?_) ps.length 0 (by omega) k (by omega)
        · rw [h0] at this
          exact this
        · obtain ⟨k, rfl⟩ : ∃ m, k = m + 1 := ⟨k - 1, by omega⟩
          have hsum : (allA s m (ps.take c.toNat)).2 + (allA s (allA s m (ps.take c.toNat)).1 (ps.drop c.toNat)).2 = (allA s m ps).2 := by rw [happ]
          simp only [laws_FnPoolAll.l0]
          rw [if_neg (by omega), poolOk_ev _ _ _ (by omega), poolOk_all hp hall, Option.bind_some, if_pos rfl, implSame_ev _ _ _ _ (by omega) _ (by omega), Option.bind_some, if_pos (by simp), wrap_id _ (by omega) (by omega), hsum, if_pos rfl, if_pos hfm, decide_eq_true n3.2]
    by_cases hz : (r2.length : Int) = 0
    · rw [if_pos hz]
      cases h0 : (r1 == 0) with
      | true => exact hbad2 _ (by omega)
      | false => exact hgood _ (by omega) (.inr (by simpa using h0))
    · rw [if_neg hz]
      exact hgood _ (by omega) (.inl (by omega))

end Go.Proofs.Ytcobbpghipeoeaa.Pure
