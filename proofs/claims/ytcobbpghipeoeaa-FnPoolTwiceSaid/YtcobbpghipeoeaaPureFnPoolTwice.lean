/- Pages used again are all hits: what the law FnPoolTwice comes to is true at every input. No condition. -/
import Derived.Test.YtcobbpghipeoeaaR25
import Derived.Test.YtcobbpghipeoeaaQD
import Derived.Test.YtcobbpghipeoeaaQL
namespace Go.Proofs.Ytcobbpghipeoeaa.Pure
set_option linter.unusedVariables false
open Go.RowKit Go.Proofs.Ytcobbpghipeoeaa.R Go.Proofs.YtcobbpghipeoeaaV.PrintWords Go.Proofs.YtcobbpghipeoeaaV.PrintLast

theorem twice_any (x : List S25) (p : S25) (i : Nat) (h : i < x.length) : hasP (x.take (i + 1)) p = (hasP (x.take i) p || isP x[i] p) := by
  rw [take_snoc' x i h, rd_get x i h]
  unfold hasP
  rw [List.any_append]
  simp
theorem twice_l1 (ps : List S25) (n s : Int) (m : List S25) (t : Int) (l : List S25) (hps : ps.length ≤ 30) (j : Nat) (hj : j < ps.length) (r : Option Bool) (k0 : Nat) (hn : n = ((onceL (ps.take j)).length : Int))
    (hnl : (onceL (ps.take j)).length ≤ j)
    (hend : ∀ k, k0 < k → laws_FnPoolTwice.l0 k ps ((onceL (ps.take (j + 1))).length : Int) ((j + 1 : Nat) : Int) s m t l = r) : ∀ (d i : Nat), i + d = j → ∀ k, k0 + d + 1 < k → laws_FnPoolTwice.l1 k ps n (j : Int) (hasP (ps.take i) ps[j]) (i : Int) s m t l = r := by
  intro d
  induction d with
  | zero =>
    intro i hi k hk
    obtain ⟨k, rfl⟩ : ∃ m, k = m + 1 := ⟨k - 1, by omega⟩
    obtain rfl : i = j := by omega
    have := hend k (by omega)
    rw [take_snoc' ps i (by omega), rd_get ps i hj, once_snoc] at this
    unfold putD at this
    rw [hasP_mem (onceL (ps.take i)) (ps.take i) ps[i] (mem_once _ _)] at this
    simp only [laws_FnPoolTwice.l1]
    rw [if_neg (by omega), wrap_next (by omega)]
    split
    · rename_i h
      rw [if_pos h] at this
      rw [hn]
      exact this
    · rename_i h
      rw [if_neg h] at this
      rw [hn, wrap_next (by omega)]
      simpa using this
  | succ d ih =>
    intro i hi k hk
    obtain ⟨k, rfl⟩ : ∃ m, k = m + 1 := ⟨k - 1, by omega⟩
    have hih := ih (i + 1) (by omega) k (by omega)
    rw [twice_any ps _ i (by omega)] at hih
    simp only [laws_FnPoolTwice.l1]
    rw [if_pos (by omega), wrap_next (by omega)]
    cases h : hasP (ps.take i) ps[j] with
    | true =>
      rw [h] at hih
      rw [if_pos rfl]
      simpa using hih
    | false =>
      rw [h] at hih
      rw [if_neg (by decide), if_pos (by omega), if_pos (by omega), if_pos (by omega), if_pos (by omega), rd_get ps i (by omega), rd_get ps j hj]
      simpa [isP] using hih
theorem once_len (ps : List S25) : (onceL ps).length ≤ ps.length := sub_len _ _ (nodup_once _) fun x hx => (mem_once _ _).1 hx
theorem twice_l0 (ps : List S25) (s : Int) (m : List S25) (t : Int) (l : List S25) (hps : ps.length ≤ 30) (r : Option Bool) (k0 : Nat)
    (hend : ∀ k, k0 < k → laws_FnPoolTwice.l0 k ps ((onceL ps).length : Int) (ps.length : Int) s m t l = r) : ∀ (d j : Nat), j + d = ps.length → ∀ k, k0 + 100 * d < k → laws_FnPoolTwice.l0 k ps ((onceL (ps.take j)).length : Int) (j : Int) s m t l = r := by
  intro d
  induction d with
  | zero =>
    intro j hj k hk
    obtain rfl : j = ps.length := by omega
    rw [List.take_length]
    exact hend k (by omega)
  | succ d ih =>
    intro j hj k hk
    obtain ⟨k, rfl⟩ : ∃ m, k = m + 1 := ⟨k - 1, by omega⟩
    have hl := once_len (ps.take j)
    rw [List.length_take] at hl
    simp only [laws_FnPoolTwice.l0]
    rw [if_pos (by omega)]
    have := twice_l1 ps _ s m t l hps j (by omega) r (k0 + 100 * d) rfl (by omega) (fun k hk => ih (j + 1) (by omega) k hk) j 0 (by omega) k (by omega)
    simpa [hasP] using this
/-- The second row of uses finds all its pages, and leaves the pool as it was. -/
theorem again (s : Int) (ps m : List S25) (hm : m.Nodup) (hml : m.length ≤ s.toNat) (h : (onceL ps).length ≤ s.toNat) :
    allA s (allA s m ps).1 ps = ((allA s m ps).1, 0) := by
  have e1 := allA_once s ps m hm hml
  have hr : (onceL ps.reverse).length ≤ s.toNat := Nat.le_trans (sub_len _ _ (nodup_once _) fun x hx => by rw [mem_once] at hx ⊢; simpa using hx) h
  obtain ⟨q, hq⟩ := foldD_prefix m (onceL ps.reverse)
  rw [← once_append] at hq
  have hnd : (allA s m ps).1.Nodup := nodup_allA s m ps hm
  have e2 : (allA s m ps).1 = onceL ps.reverse ++ q.take (s.toNat - (onceL ps.reverse).length) := by
    rw [e1, hq, List.take_append, List.take_of_length_le hr]
  have hl : (allA s m ps).1.length ≤ s.toNat := by rw [e1, List.length_take]; omega
  have h1 := allA_once s ps (allA s m ps).1 hnd hl
  have h2 := hits s ps (allA s m ps).1 0 hnd hl fun x hx => by
    rw [e2, List.mem_append]
    exact .inl ((mem_once _ _).2 (by simpa using hx))
  have h3 : onceL (ps.reverse ++ (allA s m ps).1) = (allA s m ps).1 := by
    rw [once_append, e2, List.foldl_append, foldD_old _ _ fun x hx => hx]
    exact foldD_new _ _ (e2 ▸ hnd)
  rw [h3, List.take_of_length_le hl] at h1
  exact Prod.ext h1 h2
theorem FnPoolTwice : laws_FnPoolTwice.Pure := by
  intro l _ _ hw
  obtain ⟨s, m, ps, hm, hps, h1⟩ := drawAll_ev l hw
  refine ⟨10000, ?_⟩
  unfold laws_FnPoolTwice.f
  by_cases hb : (l.length : Int) > 1048576
  · rw [if_pos hb]
  rw [if_neg hb, h1 _ (by omega), Option.bind_some]
  simp only
  obtain ⟨r1, r2, r3, hr, hr2⟩ : ∃ r1 r2 r3, impl_PoolAll.f s m ps = some (r1, r2, r3) ∧ r2.length ≤ 24 := by
    unfold impl_PoolAll.f
    rw [if_pos (by omega)]
    split
    · rename_i h
      rw [Bool.and_eq_true] at h
      have := poolOk_small (poolOk_all h.1 h.2)
      exact ⟨_, _, _, rfl, by omega⟩
    · exact ⟨_, _, _, rfl, by simp⟩
  rw [specPoolAll_ev s m ps (by omega) _ (by omega), hr, Option.bind_some, Option.bind_some, if_pos rfl, implSame_ev r1 r1 r2 r2 (by omega) _ (by omega), Option.bind_some, if_pos (by simp), specPoolOk_ev s m _ (by omega), Option.bind_some]
  dsimp only
  have hbad : ∀ k, 50 < k → laws_FnPoolTwice.j0 k ps r3 r3 true s m r1 r2 r1 r2 = some true := by
    intro k hk
    obtain ⟨k, rfl⟩ : ∃ m, k = m + 1 := ⟨k - 1, by omega⟩
    simp only [laws_FnPoolTwice.j0]
    rw [if_pos trivial, if_pos trivial, implSame_ev _ _ _ _ (by omega) _ (by omega)]
    simp
  cases hp : poolOkB s m with
  | false => rw [if_neg (by decide)]; exact hbad _ (by omega)
  | true =>
    rw [if_pos rfl]
    cases hs : (r1 != s) with
    | true => exact hbad _ (by omega)
    | false =>
      have hS := (poolOk_iff s m).1 hp
      have hs2 : r1 = s := by simpa using hs
      simp only [laws_FnPoolTwice.j0]
      rw [if_neg (by decide)]
      have := twice_l0 ps s m r1 r2 (by omega) (some true) 50 (fun k hk => ?_) ps.length 0 (by omega) 9999 (by omega)
      · simpa [onceL] using this
      · obtain ⟨k, rfl⟩ : ∃ m, k = m + 1 := ⟨k - 1, by omega⟩
        simp only [laws_FnPoolTwice.l0]
        rw [if_neg (by omega)]
        have hag : ∃ r4, impl_PoolAll.f r1 r2 ps = some (r4, r2, 0) ∧ r4 = r1 ∨ ((onceL ps).length : Int) > s ∧ ∃ x, impl_PoolAll.f r1 r2 ps = some x := by
          unfold impl_PoolAll.f at hr ⊢
          rw [if_pos (by omega)] at hr ⊢
          split at hr
          · rename_i hok
            rw [Bool.and_eq_true] at hok
            simp only [Option.some.injEq, Prod.mk.injEq] at hr
            obtain ⟨e1, e2, _⟩ := hr
            subst e1; subst e2
            by_cases hD : (onceL ps).length ≤ s.toNat
            · refine ⟨s, .inl ⟨?_, rfl⟩⟩
              rw [if_pos (by rw [poolOk_all hok.1 hok.2, hok.2]; rfl), again s ps m hS.2.2.2.2 (by omega) hD]
            · refine ⟨s, .inr ⟨by omega, ?_⟩⟩
              split <;> exact ⟨_, rfl⟩
          · rename_i hok
            simp only [Option.some.injEq, Prod.mk.injEq] at hr
            obtain ⟨e1, e2, _⟩ := hr
            subst e1; subst e2
            have hall : ps.all okPage = false := by
              rw [hp, Bool.true_and, Bool.not_eq_true] at hok
              exact hok
            refine ⟨0, .inl ⟨?_, rfl⟩⟩
            rw [if_neg (by rw [hall]; simp)]
        obtain ⟨r4, ⟨h5, rfl⟩ | ⟨h5, x, h6⟩⟩ := hag
        · rw [h5, Option.bind_some]
          by_cases hD : ((onceL ps).length : Int) > s
          · rw [if_pos hD]
          · rw [if_neg hD, if_pos rfl, implSame_ev _ _ _ _ (by simp; omega) _ (by simp; omega)]
            simp
        · rw [h6, Option.bind_some, if_pos h5]

end Go.Proofs.Ytcobbpghipeoeaa.Pure
