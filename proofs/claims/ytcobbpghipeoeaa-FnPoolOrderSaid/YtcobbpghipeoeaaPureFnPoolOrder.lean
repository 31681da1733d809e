/- Uses in order: what the law FnPoolOrder comes to is true at every input. No condition. -/
import Derived.Test.YtcobbpghipeoeaaR24
import Derived.Test.YtcobbpghipeoeaaQD
import Derived.Test.YtcobbpghipeoeaaQL
namespace Go.Proofs.Ytcobbpghipeoeaa.Pure
set_option linter.unusedVariables false
open Go.RowKit Go.Proofs.Ytcobbpghipeoeaa.R Go.Proofs.YtcobbpghipeoeaaV.PrintWords Go.Proofs.YtcobbpghipeoeaaV.PrintLast

theorem order_l2 (s : Int) (m ps : List S25) (t : Int) (l : List S25) (hl : l.length ≤ 100) (hps : ps.length ≤ 100) (hm : m.length ≤ l.length)
    (hp : ∀ j (h : j < l.length) (h2 : j < ps.length), l[j] = ps[ps.length - 1 - j]) : ∀ (d j : Nat), j + d = ps.length → ∀ k, 2 * d + 1 < k → laws_FnPoolOrder.l2 k ps (j : Int) s m t l = some true := by
  intro d
  induction d with
  | zero =>
    intro j hj k hk
    obtain ⟨k, rfl⟩ : ∃ m, k = m + 2 := ⟨k - 2, by omega⟩
    simp only [laws_FnPoolOrder.l2]
    rw [if_neg (by omega)]
    simp only [laws_FnPoolOrder.j4]
    simp
    omega
  | succ d ih =>
    intro j hj k hk
    obtain ⟨k, rfl⟩ : ∃ m, k = m + 2 := ⟨k - 2, by omega⟩
    have hih := ih (j + 1) (by omega) k (by omega)
    have hw : wrap64 (wrap64 ((ps.length : Int) - 1) - (j : Int)) = ((ps.length - 1 - j : Nat) : Int) := by
      rw [wrap_id ((ps.length : Int) - 1) (by omega) (by omega), wrap_id _ (by omega) (by omega)]
      omega
    simp only [laws_FnPoolOrder.l2]
    rw [if_pos (by omega)]
    simp only [laws_FnPoolOrder.j4]
    by_cases hjl : j < l.length
    · rw [decide_eq_true (by omega), if_pos rfl, hw, if_pos (by omega), if_pos (by omega), if_pos (by omega), if_pos (by omega), rd_get l j hjl, rd_get ps _ (by omega), hp j hjl (by omega), if_neg (by simp), wrap_next (by omega)]
      exact hih
    · rw [decide_eq_false (by omega)]
      simp
      omega
theorem order_l1 (s : Int) (m ps : List S25) (t : Int) (l : List S25) (hps : ps.length ≤ 100) (j : Nat) (hj : j < ps.length) (k0 : Nat)
    (hend : ps[j] ∉ ps.take j → ∀ k, k0 < k → laws_FnPoolOrder.l0 k ps ((j + 1 : Nat) : Int) s m t l = some true) : ∀ (d i : Nat), i + d = j → (ps[j] ∉ ps.take i) → ∀ k, k0 + d + 1 < k → laws_FnPoolOrder.l1 k ps (j : Int) (i : Int) s m t l = some true := by
  intro d
  induction d with
  | zero =>
    intro i hi hn k hk
    obtain ⟨k, rfl⟩ : ∃ m, k = m + 1 := ⟨k - 1, by omega⟩
    obtain rfl : i = j := by omega
    simp only [laws_FnPoolOrder.l1]
    rw [if_neg (by omega), wrap_next (by omega)]
    exact hend hn k (by omega)
  | succ d ih =>
    intro i hi hn k hk
    obtain ⟨k, rfl⟩ : ∃ m, k = m + 1 := ⟨k - 1, by omega⟩
    simp only [laws_FnPoolOrder.l1]
    rw [if_pos (by omega), if_pos (by omega), if_pos (by omega), if_pos (by omega), if_pos (by omega), rd_get ps i (by omega), rd_get ps j hj, wrap_next (by omega)]
    by_cases e : ps[i]'(by omega) = ps[j]
    · rw [e]; simp
    · rw [if_neg (by intro h; exact e ((isP_iff _ _).1 h))]
      refine ih (i + 1) (by omega) ?_ k (by omega)
      rw [take_snoc' ps i (by omega), List.mem_append, rd_get ps i (by omega)]
      rintro (h | h)
      · exact hn h
      · exact e (List.mem_singleton.1 h).symm
theorem order_l0 (s : Int) (m ps : List S25) (t : Int) (l : List S25) (hl : l.length ≤ 100) (hps : ps.length ≤ 100) (hm : m.length ≤ l.length)
    (hp : ps.Nodup → ∀ j (h : j < l.length) (h2 : j < ps.length), l[j] = ps[ps.length - 1 - j]) : ∀ (d j : Nat), j + d = ps.length → (ps.take j).Nodup → ∀ k, 250 + 102 * d < k → laws_FnPoolOrder.l0 k ps (j : Int) s m t l = some true := by
  intro d
  induction d with
  | zero =>
    intro j hj hn k hk
    obtain ⟨k, rfl⟩ : ∃ m, k = m + 1 := ⟨k - 1, by omega⟩
    rw [List.take_of_length_le (by omega)] at hn
    simp only [laws_FnPoolOrder.l0]
    rw [if_neg (by omega)]
    exact order_l2 s m ps t l hl hps hm (hp hn) ps.length 0 (by omega) k (by omega)
  | succ d ih =>
    intro j hj hn k hk
    obtain ⟨k, rfl⟩ : ∃ m, k = m + 1 := ⟨k - 1, by omega⟩
    simp only [laws_FnPoolOrder.l0]
    rw [if_pos (by omega)]
    refine order_l1 s m ps t l hps j (by omega) (250 + 102 * d) (fun hx k hk => ih (j + 1) (by omega) ?_ k hk) j 0 (by omega) (by simp) k (by omega)
    rw [take_snoc' ps j (by omega), rd_get ps j (by omega), List.nodup_append]
    exact ⟨hn, by simp, fun a ha b hb e => hx (by simp only [List.mem_singleton] at hb; rw [← hb, ← e]; exact ha)⟩
theorem FnPoolOrder : laws_FnPoolOrder.Pure := by
  intro l _ _ hw
  obtain ⟨s, m, ps, hm, hps, h1⟩ := drawAll_ev l hw
  refine ⟨4000, ?_⟩
  unfold laws_FnPoolOrder.f
  by_cases hb : (l.length : Int) > 1048576
  · rw [if_pos hb]
  rw [if_neg hb, h1 _ (by omega), Option.bind_some]
  simp only
  obtain ⟨r1, r2, r3, hr, hr2⟩ : ∃ r1 r2 r3, impl_PoolAll.f s m ps = some (r1, r2, r3) ∧ r2.length ≤ 24 := by
    unfold impl_PoolAll.f
    rw [if_pos (by omega)]
    split
    · rename_i h
      rw [Bool.and_eq_true] at h
      have := poolOk_small (poolOk_all h.1 h.2)
      exact ⟨_, _, _, rfl, by omega⟩
    · exact ⟨_, _, _, rfl, by simp⟩
  rw [specPoolAll_ev s m ps (by omega) _ (by omega), hr, Option.bind_some, Option.bind_some, if_pos rfl, implSame_ev r1 r1 r2 r2 (by omega) _ (by omega), Option.bind_some, if_pos (by simp), specPoolOk_ev s m _ (by omega), Option.bind_some]
  dsimp only
  have hbad : ∀ k, 50 < k → laws_FnPoolOrder.j0 k ps r3 r3 true s m r1 r2 r1 r2 = some true := by
    intro k hk
    obtain ⟨k, rfl⟩ : ∃ m, k = m + 1 := ⟨k - 1, by omega⟩
    simp only [laws_FnPoolOrder.j0]
    rw [if_pos trivial, if_pos trivial, implSame_ev _ _ _ _ (by omega) _ (by omega)]
    simp
  cases hp : poolOkB s m with
  | false => rw [if_neg (by decide)]; exact hbad _ (by omega)
  | true =>
    rw [if_pos rfl]
    cases hs : (r1 != s) with
    | true => exact hbad _ (by omega)
    | false =>
      have hS := (poolOk_iff s m).1 hp
      have hs2 : r1 = s := by simpa using hs
      have hres : r2 = (onceL (ps.reverse ++ m)).take s.toNat ∧ m.length ≤ r2.length := by
        unfold impl_PoolAll.f at hr
        rw [if_pos (by omega)] at hr
        split at hr
        · simp only [Option.some.injEq, Prod.mk.injEq] at hr
          obtain ⟨_, hr, _⟩ := hr
          subst hr
          refine ⟨allA_once s ps m hS.2.2.2.2 (by omega), ?_⟩
          refine (allA_ind (fun l => m.length ≤ l.length ∧ l.Nodup) s (fun l p h => ?_) ps m 0 ⟨Nat.le_refl _, hS.2.2.2.2⟩).1
          refine ⟨?_, nodup_useL s l p h.2⟩
          have := accP_len l p h.2
          unfold useL
          rw [List.length_take]
          split at this <;> omega
        · simp only [Option.some.injEq, Prod.mk.injEq] at hr
          obtain ⟨h0, hr, _⟩ := hr
          subst hr
          have : s = 0 := by omega
          subst this
          have h3 := hS.2.2.1
          refine ⟨by simp, show m.length ≤ 0 from by omega⟩
      simp only [laws_FnPoolOrder.j0]
      rw [if_neg (by decide)]
      refine order_l0 s m ps r1 r2 (by omega) (by omega) hres.2 (fun hn j h h2 => ?_) ps.length 0 (by omega) (by simp) _ (by omega)
      have hpre : ∃ q, r2 = (ps.reverse ++ q).take s.toNat := by
        obtain ⟨q, hq⟩ := foldD_prefix m (onceL ps.reverse)
        rw [← once_append, once_new ps.reverse (by simpa [List.Nodup, List.pairwise_reverse, eq_comm] using hn)] at hq
        exact ⟨q, by rw [hres.1, hq]⟩
      obtain ⟨q, rfl⟩ := hpre
      rw [List.getElem_take, List.getElem_append_left (by simp; omega), List.getElem_reverse]

end Go.Proofs.Ytcobbpghipeoeaa.Pure
