/- A full pool drops its oldest page: what the law FnPoolHit comes to is true at every input. No condition. -/
import Derived.Test.YtcobbpghipeoeaaR20
import Derived.Test.YtcobbpghipeoeaaQD
namespace Go.Proofs.Ytcobbpghipeoeaa.Pure
open Go.RowKit Go.Proofs.Ytcobbpghipeoeaa.R Go.Proofs.YtcobbpghipeoeaaV.PrintWords Go.Proofs.YtcobbpghipeoeaaV.PrintLast

theorem hit_has (s : Int) (l : List S25) (p : S25) (hit : Bool) (s2 : Int) (x : List S25) (hl : l.length ≤ 100) (r : Option Bool) (k0 : Nat)
    (hend : ∀ k, k0 < k → laws_FnPoolHit.l0 k hit (hasP l p) (l.length : Int) s l p.f0 p.f1 s2 x = r) : ∀ (d j : Nat), j + d = l.length → ∀ k, k0 + d < k →
    laws_FnPoolHit.l0 k hit (hasP (l.take j) p) (j : Int) s l p.f0 p.f1 s2 x = r := by
  intro d
  induction d with
  | zero =>
    intro j hj k hk
    obtain rfl : j = l.length := by omega
    rw [List.take_length]
    exact hend k (by omega)
  | succ d ih =>
    intro j hj k hk
    obtain ⟨k, rfl⟩ : ∃ m, k = m + 1 := ⟨k - 1, by omega⟩
    have hih := ih (j + 1) (by omega) k (by omega)
    rw [take_snoc' l j (by omega)] at hih
    unfold hasP at hih ⊢
    rw [List.any_append] at hih
    simp only [laws_FnPoolHit.l0]
    rw [if_pos (by omega)]
    cases h : (l.take j).any fun x => isP x p with
    | true =>
      rw [if_pos rfl, wrap_next (by omega)]
      rw [h] at hih
      simpa using hih
    | false =>
      rw [if_neg (by decide), if_pos (by omega), wrap_next (by omega)]
      rw [h] at hih
      simpa [isP] using hih
theorem hit_out (s s2 : Int) (l x : List S25) (hx : x.length = l.length) (hl : l.length ≤ 100) (h1 : 1 ≤ l.length) (hn : rd_T25 l ((l.length - 1 : Nat) : Int) ∉ x) : ∀ (d j : Nat), j + d = x.length → ∀ k, d < k →
    laws_FnPoolHit.l1 k false (l.length : Int) (j : Int) s l s2 x = some true := by
  have hw : wrap64 ((l.length : Int) - 1) = ((l.length - 1 : Nat) : Int) := by rw [wrap_id _ (by omega) (by omega)]; omega
  intro d
  induction d with
  | zero =>
    intro j hj k hk
    obtain ⟨k, rfl⟩ : ∃ m, k = m + 1 := ⟨k - 1, by omega⟩
    simp only [laws_FnPoolHit.l1]
    rw [if_neg (by omega), if_neg (by decide)]
    simp [hx]
  | succ d ih =>
    intro j hj k hk
    obtain ⟨k, rfl⟩ : ∃ m, k = m + 1 := ⟨k - 1, by omega⟩
    simp only [laws_FnPoolHit.l1]
    rw [hw, if_pos (by omega), if_pos (by omega), if_pos (by omega), if_pos (by omega), if_neg ?_, wrap_next (by omega)]
    · exact ih (j + 1) (by omega) k (by omega)
    · intro e
      have e2 := (isP_iff _ _).1 e
      rw [rd_get x j (by omega)] at e2
      exact hn (e2 ▸ List.getElem_mem _)
theorem FnPoolHit : laws_FnPoolHit.Pure := by
  intro l _ _ hw
  obtain ⟨s, m, p0, p1, hm, h1⟩ := drawUse_ev l hw
  refine ⟨500, ?_⟩
  unfold laws_FnPoolHit.f
  by_cases hb : (l.length : Int) > 1048576
  · rw [if_pos hb]
  rw [if_neg hb, h1 _ (by omega), Option.bind_some]
  simp only
  obtain ⟨r1, r2, r3, hr⟩ : ∃ r1 r2 r3, impl_PoolUse.f s m p0 p1 = some (r1, r2, r3) := by unfold impl_PoolUse.f; split <;> exact ⟨_, _, _, rfl⟩
  rw [specPoolUse_ev s m p0 p1 _ (by omega), hr, Option.bind_some, Option.bind_some]
  simp only [bne_self_eq_false]
  rw [if_neg (by decide), specPoolOk_ev s m _ (by omega), Option.bind_some]
  cases hp : poolOkB s m with
  | false => rw [if_neg (by decide)]; simp [laws_FnPoolHit.j0]
  | true =>
    rw [if_pos rfl, pageOk_tells, Option.bind_some]
    cases hq : okPage ⟨p0, p1⟩ with
    | false => rw [if_neg (by decide)]; simp [laws_FnPoolHit.j0]
    | true =>
      rw [if_pos rfl]
      by_cases hs : s = 0
      · simp [laws_FnPoolHit.j0, hs]
      · have hS := poolOk_small hp
        have hN := poolOk_nodup hp
        unfold impl_PoolUse.f at hr
        rw [hp, hq, if_pos (by decide)] at hr
        simp only [Option.some.injEq, Prod.mk.injEq] at hr
        obtain ⟨rfl, rfl, rfl⟩ := hr
        simp only [laws_FnPoolHit.j0]
        rw [if_neg (by simpa using hs)]
        have hb0 : hasP (m.take 0) (⟨p0, p1⟩ : S25) = false := rfl
        have := hit_has s m ⟨p0, p1⟩ (hasP m ⟨p0, p1⟩) s (useL s m ⟨p0, p1⟩) (by omega) (some true) 150 ?_ m.length 0 (by omega) 499 (by omega)
        · rw [hb0, Int.natCast_zero] at this
          exact this
        · intro k hk
          obtain ⟨k, rfl⟩ : ∃ m, k = m + 1 := ⟨k - 1, by omega⟩
          simp only [laws_FnPoolHit.l0]
          rw [if_neg (by omega)]
          have hlen : (accP m (⟨p0, p1⟩ : S25)).length = if hasP m ⟨p0, p1⟩ = true then m.length else m.length + 1 := accP_len m ⟨p0, p1⟩ hN
          cases hh : hasP m ⟨p0, p1⟩ with
          | true =>
            rw [hh, if_pos rfl] at hlen
            rw [if_pos rfl, if_pos rfl]
            unfold useL
            rw [List.length_take, hlen]
            simp
            omega
          | false =>
            rw [hh, if_neg (by decide)] at hlen
            rw [if_neg (by decide)]
            by_cases hlt : (m.length : Int) < s
            · rw [if_pos hlt, if_neg (by decide), wrap_next (by omega)]
              unfold useL
              rw [List.length_take, hlen]
              simp
              omega
            · rw [if_neg hlt]
              have hms : (m.length : Int) = s := by omega
              have hul : (useL s m ⟨p0, p1⟩).length = m.length := by unfold useL; rw [List.length_take, hlen]; omega
              have := hit_out s s m (useL s m ⟨p0, p1⟩) hul (by omega) (by omega) ?_ (useL s m ⟨p0, p1⟩).length 0 (by omega) k (by omega)
              · rw [Int.natCast_zero] at this
                exact this
              · have hnm : (⟨p0, p1⟩ : S25) ∉ m := fun h => by rw [(hasP_iff _ _).2 h] at hh; exact absurd hh (by decide)
                have hacc : accP m (⟨p0, p1⟩ : S25) = (⟨p0, p1⟩ : S25) :: m := accP_new m _ hnm
                unfold useL
                rw [hacc]
                obtain ⟨n, hn⟩ : ∃ n, m.length = n + 1 := ⟨m.length - 1, by omega⟩
                have hsn : s.toNat = n + 1 := by omega
                rw [hsn, List.take_succ_cons, rd_get m _ (by omega)]
                have hlast : m[m.length - 1]'(by omega) ∉ m.take n := by
                  intro hmem
                  obtain ⟨i, hi, e⟩ := List.mem_iff_getElem.1 hmem
                  rw [List.length_take] at hi
                  rw [List.getElem_take] at e
                  have := (List.getElem_inj hN).1 e
                  omega
                intro hmem
                rcases List.mem_cons.1 hmem with e | e
                · exact hnm (e ▸ List.getElem_mem _)
                · exact hlast e

end Go.Proofs.Ytcobbpghipeoeaa.Pure
