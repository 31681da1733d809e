/- What the draws of pages and pools tell: small lists, and that they tell something at all. -/
import Derived.Test.YtcobbpghipeoeaaQ
import Derived.Test.YtcobbpghipeoeaaDr
namespace Go.Proofs.Ytcobbpghipeoeaa.R
open Go.RowKit Go.Proofs.YtcobbpghipeoeaaV.PrintWords Go.Proofs.YtcobbpghipeoeaaV.PrintLast
set_option linter.unusedVariables false
set_option linter.unusedSimpArgs false

theorem page_ev (b : List Int) (p : Int) (hb : BytesOk b) (hp : 0 ≤ p) (hp2 : p ≤ 900000) : ∃ q0 q1, ∀ k, 0 < k → spec_l5Page.f k b p = some (q0, q1, p + 2) := by
  obtain ⟨r, _, _, h1⟩ := pick_ev b p 3 hb hp (by omega) (by omega) (by omega)
  obtain ⟨r', _, _, h2⟩ := pick_ev b (p + 1) 4 hb (by omega) (by omega) (by omega) (by omega)
  refine ⟨r, r', fun k hk => ?_⟩
  unfold spec_l5Page.f
  rw [h1 k hk, Option.bind_some]
  simp only
  rw [h2 k hk, Option.bind_some, show p + 1 + 1 = p + 2 from by omega]
theorem pages_j (b : List Int) (p : Int) (hb : BytesOk b) (hp : 0 ≤ p) (hp2 : p ≤ 900000) (l : List S25) (bent : Bool) (hbent : bent = true → 0 < l.length) :
    ∃ ps p', ps.length = l.length ∧ p ≤ p' ∧ p' ≤ p + 2 ∧ ∀ k, 1 < k → spec_l5Pages.j1 k l bent b p = some (ps, p') := by
  cases bent with
  | false =>
    refine ⟨l, p, rfl, by omega, by omega, fun k hk => ?_⟩
    obtain ⟨k, rfl⟩ : ∃ m, k = m + 1 := ⟨k - 1, by omega⟩
    simp only [spec_l5Pages.j1]
    rw [if_neg (by decide)]
  | true =>
    obtain ⟨r, _, h1⟩ := num_ev b p [8, (-1), 0] hb hp (by omega) (by decide) (by decide)
    obtain ⟨r', _, h2⟩ := num_ev b (p + 1) [(-1), 1000, 999] hb (by omega) (by omega) (by decide) (by decide)
    have := hbent rfl
    refine ⟨l.set 0 ⟨r, r'⟩, p + 1 + 1, by simp, by omega, by omega, fun k hk => ?_⟩
    obtain ⟨k, rfl⟩ : ∃ m, k = m + 1 := ⟨k - 1, by omega⟩
    simp only [spec_l5Pages.j1]
    rw [if_pos trivial, h1 k (by omega), Option.bind_some, h2 k (by omega), Option.bind_some, if_pos (by omega)]
    rfl
theorem pages_loop (b : List Int) (hb : BytesOk b) : ∀ (i : Nat) (l : List S25) (p : Int), l.length + i ≤ 100 → 0 ≤ p → p + 2 * i ≤ 800000 →
    ∃ ps p', ps.length = l.length + i ∧ p ≤ p' ∧ p' ≤ p + 2 * i + 3 ∧ ∀ k, i + 3 < k → spec_l5Pages.l0 k l (i : Int) b p = some (ps, p') := by
  intro i
  induction i with
  | zero =>
    intro l p hl hp hp2
    by_cases h : (l.length : Int) > 0
    · obtain ⟨r, _, _, h1⟩ := pick_ev b p 20 hb hp (by omega) (by omega) (by omega)
      obtain ⟨ps, p', e1, e2, e3, e4⟩ := pages_j b (p + 1) hb (by omega) (by omega) l (r == 0) (fun _ => by omega)
      refine ⟨ps, p', by omega, by omega, by omega, fun k hk => ?_⟩
      obtain ⟨k, rfl⟩ : ∃ m, k = m + 1 := ⟨k - 1, by omega⟩
      simp only [spec_l5Pages.l0]
      rw [if_neg (by omega), if_pos h, h1 k (by omega), Option.bind_some]
      exact e4 k (by omega)
    · obtain ⟨ps, p', e1, e2, e3, e4⟩ := pages_j b p hb (by omega) (by omega) l false (fun h => by cases h)
      refine ⟨ps, p', by omega, by omega, by omega, fun k hk => ?_⟩
      obtain ⟨k, rfl⟩ : ∃ m, k = m + 1 := ⟨k - 1, by omega⟩
      simp only [spec_l5Pages.l0]
      rw [if_neg (by omega), if_neg h]
      exact e4 k (by omega)
  | succ i ih =>
    intro l p hl hp hp2
    obtain ⟨q0, q1, h1⟩ := page_ev b p hb hp (by omega)
    obtain ⟨ps, p', e1, e2, e3, e4⟩ := ih (l ++ [(⟨q0, q1⟩ : S25)]) (p + 2) (by simp; omega) (by omega) (by omega)
    refine ⟨ps, p', by simp at e1; omega, by omega, by omega, fun k hk => ?_⟩
    obtain ⟨k, rfl⟩ : ∃ m, k = m + 1 := ⟨k - 1, by omega⟩
    simp only [spec_l5Pages.l0]
    rw [if_pos (by omega), h1 k (by omega), Option.bind_some, if_pos (by omega)]
    simp only
    rw [show wrap64 (((i + 1 : Nat) : Int) - 1) = (i : Int) from by unfold wrap64; omega]
    exact e4 k (by omega)
theorem pages_ev (b : List Int) (p : Int) (hb : BytesOk b) (hp : 0 ≤ p) (hp2 : p ≤ 700000) :
    ∃ ps p', ps.length ≤ 23 ∧ p ≤ p' ∧ p' ≤ p + 60 ∧ ∀ k, 40 < k → spec_l5Pages.f k b p = some (ps, p') := by
  obtain ⟨r, h0, h1, h2⟩ := pick_ev b p 24 hb hp (by omega) (by omega) (by omega)
  obtain ⟨i, rfl⟩ := Int.eq_ofNat_of_zero_le h0
  obtain ⟨ps, p', e1, e2, e3, e4⟩ := pages_loop b hb i [] (p + 1) (by simp; omega) (by omega) (by omega)
  refine ⟨ps, p', by simp at e1; omega, by omega, by omega, fun k hk => ?_⟩
  unfold spec_l5Pages.f
  rw [h2 k (by omega), Option.bind_some]
  exact e4 k (by omega)
theorem pool_ev (b : List Int) (p : Int) (hb : BytesOk b) (hp : 0 ≤ p) (hp2 : p ≤ 600000) :
    ∃ s l p', l.length ≤ 24 ∧ p ≤ p' ∧ p' ≤ p + 100 ∧ ∀ k, 60 < k → spec_l5Pool.f k b p = some (s, l, p') := by
  obtain ⟨s, hs, h1⟩ := num_ev b p [2, 3, 4, 1, 0, 6, 12] hb hp (by omega) (by decide) (by decide)
  have hs2 : 0 ≤ s ∧ s ≤ 12 := by
    simp only [List.mem_cons, List.not_mem_nil, or_false] at hs
    omega
  obtain ⟨ps, p1, e1, e2, e3, e4⟩ := pages_ev b (p + 1) hb (by omega) (by omega)
  obtain ⟨l, hl⟩ : ∃ l, l = (allA s [] ps).1 := ⟨_, rfl⟩
  have h2 : ∀ k, 60 < k → spec_l5All.f k s [] ps = some (s, l, (allA s [] ps).2) := fun k hk => by
    rw [hl]
    exact specAll_ev s [] ps 12 hs2.1 hs2.2 (by omega) (by simp) (by omega) List.nodup_nil k (by omega)
  have hll : l.length ≤ 12 := by
    rw [hl]
    exact (allA_le s [] hs2.2 (by simp) ps).1
  obtain ⟨r, r0, r1, h3⟩ := pick_ev b p1 40 hb (by omega) (by omega) (by omega) (by omega)
  have hbeg : ∀ k, 60 < k → spec_l5Pool.f k b p = ((spec_l9Rd_pick.f k b p1 40).bind fun bt425 => (if bt425.1 = 0 then ((spec_l9Rd_num.f k b bt425.2 (([(-1), 13, wrap64 (s - 1)] : List Int))).bind fun bt430 => (some (bt430.1, l, bt430.2))) else (if bt425.1 = 1 then (if l.length + l.length < 8796093022208 then (some (s, (l ++ l), bt425.2)) else (none)) else (if bt425.1 = 2 then (if l.length < 8796093022208 then (some (s, (l ++ [(⟨9, 0⟩ : S25)]), bt425.2)) else (none)) else (some (s, l, bt425.2)))))) := fun k hk => by
    unfold spec_l5Pool.f
    rw [h1 k (by omega), Option.bind_some]
    simp only
    rw [e4 k (by omega), Option.bind_some]
    simp only
    rw [h2 k hk, Option.bind_some]
  by_cases c0 : r = 0
  · obtain ⟨s', _, h4⟩ := num_ev b (p1 + 1) [(-1), 13, wrap64 (s - 1)] hb (by omega) (by omega) (by simp) (by simp)
    refine ⟨s', l, p1 + 1 + 1, by omega, by omega, by omega, fun k hk => ?_⟩
    rw [hbeg k hk, h3 k (by omega), Option.bind_some, if_pos c0, h4 k (by omega), Option.bind_some]
  · by_cases c1 : r = 1
    · refine ⟨s, l ++ l, p1 + 1, by simp; omega, by omega, by omega, fun k hk => ?_⟩
      rw [hbeg k hk, h3 k (by omega), Option.bind_some, if_neg c0, if_pos c1, if_pos (by omega)]
    · by_cases c2 : r = 2
      · refine ⟨s, l ++ [⟨9, 0⟩], p1 + 1, by simp; omega, by omega, by omega, fun k hk => ?_⟩
        rw [hbeg k hk, h3 k (by omega), Option.bind_some, if_neg c0, if_neg c1, if_pos c2, if_pos (by omega)]
      · refine ⟨s, l, p1 + 1, by omega, by omega, by omega, fun k hk => ?_⟩
        rw [hbeg k hk, h3 k (by omega), Option.bind_some, if_neg c0, if_neg c1, if_neg c2]
theorem drawUse_ev (l : List Int) (hl : ∀ x ∈ l, (Lit.int .u8 x).wf = true) : ∃ s m p0 p1, m.length ≤ 24 ∧ ∀ k, 60 < k → spec_DrawPoolUse.f k l = some (s, m, p0, p1) := by
  obtain ⟨b, hb, h0⟩ := open_ev l hl
  obtain ⟨s, m, p', e1, e2, e3, e4⟩ := pool_ev b 0 hb (by omega) (by omega)
  obtain ⟨r, _, _, h2⟩ := pick_ev b p' 20 hb (by omega) (by omega) (by omega) (by omega)
  obtain ⟨q0, q1, h3⟩ := page_ev b (p' + 1) hb (by omega) (by omega)
  by_cases c : r = 0
  · refine ⟨s, m, 8, 0, e1, fun k hk => ?_⟩
    unfold spec_DrawPoolUse.f
    rw [h0, Option.bind_some]
    simp only
    rw [e4 k hk, Option.bind_some]
    simp only
    rw [h2 k (by omega), Option.bind_some, if_pos c]
  · refine ⟨s, m, q0, q1, e1, fun k hk => ?_⟩
    unfold spec_DrawPoolUse.f
    rw [h0, Option.bind_some]
    simp only
    rw [e4 k hk, Option.bind_some]
    simp only
    rw [h2 k (by omega), Option.bind_some, if_neg c, h3 k (by omega), Option.bind_some]
theorem drawAll_ev (l : List Int) (hl : ∀ x ∈ l, (Lit.int .u8 x).wf = true) : ∃ s m ps, m.length ≤ 24 ∧ ps.length ≤ 23 ∧ ∀ k, 60 < k → spec_DrawPoolAll.f k l = some (s, m, ps) := by
  obtain ⟨b, hb, h0⟩ := open_ev l hl
  obtain ⟨s, m, p', e1, e2, e3, e4⟩ := pool_ev b 0 hb (by omega) (by omega)
  obtain ⟨ps, p2, f1, f2, f3, f4⟩ := pages_ev b p' hb (by omega) (by omega)
  refine ⟨s, m, ps, e1, f1, fun k hk => ?_⟩
  unfold spec_DrawPoolAll.f
  rw [h0, Option.bind_some]
  simp only
  rw [e4 k hk, Option.bind_some]
  simp only
  rw [f4 k (by omega), Option.bind_some]
theorem drawPool_ev (l : List Int) (hl : ∀ x ∈ l, (Lit.int .u8 x).wf = true) : ∃ s m, m.length ≤ 24 ∧ ∀ k, 60 < k → spec_DrawPoolOk.f k l = some (s, m) := by
  obtain ⟨b, hb, h0⟩ := open_ev l hl
  obtain ⟨s, m, p', e1, e2, e3, e4⟩ := pool_ev b 0 hb (by omega) (by omega)
  refine ⟨s, m, e1, fun k hk => ?_⟩
  unfold spec_DrawPoolOk.f
  rw [h0, Option.bind_some]
  simp only
  rw [e4 k hk, Option.bind_some]
end Go.Proofs.Ytcobbpghipeoeaa.R
