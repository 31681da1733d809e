/- The last pages used stand first: what the law FnPoolLast comes to is true at every input. No condition. -/
import Derived.Test.YtcobbpghipeoeaaR27
import Derived.Test.YtcobbpghipeoeaaQD
import Derived.Test.YtcobbpghipeoeaaQL
namespace Go.Proofs.Ytcobbpghipeoeaa.Pure
set_option linter.unusedVariables false
open Go.RowKit Go.Proofs.Ytcobbpghipeoeaa.R Go.Proofs.YtcobbpghipeoeaaV.PrintWords Go.Proofs.YtcobbpghipeoeaaV.PrintLast

theorem any_take (x : List S25) (p : S25) (i : Nat) (h : i < x.length) : hasP (x.take (i + 1)) p = (hasP (x.take i) p || isP x[i] p) := by
  rw [take_snoc' x i h, rd_get x i h]
  unfold hasP
  rw [List.any_append]
  simp
theorem putD_len (l : List S25) (x : S25) : (putD l x).length ≤ l.length + 1 := by unfold putD; split <;> simp
/-- Is the page among those taken so far? -/
theorem last_l3 (x : List S25) (s : Int) (m : List S25) (t : Int) (l : List S25) (hx : x.length ≤ 100) (j : Nat) (hj : j < m.length) (r : Option Bool) (k0 : Nat)
    (hend : ∀ k, k0 < k → laws_FnPoolLast.l2 k (putD x m[j]) ((j + 1 : Nat) : Int) s m t l = r) (hjb : j ≤ 100) : ∀ (d i : Nat), i + d = x.length → ∀ k, k0 + d + 1 < k → laws_FnPoolLast.l3 k x (j : Int) (hasP (x.take i) m[j]) (i : Int) s m t l = r := by
  intro d
  induction d with
  | zero =>
    intro i hi k hk
    obtain ⟨k, rfl⟩ : ∃ m, k = m + 1 := ⟨k - 1, by omega⟩
    obtain rfl : i = x.length := by omega
    have := hend k (by omega)
    unfold putD at this
    simp only [laws_FnPoolLast.l3]
    rw [if_neg (by omega), List.take_length, wrap_next (by omega)]
    split
    · rename_i h
      rw [if_pos h] at this
      exact this
    · rename_i h
      rw [if_neg h] at this
      rw [if_pos (by omega), if_pos (by omega), if_pos (by omega), rd_get m j hj]
      exact this
  | succ d ih =>
    intro i hi k hk
    obtain ⟨k, rfl⟩ : ∃ m, k = m + 1 := ⟨k - 1, by omega⟩
    have hih := ih (i + 1) (by omega) k (by omega)
    rw [any_take x _ i (by omega)] at hih
    simp only [laws_FnPoolLast.l3]
    rw [if_pos (by omega), wrap_next (by omega)]
    cases h : hasP (x.take i) m[j] with
    | true =>
      rw [h] at hih
      rw [if_pos rfl]
      simpa using hih
    | false =>
      rw [h] at hih
      rw [if_neg (by decide), if_pos (by omega), if_pos (by omega), if_pos (by omega), rd_get x i (by omega), rd_get m j hj]
      simpa [isP] using hih
theorem last_l2 (s : Int) (m : List S25) (t : Int) (l : List S25) (hm : m.length ≤ 30) (r : Option Bool) (k0 : Nat) (x0 : List S25) (hx0 : x0.length ≤ 30)
    (hend : ∀ k, k0 < k → laws_FnPoolLast.l2 k (m.foldl putD x0) (m.length : Int) s m t l = r) : ∀ (d j : Nat), j + d = m.length → ∀ k, k0 + 100 * d < k → laws_FnPoolLast.l2 k ((m.take j).foldl putD x0) (j : Int) s m t l = r := by
  have hlen : ∀ (a : List S25) (b : List S25), (a.foldl putD b).length ≤ b.length + a.length := by
    intro a
    induction a with
    | nil => simp
    | cons p a ih => intro b; rw [List.foldl_cons]; have := ih (putD b p); have := putD_len b p; simp only [List.length_cons]; omega
  intro d
  induction d with
  | zero =>
    intro j hj k hk
    obtain rfl : j = m.length := by omega
    rw [List.take_length]
    exact hend k (by omega)
  | succ d ih =>
    intro j hj k hk
    obtain ⟨k, rfl⟩ : ∃ m, k = m + 1 := ⟨k - 1, by omega⟩
    have h1 := hlen (m.take j) x0
    rw [List.length_take] at h1
    simp only [laws_FnPoolLast.l2]
    rw [if_pos (by omega)]
    have := last_l3 ((m.take j).foldl putD x0) s m t l (by omega) j (by omega) r (k0 + 100 * d) (fun k hk => ?_) (by omega) ((m.take j).foldl putD x0).length 0 (by omega) k (by omega)
    · simpa [hasP] using this
    · have := ih (j + 1) (by omega) k hk
      rw [take_snoc' m j (by omega), List.foldl_append, rd_get m j (by omega)] at this
      exact this
theorem last_l1 (ps x : List S25) (s : Int) (m : List S25) (t : Int) (l : List S25) (hx : x.length ≤ 100) (j : Nat) (hj : j < ps.length) (r : Option Bool) (k0 : Nat)
    (hend : ∀ k, k0 < k → laws_FnPoolLast.l0 k ps (putD x ps[j]) ((j : Int) - 1) s m t l = r) (hjb : j ≤ 100) : ∀ (d i : Nat), i + d = x.length → ∀ k, k0 + d + 1 < k → laws_FnPoolLast.l1 k ps x (j : Int) (hasP (x.take i) ps[j]) (i : Int) s m t l = r := by
  intro d
  induction d with
  | zero =>
    intro i hi k hk
    obtain ⟨k, rfl⟩ : ∃ m, k = m + 1 := ⟨k - 1, by omega⟩
    obtain rfl : i = x.length := by omega
    have := hend k (by omega)
    unfold putD at this
    simp only [laws_FnPoolLast.l1]
    rw [if_neg (by omega), List.take_length, wrap_id ((j : Int) - 1) (by omega) (by omega)]
    split
    · rename_i h
      rw [if_pos h] at this
      exact this
    · rename_i h
      rw [if_neg h] at this
      rw [if_pos (by omega), if_pos (by omega), if_pos (by omega), rd_get ps j hj]
      exact this
  | succ d ih =>
    intro i hi k hk
    obtain ⟨k, rfl⟩ : ∃ m, k = m + 1 := ⟨k - 1, by omega⟩
    have hih := ih (i + 1) (by omega) k (by omega)
    rw [any_take x _ i (by omega)] at hih
    simp only [laws_FnPoolLast.l1]
    rw [if_pos (by omega), wrap_next (by omega)]
    cases h : hasP (x.take i) ps[j] with
    | true =>
      rw [h] at hih
      rw [if_pos rfl]
      simpa using hih
    | false =>
      rw [h] at hih
      rw [if_neg (by decide), if_pos (by omega), if_pos (by omega), if_pos (by omega), rd_get x i (by omega), rd_get ps j hj]
      simpa [isP] using hih
theorem last_l0 (ps : List S25) (s : Int) (m : List S25) (t : Int) (l : List S25) (hps : ps.length ≤ 30) (r : Option Bool) (k0 : Nat)
    (hend : ∀ x : List S25, x = onceL ps.reverse → ∀ k, k0 < k → laws_FnPoolLast.l2 k x 0 s m t l = r) : ∀ (j : Nat) (x : List S25), j ≤ ps.length → x.length + j ≤ 60 → (ps.take j).reverse.foldl putD x = onceL ps.reverse → ∀ k, k0 + 100 * j + 1 < k → laws_FnPoolLast.l0 k ps x ((j : Int) - 1) s m t l = r := by
  intro j
  induction j with
  | zero =>
    intro x hj hx h k hk
    obtain ⟨k, rfl⟩ : ∃ m, k = m + 1 := ⟨k - 1, by omega⟩
    simp only [laws_FnPoolLast.l0]
    rw [if_neg (by omega)]
    exact hend x (by simpa using h) k (by omega)
  | succ j ih =>
    intro x hj hx h k hk
    obtain ⟨k, rfl⟩ : ∃ m, k = m + 1 := ⟨k - 1, by omega⟩
    simp only [laws_FnPoolLast.l0]
    rw [show ((j + 1 : Nat) : Int) - 1 = (j : Int) by omega, if_pos (by omega)]
    have := last_l1 ps x s m t l (by omega) j (by omega) r (k0 + 100 * j + 1) (fun k hk => ih (putD x ps[j]) (by omega) (by have := putD_len x ps[j]; omega) ?_ k hk) (by omega) x.length 0 (by omega) k (by omega)
    · simpa [hasP] using this
    · rw [take_snoc' ps j (by omega), rd_get ps j (by omega), List.reverse_append, List.foldl_append] at h
      exact h
theorem FnPoolLast : laws_FnPoolLast.Pure := by
  intro l _ _ hw
  obtain ⟨s, m, ps, hm, hps, h1⟩ := drawAll_ev l hw
  refine ⟨10000, ?_⟩
  unfold laws_FnPoolLast.f
  by_cases hb : (l.length : Int) > 1048576
  · rw [if_pos hb]
  rw [if_neg hb, h1 _ (by omega), Option.bind_some]
  simp only
  obtain ⟨r1, r2, r3, hr, hr2⟩ : ∃ r1 r2 r3, impl_PoolAll.f s m ps = some (r1, r2, r3) ∧ r2.length ≤ 24 := by
    unfold impl_PoolAll.f
    rw [if_pos (by omega)]
    split
    · rename_i h
      rw [Bool.and_eq_true] at h
      have := poolOk_small (poolOk_all h.1 h.2)
      exact ⟨_, _, _, rfl, by omega⟩
    · exact ⟨_, _, _, rfl, by simp⟩
  rw [specPoolAll_ev s m ps (by omega) _ (by omega), hr, Option.bind_some, Option.bind_some, if_pos rfl, implSame_ev r1 r1 r2 r2 (by omega) _ (by omega), Option.bind_some, if_pos (by simp), specPoolOk_ev s m _ (by omega), Option.bind_some]
  dsimp only
  have hbad : ∀ k, 50 < k → laws_FnPoolLast.j0 k ps r3 r3 true s m r1 r2 r1 r2 = some true := by
    intro k hk
    obtain ⟨k, rfl⟩ : ∃ m, k = m + 1 := ⟨k - 1, by omega⟩
    simp only [laws_FnPoolLast.j0]
    rw [if_pos trivial, if_pos trivial, implSame_ev _ _ _ _ (by omega) _ (by omega)]
    simp
  cases hp : poolOkB s m with
  | false => rw [if_neg (by decide)]; exact hbad _ (by omega)
  | true =>
    rw [if_pos rfl]
    cases hs : (r1 != s) with
    | true => exact hbad _ (by omega)
    | false =>
      have hS := (poolOk_iff s m).1 hp
      have hs2 : r1 = s := by simpa using hs
      have hres : r2 = (onceL (ps.reverse ++ m)).take s.toNat := by
        unfold impl_PoolAll.f at hr
        rw [if_pos (by omega)] at hr
        split at hr
        · simp only [Option.some.injEq, Prod.mk.injEq] at hr
          obtain ⟨_, hr, _⟩ := hr
          subst hr
          exact allA_once s ps m hS.2.2.2.2 (by omega)
        · simp only [Option.some.injEq, Prod.mk.injEq] at hr
          obtain ⟨h0, hr, _⟩ := hr
          subst hr
          have : s = 0 := by omega
          subst this
          simp
      simp only [laws_FnPoolLast.j0]
      rw [if_neg (by decide), wrap_id ((ps.length : Int) - 1) (by omega) (by omega)]
      refine last_l0 ps s m r1 r2 (by omega) (some true) 4000 (fun x hx k hk => ?_) ps.length [] (by omega) (by simp; omega) (by rw [List.take_length]; rfl) _ (by omega)
      have hxl : x.length ≤ 30 := by
        have := sub_len x ps (hx ▸ nodup_once _) (fun y hy => by rw [hx, mem_once] at hy; simpa using hy)
        omega
      have := last_l2 s m r1 r2 (by omega) (some true) 500 x hxl (fun k hk => ?_) m.length 0 (by omega) k (by omega)
      · simpa using this
      · obtain ⟨k, rfl⟩ : ∃ m, k = m + 1 := ⟨k - 1, by omega⟩
        rw [hx, ← once_append]
        simp only [laws_FnPoolLast.l2]
        rw [if_neg (by omega)]
        by_cases hlt : ((onceL (ps.reverse ++ m)).length : Int) > s
        · rw [if_pos hlt, if_pos (by omega), if_pos (by omega), hres, wpPages_ev _ _ (by rw [List.length_take]; omega) _ (by rw [List.length_take]; omega)]
          simp
        · rw [if_neg hlt, hres, List.take_of_length_le (by omega), wpPages_ev _ _ (by omega) _ (by omega)]
          simp

end Go.Proofs.Ytcobbpghipeoeaa.Pure
