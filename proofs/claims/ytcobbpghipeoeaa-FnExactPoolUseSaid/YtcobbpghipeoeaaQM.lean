/- What the marks of the exact laws come to, in plain lists: a list that is marked holds its marks. -/
import Derived.Test.YtcobbpghipeoeaaQ
import Derived.Test.YtcobbpghipeoeaaDr
namespace Go.Proofs.Ytcobbpghipeoeaa.R
open Go.RowKit Go.Proofs.YtcobbpghipeoeaaV.PrintWords Go.Proofs.YtcobbpghipeoeaaV.PrintLast
set_option linter.unusedVariables false
set_option linter.unusedSimpArgs false

theorem eqPageS_ev (l m : List S25) (hl : l.length ≤ 1099511627776) (k : Nat) (hk : l.length < k) : laws_eqPageS.f k l m = some (decide (l = m)) := by
  unfold laws_eqPageS.f
  by_cases h : (l.length : Int) = (m.length : Int)
  · rw [if_pos h]
    have := same_loop l m (by omega) hl (fun k i => laws_eqPageS.l0 k l m i) (fun k j hj => by
      simp only [laws_eqPageS.l0]
      rw [if_pos (by omega), if_pos (by omega), if_pos (by omega)]
      unfold laws_eqPage.f
      by_cases e0 : (rd_T25 l (j : Int)).f0 = (rd_T25 m (j : Int)).f0 <;> by_cases e1 : (rd_T25 l (j : Int)).f1 = (rd_T25 m (j : Int)).f1 <;> simp [e0, e1]) (fun k => by simp only [laws_eqPageS.l0]; rw [if_neg (by omega)]) l.length 0 (by omega) k hk
    simpa using this
  · rw [if_neg h, decide_eq_false (fun e => h (by rw [e]))]
theorem eqPool_ev (a b : Int) (l m : List S25) (hl : l.length ≤ 1099511627776) (k : Nat) (hk : l.length < k) : laws_eqPool.f k a l b m = some (decide (a = b) && decide (l = m)) := by
  unfold laws_eqPool.f
  by_cases h : a = b
  · rw [if_pos h, eqPageS_ev l m hl k hk, Option.bind_some]
    by_cases e : l = m <;> simp [h, e]
  · simp [h]
/-- The marks from m on, in n pages. -/
def markL (m : Int) (n : Nat) : List S25 := (List.range n).map fun (j : Nat) => (⟨m + 2 * (j : Int), m + 2 * (j : Int) + 1⟩ : S25)
theorem markL_len (m : Int) (n : Nat) : (markL m n).length = n := by simp [markL]
theorem markL_succ (m : Int) (n : Nat) : markL m (n + 1) = markL m n ++ [⟨m + 2 * (n : Int), m + 2 * (n : Int) + 1⟩] := by
  unfold markL
  rw [List.range_succ, List.map_append]
  rfl
theorem markL_rd (m : Int) (n j : Nat) (h : j < n) : rd_T25 (markL m n) (j : Int) = ⟨m + 2 * (j : Int), m + 2 * (j : Int) + 1⟩ := by
  rw [rd_get _ _ (by rw [markL_len]; exact h)]
  simp [markL]
theorem set_mid (a b : List S25) (x y : S25) (j : Nat) (h : a.length = j) : (a ++ x :: b).set j y = a ++ y :: b := by
  subst h
  rw [List.set_append_right _ _ (Nat.le_refl _)]
  simp
theorem rd_mid (a b : List S25) (x : S25) (j : Nat) (h : a.length = j) : rd_T25 (a ++ x :: b) (j : Int) = x := by
  subst h
  rw [rd_get _ _ (by simp)]
  simp
theorem mark_loop (l : List S25) (m : Int) (hm : 0 ≤ m) (hm2 : m + 2 * l.length ≤ 4611686018427387904) : ∀ (d j : Nat), j + d = l.length → ∀ k, d < k →
    laws_markPageS.l0 k (markL m j ++ l.drop j) (m + 2 * (j : Int)) (j : Int) = some (m + 2 * (l.length : Int), markL m l.length) := by
  intro d
  induction d with
  | zero =>
    intro j hj k hk
    obtain ⟨k, rfl⟩ : ∃ m, k = m + 1 := ⟨k - 1, by omega⟩
    obtain rfl : j = l.length := by omega
    simp only [laws_markPageS.l0]
    rw [List.drop_length, List.append_nil, if_neg (by rw [markL_len]; omega)]
  | succ d ih =>
    intro j hj k hk
    obtain ⟨k, rfl⟩ : ∃ m, k = m + 1 := ⟨k - 1, by omega⟩
    have hih := ih (j + 1) (by omega) k (by omega)
    rw [markL_succ, List.append_assoc, List.singleton_append] at hih
    simp only [laws_markPageS.l0]
    rw [rd_drop l j (by omega), if_pos (by simp [markL_len]; omega), if_pos (by omega), Int.toNat_natCast, set_mid _ _ _ _ _ (markL_len m j), Option.bind_some, rd_mid _ _ _ _ (markL_len m j), rd_mid _ _ _ _ (markL_len m j), set_mid _ _ _ _ _ (markL_len m j),
      wrap_id (m + 2 * (j : Int) + 1) (by omega) (by omega), wrap_id (m + 2 * (j : Int) + 1 + 1) (by omega) (by omega), wrap_id ((j : Int) + 1) (by omega) (by omega)]
    rw [show m + 2 * (j : Int) + 1 + 1 = m + 2 * ((j + 1 : Nat) : Int) from by omega, show (j : Int) + 1 = ((j + 1 : Nat) : Int) from by omega]
    exact hih
theorem mark_ev (l : List S25) (m : Int) (hm : 0 ≤ m) (hm2 : m + 2 * l.length ≤ 4611686018427387904) (k : Nat) (hk : l.length < k) : laws_markPageS.f k l m = some (m + 2 * (l.length : Int), markL m l.length) := by
  have := mark_loop l m hm hm2 l.length 0 (by omega) k hk
  unfold laws_markPageS.f
  simpa [markL] using this
theorem held_loop (m : Int) (n : Nat) (hm : 0 ≤ m) (hm2 : m + 2 * n ≤ 4611686018427387904) : ∀ (d j : Nat), j + d = n → ∀ k, d < k →
    laws_heldPageS.l0 k (markL m n) (m + 2 * (j : Int)) (j : Int) = some (m + 2 * (n : Int)) := by
  intro d
  induction d with
  | zero =>
    intro j hj k hk
    obtain ⟨k, rfl⟩ : ∃ m, k = m + 1 := ⟨k - 1, by omega⟩
    obtain rfl : j = n := by omega
    simp only [laws_heldPageS.l0]
    rw [if_neg (by rw [markL_len]; omega)]
  | succ d ih =>
    intro j hj k hk
    obtain ⟨k, rfl⟩ : ∃ m, k = m + 1 := ⟨k - 1, by omega⟩
    have hih := ih (j + 1) (by omega) k (by omega)
    simp only [laws_heldPageS.l0]
    rw [if_pos (by rw [markL_len]; omega), if_pos (by omega), markL_rd m n j (by omega), if_pos rfl, wrap_id (m + 2 * (j : Int) + 1) (by omega) (by omega), if_pos rfl, wrap_id (m + 2 * (j : Int) + 1 + 1) (by omega) (by omega), wrap_id ((j : Int) + 1) (by omega) (by omega)]
    rw [show m + 2 * (j : Int) + 1 + 1 = m + 2 * ((j + 1 : Nat) : Int) from by omega, show (j : Int) + 1 = ((j + 1 : Nat) : Int) from by omega]
    exact hih
theorem held_ev (m : Int) (n : Nat) (hm : 0 ≤ m) (hm2 : m + 2 * n ≤ 4611686018427387904) (k : Nat) (hk : n < k) : laws_heldPageS.f k (markL m n) m = some (m + 2 * (n : Int)) := by
  have := held_loop m n hm hm2 n 0 (by omega) k hk
  unfold laws_heldPageS.f
  simpa using this
end Go.Proofs.Ytcobbpghipeoeaa.R
