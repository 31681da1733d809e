/- What the exact laws read of their arguments, in plain lists. -/
import Derived.Test.YtcobbpghipeoeaaF
import Derived.Test.YtcobbpghipeoeaaQM
import Derived.Test.YtcobbpghipeoeaaQL
namespace Go.Proofs.Ytcobbpghipeoeaa.R
open Go.RowKit Go.Proofs.YtcobbpghipeoeaaV.PrintWords Go.Proofs.YtcobbpghipeoeaaV.PrintLast
set_option linter.unusedVariables false
set_option linter.unusedSimpArgs false

/-- A page of the law's, as the program's. -/
def ofPage (p : S23) : S25 := ⟨p.f0, p.f1⟩
def ofPages (l : List S23) : List S25 := l.map ofPage
theorem ofPages_len (l : List S23) : (ofPages l).length = l.length := by simp [ofPages]
theorem rd23_get (l : List S23) (j : Nat) (h : j < l.length) : rd_T23 l (j : Int) = l[j] := by
  unfold rd_T23
  simp [List.getD_eq_getElem?_getD, List.getElem?_eq_getElem h]
theorem set_rep (a : List S25) (n : Nat) (z x : S25) (j : Nat) (h : a.length = j) : (a ++ List.replicate (n + 1) z).set j x = a ++ x :: List.replicate n z := by
  subst h
  rw [List.replicate_succ, List.set_append_right _ _ (Nat.le_refl _)]
  simp
theorem toPageS_loop (l : List S23) (hl : l.length ≤ 1099511627776) : ∀ (d j : Nat), j + d = l.length → ∀ k, d < k →
    laws_toPageS.l0 k l (ofPages (l.take j) ++ List.replicate d z25) (j : Int) = some (ofPages l) := by
  intro d
  induction d with
  | zero =>
    intro j hj k hk
    obtain ⟨k, rfl⟩ : ∃ m, k = m + 1 := ⟨k - 1, by omega⟩
    simp only [laws_toPageS.l0]
    rw [if_neg (by omega), List.take_of_length_le (by omega)]
    simp
  | succ d ih =>
    intro j hj k hk
    obtain ⟨k, rfl⟩ : ∃ m, k = m + 1 := ⟨k - 1, by omega⟩
    have hih := ih (j + 1) (by omega) k (by omega)
    have hs : ofPages (l.take (j + 1)) = ofPages (l.take j) ++ [ofPage l[j]] := by
      unfold ofPages
      rw [List.take_succ_eq_append_getElem (by omega), List.map_append]
      rfl
    rw [hs] at hih
    simp only [laws_toPageS.l0]
    unfold laws_toPage.f
    rw [if_pos (by omega), if_pos (by omega), Option.bind_some, rd23_get l j (by omega), if_pos (by simp [ofPages_len]; omega), Int.toNat_natCast, set_rep _ _ _ _ _ (by simp [ofPages_len]; omega), wrap_next (by omega)]
    simpa [ofPage] using hih
theorem toPageS_ev (l : List S23) (hl : l.length ≤ 1099511627776) (k : Nat) (hk : l.length < k) : laws_toPageS.f k l = some (ofPages l) := by
  have := toPageS_loop l hl l.length 0 (by omega) k hk
  unfold laws_toPageS.f
  rw [if_pos (by omega), Int.toNat_natCast, if_pos (by omega)]
  simpa [ofPages] using this
theorem toPool_ev (a : Int) (l : List S23) (hl : l.length ≤ 1099511627776) (k : Nat) (hk : l.length < k) : laws_toPool.f k a l = some (a, ofPages l) := by
  unfold laws_toPool.f
  rw [toPageS_ev l hl k hk, Option.bind_some]
theorem szPageS_ev (l : List S23) (b : Int) (hb : 0 ≤ b) (hb2 : b ≤ 1048576) (hl : l.length ≤ 9223372036854775807) : laws_szPageS.f l b = some (if b - (l.length : Int) < 0 then -1 else b - (l.length : Int)) := by
  unfold laws_szPageS.f
  rw [wrap_id _ (by omega) (by omega)]
  split <;> rfl
theorem szPool_ev (a : Int) (l : List S23) (b : Int) (hb : 0 ≤ b) (hb2 : b ≤ 1048576) (hl : l.length ≤ 9223372036854775807) : laws_szPool.f a l b = some (if b - (l.length : Int) < 0 then -1 else b - (l.length : Int)) := by
  unfold laws_szPool.f
  rw [szPageS_ev l b hb hb2 hl, Option.bind_some]
  split
  · rfl
  · rfl
theorem markPool_ev (a : Int) (l : List S25) (m : Int) (hm : 0 ≤ m) (hm2 : m + 2 * l.length ≤ 4611686018427387904) (k : Nat) (hk : l.length < k) : laws_markPool.f k a l m = some (m + 2 * (l.length : Int), markL m l.length) := by
  unfold laws_markPool.f
  rw [mark_ev l m hm hm2 k hk, Option.bind_some]
theorem heldPool_ev (a m : Int) (n : Nat) (hm : 0 ≤ m) (hm2 : m + 2 * n ≤ 4611686018427387904) (k : Nat) (hk : n < k) : laws_heldPool.f k a (markL m n) m = some (m + 2 * (n : Int)) := by
  unfold laws_heldPool.f
  rw [held_ev m n hm hm2 k hk, Option.bind_some, if_neg (by omega)]
end Go.Proofs.Ytcobbpghipeoeaa.R
