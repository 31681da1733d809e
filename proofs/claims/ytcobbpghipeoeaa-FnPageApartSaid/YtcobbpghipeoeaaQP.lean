/- What the page functions come to, in plain lists: no memory, no Go. -/
import Derived.Test.YtcobbpghipeoeaaQD
namespace Go.Proofs.Ytcobbpghipeoeaa.R
open Go.RowKit Go.Proofs.YtcobbpghipeoeaaV.PrintWords Go.Proofs.YtcobbpghipeoeaaV.PrintLast
set_option linter.unusedVariables false
set_option linter.unusedSimpArgs false

/-- n pages of a label, from a place on. -/
def spanL (a : Int) : Int → Nat → List S25
  | _, 0 => []
  | i, n + 1 => ⟨a, i⟩ :: spanL a (i + 1) n
theorem spanL_len (a : Int) : ∀ (n : Nat) (i : Int), (spanL a i n).length = n
  | 0, _ => rfl
  | n + 1, i => by simp [spanL, spanL_len a n]
theorem spanL_get (a : Int) : ∀ (n : Nat) (i : Int) (j : Nat) (h : j < (spanL a i n).length), (spanL a i n)[j] = ⟨a, i + j⟩
  | 0, _, j, h => by simp [spanL] at h
  | n + 1, i, 0, h => by simp [spanL]
  | n + 1, i, j + 1, h => by
    simp only [spanL, List.getElem_cons_succ]
    rw [spanL_get a n]
    congr 1
    omega
theorem spanL_rd (a : Int) (n : Nat) (i : Int) (j : Nat) (h : j < n) : rd_T25 (spanL a i n) (j : Int) = ⟨a, i + j⟩ := by
  rw [rd_get _ _ (by rw [spanL_len]; exact h), spanL_get]
abbrev spanOk (a f t : Int) : Prop := 0 ≤ a ∧ a ≤ 7 ∧ 0 ≤ f ∧ f < t ∧ t ≤ 8000
/-- The pages that the bytes are in. -/
def spanP (a f t : Int) : List S25 := if spanOk a f t then spanL a (f / 8) ((t - 1) / 8 - f / 8 + 1).toNat else []
theorem specSpan_loop (a t : Int) (ht : t ≤ 8000) : ∀ (d : Nat) (acc : List S25) (i : Int), 0 ≤ i → i + d = (t - 1) / 8 + 1 → acc.length + d ≤ 2000 → ∀ k, d < k → spec_PageSpan.l0 k a t acc i = some (acc ++ spanL a i d) := by
  intro d
  induction d with
  | zero =>
    intro acc i hi hd hl k hk
    obtain ⟨k, rfl⟩ : ∃ m, k = m + 1 := ⟨k - 1, by omega⟩
    simp only [spec_PageSpan.l0]
    rw [if_neg (by rw [wrap_id _ (by omega) (by omega)]; omega)]
    simp [spanL]
  | succ d ih =>
    intro acc i hi hd hl k hk
    obtain ⟨k, rfl⟩ : ∃ m, k = m + 1 := ⟨k - 1, by omega⟩
    simp only [spec_PageSpan.l0]
    rw [if_pos (by rw [wrap_id _ (by omega) (by omega)]; omega), if_pos (by omega), wrap_id (i + 1) (by omega) (by omega), ih _ (i + 1) (by omega) (by omega) (by simp; omega) k (by omega)]
    simp [spanL]
theorem implSpan_loop (a t : Int) (ht : t ≤ 8000) (h1 : 1 ≤ t) : ∀ (d : Nat) (acc : List S25) (i : Int), 0 ≤ i → i + d = (t - 1) / 8 + 1 → acc.length + d ≤ 2000 → ∀ k, d < k → impl_PageSpan.l0 k a t acc i = some (acc ++ spanL a i d) := by
  have hw : wrap64 (Int.tdiv (wrap64 (t - 1)) 8) = (t - 1) / 8 := by
    rw [wrap_id (t - 1) (by omega) (by omega), Int.tdiv_eq_ediv_of_nonneg (by omega)]
    exact wrap_id _ (by omega) (by omega)
  intro d
  induction d with
  | zero =>
    intro acc i hi hd hl k hk
    obtain ⟨k, rfl⟩ : ∃ m, k = m + 1 := ⟨k - 1, by omega⟩
    simp only [impl_PageSpan.l0]
    rw [hw, if_neg (by omega)]
    simp [spanL]
  | succ d ih =>
    intro acc i hi hd hl k hk
    obtain ⟨k, rfl⟩ : ∃ m, k = m + 1 := ⟨k - 1, by omega⟩
    simp only [impl_PageSpan.l0]
    rw [hw, if_pos (by omega), if_pos (by omega), wrap_id (i + 1) (by omega) (by omega), ih _ (i + 1) (by omega) (by omega) (by simp; omega) k (by omega)]
    simp [spanL]
theorem specSpan_ev (a f t : Int) (k : Nat) (hk : 2000 < k) : spec_PageSpan.f k a f t = some (spanP a f t) := by
  obtain ⟨k, rfl⟩ : ∃ m, k = m + 1 := ⟨k - 1, by omega⟩
  unfold spec_PageSpan.f spec_LabelOk.f spanP
  rw [Option.bind_some]
  simp only [spec_PageSpan.j0]
  by_cases a0 : 0 ≤ a
  · by_cases a1 : a ≤ 7
    · by_cases f0 : f < 0
      · simp [a0, a1, f0]; intro h; omega
      · by_cases f1 : t ≤ f
        · simp [a0, a1, f0, f1]; intro _ h; omega
        · by_cases t0 : t > 8000
          · simp [a0, a1, f0, f1, t0]; intro _ _ h; omega
          · have := specSpan_loop a t (by omega) ((t - 1) / 8 - f / 8 + 1).toNat [] (f / 8) (by omega) (by omega) (by simp; omega) k (by omega)
            rw [if_pos (⟨a0, a1, by omega, by omega, by omega⟩ : spanOk a f t)]
            simp only [a0, a1, f0, f1, t0, ge_iff_le, if_true, if_false, decide_true, decide_false, Option.bind_some, Bool.false_eq_true]
            rw [Int.tdiv_eq_ediv_of_nonneg (by omega), wrap_id (f / 8) (by omega) (by omega), this]
            rfl
    · simp [a0, a1]
  · simp [a0]
theorem implSpan_ev (a f t : Int) (k : Nat) (hk : 2000 < k) : impl_PageSpan.f k a f t = some (spanP a f t) := by
  obtain ⟨k, rfl⟩ : ∃ m, k = m + 1 := ⟨k - 1, by omega⟩
  unfold impl_PageSpan.f impl_LabelOk.f spanP
  simp only [impl_PageSpan.j0]
  by_cases a0 : 0 ≤ a
  · by_cases a1 : a ≤ 7
    · by_cases f0 : f < 0
      · simp [a0, a1, f0]; intro h; omega
      · by_cases f1 : t ≤ f
        · simp [a0, a1, f0, f1]; intro _ h; omega
        · by_cases t0 : t > 8000
          · simp [a0, a1, f0, f1, t0]; intro _ _ h; omega
          · have := implSpan_loop a t (by omega) (by omega) ((t - 1) / 8 - f / 8 + 1).toNat [] (f / 8) (by omega) (by omega) (by simp; omega) k (by omega)
            rw [if_pos (⟨a0, a1, by omega, by omega, by omega⟩ : spanOk a f t)]
            simp only [a0, a1, f0, f1, t0, if_true, if_false, decide_true, decide_false, Option.bind_some, Bool.false_eq_true]
            rw [Int.tdiv_eq_ediv_of_nonneg (by omega), wrap_id (f / 8) (by omega) (by omega), this]
            rfl
    · simp [a0, a1]
  · simp [a0]
theorem spanP_len (a f t : Int) : (spanP a f t).length ≤ 1001 := by
  unfold spanP
  by_cases h : spanOk a f t
  · rw [if_pos h, spanL_len]
    obtain ⟨_, _, h1, h2, h3⟩ := h
    omega
  · rw [if_neg h]; simp
theorem label_ev (b : List Int) (p : Int) (hb : BytesOk b) (hp : 0 ≤ p) (hp2 : p ≤ 900000) : ∃ a, ∀ k, 0 < k → spec_l1Label.f k b p = some (a, p + 2) := by
  obtain ⟨r, _, _, h1⟩ := pick_ev b p 20 hb hp (by omega) (by omega) (by omega)
  by_cases c : r = 0
  · obtain ⟨a, _, h2⟩ := num_ev b (p + 1) [(-1), 8, 9223372036854775807, (-9223372036854775808)] hb (by omega) (by omega) (by decide) (by decide)
    refine ⟨a, fun k hk => ?_⟩
    unfold spec_l1Label.f
    rw [h1 k hk, Option.bind_some, if_pos c, h2 k hk, Option.bind_some, show p + 1 + 1 = p + 2 from by omega]
  · obtain ⟨a, _, _, h2⟩ := pick_ev b (p + 1) 8 hb (by omega) (by omega) (by omega) (by omega)
    refine ⟨a, fun k hk => ?_⟩
    unfold spec_l1Label.f
    rw [h1 k hk, Option.bind_some, if_neg c, h2 k hk, Option.bind_some, show p + 1 + 1 = p + 2 from by omega]
theorem drawSpan_ev (l : List Int) (hl : ∀ x ∈ l, (Lit.int .u8 x).wf = true) : ∃ a f t, -1 ≤ f ∧ f ≤ 30 ∧ -10 ≤ t ∧ t ≤ 9100 ∧ ∀ k, 0 < k → spec_DrawPageSpan.f k l = some (a, f, t) := by
  obtain ⟨b, hb, h0⟩ := open_ev l hl
  obtain ⟨a, h1⟩ := label_ev b 0 hb (by omega) (by omega)
  obtain ⟨f, hf, h2⟩ := num_ev b (0 + 2) [0, 1, 7, 8, 9, 15, 30, (-1)] hb (by omega) (by omega) (by decide) (by decide)
  obtain ⟨t, ht, h3⟩ := num_ev b (0 + 2 + 1) [1, 2, 7, 8, 9, 20, 0, (-3), 9000] hb (by omega) (by omega) (by decide) (by decide)
  simp only [List.mem_cons, List.not_mem_nil, or_false] at hf ht
  refine ⟨a, f, f + t, by omega, by omega, by omega, by omega, fun k hk => ?_⟩
  unfold spec_DrawPageSpan.f
  rw [h0, Option.bind_some, h1 k hk, Option.bind_some, h2 k hk, Option.bind_some, h3 k hk, Option.bind_some, wrap_id _ (by omega) (by omega)]
theorem drawPage_ev (l : List Int) (hl : ∀ x ∈ l, (Lit.int .u8 x).wf = true) : ∃ a b, ∀ k, 0 < k → spec_DrawPageOk.f k l = some (a, b) := by
  obtain ⟨b, hb, h0⟩ := open_ev l hl
  obtain ⟨a, h1⟩ := label_ev b 0 hb (by omega) (by omega)
  obtain ⟨f, hf, h2⟩ := num_ev b (0 + 2) [0, 1, 5, 999, 1000, (-1)] hb (by omega) (by omega) (by decide) (by decide)
  refine ⟨a, f, fun k hk => ?_⟩
  unfold spec_DrawPageOk.f
  rw [h0, Option.bind_some, h1 k hk, Option.bind_some, h2 k hk, Option.bind_some]
end Go.Proofs.Ytcobbpghipeoeaa.R
