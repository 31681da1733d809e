/- What the reader of draws tells: a number from 0 to n-1, and that it stands one place further. Of at most 2000 bytes and a million draws. -/
import Derived.Test.YtcobbpghipeoeaaF
namespace Go.Proofs.Ytcobbpghipeoeaa.R
open Go.RowKit Go.Proofs.YtcobbpghipeoeaaV.PrintWords Go.Proofs.YtcobbpghipeoeaaV.PrintLast
set_option linter.unusedVariables false
set_option linter.unusedSimpArgs false

theorem xor_i64_nat (a b : Nat) (ha : a < 4611686018427387904) (hb : b < 4611686018427387904) : Go.bits .xor .i64 (a : Int) (b : Int) = ((a ^^^ b : Nat) : Int) := by
  have hx : a ^^^ b < 2 ^ 62 := Nat.xor_lt_two_pow (by omega) (by omega)
  have h1 : (BitVec.ofInt 64 (a : Int)).toNat = a := by
    rw [BitVec.ofInt_natCast, BitVec.toNat_ofNat]; exact Nat.mod_eq_of_lt (by omega)
  have h2 : (BitVec.ofInt 64 (b : Int)).toNat = b := by
    rw [BitVec.ofInt_natCast, BitVec.toNat_ofNat]; exact Nat.mod_eq_of_lt (by omega)
  show IntKind.i64.wrap ((BitVec.ofInt 64 (a : Int) ^^^ BitVec.ofInt 64 (b : Int)).toNat : Int) = _
  rw [BitVec.toNat_xor, h1, h2, IntKind.wrap_i64]
  omega
theorem xor_i64_nonneg (a b : Int) (ha : 0 ≤ a) (ha2 : a < 4611686018427387904) (hb : 0 ≤ b) (hb2 : b < 4611686018427387904) : 0 ≤ Go.bits .xor .i64 a b := by
  obtain ⟨n, rfl⟩ := Int.eq_ofNat_of_zero_le ha
  obtain ⟨m, rfl⟩ := Int.eq_ofNat_of_zero_le hb
  rw [xor_i64_nat n m (by omega) (by omega)]
  exact Int.natCast_nonneg _
theorem wrap_id (x : Int) (h0 : -9223372036854775808 ≤ x) (h1 : x ≤ 9223372036854775807) : wrap64 x = x := by unfold wrap64; omega
/-- Bytes to draw from: few enough, each a byte. -/
def BytesOk (b : List Int) : Prop := b.length ≤ 2000 ∧ ∀ x ∈ b, 0 ≤ x ∧ x < 256
theorem rd_ok {b : List Int} (h : BytesOk b) (i : Int) : 0 ≤ rd b i ∧ rd b i < 256 := by
  unfold rd
  rw [List.getD_eq_getElem?_getD]
  rcases Nat.lt_or_ge i.toNat b.length with hl | hl
  · rw [List.getElem?_eq_getElem hl]
    exact h.2 _ (List.getElem_mem hl)
  · rw [List.getElem?_eq_none hl]
    exact ⟨by decide, by decide⟩
theorem tmod_ok (x n : Int) (h : 0 ≤ x) (hn : 0 < n) : 0 ≤ Int.tmod x n ∧ Int.tmod x n < n := ⟨Int.tmod_nonneg n h, Int.tmod_lt_of_pos x hn⟩
theorem tdiv_ok (x n : Int) (h : 0 ≤ x) (hn : 0 < n) : 0 ≤ Int.tdiv x n ∧ Int.tdiv x n ≤ x := by
  rw [Int.tdiv_eq_ediv_of_nonneg h]
  exact ⟨Int.ediv_nonneg h (by omega), Int.ediv_le_self n h⟩
theorem pick_ev (b : List Int) (p n : Int) (hb : BytesOk b) (hp : 0 ≤ p) (hp2 : p ≤ 1000000) (hn : 1 ≤ n) (hn2 : n ≤ 1000000) :
    ∃ r, 0 ≤ r ∧ r < n ∧ ∀ k, 0 < k → spec_l9Rd_pick.f k b p n = some (r, p + 1) := by
  have hbl := hb.1
  have hw1 : wrap64 (p + 1) = p + 1 := wrap_id _ (by omega) (by omega)
  have hw2 : wrap64 (p + 1 - 1) = p := by rw [show p + 1 - 1 = p from by omega]; exact wrap_id _ (by omega) (by omega)
  by_cases h0 : b.length = 0
  · refine ⟨0, by omega, by omega, fun k hk => ?_⟩
    obtain ⟨k, rfl⟩ : ∃ m, k = m + 1 := ⟨k - 1, by omega⟩
    unfold spec_l9Rd_pick.f
    simp only [spec_l9Rd_pick.j0]
    rw [if_neg (by omega), if_pos (by simp [h0]), hw1]
  · have hbn : ((b.length : Int) == 0) = false := by rw [beq_eq_false_iff_ne]; omega
    by_cases h1 : p < (b.length : Int)
    · obtain ⟨q0, q1⟩ := rd_ok hb p
      have hw3 : wrap64 (rd b p) = rd b p := wrap_id _ (by omega) (by omega)
      obtain ⟨t0, t1⟩ := tmod_ok (rd b p) n q0 (by omega)
      refine ⟨Int.tmod (rd b p) n, t0, t1, fun k hk => ?_⟩
      obtain ⟨k, rfl⟩ : ∃ m, k = m + 1 := ⟨k - 1, by omega⟩
      unfold spec_l9Rd_pick.f
      simp only [spec_l9Rd_pick.j0]
      rw [if_neg (by omega), hbn, if_neg (by decide), hw1, hw2, if_pos h1, if_pos hp, if_neg (by omega), hw3]
    · obtain ⟨a0, a1⟩ := tmod_ok p (b.length : Int) hp (by omega)
      have hw4 : wrap64 (p * 7) = p * 7 := wrap_id _ (by omega) (by omega)
      have hw5 : wrap64 (p * 7 + 3) = p * 7 + 3 := wrap_id _ (by omega) (by omega)
      obtain ⟨c0, c1⟩ := tmod_ok (p * 7 + 3) (b.length : Int) (by omega) (by omega)
      obtain ⟨d0, d1⟩ := tdiv_ok p (b.length : Int) hp (by omega)
      obtain ⟨u, hu⟩ : ∃ u, u = rd b (Int.tmod p (b.length : Int)) := ⟨_, rfl⟩
      obtain ⟨v, hv⟩ : ∃ v, v = rd b (Int.tmod (p * 7 + 3) (b.length : Int)) := ⟨_, rfl⟩
      obtain ⟨w, hw⟩ : ∃ w, w = Int.tdiv p (b.length : Int) := ⟨_, rfl⟩
      have u0 := rd_ok hb (Int.tmod p (b.length : Int))
      have v0 := rd_ok hb (Int.tmod (p * 7 + 3) (b.length : Int))
      rw [← hu] at u0
      rw [← hv] at v0
      rw [← hw] at d0 d1
      have e1 : wrap64 u = u := wrap_id _ (by omega) (by omega)
      have e2 : wrap64 v = v := wrap_id _ (by omega) (by omega)
      have e3 : wrap64 (u * 131) = u * 131 := wrap_id _ (by omega) (by omega)
      have e4 : wrap64 (v * 1117) = v * 1117 := wrap_id _ (by omega) (by omega)
      have e5 : wrap64 (u * 131 + v * 1117) = u * 131 + v * 1117 := wrap_id _ (by omega) (by omega)
      have e6 : wrap64 (p * 29) = p * 29 := wrap_id _ (by omega) (by omega)
      have e7 : wrap64 (u * 131 + v * 1117 + p * 29) = u * 131 + v * 1117 + p * 29 := wrap_id _ (by omega) (by omega)
      have e8 : wrap64 w = w := wrap_id _ (by omega) (by omega)
      have e9 : wrap64 (w * 53) = w * 53 := wrap_id _ (by omega) (by omega)
      obtain ⟨x, hx⟩ : ∃ x, x = u * 131 + v * 1117 + p * 29 + w * 53 := ⟨_, rfl⟩
      have e10 : wrap64 x = x := wrap_id _ (by omega) (by omega)
      obtain ⟨f0, f1⟩ := tdiv_ok x 64 (by omega) (by omega)
      have e11 : wrap64 (Int.tdiv x 64) = Int.tdiv x 64 := wrap_id _ (by omega) (by omega)
      have g0 := xor_i64_nonneg x (Int.tdiv x 64) (by omega) (by omega) f0 (by omega)
      obtain ⟨t0, t1⟩ := tmod_ok (Go.bits .xor .i64 x (Int.tdiv x 64)) n g0 (by omega)
      refine ⟨Int.tmod (Go.bits .xor .i64 x (Int.tdiv x 64)) n, t0, t1, fun k hk => ?_⟩
      obtain ⟨k, rfl⟩ : ∃ m, k = m + 1 := ⟨k - 1, by omega⟩
      unfold spec_l9Rd_pick.f
      simp only [spec_l9Rd_pick.j0]
      rw [if_neg (by omega), hbn, if_neg (by decide), hw1, hw2, if_neg h1, if_neg (by omega), if_pos a0, if_pos a1, hw4, hw5, if_pos c0, if_pos c1, if_neg (by omega), ← hu, ← hv, ← hw, e1, e2, e3, e4, e5, e6, e7, e8, e9, ← hx, e10, e11]
theorem num_ev (b : List Int) (p : Int) (l : List Int) (hb : BytesOk b) (hp : 0 ≤ p) (hp2 : p ≤ 1000000) (hl : 0 < l.length) (hl2 : l.length ≤ 1000000) :
    ∃ r, r ∈ l ∧ ∀ k, 0 < k → spec_l9Rd_num.f k b p l = some (r, p + 1) := by
  obtain ⟨i, h0, h1, h⟩ := pick_ev b p (l.length : Int) hb hp hp2 (by omega) (by omega)
  obtain ⟨n, rfl⟩ := Int.eq_ofNat_of_zero_le h0
  have hn : n < l.length := by omega
  refine ⟨l[n], List.getElem_mem hn, fun k hk => ?_⟩
  unfold spec_l9Rd_num.f
  rw [h k hk, Option.bind_some, if_pos h0, if_pos h1]
  unfold rd
  simp [List.getD_eq_getElem?_getD, List.getElem?_eq_getElem hn]
theorem open_ev (l : List Int) (hl : ∀ x ∈ l, (Lit.int .u8 x).wf = true) : ∃ b, BytesOk b ∧ spec_l9Open.f l = some (b, 0) := by
  have hw : ∀ x ∈ l, 0 ≤ x ∧ x < 256 := fun x hx => by
    have := hl x hx
    simp [Lit.wf, IntKind.min, IntKind.max, IntKind.bits, IntKind.signed] at this
    omega
  unfold spec_l9Open.f
  by_cases h : (l.length : Int) > 2000
  · refine ⟨l.take 2000, ⟨by rw [List.length_take]; omega, fun x hx => hw x (List.mem_of_mem_take hx)⟩, ?_⟩
    rw [if_pos h, if_pos (by omega)]
  · exact ⟨l, ⟨by omega, hw⟩, by rw [if_neg h]⟩
end Go.Proofs.Ytcobbpghipeoeaa.R
