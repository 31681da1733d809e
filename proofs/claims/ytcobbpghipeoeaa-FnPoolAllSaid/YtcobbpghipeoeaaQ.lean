/- What the pool functions of the reference and the draws come to, in plain lists: no memory, no Go. -/
import Derived.Test.YtcobbpghipeoeaaF
import Derived.Test.YtcobbpghipeoeaaGC
namespace Go.Proofs.Ytcobbpghipeoeaa.R
open Go.RowKit Go.Proofs.YtcobbpghipeoeaaV.PrintWords Go.Proofs.YtcobbpghipeoeaaV.PrintLast
set_option linter.unusedVariables false
set_option linter.unusedSimpArgs false

theorem isP_iff (x y : S25) : isP x y = true ↔ x = y := by
  unfold isP
  rw [Bool.and_eq_true, beq_iff_eq, beq_iff_eq]
  constructor
  · rintro ⟨h1, h2⟩
    cases x; cases y
    simp only at h1 h2
    subst h1; subst h2; rfl
  · rintro rfl; exact ⟨rfl, rfl⟩
instance : DecidableEq S25 := fun x y => decidable_of_iff _ (isP_iff x y)
theorem isP_dec (x y : S25) : isP x y = decide (x = y) := by
  rw [Bool.eq_iff_iff, isP_iff, decide_eq_true_eq]
theorem hasP_iff (l : List S25) (p : S25) : hasP l p = true ↔ p ∈ l := by
  unfold hasP
  rw [List.any_eq_true]
  constructor
  · rintro ⟨x, hx, h⟩
    rw [isP_iff] at h
    exact h ▸ hx
  · intro h
    exact ⟨p, h, (isP_iff p p).2 rfl⟩
theorem rd_get (l : List S25) (j : Nat) (h : j < l.length) : rd_T25 l (j : Int) = l[j] := by
  unfold rd_T25
  simp [List.getD_eq_getElem?_getD, List.getElem?_eq_getElem h]
theorem mem_accP (l : List S25) (p x : S25) : x ∈ accP l p ↔ x = p ∨ x ∈ l := by
  unfold accP
  simp only [List.mem_cons, List.mem_filter, isP_dec]
  constructor
  · rintro (h | ⟨h, _⟩)
    · exact .inl h
    · exact .inr h
  · rintro (h | h)
    · exact .inl h
    · by_cases e : x = p
      · exact .inl e
      · exact .inr ⟨h, by simp [e]⟩
theorem nodup_accP (l : List S25) (p : S25) (h : l.Nodup) : (accP l p).Nodup := by
  unfold accP
  rw [List.nodup_cons]
  refine ⟨fun hm => ?_, h.filter _⟩
  rw [List.mem_filter, (isP_iff p p).2 rfl] at hm
  exact absurd hm.2 (by decide)
theorem nodup_useL (s : Int) (l : List S25) (p : S25) (h : l.Nodup) : (useL s l p).Nodup := (nodup_accP l p h).sublist (List.take_sublist _ _)
theorem allA_ind (P : List S25 → Prop) (s : Int) (hP : ∀ l p, P l → P (useL s l p)) : ∀ (ps l : List S25) (n : Int), P l → P (ps.foldl (stepA s) (l, n)).1
  | [], l, n, h => h
  | p :: ps, l, n, h => by
    rw [List.foldl_cons]
    exact allA_ind P s hP ps (useL s l p) _ (hP l p h)
theorem nodup_allA (s : Int) (l ps : List S25) (h : l.Nodup) : (allA s l ps).1.Nodup := allA_ind (fun l => l.Nodup) s (fun l p h => nodup_useL s l p h) ps l 0 h
theorem okAcc_nodup : ∀ (l pre : List S25), okAcc pre l = true → pre.Nodup → (pre ++ l).Nodup
  | [], pre, _, h => by simpa using h
  | x :: xs, pre, ho, h => by
    unfold okAcc at ho
    simp only [Bool.and_eq_true, Bool.not_eq_true'] at ho
    have hx : x ∉ pre := fun hm => by rw [(hasP_iff pre x).2 hm] at ho; exact absurd ho.1.2 (by decide)
    have := okAcc_nodup xs (pre ++ [x]) ho.2 (by
      rw [List.nodup_append]
      exact ⟨h, by simp, fun a ha b hb e => hx (by simp only [List.mem_singleton] at hb; rw [← hb, ← e]; exact ha)⟩)
    simpa using this
theorem poolOk_nodup {s : Int} {l : List S25} (h : poolOkB s l = true) : l.Nodup := by
  unfold poolOkB at h
  simp only [Bool.and_eq_true] at h
  simpa using okAcc_nodup l [] h.2 List.nodup_nil

theorem specAt_ev (l : List S25) (p : S25) (hl : l.length ≤ 1099511627776) (hn : l.Nodup) : ∀ (d j : Nat), j + d = l.length →
    ∃ i : Int, (decide (i ≥ 0) = hasP (l.drop j) p) ∧ (∀ n : Nat, j ≤ n → n < l.length → ((n : Int) = i ↔ rd_T25 l (n : Int) = p)) ∧ ∀ k, d < k → spec_l5At.l0 k l (j : Int) p.f0 p.f1 = some i := by
  intro d
  induction d with
  | zero =>
    intro j hj
    refine ⟨-1, by rw [List.drop_of_length_le (by omega)]; rfl, fun n h1 h2 => by omega, fun k hk => ?_⟩
    obtain ⟨k, rfl⟩ : ∃ m, k = m + 1 := ⟨k - 1, by omega⟩
    simp only [spec_l5At.l0]
    rw [if_neg (by omega)]
  | succ d ih =>
    intro j hj
    have hlt : j < l.length := by omega
    cases hb : isP (rd_T25 l (j : Int)) p with
    | true =>
      refine ⟨(j : Int), by unfold hasP; rw [rd_drop l j hlt, List.any_cons, hb]; simp, fun n h1 h2 => ?_, fun k hk => ?_⟩
      · rw [isP_iff] at hb
        constructor
        · intro e
          obtain rfl : n = j := by omega
          exact hb
        · intro e
          rw [rd_get l n h2] at e
          rw [rd_get l j hlt] at hb
          have := (List.getElem_inj hn).1 (e.trans hb.symm)
          omega
      · obtain ⟨k, rfl⟩ : ∃ m, k = m + 1 := ⟨k - 1, by omega⟩
        simp only [spec_l5At.l0]
        rw [if_pos (by omega), if_pos (by omega), if_pos (show ((rd_T25 l (j : Int)).f0 == p.f0 && (rd_T25 l (j : Int)).f1 == p.f1) = true from hb)]
    | false =>
      obtain ⟨i, hi, hq, h⟩ := ih (j + 1) (by omega)
      refine ⟨i, by unfold hasP at hi ⊢; rw [rd_drop l j hlt, List.any_cons, hb, Bool.false_or]; exact hi, fun n h1 h2 => ?_, fun k hk => ?_⟩
      · rcases Nat.eq_or_lt_of_le h1 with e | e
        · subst e
          constructor
          · intro e
            have hi2 : hasP (l.drop (j + 1)) p = true := by rw [← hi]; simp; omega
            rw [hasP_iff, List.mem_iff_getElem] at hi2
            obtain ⟨m, hm, e2⟩ := hi2
            rw [List.length_drop] at hm
            have h3 := (hq (j + 1 + m) (by omega) (by omega)).2 (by rw [rd_get l _ (by omega), ← e2, List.getElem_drop])
            omega
          · intro e
            rw [(isP_iff _ _).2 e] at hb
            exact absurd hb (by decide)
        · exact hq n e h2
      · obtain ⟨k, rfl⟩ : ∃ m, k = m + 1 := ⟨k - 1, by omega⟩
        simp only [spec_l5At.l0]
        rw [if_pos (by omega), if_pos (by omega), if_neg (by unfold isP at hb; rw [hb]; decide), wrap_next (by omega)]
        exact h k (by omega)
theorem specUse_loop (s : Int) (l : List S25) (p : S25) (i : Int) (hs : 0 ≤ s) (hl : l.length ≤ 1099511627776)
    (hq : ∀ n : Nat, n < l.length → ((n : Int) = i ↔ rd_T25 l (n : Int) = p)) : ∀ (d j : Nat), j + d = l.length → ∀ k, d < k →
    spec_l5Use.l0 k (accP (l.take j) p) i (j : Int) s l = some (s, useL s l p, decide (i ≥ 0)) := by
  intro d
  induction d with
  | zero =>
    intro j hj k hk
    obtain ⟨k, rfl⟩ : ∃ m, k = m + 1 := ⟨k - 1, by omega⟩
    simp only [spec_l5Use.l0]
    rw [if_neg (by omega), List.take_of_length_le (by omega)]
    unfold useL
    by_cases h : ((accP l p).length : Int) > s
    · rw [if_pos h, if_pos hs, if_pos (by omega)]
    · rw [if_neg h, List.take_of_length_le (by omega)]
  | succ d ih =>
    intro j hj k hk
    have hlt : j < l.length := by omega
    have hle := accP_le (l.take j) p
    have htl := List.length_take_le j l
    have hih := ih (j + 1) (by omega)
    rw [take_snoc' l j hlt, accP_snoc] at hih
    obtain ⟨k, rfl⟩ : ∃ m, k = m + 1 := ⟨k - 1, by omega⟩
    simp only [spec_l5Use.l0]
    rw [if_pos (by omega)]
    by_cases e : (j : Int) = i
    · rw [if_pos e, wrap_next (by omega)]
      rw [if_pos ((isP_iff _ _).2 ((hq j hlt).1 e))] at hih
      exact hih k (by omega)
    · rw [if_neg e, if_pos (by omega), if_pos (by omega), wrap_next (by omega)]
      rw [if_neg (fun h => e ((hq j hlt).2 ((isP_iff _ _).1 h)))] at hih
      exact hih k (by omega)
theorem specUse_ev (s : Int) (l : List S25) (p : S25) (hs : 0 ≤ s) (hl : l.length ≤ 1099511627776) (hn : l.Nodup) (k : Nat) (hk : l.length < k) :
    spec_l5Use.f k s l p.f0 p.f1 = some (s, useL s l p, hasP l p) := by
  obtain ⟨i, hi, hq, h⟩ := specAt_ev l p hl hn l.length 0 (by omega)
  unfold spec_l5Use.f spec_l5At.f
  have h0 := h k hk
  rw [Int.natCast_zero] at h0
  rw [h0, Option.bind_some]
  have h1 := specUse_loop s l p i hs hl (fun n hn => hq n (Nat.zero_le _) hn) l.length 0 (by omega) k hk
  rw [hi] at h1
  exact h1
theorem useL_len (s : Int) (l : List S25) (p : S25) (B : Nat) (hs : s ≤ B) : (useL s l p).length ≤ B := by
  unfold useL
  rw [List.length_take]
  omega
theorem specAll_loop (s : Int) (l ps : List S25) (B : Nat) (hs : 0 ≤ s) (hsB : s ≤ B) (hB : B ≤ 1099511627776) (hlB : l.length ≤ B) (hps : ps.length ≤ 1099511627776) (hn : l.Nodup) : ∀ (d j : Nat), j + d = ps.length → ∀ k, d + B < k →
    spec_l5All.l0 k ps (allA s l (ps.take j)).2 (j : Int) s (allA s l (ps.take j)).1 = some (s, (allA s l ps).1, (allA s l ps).2) := by
  have hinv : ∀ j, (allA s l (ps.take j)).1.Nodup ∧ (allA s l (ps.take j)).1.length ≤ B := fun j =>
    ⟨nodup_allA s l _ hn, allA_ind (fun l => l.length ≤ B) s (fun l p _ => useL_len s l p B hsB) _ l 0 hlB⟩
  have hcnt : ∀ j, j ≤ ps.length → 0 ≤ (allA s l (ps.take j)).2 ∧ (allA s l (ps.take j)).2 ≤ j := by
    intro j
    induction j with
    | zero => intro _; simp [allA]
    | succ j ih =>
      intro hj
      have := ih (by omega)
      rw [take_snoc' ps j (by omega), allA_snoc]
      unfold stepA
      simp only
      split <;> omega
  intro d
  induction d with
  | zero =>
    intro j hj k hk
    obtain ⟨k, rfl⟩ : ∃ m, k = m + 1 := ⟨k - 1, by omega⟩
    have h1 := (hinv j).2
    rw [List.take_of_length_le (by omega)] at h1 ⊢
    simp only [spec_l5All.l0]
    rw [if_neg (by omega), Option.bind_some, if_pos (by simp only [List.length_nil]; omega), List.nil_append]
  | succ d ih =>
    intro j hj k hk
    have hlt : j < ps.length := by omega
    obtain ⟨h1, h2⟩ := hinv j
    have h3 := hcnt j (by omega)
    have hih := ih (j + 1) (by omega)
    rw [take_snoc' ps j hlt, allA_snoc] at hih
    unfold stepA at hih
    simp only at hih
    obtain ⟨k, rfl⟩ : ∃ m, k = m + 1 := ⟨k - 1, by omega⟩
    simp only [spec_l5All.l0]
    rw [if_pos (by omega), if_pos (by omega), specUse_ev s _ _ hs (by omega) h1 k (by omega), Option.bind_some, wrap_next (by omega)]
    by_cases hh : hasP (allA s l (ps.take j)).1 (rd_T25 ps (j : Int)) = true
    · rw [if_pos hh]
      rw [if_pos hh] at hih
      exact hih k (by omega)
    · rw [if_neg hh, show wrap64 ((allA s l (ps.take j)).2 + 1) = (allA s l (ps.take j)).2 + 1 from by unfold wrap64; omega]
      rw [if_neg hh] at hih
      exact hih k (by omega)
theorem specAll_ev (s : Int) (l ps : List S25) (B : Nat) (hs : 0 ≤ s) (hsB : s ≤ B) (hB : B ≤ 1099511627776) (hlB : l.length ≤ B) (hps : ps.length ≤ 1099511627776) (hn : l.Nodup) (k : Nat) (hk : ps.length + B < k) :
    spec_l5All.f k s l ps = some (s, (allA s l ps).1, (allA s l ps).2) := specAll_loop s l ps B hs hsB hB hlB hps hn ps.length 0 (by omega) k hk
theorem specPage_tells (a b : Int) : spec_PageOk.f a b = some (okPage ⟨a, b⟩) := by
  unfold spec_PageOk.f spec_LabelOk.f okPage
  by_cases h0 : 0 ≤ a
  · by_cases h1 : a ≤ 7
    · by_cases h2 : 0 ≤ b <;> simp [h0, h1, h2]
    · simp [h0, h1]
  · simp [h0]
theorem specPoolOk_loop (s : Int) (l : List S25) (hl : l.length ≤ 12) : ∀ (d j : Nat), j + d = l.length → (l.take j).Nodup → ∀ k, d + 20 < k → spec_PoolOk.l0 k (j : Int) s l = some (okAcc (l.take j) (l.drop j)) := by
  intro d
  induction d with
  | zero =>
    intro j hj hn k hk
    obtain ⟨k, rfl⟩ : ∃ m, k = m + 1 := ⟨k - 1, by omega⟩
    simp only [spec_PoolOk.l0]
    rw [if_neg (by omega), List.drop_of_length_le (by omega)]
    rfl
  | succ d ih =>
    intro j hj hn k hk
    obtain ⟨k, rfl⟩ : ∃ m, k = m + 1 := ⟨k - 1, by omega⟩
    have hlt : j < l.length := by omega
    have ht : ((j : Int)).toNat = j := Int.toNat_natCast j
    have htl := List.length_take_le j l
    obtain ⟨i, hi, _, hc⟩ := specAt_ev (l.take j) (rd_T25 l (j : Int)) (by omega) hn (l.take j).length 0 (by omega)
    have hc := hc k (by omega)
    rw [List.drop_zero] at hi
    simp only [spec_PoolOk.l0]
    rw [if_pos (by omega), if_pos (by omega), specPage_tells, Option.bind_some, rd_drop l j hlt]
    unfold okAcc
    cases hq : okPage (rd_T25 l (j : Int)) with
    | false =>
      rw [if_neg (by decide)]
      simp
    | true =>
      unfold spec_l5At.f
      rw [if_pos rfl, if_pos (by omega), ht]
      rw [Int.natCast_zero] at hc
      rw [hc, Option.bind_some]
      cases hb : hasP (l.take j) (rd_T25 l (j : Int)) with
      | true =>
        rw [hb] at hi
        rw [if_pos (by simpa using hi)]; simp
      | false =>
        rw [hb] at hi
        have hnm : rd_T25 l (j : Int) ∉ l.take j := fun h => by rw [(hasP_iff _ _).2 h] at hb; exact absurd hb (by decide)
        rw [if_neg (by simpa using hi), wrap_next (by omega), ih (j + 1) (by omega) (by
          rw [take_snoc' l j hlt, List.nodup_append]
          exact ⟨hn, by simp, fun a ha b hb e => hnm (by simp only [List.mem_singleton] at hb; rw [← hb, ← e]; exact ha)⟩) k (by omega), take_snoc' l j hlt]
        simp
theorem specPoolOk_ev (s : Int) (l : List S25) (k : Nat) (hk : 40 < k) : spec_PoolOk.f k s l = some (poolOkB s l) := by
  unfold spec_PoolOk.f poolOkB
  obtain ⟨k, rfl⟩ : ∃ m, k = m + 1 := ⟨k - 1, by omega⟩
  simp only [spec_PoolOk.j0]
  by_cases h0 : s < 0
  · rw [if_pos h0, decide_eq_false (by omega)]
    simp
  · rw [if_neg h0]
    by_cases h1 : s > 12
    · rw [if_pos h1, decide_eq_false (p := s ≤ 12) (by omega)]
      simp
    · rw [if_neg h1]
      by_cases h2 : (l.length : Int) > s
      · rw [if_pos (decide_eq_true h2), decide_eq_false (p := (l.length : Int) ≤ s) (by omega)]
        simp
      · rw [if_neg (by simpa using h2), decide_eq_true (p := 0 ≤ s) (by omega), decide_eq_true (p := s ≤ 12) (by omega), decide_eq_true (p := (l.length : Int) ≤ s) (by omega)]
        have := specPoolOk_loop s l (by omega) l.length 0 (by omega) (by simp) k (by omega)
        rw [Int.natCast_zero] at this
        rw [this]
        rfl
theorem specPoolUse_ev (s : Int) (l : List S25) (p0 p1 : Int) (k : Nat) (hk : 40 < k) : spec_PoolUse.f k s l p0 p1 = impl_PoolUse.f s l p0 p1 := by
  unfold spec_PoolUse.f impl_PoolUse.f
  rw [specPoolOk_ev s l k hk, Option.bind_some]
  cases hp : poolOkB s l with
  | false => rw [if_neg (by decide), if_neg (by simp)]
  | true =>
    have hs := poolOk_small hp
    rw [if_pos rfl, specPage_tells, Option.bind_some]
    cases hq : okPage ⟨p0, p1⟩ with
    | false => rw [if_neg (by decide), if_neg (by decide)]
    | true =>
      rw [if_pos rfl, if_pos (by decide)]
      have := specUse_ev s l ⟨p0, p1⟩ hs.1 (by omega) (poolOk_nodup hp) k (by omega)
      simp only at this
      rw [this, Option.bind_some]
theorem specPoolAll_loop (s : Int) (l ps : List S25) (hp : poolOkB s l = true) (hps : ps.length ≤ 1099511627776) : ∀ (d j : Nat), j + d = ps.length → ∀ k, ps.length + d + 20 < k →
    spec_PoolAll.l0 k ps (j : Int) s l = if (ps.drop j).all okPage = true then some (s, (allA s l ps).1, (allA s l ps).2) else some (0, [], 0) := by
  have hs := poolOk_small hp
  intro d
  induction d with
  | zero =>
    intro j hj k hk
    obtain ⟨k, rfl⟩ : ∃ m, k = m + 1 := ⟨k - 1, by omega⟩
    simp only [spec_PoolAll.l0]
    rw [if_neg (by omega), List.drop_of_length_le (by omega), if_pos (by simp), specAll_ev s l ps 12 hs.1 hs.2.1 (by omega) (by omega) hps (poolOk_nodup hp) k (by omega), Option.bind_some]
  | succ d ih =>
    intro j hj k hk
    have hlt : j < ps.length := by omega
    obtain ⟨k, rfl⟩ : ∃ m, k = m + 1 := ⟨k - 1, by omega⟩
    simp only [spec_PoolAll.l0]
    rw [if_pos (by omega), if_pos (by omega), specPage_tells, Option.bind_some, rd_drop ps j hlt, List.all_cons]
    cases hq : okPage (rd_T25 ps (j : Int)) with
    | false => rw [if_neg (by decide)]; simp
    | true => rw [if_pos rfl, wrap_next (by omega), ih (j + 1) (by omega) k (by omega), Bool.true_and]
theorem specPoolAll_ev (s : Int) (l ps : List S25) (hps : ps.length ≤ 1099511627776) (k : Nat) (hk : 2 * ps.length + 40 < k) : spec_PoolAll.f k s l ps = impl_PoolAll.f s l ps := by
  unfold spec_PoolAll.f impl_PoolAll.f
  rw [specPoolOk_ev s l k (by omega), Option.bind_some, if_pos hps]
  cases hp : poolOkB s l with
  | false => rw [if_neg (by decide), if_neg (by simp)]
  | true =>
    rw [if_pos rfl]
    have := specPoolAll_loop s l ps hp hps ps.length 0 (by omega) k (by omega)
    rw [Int.natCast_zero, List.drop_zero] at this
    rw [this, Bool.true_and]
theorem eq_of_pages (l m : List S25) (hlm : l.length = m.length) (j : Nat) (h : j < l.length) :
    (!((rd_T25 l (j : Int)).f0 == (rd_T25 m (j : Int)).f0) || !((rd_T25 l (j : Int)).f1 == (rd_T25 m (j : Int)).f1)) = !decide (rd_T25 l (j : Int) = rd_T25 m (j : Int)) := by
  rw [← isP_dec]
  unfold isP
  cases (rd_T25 l (j : Int)).f0 == (rd_T25 m (j : Int)).f0 <;> simp
theorem same_loop (l m : List S25) (hlm : l.length = m.length) (hl : l.length ≤ 1099511627776) (F : Nat → Int → Option Bool)
    (hF : ∀ k (j : Nat), j < l.length → F (k + 1) (j : Int) = if (!((rd_T25 l (j : Int)).f0 == (rd_T25 m (j : Int)).f0) || !((rd_T25 l (j : Int)).f1 == (rd_T25 m (j : Int)).f1)) = true then some false else F k (wrap64 ((j : Int) + 1)))
    (hE : ∀ k, F (k + 1) (l.length : Int) = some true) : ∀ (d j : Nat), j + d = l.length → ∀ k, d < k → F k (j : Int) = some (decide (l.drop j = m.drop j)) := by
  intro d
  induction d with
  | zero =>
    intro j hj k hk
    obtain ⟨k, rfl⟩ : ∃ m, k = m + 1 := ⟨k - 1, by omega⟩
    obtain rfl : j = l.length := by omega
    rw [hE, List.drop_of_length_le (by omega), List.drop_of_length_le (by omega)]
    simp
  | succ d ih =>
    intro j hj k hk
    obtain ⟨k, rfl⟩ : ∃ m, k = m + 1 := ⟨k - 1, by omega⟩
    rw [hF k j (by omega), eq_of_pages l m hlm j (by omega), rd_drop l j (by omega), rd_drop m j (by omega), wrap_next (by omega), ih (j + 1) (by omega) k (by omega)]
    by_cases e : rd_T25 l (j : Int) = rd_T25 m (j : Int)
    · rw [e]; simp
    · simp [e]
theorem wpPages_ev (l m : List S25) (hl : l.length ≤ 1099511627776) (k : Nat) (hk : l.length < k) : laws_wpPages.f k l m = some (decide (l = m)) := by
  unfold laws_wpPages.f
  by_cases h : (l.length : Int) = (m.length : Int)
  · rw [if_pos h]
    have := same_loop l m (by omega) hl (fun k i => laws_wpPages.l0 k l m i) (fun k j hj => by simp only [laws_wpPages.l0]; rw [if_pos (by omega), if_pos (by omega), if_pos (by omega)]) (fun k => by simp only [laws_wpPages.l0]; rw [if_neg (by omega)]) l.length 0 (by omega) k hk
    simpa using this
  · rw [if_neg h, decide_eq_false (fun e => h (by rw [e]))]
theorem sliceEq_ev (l m : List S25) (hl : l.length ≤ 1099511627776) (k : Nat) (hk : l.length < k) : impl_Page_56.f k l m = some (decide (l = m)) := by
  unfold impl_Page_56.f
  by_cases h : (l.length : Int) = (m.length : Int)
  · rw [if_pos h]
    have := same_loop l m (by omega) hl (fun k i => impl_Page_56.l0 k l m (l.length : Int) i) (fun k j hj => by simp only [impl_Page_56.l0]; rw [if_pos (by omega), if_pos (by omega), if_pos (by omega), if_pos (by omega)]) (fun k => by simp only [impl_Page_56.l0]; rw [if_neg (by omega)]) l.length 0 (by omega) k hk
    simpa using this
  · rw [if_neg h, decide_eq_false (fun e => h (by rw [e]))]
theorem implSame_ev (a b : Int) (l m : List S25) (hl : l.length ≤ 1099511627776) (k : Nat) (hk : l.length < k) : impl_PoolSame.f k a l b m = some (decide (a = b) && decide (l = m)) := by
  unfold impl_PoolSame.f
  rw [sliceEq_ev l m hl k hk, Option.bind_some]
  by_cases h : a = b <;> simp [h]
theorem specSame_ev (a b : Int) (l m : List S25) (hl : l.length ≤ 1099511627776) (k : Nat) (hk : l.length + 1 < k) : spec_PoolSame.f k a l b m = some (decide (a = b) && decide (l = m)) := by
  unfold spec_PoolSame.f
  obtain ⟨k, rfl⟩ : ∃ m, k = m + 1 := ⟨k - 1, by omega⟩
  simp only [spec_PoolSame.j0]
  by_cases h : a = b
  · rw [if_pos h]
    by_cases hlm : l.length = m.length
    · rw [if_neg (by simp [hlm])]
      have := same_loop l m hlm hl (fun k i => spec_PoolSame.l0 k i a l b m) (fun k j hj => by simp only [spec_PoolSame.l0]; rw [if_pos (by omega), if_pos (by omega), if_pos (by omega)]) (fun k => by simp only [spec_PoolSame.l0]; rw [if_neg (by omega)]) l.length 0 (by omega) k (by omega)
      simp only [Int.natCast_zero, List.drop_zero] at this
      rw [this]
      simp [h]
    · rw [if_pos (by simp; omega), decide_eq_false (p := l = m) (fun e => hlm (by rw [e]))]
      simp
  · simp [h]
theorem accP_new (l : List S25) (p : S25) (h : p ∉ l) : accP l p = p :: l := by
  unfold accP
  congr 1
  rw [List.filter_eq_self]
  intro x hx
  rw [isP_dec]
  have : x ≠ p := fun e => h (e ▸ hx)
  simp [this]
theorem accP_len (l : List S25) (p : S25) (hn : l.Nodup) : (accP l p).length = if hasP l p = true then l.length else l.length + 1 := by
  by_cases h : hasP l p = true
  · rw [if_pos h]
    have hm := (hasP_iff l p).1 h
    induction l with
    | nil => simp at hm
    | cons x xs ih =>
      have hx := (List.nodup_cons.1 hn).1
      have hs := (List.nodup_cons.1 hn).2
      by_cases e : x = p
      · subst e
        have e1 : isP x x = true := (isP_iff x x).2 rfl
        have := congrArg List.length (accP_new xs x hx)
        unfold accP at this ⊢
        rw [List.filter_cons, if_neg (by simp [e1])]
        simpa using this
      · have e1 : isP x p = false := by rw [Bool.eq_false_iff]; exact fun h => e ((isP_iff x p).1 h)
        have hm2 : p ∈ xs := by
          rcases List.mem_cons.1 hm with h | h
          · exact absurd h.symm e
          · exact h
        have := ih hs ((hasP_iff xs p).2 hm2) hm2
        unfold accP at this ⊢
        rw [List.filter_cons, if_pos (by simp [e1])]
        simp only [List.length_cons] at this ⊢
        omega
  · rw [if_neg h, accP_new l p (fun hm => h ((hasP_iff l p).2 hm))]
    rfl
end Go.Proofs.Ytcobbpghipeoeaa.R
