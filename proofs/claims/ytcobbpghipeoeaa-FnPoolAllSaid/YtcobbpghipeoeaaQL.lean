/- Recency in plain lists: what a row of uses leaves in the pool, and how many of them miss. -/
import Derived.Test.YtcobbpghipeoeaaQ
namespace Go.Proofs.Ytcobbpghipeoeaa.R
open Go.RowKit Go.Proofs.YtcobbpghipeoeaaV.PrintWords Go.Proofs.YtcobbpghipeoeaaV.PrintLast
set_option linter.unusedVariables false
set_option linter.unusedSimpArgs false

/-- Put behind the list, if it is not in it. -/
def putD (l : List S25) (x : S25) : List S25 := if hasP l x = true then l else l ++ [x]
/-- Each page once, where it stands first. -/
def onceL (l : List S25) : List S25 := l.foldl putD []
theorem mem_putD (l : List S25) (x y : S25) : y ∈ putD l x ↔ y = x ∨ y ∈ l := by
  unfold putD
  split
  · rename_i h
    rw [hasP_iff] at h
    exact ⟨.inr, fun e => e.elim (fun e => e ▸ h) id⟩
  · rw [List.mem_append, List.mem_singleton, or_comm]
theorem nodup_putD (l : List S25) (x : S25) (h : l.Nodup) : (putD l x).Nodup := by
  unfold putD
  split
  · exact h
  · rename_i hx
    rw [hasP_iff] at hx
    rw [List.nodup_append]
    exact ⟨h, by simp, fun a ha b hb e => hx (by simp only [List.mem_singleton] at hb; rw [← hb, ← e]; exact ha)⟩
theorem mem_foldD : ∀ (m l : List S25) (y : S25), y ∈ m.foldl putD l ↔ y ∈ l ∨ y ∈ m
  | [], l, y => by simp
  | x :: m, l, y => by
    rw [List.foldl_cons, mem_foldD m, mem_putD, List.mem_cons]
    constructor
    · rintro ((h | h) | h)
      · exact .inr (.inl h)
      · exact .inl h
      · exact .inr (.inr h)
    · rintro (h | (h | h))
      · exact .inl (.inr h)
      · exact .inl (.inl h)
      · exact .inr h
theorem nodup_foldD : ∀ (m l : List S25), l.Nodup → (m.foldl putD l).Nodup
  | [], l, h => h
  | x :: m, l, h => by rw [List.foldl_cons]; exact nodup_foldD m _ (nodup_putD l x h)
theorem mem_once (l : List S25) (y : S25) : y ∈ onceL l ↔ y ∈ l := by unfold onceL; rw [mem_foldD]; simp
theorem nodup_once (l : List S25) : (onceL l).Nodup := nodup_foldD l [] List.nodup_nil
theorem foldD_new : ∀ (m l : List S25), (l ++ m).Nodup → m.foldl putD l = l ++ m
  | [], l, h => by simp
  | x :: m, l, h => by
    have hx : x ∉ l := by
      intro hm
      rw [List.nodup_append] at h
      exact h.2.2 x hm x (by simp) rfl
    rw [List.foldl_cons]
    have e : putD l x = l ++ [x] := by unfold putD; rw [if_neg (by rw [hasP_iff]; exact hx)]
    rw [e, foldD_new m (l ++ [x]) (by simpa using h)]
    simp
theorem once_new (l : List S25) (h : l.Nodup) : onceL l = l := by unfold onceL; rw [foldD_new l [] (by simpa using h)]; rfl
theorem foldD_old : ∀ (m l : List S25), (∀ x ∈ m, x ∈ l) → m.foldl putD l = l
  | [], l, h => rfl
  | x :: m, l, h => by
    rw [List.foldl_cons]
    have e : putD l x = l := by unfold putD; rw [if_pos ((hasP_iff l x).2 (h x (by simp)))]
    rw [e]
    exact foldD_old m l fun y hy => h y (by simp [hy])
theorem foldD_prefix : ∀ (m l : List S25), ∃ r, m.foldl putD l = l ++ r
  | [], l => ⟨[], by simp⟩
  | x :: m, l => by
    rw [List.foldl_cons]
    obtain ⟨r, hr⟩ := foldD_prefix m (putD l x)
    rw [hr]
    unfold putD
    split
    · exact ⟨r, rfl⟩
    · exact ⟨[x] ++ r, by simp⟩
theorem once_append (l m : List S25) : onceL (l ++ m) = m.foldl putD (onceL l) := by unfold onceL; rw [List.foldl_append]
theorem once_snoc (l : List S25) (x : S25) : onceL (l ++ [x]) = putD (onceL l) x := by rw [once_append]; rfl
theorem hasP_mem (l m : List S25) (p : S25) (h : p ∈ l ↔ p ∈ m) : hasP l p = hasP m p := by
  rw [Bool.eq_iff_iff, hasP_iff, hasP_iff]
  exact h
theorem acc_filter (l : List S25) (x p : S25) : accP l p = p :: l.filter (fun y => !decide (y = p)) := by
  unfold accP
  congr 2
  funext y
  rw [isP_dec]
theorem once_cons_aux (p : S25) : ∀ (m acc : List S25), m.foldl putD (accP acc p) = accP (m.foldl putD acc) p
  | [], acc => rfl
  | x :: m, acc => by
    rw [List.foldl_cons, List.foldl_cons]
    have e : putD (accP acc p) x = accP (putD acc x) p := by
      by_cases hxp : x = p
      · subst hxp
        have h1 : putD (accP acc x) x = accP acc x := by unfold putD; rw [if_pos ((hasP_iff _ _).2 ((mem_accP _ _ _).2 (.inl rfl)))]
        rw [h1]
        unfold putD
        split
        · rfl
        · unfold accP
          rw [List.filter_append]
          simp [(isP_iff x x).2 rfl]
      · have h2 : hasP (accP acc p) x = hasP acc x := hasP_mem _ _ _ (by rw [mem_accP]; exact ⟨fun h => h.resolve_left hxp, .inr⟩)
        unfold putD
        rw [h2]
        split
        · rfl
        · unfold accP
          rw [List.filter_append]
          have : isP x p = false := by rw [Bool.eq_false_iff]; exact fun h => hxp ((isP_iff _ _).1 h)
          simp [this]
    rw [e]
    exact once_cons_aux p m (putD acc x)
theorem once_cons (p : S25) (l : List S25) : onceL (p :: l) = accP (onceL l) p := by
  have := once_cons_aux p l []
  unfold onceL
  rw [List.foldl_cons]
  rw [← this]
  rfl
theorem acc_once : ∀ (ps m : List S25), ps.foldl accP (onceL m) = onceL (ps.reverse ++ m)
  | [], m => rfl
  | p :: ps, m => by
    rw [List.foldl_cons, ← once_cons, acc_once ps (p :: m)]
    simp
theorem take_filter (p : S25) : ∀ (l : List S25) (n : Nat), l.Nodup → ((l.take (n + 1)).filter fun x => !isP x p).take n = (l.filter fun x => !isP x p).take n
  | [], n, h => by simp
  | x :: l, n, h => by
    rw [List.take_succ_cons, List.filter_cons, List.filter_cons]
    by_cases e : x = p
    · subst e
      have h1 := (List.nodup_cons.1 h).1
      have hf : ∀ l' : List S25, x ∉ l' → (l'.filter fun y => !isP y x) = l' := by
        intro l' hl
        rw [List.filter_eq_self]
        intro y hy
        have : isP y x = false := by rw [Bool.eq_false_iff]; exact fun h => hl ((isP_iff _ _).1 h ▸ hy)
        simp [this]
      rw [if_neg (by simp [(isP_iff x x).2 rfl]), if_neg (by simp [(isP_iff x x).2 rfl]), hf l h1, hf (l.take n) fun hm => h1 (List.mem_of_mem_take hm), List.take_take]
      congr 1
      omega
    · have h1 : isP x p = false := by rw [Bool.eq_false_iff]; exact fun h => e ((isP_iff _ _).1 h)
      rw [if_pos (by simp [h1]), if_pos (by simp [h1])]
      cases n with
      | zero => rfl
      | succ n => rw [List.take_succ_cons, List.take_succ_cons, take_filter p l n (List.nodup_cons.1 h).2]
theorem use_take (s : Int) (l : List S25) (p : S25) (h : l.Nodup) : useL s (l.take s.toNat) p = (accP l p).take s.toNat := by
  unfold useL accP
  generalize s.toNat = n
  cases n with
  | zero => rfl
  | succ n => rw [List.take_succ_cons, List.take_succ_cons, take_filter p l n h]
theorem allA_fst (s : Int) : ∀ (ps l : List S25) (n : Int), l.Nodup → (ps.foldl (stepA s) (l.take s.toNat, n)).1 = (ps.foldl accP l).take s.toNat
  | [], l, n, h => rfl
  | p :: ps, l, n, h => by
    rw [List.foldl_cons, List.foldl_cons]
    unfold stepA
    rw [use_take s l p h]
    exact allA_fst s ps (accP l p) _ (nodup_accP l p h)
/-- What a row of uses leaves. -/
theorem allA_once (s : Int) (ps m : List S25) (h : m.Nodup) (hm : m.length ≤ s.toNat) : (allA s m ps).1 = (onceL (ps.reverse ++ m)).take s.toNat := by
  have := allA_fst s ps m 0 h
  rw [List.take_of_length_le hm] at this
  unfold allA
  rw [this, ← acc_once, once_new m h]
theorem okAcc_iff : ∀ (l pre : List S25), okAcc pre l = true ↔ (∀ x ∈ l, okPage x = true) ∧ (∀ x ∈ l, x ∉ pre) ∧ l.Nodup
  | [], pre => by simp [okAcc]
  | x :: l, pre => by
    unfold okAcc
    rw [Bool.and_eq_true, Bool.and_eq_true, okAcc_iff l, Bool.not_eq_true', Bool.eq_false_iff, Ne, hasP_iff]
    simp only [List.mem_cons, List.mem_append, List.nodup_cons, List.not_mem_nil, or_false]
    constructor
    · rintro ⟨⟨h1, h2⟩, h3, h4, h5⟩
      refine ⟨fun y hy => hy.elim (fun e => e ▸ h1) (h3 y), fun y hy => hy.elim (fun e => e ▸ h2) fun h hm => h4 y h (.inl hm), fun hm => h4 x hm (.inr rfl), h5⟩
    · rintro ⟨h1, h2, h3, h4⟩
      exact ⟨⟨h1 x (.inl rfl), h2 x (.inl rfl)⟩, fun y hy => h1 y (.inr hy), fun y hy hm => hm.elim (h2 y (.inr hy)) fun e => h3 (e ▸ hy), h4⟩
theorem poolOk_iff (s : Int) (l : List S25) : poolOkB s l = true ↔ 0 ≤ s ∧ s ≤ 12 ∧ (l.length : Int) ≤ s ∧ (∀ x ∈ l, okPage x = true) ∧ l.Nodup := by
  unfold poolOkB
  simp only [Bool.and_eq_true, decide_eq_true_eq, okAcc_iff, List.not_mem_nil, not_false_eq_true, implies_true, true_and]
  constructor
  · rintro ⟨⟨⟨h1, h2⟩, h3⟩, h4, h5⟩; exact ⟨h1, h2, h3, h4, h5⟩
  · rintro ⟨h1, h2, h3, h4, h5⟩; exact ⟨⟨⟨h1, h2⟩, h3⟩, h4, h5⟩
theorem use_mem (s : Int) (l : List S25) (p x : S25) (h : x ∈ useL s l p) : x = p ∨ x ∈ l := (mem_accP l p x).1 (List.mem_of_mem_take h)
theorem poolOk_use {s : Int} {l : List S25} {p : S25} (h : poolOkB s l = true) (hp : okPage p = true) : poolOkB s (useL s l p) = true := by
  rw [poolOk_iff] at h ⊢
  obtain ⟨h1, h2, h3, h4, h5⟩ := h
  refine ⟨h1, h2, ?_, fun x hx => (use_mem s l p x hx).elim (fun e => e ▸ hp) (h4 x), nodup_useL s l p h5⟩
  unfold useL
  rw [List.length_take]
  omega
theorem poolOk_fold (s : Int) : ∀ (ps l : List S25) (n : Int), poolOkB s l = true → (∀ x ∈ ps, okPage x = true) → poolOkB s (ps.foldl (stepA s) (l, n)).1 = true
  | [], l, n, h, _ => h
  | p :: ps, l, n, h, hp => by
    rw [List.foldl_cons]
    exact poolOk_fold s ps _ _ (poolOk_use h (hp p (by simp))) fun x hx => hp x (by simp [hx])
theorem poolOk_all {s : Int} {l ps : List S25} (h : poolOkB s l = true) (hp : (ps.all okPage) = true) : poolOkB s (allA s l ps).1 = true :=
  poolOk_fold s ps l 0 h (List.all_eq_true.1 hp)
theorem allA_append (s : Int) (l a b : List S25) : allA s l (a ++ b) = ((allA s (allA s l a).1 b).1, (allA s l a).2 + (allA s (allA s l a).1 b).2) := by
  have : ∀ (b l : List S25) (n : Int), b.foldl (stepA s) (l, n) = ((b.foldl (stepA s) (l, 0)).1, n + (b.foldl (stepA s) (l, 0)).2) := by
    intro b
    induction b with
    | nil => intro l n; simp
    | cons p b ih =>
      intro l n
      rw [List.foldl_cons, List.foldl_cons, ih (stepA s (l, n) p).1 (stepA s (l, n) p).2, ih (stepA s (l, 0) p).1 (stepA s (l, 0) p).2]
      unfold stepA
      simp only
      split <;> simp <;> omega
  unfold allA
  rw [List.foldl_append, this b (a.foldl (stepA s) (l, 0)).1 (a.foldl (stepA s) (l, 0)).2]
theorem snoc_ind {P : List S25 → Prop} (h0 : P []) (h1 : ∀ l x, P l → P (l ++ [x])) (l : List S25) : P l := by
  have : ∀ m : List S25, P m.reverse := by
    intro m
    induction m with
    | nil => exact h0
    | cons x m ih => rw [List.reverse_cons]; exact h1 _ _ ih
  have := this l.reverse
  rwa [List.reverse_reverse] at this
theorem allA_nonneg (s : Int) (l ps : List S25) : 0 ≤ (allA s l ps).2 ∧ (allA s l ps).2 ≤ (ps.length : Int) := by
  induction ps using snoc_ind with
  | h0 => simp [allA]
  | h1 ps p ih =>
    rw [allA_snoc]
    unfold stepA
    simp only [List.length_append, List.length_singleton]
    split <;> omega
theorem allA_mem (s : Int) (l ps : List S25) (x : S25) (h : x ∈ (allA s l ps).1) : x ∈ l ∨ x ∈ ps := by
  induction ps using snoc_ind with
  | h0 => exact .inl h
  | h1 ps p ih =>
    rw [allA_snoc] at h
    rcases use_mem _ _ _ _ h with h | h
    · exact .inr (by simp [h])
    · exact (ih h).imp id fun h => by simp [h]
theorem sub_len : ∀ (l m : List S25), l.Nodup → (∀ x ∈ l, x ∈ m) → l.length ≤ m.length
  | [], m, _, _ => by simp
  | x :: l, m, h, hs => by
    have h1 := List.nodup_cons.1 h
    have := sub_len l (m.erase x) h1.2 fun y hy => (List.mem_erase_of_ne fun e => h1.1 (by rw [← e]; exact hy)).2 (hs y (by simp [hy]))
    rw [List.length_erase_of_mem (hs x (by simp))] at this
    have : 0 < m.length := List.length_pos_of_mem (hs x (by simp))
    simp only [List.length_cons]
    omega
theorem hits (s : Int) : ∀ (ps l : List S25) (n : Int), l.Nodup → l.length ≤ s.toNat → (∀ x ∈ ps, x ∈ l) → (ps.foldl (stepA s) (l, n)).2 = n
  | [], l, n, _, _, _ => rfl
  | p :: ps, l, n, h, hl, hm => by
    have hp : hasP l p = true := (hasP_iff l p).2 (hm p (by simp))
    have hlen := accP_len l p h
    rw [if_pos hp] at hlen
    have e : stepA s (l, n) p = (accP l p, n) := by
      unfold stepA useL
      simp only [hp, if_true]
      rw [List.take_of_length_le (by omega)]
    rw [List.foldl_cons, e]
    exact hits s ps (accP l p) n (nodup_accP l p h) (by omega) fun x hx => (mem_accP l p x).2 (.inr (hm x (by simp [hx])))
theorem use_same (s : Int) (l : List S25) (p : S25) (h : l.Nodup) : useL s (useL s l p) p = useL s l p := by
  unfold useL
  generalize s.toNat = n
  cases n with
  | zero => rfl
  | succ n =>
    unfold accP
    rw [List.take_succ_cons, List.take_succ_cons, List.filter_cons, if_neg (by simp [(isP_iff p p).2 rfl])]
    congr 1
    rw [List.filter_eq_self.2, List.take_take, Nat.min_self]
    intro x hx
    exact (List.mem_filter.1 (List.mem_of_mem_take hx)).2
end Go.Proofs.Ytcobbpghipeoeaa.R
