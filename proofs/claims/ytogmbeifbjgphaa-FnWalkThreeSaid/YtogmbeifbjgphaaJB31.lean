/- What the walks of parts, threes, ways and core numbers keep, step by step. -/
import Derived.Test.YtogmbeifbjgphaaJB3
namespace Go.Proofs.Ytogmbeifbjgphaa.M
set_option linter.unusedVariables false
set_option linter.unusedSimpArgs false
section
variable {adj : Nat → Nat → Bool} {n : Nat}
/-! ### parts -/
noncomputable def partU (adj : Nat → Nat → Bool) (n k : Nat) : List Int := (List.range n).map fun v => if root adj v < k then (root adj v : Int) else -1
theorem partU_len (k : Nat) : (partU adj n k).length = n := by simp [partU]
theorem gt_partU {k v : Nat} (h : v < n) : gt (partU adj n k) v = if root adj v < k then (root adj v : Int) else -1 := by
  unfold gt partU
  simp [List.getD_eq_getElem?_getD, h]
theorem partU_zero : partU adj n 0 = List.replicate n (-1) := gt_ext (by simp [partU]) fun v hv => by
  rw [partU_len] at hv
  rw [gt_partU hv, gt_replicate hv, if_neg (Nat.not_lt_zero _)]
theorem partU_end : partU adj n n = partL adj n := gt_ext (by rw [partU_len, partL_length]) fun v hv => by
  rw [partU_len] at hv
  rw [gt_partU hv, gt_partL hv, if_pos (Nat.lt_of_le_of_lt (root_le v) hv)]
theorem partU_skip (sym : ∀ u v, adj u v = adj v u) {k : Nat} (hk : k < n) (h : 0 ≤ gt (partU adj n k) k) : partU adj n (k + 1) = partU adj n k := by
  refine gt_ext (by rw [partU_len, partU_len]) fun v hv => ?_
  rw [partU_len] at hv
  rw [gt_partU hv, gt_partU hv]
  rw [gt_partU hk] at h
  have hne : root adj v ≠ k := fun e => by
    have h1 := root_root sym v
    rw [e] at h1
    rw [h1, if_neg (Nat.lt_irrefl k)] at h
    omega
  by_cases h2 : root adj v < k
  · rw [if_pos h2, if_pos (by omega)]
  · rw [if_neg h2, if_neg (by omega)]
def setAll (xs : List Int) (q : List Nat) (x : Int) : List Int := q.foldl (fun a v => a.set v x) xs
theorem setAll_snoc (xs : List Int) (q : List Nat) (v : Nat) (x : Int) : setAll xs (q ++ [v]) x = (setAll xs q x).set v x := by simp [setAll]
theorem setAll_len {x : Int} : ∀ (q : List Nat) (xs : List Int), (setAll xs q x).length = xs.length
  | [], _ => rfl
  | v :: q, xs => by
    show (setAll (xs.set v x) q x).length = _
    rw [setAll_len q, List.length_set]
theorem gt_setAll {x : Int} {v : Nat} : ∀ (q : List Nat) (xs : List Int), (∀ u ∈ q, u < xs.length) → gt (setAll xs q x) v = if v ∈ q then x else gt xs v
  | [], xs, _ => by simp [setAll]
  | u :: q, xs, h => by
    have h1 := gt_setAll (x := x) (v := v) q (xs.set u x) (fun a ha => by rw [List.length_set]; exact h a (by simp [ha]))
    have h2 : setAll xs (u :: q) x = setAll (xs.set u x) q x := rfl
    rw [h2, h1, gt_set (h u (by simp))]
    by_cases hq : v ∈ q
    · simp [hq]
    · by_cases hu : u = v
      · simp [hq, hu]
      · have hw : ¬ v = u := fun e => hu e.symm
        simp [hq, hu, hw]
theorem partU_new (sym : ∀ u v, adj u v = adj v u) {k : Nat} (hk : k < n) (h : gt (partU adj n k) k < 0) {q : List Nat} (hq : ∀ v, v ∈ q ↔ v < n ∧ 0 ≤ dist adj k v) : setAll (partU adj n k) q k = partU adj n (k + 1) := by
  have hr : root adj k = k := by
    rw [gt_partU hk] at h
    have h1 := root_le (adj := adj) k
    by_cases h2 : root adj k < k
    · rw [if_pos h2] at h
      omega
    · omega
  refine gt_ext (by rw [setAll_len, partU_len, partU_len]) fun v hv => ?_
  rw [setAll_len, partU_len] at hv
  rw [gt_setAll q _ (fun u hu => by rw [partU_len]; exact ((hq u).1 hu).1), gt_partU hv, gt_partU hv]
  have h1 : v ∈ q ↔ root adj v = k := by
    rw [hq v]
    have h2 := root_eq sym k v
    rw [hr] at h2
    exact ⟨fun h => (h2.2 h.2).symm, fun h => ⟨hv, h2.1 h.symm⟩⟩
  by_cases h2 : root adj v = k
  · rw [if_pos (h1.2 h2), if_pos (by omega), h2]
  · rw [if_neg (fun hc => h2 (h1.1 hc))]
    by_cases h3 : root adj v < k
    · rw [if_pos h3, if_pos (by omega)]
    · rw [if_neg h3, if_neg (by omega)]
def F3 (adj : Nat → Nat → Bool) (n a b : Nat) : Nat := sm n fun c => (adj b c && (decide (b < c) && adj a c)).toNat
theorem cnt3 (a b : Nat) : ((nearI adj n b).countP fun c => decide (b < c) && adj a c) = F3 adj n a b := by
  unfold nearI F3
  rw [List.countP_filter, sm_count]
  refine sm_congr fun i _ => ?_
  rw [Bool.and_comm]
theorem cnt3' (a b : Nat) : ((nearI adj n a).countP fun c => decide (b < c) && adj b c) = F3 adj n a b := by
  unfold nearI F3
  rw [List.countP_filter, sm_count]
  refine sm_congr fun i _ => ?_
  cases adj b i <;> cases adj a i <;> cases decide (b < i) <;> rfl
def G3 (adj : Nat → Nat → Bool) (n a : Nat) : Nat := sm n fun b => if adj a b = true then (if a < b then F3 adj n a b else 0) else 0
theorem sum3 (a : Nat) : ((nearI adj n a).map fun b => if a < b then F3 adj n a b else 0).sum = G3 adj n a := sm_list _ _ _
theorem tris_G3 : tris adj n = sm n (G3 adj n) := by
  unfold tris
  refine sm_congr fun a _ => ?_
  unfold G3
  refine sm_congr fun b _ => ?_
  unfold F3
  by_cases h1 : adj a b = true
  · by_cases h2 : a < b
    · rw [if_pos h1, if_pos h2]
      refine sm_congr fun c _ => ?_
      rw [h1, decide_eq_true h2]
      cases adj b c <;> cases decide (b < c) <;> rfl
    · rw [if_pos h1, if_neg h2, decide_eq_false h2]
      exact sm_zero n
  · rw [if_neg h1, Bool.eq_false_iff.2 h1]
    refine (sm_congr fun c _ => ?_).trans (sm_zero n)
    rw [Bool.and_false]
    rfl
theorem nearI_asc (i : Nat) : (nearI adj n i).Pairwise (· < ·) := List.Pairwise.filter _ List.pairwise_lt_range
theorem drop_gt : ∀ {l : List Nat}, l.Pairwise (· < ·) → ∀ (a : Nat) (h : a < l.length), l.drop (a + 1) = l.filter fun q => decide (l[a] < q)
  | x :: l, hp, 0, h => by
    obtain ⟨h1, h2⟩ := List.pairwise_cons.1 hp
    show l = (x :: l).filter fun q => decide (x < q)
    rw [List.filter_cons_of_neg (by simp)]
    exact (List.filter_eq_self.2 fun q hq => by simpa using h1 q hq).symm
  | x :: l, hp, a + 1, h => by
    obtain ⟨h1, h2⟩ := List.pairwise_cons.1 hp
    have h3 : a < l.length := by simpa using h
    have ih := drop_gt h2 a h3
    have h5 := h1 _ (List.getElem_mem h3)
    show l.drop (a + 1) = (x :: l).filter fun q => decide (l[a] < q)
    rw [ih, List.filter_cons_of_neg (by simp; omega)]
theorem cnt3d {i a : Nat} (h : a < (nearI adj n i).length) : (((nearI adj n i).drop (a + 1)).countP fun q => adj (nearI adj n i)[a] q) = F3 adj n i (nearI adj n i)[a] := by
  rw [drop_gt (nearI_asc i) a h, List.countP_filter, ← cnt3']
  refine List.countP_congr fun c _ => ?_
  rw [Bool.and_comm]
/-! ### ways -/
theorem deg_lt (irr : ∀ u, adj u u = false) {v : Nat} (hv : v < n) : sm n (fun w => (adj v w).toNat) ≤ n - 1 := by
  have h1 : sm n (fun w => (adj v w).toNat) + sm n (fun w => if w = v then 1 else 0) ≤ sm n (fun _ => 1) := by
    rw [← sm_add]
    refine sm_le fun i _ => ?_
    by_cases e : i = v
    · subst e
      rw [irr]
      simp
    · rw [if_neg e]
      exact toNat_le _
  rw [sm_one, if_pos hv] at h1
  have h2 : sm n (fun _ => 1) ≤ n := sm_lim fun _ _ => Nat.le_refl _
  omega
theorem core_few (irr : ∀ u, adj u u = false) {v : Nat} (hv : v < n) : core adj n v ≤ n - 1 := Nat.le_trans (core_deg hv) (deg_lt irr hv)
noncomputable def coreU (adj : Nat → Nat → Bool) (n k : Nat) : List Int := (List.range n).map fun v => ((min (core adj n v) k : Nat) : Int)
theorem coreU_len (k : Nat) : (coreU adj n k).length = n := by simp [coreU]
theorem gt_coreU {k v : Nat} (h : v < n) : gt (coreU adj n k) v = ((min (core adj n v) k : Nat) : Int) := by
  unfold gt coreU
  simp [List.getD_eq_getElem?_getD, h]
theorem coreU_zero : coreU adj n 0 = List.replicate n 0 := gt_ext (by simp [coreU]) fun v hv => by
  rw [coreU_len] at hv
  rw [gt_coreU hv]
  unfold gt
  simp [List.getD_eq_getElem?_getD, hv]
theorem coreU_end {k : Nat} (h : ∀ v, v < n → core adj n v ≤ k) : coreU adj n k = coreL adj n := gt_ext (by rw [coreU_len, coreL_length]) fun v hv => by
  rw [coreU_len] at hv
  rw [gt_coreU hv, gt_coreL hv, Nat.min_eq_left (h v hv)]
/-- The numbers of those ahead of j raised. -/
noncomputable def coreV (adj : Nat → Nat → Bool) (n k j : Nat) : List Int := (List.range n).map fun v => ((min (core adj n v) (if v < j then k + 1 else k) : Nat) : Int)
theorem coreV_len (k j : Nat) : (coreV adj n k j).length = n := by simp [coreV]
theorem gt_coreV {k j v : Nat} (h : v < n) : gt (coreV adj n k j) v = ((min (core adj n v) (if v < j then k + 1 else k) : Nat) : Int) := by
  unfold gt coreV
  simp [List.getD_eq_getElem?_getD, h]
theorem coreV_zero (k : Nat) : coreV adj n k 0 = coreU adj n k := gt_ext (by rw [coreU_len, coreV_len]) fun v hv => by
  rw [coreV_len] at hv
  rw [gt_coreU hv, gt_coreV hv, if_neg (Nat.not_lt_zero _)]
theorem coreV_end (k : Nat) : coreV adj n k n = coreU adj n (k + 1) := gt_ext (by rw [coreU_len, coreV_len]) fun v hv => by
  rw [coreV_len] at hv
  rw [gt_coreU hv, gt_coreV hv, if_pos hv]
theorem coreV_on {k j : Nat} (hj : j < n) (h : kc adj n (k + 1) j = true) : (coreV adj n k j).set j ((k + 1 : Nat) : Int) = coreV adj n k (j + 1) := by
  have hc := (core_iff' hj).1 (kc_iff.1 h)
  refine gt_ext (by rw [List.length_set, coreV_len, coreV_len]) fun v hv => ?_
  rw [List.length_set, coreV_len] at hv
  rw [gt_set (by rw [coreV_len]; exact hj), gt_coreV hv, gt_coreV hv]
  by_cases e : j = v
  · subst e
    rw [if_pos rfl, if_pos (Nat.lt_succ_self j), Nat.min_eq_right hc]
  · rw [if_neg e]
    by_cases h2 : v < j
    · rw [if_pos h2, if_pos (by omega)]
    · rw [if_neg h2, if_neg (by omega)]
theorem coreV_off {k j : Nat} (hj : j < n) (h : kc adj n (k + 1) j = false) : coreV adj n k (j + 1) = coreV adj n k j := by
  have hc : ¬ k + 1 ≤ core adj n j := fun hc => by
    have := kc_iff.2 ((core_iff' hj).2 hc)
    rw [h] at this
    cases this
  refine gt_ext (by rw [coreV_len, coreV_len]) fun v hv => ?_
  rw [coreV_len] at hv
  rw [gt_coreV hv, gt_coreV hv]
  by_cases e : v = j
  · subst e
    rw [if_pos (Nat.lt_succ_self v), if_neg (Nat.lt_irrefl v), Nat.min_eq_left (by omega), Nat.min_eq_left (by omega)]
  · by_cases h2 : v < j
    · rw [if_pos h2, if_pos (by omega)]
    · rw [if_neg h2, if_neg (by omega)]
theorem deg_near {l : List Bool} (i : Nat) : ((nearI adj n i).countP fun v => gb l v) = degS adj n (gb l) i := by
  unfold nearI degS
  rw [List.countP_filter, sm_count]
  refine sm_congr fun w _ => ?_
  rw [Bool.and_comm]
end
end Go.Proofs.Ytogmbeifbjgphaa.M
