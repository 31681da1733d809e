/- What the walks of parts, threes, ways and core numbers keep, step by step; Edges that are the first between their ends are as many as pairs of near nodes. -/
import Derived.Test.YtogmbeifbjgphaaKB2
namespace Go.Proofs.Ytogmbeifbjgphaa.M
set_option linter.unusedVariables false
set_option linter.unusedSimpArgs false
section
variable {adj : Nat → Nat → Bool} {n : Nat}
/-! ### parts -/
noncomputable def partU (adj : Nat → Nat → Bool) (n k : Nat) : List Int := (List.range n).map fun v => if root adj v < k then (root adj v : Int) else -1
theorem partU_len (k : Nat) : (partU adj n k).length = n := by simp [partU]
theorem gt_partU {k v : Nat} (h : v < n) : gt (partU adj n k) v = if root adj v < k then (root adj v : Int) else -1 := by
  unfold gt partU
  simp [List.getD_eq_getElem?_getD, h]
theorem partU_zero : partU adj n 0 = List.replicate n (-1) := gt_ext (by simp [partU]) fun v hv => by
  rw [partU_len] at hv
  rw [gt_partU hv, gt_replicate hv, if_neg (Nat.not_lt_zero _)]
theorem partU_end : partU adj n n = partL adj n := gt_ext (by rw [partU_len, partL_length]) fun v hv => by
  rw [partU_len] at hv
  rw [gt_partU hv, gt_partL hv, if_pos (Nat.lt_of_le_of_lt (root_le v) hv)]
theorem partU_skip (sym : ∀ u v, adj u v = adj v u) {k : Nat} (hk : k < n) (h : 0 ≤ gt (partU adj n k) k) : partU adj n (k + 1) = partU adj n k := by
  refine gt_ext (by rw [partU_len, partU_len]) fun v hv => ?_
  rw [partU_len] at hv
  rw [gt_partU hv, gt_partU hv]
  rw [gt_partU hk] at h
  have hne : root adj v ≠ k := fun e => by
    have h1 := root_root sym v
    rw [e] at h1
    rw [h1, if_neg (Nat.lt_irrefl k)] at h
    omega
  by_cases h2 : root adj v < k
  · rw [if_pos h2, if_pos (by omega)]
  · rw [if_neg h2, if_neg (by omega)]
def setAll (xs : List Int) (q : List Nat) (x : Int) : List Int := q.foldl (fun a v => a.set v x) xs
theorem setAll_snoc (xs : List Int) (q : List Nat) (v : Nat) (x : Int) : setAll xs (q ++ [v]) x = (setAll xs q x).set v x := by simp [setAll]
theorem setAll_len {x : Int} : ∀ (q : List Nat) (xs : List Int), (setAll xs q x).length = xs.length
  | [], _ => rfl
  | v :: q, xs => by
    show (setAll (xs.set v x) q x).length = _
    rw [setAll_len q, List.length_set]
theorem gt_setAll {x : Int} {v : Nat} : ∀ (q : List Nat) (xs : List Int), (∀ u ∈ q, u < xs.length) → gt (setAll xs q x) v = if v ∈ q then x else gt xs v
  | [], xs, _ => by simp [setAll]
  | u :: q, xs, h => by
    have h1 := gt_setAll (x := x) (v := v) q (xs.set u x) (fun a ha => by rw [List.length_set]; exact h a (by simp [ha]))
    have h2 : setAll xs (u :: q) x = setAll (xs.set u x) q x := rfl
    rw [h2, h1, gt_set (h u (by simp))]
    by_cases hq : v ∈ q
    · simp [hq]
    · by_cases hu : u = v
      · simp [hq, hu]
      · have hw : ¬ v = u := fun e => hu e.symm
        simp [hq, hu, hw]
theorem partU_new (sym : ∀ u v, adj u v = adj v u) {k : Nat} (hk : k < n) (h : gt (partU adj n k) k < 0) {q : List Nat} (hq : ∀ v, v ∈ q ↔ v < n ∧ 0 ≤ dist adj k v) : setAll (partU adj n k) q k = partU adj n (k + 1) := by
  have hr : root adj k = k := by
    rw [gt_partU hk] at h
    have h1 := root_le (adj := adj) k
    by_cases h2 : root adj k < k
    · rw [if_pos h2] at h
      omega
    · omega
  refine gt_ext (by rw [setAll_len, partU_len, partU_len]) fun v hv => ?_
  rw [setAll_len, partU_len] at hv
  rw [gt_setAll q _ (fun u hu => by rw [partU_len]; exact ((hq u).1 hu).1), gt_partU hv, gt_partU hv]
  have h1 : v ∈ q ↔ root adj v = k := by
    rw [hq v]
    have h2 := root_eq sym k v
    rw [hr] at h2
    exact ⟨fun h => (h2.2 h.2).symm, fun h => ⟨hv, h2.1 h.symm⟩⟩
  by_cases h2 : root adj v = k
  · rw [if_pos (h1.2 h2), if_pos (by omega), h2]
  · rw [if_neg (fun hc => h2 (h1.1 hc))]
    by_cases h3 : root adj v < k
    · rw [if_pos h3, if_pos (by omega)]
    · rw [if_neg h3, if_neg (by omega)]
theorem partL_take {k : Nat} (h : k < n) : (partL adj n).take (k + 1) = (partL adj n).take k ++ [(root adj k : Int)] := by
  have h1 : k < (partL adj n).length := by rw [partL_length]; exact h
  rw [List.take_succ_eq_append_getElem h1]
  congr 2
  simp [partL]
/-! ### threes -/
def F3 (adj : Nat → Nat → Bool) (n a b : Nat) : Nat := sm n fun c => (adj b c && (decide (b < c) && adj a c)).toNat
theorem cnt3 (a b : Nat) : ((nearI adj n b).countP fun c => decide (b < c) && adj a c) = F3 adj n a b := by
  unfold nearI F3
  rw [List.countP_filter, sm_count]
  refine sm_congr fun i _ => ?_
  rw [Bool.and_comm]
theorem cnt3' (a b : Nat) : ((nearI adj n a).countP fun c => decide (b < c) && adj b c) = F3 adj n a b := by
  unfold nearI F3
  rw [List.countP_filter, sm_count]
  refine sm_congr fun i _ => ?_
  cases adj b i <;> cases adj a i <;> cases decide (b < i) <;> rfl
def G3 (adj : Nat → Nat → Bool) (n a : Nat) : Nat := sm n fun b => if adj a b = true then (if a < b then F3 adj n a b else 0) else 0
theorem sum3 (a : Nat) : ((nearI adj n a).map fun b => if a < b then F3 adj n a b else 0).sum = G3 adj n a := sm_list _ _ _
theorem tris_G3 : tris adj n = sm n (G3 adj n) := by
  unfold tris
  refine sm_congr fun a _ => ?_
  unfold G3
  refine sm_congr fun b _ => ?_
  unfold F3
  by_cases h1 : adj a b = true
  · by_cases h2 : a < b
    · rw [if_pos h1, if_pos h2]
      refine sm_congr fun c _ => ?_
      rw [h1, decide_eq_true h2]
      cases adj b c <;> cases decide (b < c) <;> rfl
    · rw [if_pos h1, if_neg h2, decide_eq_false h2]
      exact sm_zero n
  · rw [if_neg h1, Bool.eq_false_iff.2 h1]
    refine (sm_congr fun c _ => ?_).trans (sm_zero n)
    rw [Bool.and_false]
    rfl
theorem nearI_asc (i : Nat) : (nearI adj n i).Pairwise (· < ·) := List.Pairwise.filter _ List.pairwise_lt_range
theorem drop_gt : ∀ {l : List Nat}, l.Pairwise (· < ·) → ∀ (a : Nat) (h : a < l.length), l.drop (a + 1) = l.filter fun q => decide (l[a] < q)
  | x :: l, hp, 0, h => by
    obtain ⟨h1, h2⟩ := List.pairwise_cons.1 hp
    show l = (x :: l).filter fun q => decide (x < q)
    rw [List.filter_cons_of_neg (by simp)]
    exact (List.filter_eq_self.2 fun q hq => by simpa using h1 q hq).symm
  | x :: l, hp, a + 1, h => by
    obtain ⟨h1, h2⟩ := List.pairwise_cons.1 hp
    have h3 : a < l.length := by simpa using h
    have ih := drop_gt h2 a h3
    have h5 := h1 _ (List.getElem_mem h3)
    show l.drop (a + 1) = (x :: l).filter fun q => decide (l[a] < q)
    rw [ih, List.filter_cons_of_neg (by simp; omega)]
theorem cnt3d {i a : Nat} (h : a < (nearI adj n i).length) : (((nearI adj n i).drop (a + 1)).countP fun q => adj (nearI adj n i)[a] q) = F3 adj n i (nearI adj n i)[a] := by
  rw [drop_gt (nearI_asc i) a h, List.countP_filter, ← cnt3']
  refine List.countP_congr fun c _ => ?_
  rw [Bool.and_comm]
/-! ### ways -/
end
end Go.Proofs.Ytogmbeifbjgphaa.M
namespace Go.Proofs.Ytogmbeifbjgphaa.M
set_option linter.unusedVariables false
set_option linter.unusedSimpArgs false
section
variable {ns : List Nd} {es : List Eg}
def eE (es : List Eg) (j : Nat) : Eg := es.getD j zE
theorem eE_lt {j : Nat} (h : j < es.length) : eE es j = es[j] := by
  unfold eE
  simp [List.getD_eq_getElem?_getD, h]
theorem eE_mem {j : Nat} (h : j < es.length) : eE es j ∈ es := by
  rw [eE_lt h]
  exact List.getElem_mem h
open Classical in
noncomputable def jo (es : List Eg) (k : Nat) (x y : Nd) : Bool := decide (∃ j, j < k ∧ (eE es j).a = x ∧ (eE es j).b = y)
/-- None ahead of the k-th has its ends. -/
noncomputable def isF (es : List Eg) (k : Nat) : Bool := !jo es k (eE es k).a (eE es k).b
theorem jo_iff {k : Nat} {x y : Nd} : jo es k x y = true ↔ ∃ j, j < k ∧ (eE es j).a = x ∧ (eE es j).b = y := by
  unfold jo
  exact decide_eq_true_iff
theorem jo_succ (k : Nat) (x y : Nd) : jo es (k + 1) x y = (jo es k x y || (decide ((eE es k).a = x) && decide ((eE es k).b = y))) := by
  rw [Bool.eq_iff_iff, Bool.or_eq_true, Bool.and_eq_true, decide_eq_true_iff, decide_eq_true_iff, jo_iff, jo_iff]
  constructor
  · rintro ⟨j, hj, h⟩
    rcases Nat.lt_or_eq_of_le (Nat.le_of_lt_succ hj) with h1 | rfl
    · exact .inl ⟨j, h1, h⟩
    · exact .inr h
  · rintro (⟨j, hj, h⟩ | h)
    · exact ⟨j, by omega, h⟩
    · exact ⟨k, by omega, h⟩
noncomputable def sJ (ns : List Nd) (es : List Eg) (k : Nat) : Nat := sm ns.length fun u => sm ns.length fun v => (decide (u < v) && jo es k (at_ ns u) (at_ ns v)).toNat
theorem ends_at (hg : OkG ns es) {k : Nat} (hk : k < es.length) : (eE es k).a ∈ ns ∧ (eE es k).b ∈ ns := adjE_mem hg (adjE_iff.2 ⟨_, eE_mem hk, .inl ⟨rfl, rfl⟩⟩)
theorem sJ_succ (hg : OkG ns es) {k : Nat} (hk : k < es.length) : sJ ns es (k + 1) = sJ ns es k + (isF es k).toNat := by
  obtain ⟨ha, hb⟩ := ends_at hg hk
  have hu := idx_lt ha
  have hv := idx_lt hb
  have hau := at_idx ha
  have hbv := at_idx hb
  have hc := (okE_iff.1 (hg.eok _ (eE_mem hk))).2.2.2.1
  have hx : ∀ u, u < ns.length → (eE es k).a = at_ ns u → u = idx ns (eE es k).a := fun u h e => at_inj hg h hu (by rw [hau]; exact e.symm)
  have hy : ∀ u, u < ns.length → (eE es k).b = at_ ns u → u = idx ns (eE es k).b := fun u h e => at_inj hg h hv (by rw [hbv]; exact e.symm)
  have huv : idx ns (eE es k).a < idx ns (eE es k).b := (at_code hg hu hv).1 (by rw [hau, hbv]; exact hc)
  unfold sJ isF
  cases hf : jo es k (eE es k).a (eE es k).b
  · have h1 : sm ns.length (fun u => if u = idx ns (eE es k).a then (sm ns.length fun v => if v = idx ns (eE es k).b then 1 else 0) else 0) = 1 := by rw [sm_one, if_pos hu, sm_one, if_pos hv]
    have h2 : sm ns.length (fun u => sm ns.length fun v => (decide (u < v) && jo es (k + 1) (at_ ns u) (at_ ns v)).toNat) = sm ns.length (fun u => (sm ns.length fun v => (decide (u < v) && jo es k (at_ ns u) (at_ ns v)).toNat) + (if u = idx ns (eE es k).a then (sm ns.length fun v => if v = idx ns (eE es k).b then 1 else 0) else 0)) := by
      refine sm_congr fun u hu' => ?_
      by_cases e : u = idx ns (eE es k).a
      · rw [if_pos e, ← sm_add]
        refine sm_congr fun v hv' => ?_
        rw [jo_succ]
        by_cases e2 : v = idx ns (eE es k).b
        · rw [if_pos e2, e, e2, hau, hbv, hf, decide_eq_true huv, decide_eq_true rfl, decide_eq_true rfl]
          rfl
        · rw [if_neg e2, decide_eq_false (p := (eE es k).b = at_ ns v) (fun h => e2 (hy v hv' h)), Bool.and_false, Bool.or_false, Nat.add_zero]
      · rw [if_neg e, Nat.add_zero]
        refine sm_congr fun v hv' => ?_
        rw [jo_succ, decide_eq_false (p := (eE es k).a = at_ ns u) (fun h => e (hx u hu' h)), Bool.false_and, Bool.or_false]
    rw [h2, sm_add, h1]
    rfl
  · show _ = _ + 0
    rw [Nat.add_zero]
    refine sm_congr fun u hu' => sm_congr fun v hv' => ?_
    rw [jo_succ]
    by_cases e : (eE es k).a = at_ ns u
    · by_cases e2 : (eE es k).b = at_ ns v
      · rw [← e, ← e2, hf]
        rfl
      · rw [decide_eq_false e2, Bool.and_false, Bool.or_false]
    · rw [decide_eq_false e, Bool.false_and, Bool.or_false]
theorem sJ_end (hg : OkG ns es) : sJ ns es es.length = pairs (adjI ns es) ns.length := by
  unfold sJ pairs
  refine sm_congr fun u hu => sm_congr fun v hv => ?_
  by_cases h : u < v
  · have h1 : jo es es.length (at_ ns u) (at_ ns v) = adjI ns es u v := by
      rw [adjI_at hu hv, Bool.eq_iff_iff, jo_iff, adjE_iff]
      constructor
      · rintro ⟨j, hj, h2⟩
        exact ⟨_, eE_mem hj, .inl h2⟩
      · rintro ⟨e, he, h2 | h2⟩
        · obtain ⟨j, hj, rfl⟩ := List.getElem_of_mem he
          exact ⟨j, hj, by rw [eE_lt hj]; exact h2⟩
        · have h3 := (okE_iff.1 (hg.eok e he)).2.2.2.1
          rw [h2.1, h2.2, at_code hg hv hu] at h3
          omega
    rw [h1]
  · rw [decide_eq_false h]
    rfl
theorem firsts_of (hg : OkG ns es) : ∀ k, k ≤ es.length → sm k (fun j => (isF es j).toNat) = sJ ns es k
  | 0, _ => by
    unfold sJ
    refine ((sm_congr fun u _ => (sm_congr fun v _ => ?_).trans (sm_zero _)).trans (sm_zero _)).symm
    have h : jo es 0 (at_ ns u) (at_ ns v) = false := by
      rw [Bool.eq_false_iff]
      intro h
      obtain ⟨j, hj, _⟩ := jo_iff.1 h
      omega
    rw [h, Bool.and_false]
    rfl
  | k + 1, h => by rw [sm_succ, firsts_of hg k (by omega), sJ_succ hg (by omega)]
theorem firsts_pairs (hg : OkG ns es) : sm es.length (fun j => (isF es j).toNat) = pairs (adjI ns es) ns.length := by rw [firsts_of hg _ (Nat.le_refl _), sJ_end hg]
theorem ends_root (hg : OkG ns es) {k : Nat} (hk : k < es.length) : root (adjI ns es) (idx ns (eE es k).a) = root (adjI ns es) (idx ns (eE es k).b) := by
  obtain ⟨ha, hb⟩ := ends_at hg hk
  refine (root_eq adjI_sym _ _).2 ?_
  have h1 : adjI ns es (idx ns (eE es k).a) (idx ns (eE es k).b) = true := by
    rw [adjI_at (idx_lt ha) (idx_lt hb), at_idx ha, at_idx hb]
    exact adjE_iff.2 ⟨_, eE_mem hk, .inl ⟨rfl, rfl⟩⟩
  exact (dist_le (Way.one h1)).1
end
end Go.Proofs.Ytogmbeifbjgphaa.M
