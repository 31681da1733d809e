/- What the walks of parts, threes, ways and core numbers keep, step by step. -/
import Derived.Test.YtogmbeifbjgphaaGreatKB3
namespace Go.Proofs.YtogmbeifbjgphaaGreat.M
set_option linter.unusedVariables false
set_option linter.unusedSimpArgs false
section
variable {adj : Nat → Nat → Bool} {n : Nat}
/-! ### parts -/
def F3 (adj : Nat → Nat → Bool) (n a b : Nat) : Nat := sm n fun c => (adj b c && (decide (b < c) && adj a c)).toNat
theorem cnt3 (a b : Nat) : ((nearI adj n b).countP fun c => decide (b < c) && adj a c) = F3 adj n a b := by
 unfold nearI F3
 rw [List.countP_filter, sm_count]
 refine sm_congr fun i _ => ?_
 rw [Bool.and_comm]
def G3 (adj : Nat → Nat → Bool) (n a : Nat) : Nat := sm n fun b => if adj a b = true then (if a < b then F3 adj n a b else 0) else 0
theorem sum3 (a : Nat) : ((nearI adj n a).map fun b => if a < b then F3 adj n a b else 0).sum = G3 adj n a := sm_list _ _ _
theorem tris_G3 : tris adj n = sm n (G3 adj n) := by
 unfold tris
 refine sm_congr fun a _ => ?_
 unfold G3
 refine sm_congr fun b _ => ?_
 unfold F3
 by_cases h1 : adj a b = true
 ·by_cases h2 : a < b
  ·rw [if_pos h1, if_pos h2]
   refine sm_congr fun c _ => ?_
   rw [h1, decide_eq_true h2]
   cases adj b c <;> cases decide (b < c) <;> rfl
  ·rw [if_pos h1, if_neg h2, decide_eq_false h2]
   exact sm_zero n
 ·rw [if_neg h1, Bool.eq_false_iff.2 h1]
  refine (sm_congr fun c _ => ?_).trans (sm_zero n)
  rw [Bool.and_false]
  rfl
theorem deg_lt (irr : ∀ u, adj u u = false) {v : Nat} (hv : v < n) : sm n (fun w => (adj v w).toNat) ≤ n - 1 := by
 have h1 : sm n (fun w => (adj v w).toNat) + sm n (fun w => if w = v then 1 else 0) ≤ sm n (fun _ => 1) := by
  rw [← sm_add]
  refine sm_le fun i _ => ?_
  by_cases e : i = v
  ·subst e
   rw [irr]
   simp
  ·rw [if_neg e]
   exact toNat_le _
 rw [sm_one, if_pos hv] at h1
 have h2 : sm n (fun _ => 1) ≤ n := sm_lim fun _ _ => Nat.le_refl _
 omega
theorem core_few (irr : ∀ u, adj u u = false) {v : Nat} (hv : v < n) : core adj n v ≤ n - 1 := Nat.le_trans (core_deg hv) (deg_lt irr hv)
noncomputable def coreU (adj : Nat → Nat → Bool) (n k : Nat) : List Int := (List.range n).map fun v => ((min (core adj n v) k : Nat) : Int)
theorem coreU_len (k : Nat) : (coreU adj n k).length = n := by simp [coreU]
theorem gt_coreU {k v : Nat} (h : v < n) : gt (coreU adj n k) v = ((min (core adj n v) k : Nat) : Int) := by
 unfold gt coreU
 simp [List.getD_eq_getElem?_getD, h]
theorem coreU_zero : coreU adj n 0 = List.replicate n 0 := gt_ext (by simp [coreU]) fun v hv => by
 rw [coreU_len] at hv
 rw [gt_coreU hv]
 unfold gt
 simp [List.getD_eq_getElem?_getD, hv]
theorem coreU_end {k : Nat} (h : ∀ v, v < n → core adj n v ≤ k) : coreU adj n k = coreL adj n := gt_ext (by rw [coreU_len, coreL_length]) fun v hv => by
 rw [coreU_len] at hv
 rw [gt_coreU hv, gt_coreL hv, Nat.min_eq_left (h v hv)]
/-- The numbers of those ahead of j raised. -/
noncomputable def coreV (adj : Nat → Nat → Bool) (n k j : Nat) : List Int := (List.range n).map fun v => ((min (core adj n v) (if v < j then k + 1 else k) : Nat) : Int)
theorem coreV_len (k j : Nat) : (coreV adj n k j).length = n := by simp [coreV]
theorem gt_coreV {k j v : Nat} (h : v < n) : gt (coreV adj n k j) v = ((min (core adj n v) (if v < j then k + 1 else k) : Nat) : Int) := by
 unfold gt coreV
 simp [List.getD_eq_getElem?_getD, h]
theorem coreV_zero (k : Nat) : coreV adj n k 0 = coreU adj n k := gt_ext (by rw [coreU_len, coreV_len]) fun v hv => by
 rw [coreV_len] at hv
 rw [gt_coreU hv, gt_coreV hv, if_neg (Nat.not_lt_zero _)]
theorem coreV_end (k : Nat) : coreV adj n k n = coreU adj n (k + 1) := gt_ext (by rw [coreU_len, coreV_len]) fun v hv => by
 rw [coreV_len] at hv
 rw [gt_coreU hv, gt_coreV hv, if_pos hv]
theorem coreV_on {k j : Nat} (hj : j < n) (h : kc adj n (k + 1) j = true) : (coreV adj n k j).set j ((k + 1 : Nat) : Int) = coreV adj n k (j + 1) := by
 have hc := (core_iff' hj).1 (kc_iff.1 h)
 refine gt_ext (by rw [List.length_set, coreV_len, coreV_len]) fun v hv => ?_
 rw [List.length_set, coreV_len] at hv
 rw [gt_set (by rw [coreV_len]; exact hj), gt_coreV hv, gt_coreV hv]
 by_cases e : j = v
 ·subst e
  rw [if_pos rfl, if_pos (Nat.lt_succ_self j), Nat.min_eq_right hc]
 ·rw [if_neg e]
  by_cases h2 : v < j
  ·rw [if_pos h2, if_pos (by omega)]
  ·rw [if_neg h2, if_neg (by omega)]
theorem coreV_off {k j : Nat} (hj : j < n) (h : kc adj n (k + 1) j = false) : coreV adj n k (j + 1) = coreV adj n k j := by
 have hc : ¬ k + 1 ≤ core adj n j := fun hc => by
  have := kc_iff.2 ((core_iff' hj).2 hc)
  rw [h] at this
  cases this
 refine gt_ext (by rw [coreV_len, coreV_len]) fun v hv => ?_
 rw [coreV_len] at hv
 rw [gt_coreV hv, gt_coreV hv]
 by_cases e : v = j
 ·subst e
  rw [if_pos (Nat.lt_succ_self v), if_neg (Nat.lt_irrefl v), Nat.min_eq_left (by omega), Nat.min_eq_left (by omega)]
 ·by_cases h2 : v < j
  ·rw [if_pos h2, if_pos (by omega)]
  ·rw [if_neg h2, if_neg (by omega)]
theorem deg_near {l : List Bool} (i : Nat) : ((nearI adj n i).countP fun v => gb l v) = degS adj n (gb l) i := by
 unfold nearI degS
 rw [List.countP_filter, sm_count]
 refine sm_congr fun w _ => ?_
 rw [Bool.and_comm]
end
end Go.Proofs.YtogmbeifbjgphaaGreat.M
