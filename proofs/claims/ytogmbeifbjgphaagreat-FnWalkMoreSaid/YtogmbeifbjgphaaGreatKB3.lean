/- Core numbers: how dense it is around a place; The way that is told, the parts; A right graph as a graph of places: its nodes in their order. -/
import Derived.Test.YtogmbeifbjgphaaGreatKB2
namespace Go.Proofs.YtogmbeifbjgphaaGreat.M
set_option linter.unusedVariables false
set_option linter.unusedSimpArgs false
/-- How many of S are near u. -/
def degS (adj : Nat → Nat → Bool) (n : Nat) (S : Nat → Bool) (u : Nat) : Nat := sm n fun w => (adj u w && S w).toNat
/-- S in which each has k or more of S near. -/
def Dense (adj : Nat → Nat → Bool) (n k : Nat) (S : Nat → Bool) : Prop := ∀ u, S u = true → u < n ∧ k ≤ degS adj n S u
/-- v lies in such an S. -/
def Kc (adj : Nat → Nat → Bool) (n k v : Nat) : Prop := ∃ S, Dense adj n k S ∧ S v = true
open Classical in
noncomputable def kc (adj : Nat → Nat → Bool) (n k v : Nat) : Bool := decide (Kc adj n k v)
theorem kc_iff {adj : Nat → Nat → Bool} {n k v : Nat} : kc adj n k v = true ↔ Kc adj n k v := by simp [kc]
section
variable {adj : Nat → Nat → Bool} {n k v : Nat} {S T : Nat → Bool}
theorem degS_mono (h : ∀ w, w < n → S w = true → T w = true) (u : Nat) : degS adj n S u ≤ degS adj n T u := by
 unfold degS
 refine sm_le fun w hw => ?_
 cases h1 : adj u w
 ·simp
 ·cases h2 : S w
  ·simp
  ·simp [h w hw h2]
theorem degS_le (u : Nat) : degS adj n S u ≤ sm n (fun w => (adj u w).toNat) := by
 unfold degS
 refine sm_le fun w hw => ?_
 cases h1 : adj u w
 ·simp
 ·simpa using toNat_le (S w)
theorem sm_lim : ∀ {n : Nat} {f : Nat → Nat}, (∀ i, i < n → f i ≤ 1) → sm n f ≤ n
 | 0, _, _ => Nat.le_refl _
 | n + 1, f, h => by
   have h1 := sm_lim (n := n) (f := f) fun i hi => h i (by omega)
   have h2 := h n (by omega)
   simp only [sm_succ]
   omega
theorem Kc.lt (h : Kc adj n k v) : v < n := by
 obtain ⟨S, hS, hv⟩ := h
 exact (hS v hv).1
theorem Kc.le (h : Kc adj n k v) : k ≤ n := by
 obtain ⟨S, hS, hv⟩ := h
 exact Nat.le_trans (hS v hv).2 (sm_lim fun i _ => toNat_le _)
theorem Kc.deg (h : Kc adj n k v) : k ≤ sm n (fun w => (adj v w).toNat) := by
 obtain ⟨S, hS, hv⟩ := h
 exact Nat.le_trans (hS v hv).2 (degS_le _)
/-- All that lie in one of them lie in one. -/
theorem kc_dense : Dense adj n k (kc adj n k) := by
 intro u hu
 obtain ⟨S, hS, hv⟩ := kc_iff.1 hu
 refine ⟨(hS u hv).1, Nat.le_trans (hS u hv).2 (degS_mono (fun w _ hw => kc_iff.2 ⟨S, hS, hw⟩) u)⟩
theorem Kc.down {j : Nat} (h : Kc adj n k v) (hj : j ≤ k) : Kc adj n j v := by
 obtain ⟨S, hS, hv⟩ := h
 exact ⟨S, fun u hu => ⟨(hS u hu).1, Nat.le_trans hj (hS u hu).2⟩, hv⟩
theorem Kc.zero (h : v < n) : Kc adj n 0 v := ⟨fun u => decide (u < n), fun u hu => ⟨by simpa using hu, Nat.zero_le _⟩, by simpa using h⟩
/-- The greatest k. -/
noncomputable def core (adj : Nat → Nat → Bool) (n v : Nat) : Nat := sm n fun j => (kc adj n (j + 1) v).toNat
theorem sm_prefix {p : Nat → Bool} (hp : ∀ j, p (j + 1) = true → p j = true) : ∀ n k : Nat, k < n → (p k = true ↔ k < sm n (fun j => (p j).toNat)) := by
 have hall : ∀ {i j : Nat}, i ≤ j → p j = true → p i = true := by
  intro i j hij
  induction j with
  | zero =>
    intro h
    obtain rfl : i = 0 := by omega
    exact h
  | succ j ih =>
    intro h
    rcases Nat.lt_or_eq_of_le hij with h1 | h1
    ·exact ih (by omega) (hp j h)
    ·subst h1
     exact h
 have hfull : ∀ n, (∀ j, j < n → p j = true) → sm n (fun j => (p j).toNat) = n := by
  intro n
  induction n with
  | zero => intro _; rfl
  | succ n ih =>
    intro h
    simp only [sm_succ]
    rw [ih fun j hj => h j (by omega), h n (by omega)]
    rfl
 intro n
 induction n with
 | zero => intro k hk; omega
 | succ n ih =>
   intro k hk
   have hl := sm_lim (n := n) (f := fun j => (p j).toNat) fun i _ => toNat_le _
   cases hn : p n
   ·have e : sm (n + 1) (fun j => (p j).toNat) = sm n (fun j => (p j).toNat) := by
     simp only [sm_succ]
     rw [hn]
     rfl
    rw [e]
    rcases Nat.lt_or_eq_of_le (Nat.le_of_lt_succ hk) with h1 | h1
    ·exact ih k h1
    ·subst h1
     rw [hn]
     exact ⟨fun h => (by cases h), fun h => (by omega)⟩
   ·have h1 : ∀ j, j < n + 1 → p j = true := fun j hj => hall (by omega) hn
    rw [hfull (n + 1) h1]
    exact ⟨fun _ => hk, fun _ => h1 k hk⟩
theorem core_iff (hk : 1 ≤ k) : Kc adj n k v ↔ k ≤ core adj n v := by
 obtain ⟨j, rfl⟩ : ∃ j, k = j + 1 := ⟨k - 1, by omega⟩
 by_cases h : j < n
 ·rw [← kc_iff]
  unfold core
  exact (sm_prefix (p := fun j => kc adj n (j + 1) v) (fun j hj => kc_iff.2 ((kc_iff.1 hj).down (by omega))) n j h).trans (by omega)
 ·have hl : core adj n v ≤ n := sm_lim fun i _ => toNat_le _
  exact ⟨fun hk => by have := hk.le; omega, fun hk => by omega⟩
theorem core_iff' (hv : v < n) : Kc adj n k v ↔ k ≤ core adj n v := by
 cases k with
 | zero => exact ⟨fun _ => Nat.zero_le _, fun _ => Kc.zero hv⟩
 | succ k => exact core_iff (by omega)
theorem core_le : core adj n v ≤ n := sm_lim fun i _ => toNat_le _
theorem core_deg (hv : v < n) : core adj n v ≤ sm n (fun w => (adj v w).toNat) := ((core_iff' hv).2 (Nat.le_refl _)).deg
/-- As many as v's number tells have it or more. -/
theorem core_near (hv : v < n) : core adj n v ≤ sm n (fun w => (adj v w && decide (core adj n v ≤ core adj n w)).toNat) := by
 have h := (core_iff' (adj := adj) hv).2 (Nat.le_refl _)
 have := (kc_dense (adj := adj) (n := n) (k := core adj n v) v (kc_iff.2 h)).2
 refine Nat.le_trans this (sm_le fun w hw => ?_)
 cases h1 : adj v w
 ·simp
 ·cases h2 : kc adj n (core adj n v) w
  ·simp
  ·rw [decide_eq_true ((core_iff' hw).1 (kc_iff.1 h2))]
   exact Nat.le_refl _
/-- More edges, no lower number; along a map of places. -/
theorem Kc.map {adj' : Nat → Nat → Bool} {m : Nat} (f : Nat → Nat) (hf : ∀ u, u < n → f u < m) (hi : ∀ u v, u < n → v < n → f u = f v → u = v) (ha : ∀ u v, u < n → v < n → adj u v = true → adj' (f u) (f v) = true) (h : Kc adj n k v) : Kc adj' m k (f v) := by
 obtain ⟨S, hS, hv⟩ := h
 refine ⟨fun y => (List.range n).any fun u => decide (f u = y) && S u, fun y hy => ?_, ?_⟩
 ·obtain ⟨u, hu, h1⟩ := List.any_eq_true.1 hy
  simp only [Bool.and_eq_true, decide_eq_true_eq] at h1
  obtain ⟨rfl, h1⟩ := h1
  have hun := List.mem_range.1 hu
  refine ⟨hf u hun, Nat.le_trans (hS u h1).2 ?_⟩
  unfold degS
  -- each w goes to f w
  have key : ∀ j, j ≤ n → sm j (fun w => (adj u w && S w).toNat) ≤ sm m (fun y => (adj' (f u) y && ((List.range j).any fun u => decide (f u = y) && S u)).toNat) := by
   intro j
   induction j with
   | zero => intro _; exact Nat.zero_le _
   | succ j ih =>
     intro hj
     have h2 := ih (by omega)
     show sm j _ + (adj u j && S j).toNat ≤ _
     cases hx : (adj u j && S j)
     ·rw [Bool.toNat_false, Nat.add_zero]
      refine Nat.le_trans h2 (sm_le fun y _ => ?_)
      cases hz : (adj' (f u) y && ((List.range j).any fun u => decide (f u = y) && S u))
      ·simp
      ·simp only [Bool.and_eq_true] at hz
       have : ((List.range (j + 1)).any fun u => decide (f u = y) && S u) = true := by
        rw [List.range_succ, List.any_append, hz.2]
        rfl
       rw [hz.1, this]
       exact Nat.le_refl _
     ·simp only [Bool.and_eq_true] at hx
      have hfj := hf j (by omega)
      have e : sm m (fun y => (adj' (f u) y && ((List.range (j + 1)).any fun u => decide (f u = y) && S u)).toNat) = sm m (fun y => (adj' (f u) y && ((List.range j).any fun u => decide (f u = y) && S u)).toNat + if y = f j then 1 else 0) := by
       refine sm_congr fun y hy => ?_
       rw [List.range_succ, List.any_append]
       by_cases e : y = f j
       ·subst e
        have hno : ((List.range j).any fun u => decide (f u = f j) && S u) = false := by
         rw [List.any_eq_false]
         intro w hw
         have hwj := List.mem_range.1 hw
         have : f w ≠ f j := fun e => by have := hi w j (by omega) (by omega) e; omega
         simp [this]
        rw [hno, ha u j hun (by omega) hx.1]
        simp [hx.2]
       ·have : f j ≠ y := fun e' => e e'.symm
        simp [e, this]
      rw [e, sm_add, sm_one, if_pos hfj]
      simp only [hx.1, hx.2, Bool.and_true, Bool.toNat_true]
      omega
  exact key n (Nat.le_refl _)
 ·rw [List.any_eq_true]
  exact ⟨v, List.mem_range.2 (hS v hv).1, by simp [hv]⟩
theorem core_map {adj' : Nat → Nat → Bool} {m : Nat} (f : Nat → Nat) (hf : ∀ u, u < n → f u < m) (hi : ∀ u v, u < n → v < n → f u = f v → u = v) (ha : ∀ u v, u < n → v < n → adj u v = true → adj' (f u) (f v) = true) (hv : v < n) : core adj n v ≤ core adj' m (f v) :=
 (core_iff' (hf v hv)).1 (((core_iff' hv).2 (Nat.le_refl _)).map f hf hi ha)
/-! ### peeling: what stays holds all that lies dense; when nothing more is struck, it is just that -/
def gb (l : List Bool) (v : Nat) : Bool := l.getD v false
theorem gb_set {l : List Bool} {v : Nat} (hv : v < l.length) (x : Bool) (u : Nat) : gb (l.set v x) u = if v = u then x else gb l u := by
 unfold gb
 simp only [List.getD_eq_getElem?_getD, List.getElem?_set]
 by_cases h : v = u
 ·subst h
  simp [hv]
 ·simp [h]
theorem gb_lt {l : List Bool} {v : Nat} (h : gb l v = true) : v < l.length := by
 refine Nat.lt_of_not_le fun hle => ?_
 unfold gb at h
 rw [List.getD_eq_getElem?_getD, List.getElem?_eq_none hle] at h
 cases h
structure Peel (adj : Nat → Nat → Bool) (n k : Nat) (l : List Bool) : Prop where
 len : l.length = n
 all : ∀ v, Kc adj n k v → gb l v = true
theorem Peel.strike {l : List Bool} {i : Nat} (h : Peel adj n k l) (hi : i < n) (hd : degS adj n (gb l) i < k) : Peel adj n k (l.set i false) := by
 refine ⟨by rw [List.length_set]; exact h.len, fun v hv => ?_⟩
 rw [gb_set (by rw [h.len]; exact hi)]
 split
 ·rename_i e
  subst e
  have := (kc_dense (adj := adj) (n := n) (k := k) i (kc_iff.2 hv)).2
  have := degS_mono (adj := adj) (n := n) (S := kc adj n k) (T := gb l) (fun w _ hw => h.all w (kc_iff.1 hw)) i
  omega
 ·exact h.all v hv
theorem Peel.done {l : List Bool} (h : Peel adj n k l) (hd : ∀ i, i < n → gb l i = true → k ≤ degS adj n (gb l) i) (v : Nat) : gb l v = kc adj n k v := by
 rw [Bool.eq_iff_iff, kc_iff]
 refine ⟨fun hv => ⟨gb l, fun u hu => ?_, hv⟩, h.all v⟩
 have hu' := gb_lt hu
 rw [h.len] at hu'
 exact ⟨hu', hd u hu' hu⟩
theorem Peel.next {l : List Bool} (hl : l.length = n) (h : ∀ v, gb l v = kc adj n k v) : Peel adj n (k + 1) l :=
 ⟨hl, fun v hv => by rw [h, kc_iff]; exact hv.down (by omega)⟩
theorem Peel.first : Peel adj n k (List.replicate n true) :=
 ⟨by simp, fun v hv => by unfold gb; simp [List.getD_eq_getElem?_getD, hv.lt]⟩
noncomputable def coreL (adj : Nat → Nat → Bool) (n : Nat) : List Int := (List.range n).map fun v => (core adj n v : Int)
noncomputable def kcL (adj : Nat → Nat → Bool) (n k : Nat) : List Bool := (List.range n).map fun v => kc adj n k v
theorem kcL_of {l : List Bool} (hl : l.length = n) (h : ∀ v, v < n → gb l v = kc adj n k v) : l = kcL adj n k := by
 apply List.ext_getElem (by simp [kcL, hl])
 intro i h1 h2
 have := h i (by omega)
 unfold gb at this
 simp only [List.getD_eq_getElem?_getD, List.getElem?_eq_getElem h1, Option.getD_some] at this
 simp [kcL, this]
end
end Go.Proofs.YtogmbeifbjgphaaGreat.M
namespace Go.Proofs.YtogmbeifbjgphaaGreat.M
section
variable {adj : Nat → Nat → Bool} {n b : Nat}
end
/-! ### parts -/
section
variable {adj : Nat → Nat → Bool} {n : Nat}
theorem coreL_length : (coreL adj n).length = n := by simp [coreL]
theorem gt_coreL {v : Nat} (h : v < n) : gt (coreL adj n) v = core adj n v := by
 unfold gt coreL
 simp [List.getD_eq_getElem?_getD, h]
end
end Go.Proofs.YtogmbeifbjgphaaGreat.M
namespace Go.Proofs.YtogmbeifbjgphaaGreat.M
set_option linter.unusedVariables false
set_option linter.unusedSimpArgs false
def at_ (ns : List Nd) (i : Nat) : Nd := ns.getD i zN
def adjI (ns : List Nd) (es : List Eg) (i j : Nat) : Bool := decide (i < ns.length) && decide (j < ns.length) && adjE es (at_ ns i) (at_ ns j)
/-- The place of a node. -/
def idx (ns : List Nd) (n : Nd) : Nat := ns.idxOf n
theorem at_lt {ns : List Nd} {i : Nat} (h : i < ns.length) : at_ ns i = ns[i] := by
 unfold at_
 simp [List.getD_eq_getElem?_getD, h]
theorem at_mem {ns : List Nd} {i : Nat} (h : i < ns.length) : at_ ns i ∈ ns := by
 rw [at_lt h]
 exact List.getElem_mem h
theorem as_range (ns : List Nd) : ns = (List.range ns.length).map (at_ ns) := by
 apply List.ext_getElem (by simp)
 intro i h1 h2
 rw [List.getElem_map, List.getElem_range, at_lt h1]
theorem filter_range (ns : List Nd) (p : Nd → Bool) : ns.filter p = ((List.range ns.length).filter fun i => p (at_ ns i)).map (at_ ns) := by
 conv => lhs; rw [as_range ns]
 rw [List.filter_map]
 rfl
theorem idx_lt {ns : List Nd} {n : Nd} (h : n ∈ ns) : idx ns n < ns.length := List.idxOf_lt_length_of_mem h
theorem at_idx {ns : List Nd} {n : Nd} (h : n ∈ ns) : at_ ns (idx ns n) = n := by
 rw [at_lt (idx_lt h)]
 exact List.getElem_idxOf (idx_lt h)
section
variable {ns : List Nd} {es : List Eg}
theorem code_at_lt (hg : OkG ns es) {i j : Nat} (h : i < j) (hj : j < ns.length) : code (at_ ns i) < code (at_ ns j) := by
 rw [at_lt (by omega), at_lt hj]
 exact hg.nasc.lt h hj
theorem at_inj (hg : OkG ns es) {i j : Nat} (hi : i < ns.length) (hj : j < ns.length) (h : at_ ns i = at_ ns j) : i = j := by
 rcases Nat.lt_trichotomy i j with e | e | e
 ·have := code_at_lt hg e hj
  rw [h] at this
  omega
 ·exact e
 ·have := code_at_lt hg e hi
  rw [h] at this
  omega
theorem idx_at (hg : OkG ns es) {i : Nat} (hi : i < ns.length) : idx ns (at_ ns i) = i :=
 at_inj hg (idx_lt (at_mem hi)) hi (at_idx (at_mem hi))
theorem at_code (hg : OkG ns es) {i j : Nat} (hi : i < ns.length) (hj : j < ns.length) : code (at_ ns i) < code (at_ ns j) ↔ i < j := by
 constructor
 ·intro h
  refine Nat.lt_of_not_le fun hle => ?_
  rcases Nat.lt_or_eq_of_le hle with e | e
  ·have := code_at_lt hg e hi
   omega
  ·subst e
   omega
 ·intro h
  exact code_at_lt hg h hj
theorem adjI_irr (hg : OkG ns es) (i : Nat) : adjI ns es i i = false := by
 rw [Bool.eq_false_iff]
 intro h
 unfold adjI at h
 simp only [Bool.and_eq_true] at h
 exact adjE_ne hg h.2 rfl
theorem adjI_lt {i j : Nat} (h : adjI ns es i j = true) : i < ns.length ∧ j < ns.length := by
 unfold adjI at h
 simp only [Bool.and_eq_true, decide_eq_true_eq] at h
 exact h.1
theorem adjI_at {i j : Nat} (hi : i < ns.length) (hj : j < ns.length) : adjI ns es i j = adjE es (at_ ns i) (at_ ns j) := by
 unfold adjI
 rw [decide_eq_true hi, decide_eq_true hj]
 rfl
/-- The places near a place. -/
def nearI (adj : Nat → Nat → Bool) (n i : Nat) : List Nat := (List.range n).filter (adj i)
theorem near_at (hg : OkG ns es) {i : Nat} (hi : i < ns.length) : nearG ns es (at_ ns i) = (nearI (adjI ns es) ns.length i).map (at_ ns) := by
 rw [near_of hg, filter_range]
 unfold nearI
 congr 1
 apply List.filter_congr
 intro j hj
 exact (adjI_at hi (List.mem_range.1 hj)).symm
theorem nearI_mem {adj : Nat → Nat → Bool} {n i j : Nat} : j ∈ nearI adj n i ↔ j < n ∧ adj i j = true := by
 unfold nearI
 rw [List.mem_filter, List.mem_range]
theorem nearI_len (adj : Nat → Nat → Bool) (n i : Nat) : (nearI adj n i).length = sm n fun j => (adj i j).toNat := sm_filter_len _ _
/-- The list of distances, of parts, of core numbers, of a right graph. -/
noncomputable def wDist (ns : List Nd) (es : List Eg) (n : Nd) : List Int := if okG ns es = true ∧ n ∈ ns then distL (adjI ns es) ns.length (idx ns n) else []
noncomputable def wCore (ns : List Nd) (es : List Eg) : List Int := if okG ns es = true then coreL (adjI ns es) ns.length else []
noncomputable def wThrees (ns : List Nd) (es : List Eg) : Nat := if okG ns es = true then tris (adjI ns es) ns.length else 0
theorem sm_inj {F : Nat → Nat} {f : Nat → Nat} : ∀ {n B : Nat}, (∀ i j, i < j → j < n → f i < f j) → (∀ i, i < n → f i < B) → sm n (fun i => F (f i)) ≤ sm B F
 | 0, _, _, _ => Nat.zero_le _
 | n + 1, B, hm, hB => by
   have h1 := sm_inj (F := F) (f := f) (n := n) (B := f n) (fun i j hij hj => hm i j hij (by omega)) (fun i hi => hm i n hi (by omega))
   have h2 : sm (f n + 1) F ≤ sm B F := sm_mono (hB n (by omega))
   simp only [sm_succ] at h2 ⊢
   omega
theorem tris_map {adj adj' : Nat → Nat → Bool} {n m : Nat} (f : Nat → Nat) (hf : ∀ u, u < n → f u < m) (hm : ∀ i j, i < j → j < n → f i < f j) (ha : ∀ u v, u < n → v < n → adj u v = true → adj' (f u) (f v) = true) : tris adj n ≤ tris adj' m := by
 unfold tris
 have h1 : (sm n fun a => sm n fun b => sm n fun c => (decide (a < b) && adj a b && (decide (b < c) && adj b c && adj a c)).toNat) ≤
  sm n fun a => sm n fun b => sm n fun c => (decide (f a < f b) && adj' (f a) (f b) && (decide (f b < f c) && adj' (f b) (f c) && adj' (f a) (f c))).toNat := by
  refine sm_le fun a ha' => sm_le fun b hb => sm_le fun c hc => ?_
  cases hx : (decide (a < b) && adj a b && (decide (b < c) && adj b c && adj a c))
  ·exact Nat.zero_le _
  ·simp only [Bool.and_eq_true, decide_eq_true_eq] at hx
   rw [ha a b ha' hb hx.1.2, ha b c hb hc hx.2.1.2, ha a c ha' hc hx.2.2, decide_eq_true (hm a b hx.1.1 hb), decide_eq_true (hm b c hx.2.1.1 hc)]
   exact Nat.le_refl _
 refine Nat.le_trans h1 (Nat.le_trans ?_ (sm_inj (F := fun a' => sm m fun b' => sm m fun c' => (decide (a' < b') && adj' a' b' && (decide (b' < c') && adj' b' c' && adj' a' c')).toNat) hm hf))
 refine sm_le fun a _ => ?_
 refine Nat.le_trans ?_ (sm_inj (F := fun b' => sm m fun c' => (decide (f a < b') && adj' (f a) b' && (decide (b' < c') && adj' b' c' && adj' (f a) c')).toNat) hm hf)
 refine sm_le fun b _ => ?_
 exact sm_inj (F := fun c' => (decide (f a < f b) && adj' (f a) (f b) && (decide (f b < c') && adj' (f b) c' && adj' (f a) c')).toNat) hm hf
/-- Nodes and edges of the one are among those of the other. -/
structure Sub (ns : List Nd) (es : List Eg) (ms : List Nd) (fs : List Eg) : Prop where
 n : ∀ x ∈ ns, x ∈ ms
 e : ∀ x ∈ es, x ∈ fs
variable {ms : List Nd} {fs : List Eg}
/-- Where a place of the lesser stands in the greater. -/
def up (ns ms : List Nd) (i : Nat) : Nat := idx ms (at_ ns i)
theorem up_lt (h : Sub ns es ms fs) {i : Nat} (hi : i < ns.length) : up ns ms i < ms.length := idx_lt (h.n _ (at_mem hi))
theorem at_up (h : Sub ns es ms fs) {i : Nat} (hi : i < ns.length) : at_ ms (up ns ms i) = at_ ns i := at_idx (h.n _ (at_mem hi))
theorem up_mono (h : Sub ns es ms fs) (hg : OkG ns es) (hm : OkG ms fs) {i j : Nat} (hij : i < j) (hj : j < ns.length) : up ns ms i < up ns ms j := by
 have hi : i < ns.length := by omega
 rw [← at_code hm (up_lt h hi) (up_lt h hj), at_up h hi, at_up h hj]
 exact code_at_lt hg hij hj
theorem up_adj (h : Sub ns es ms fs) {i j : Nat} (ha : adjI ns es i j = true) : adjI ms fs (up ns ms i) (up ns ms j) = true := by
 obtain ⟨hi, hj⟩ := adjI_lt ha
 rw [adjI_at hi hj] at ha
 rw [adjI_at (up_lt h hi) (up_lt h hj), at_up h hi, at_up h hj]
 exact adjE_sub h.e ha
theorem sub_tris (h : Sub ns es ms fs) (hg : OkG ns es) (hm : OkG ms fs) : tris (adjI ns es) ns.length ≤ tris (adjI ms fs) ms.length :=
 tris_map (up ns ms) (fun _ => up_lt h) (fun _ _ => up_mono h hg hm) (fun _ _ _ _ => up_adj h)
theorem up_inj (h : Sub ns es ms fs) (hg : OkG ns es) (hm : OkG ms fs) {i j : Nat} (hi : i < ns.length) (hj : j < ns.length) (e : up ns ms i = up ns ms j) : i = j := by
 rcases Nat.lt_trichotomy i j with a | a | a
 ·have := up_mono h hg hm a hj
  omega
 ·exact a
 ·have := up_mono h hg hm a hi
  omega
theorem sub_core (h : Sub ns es ms fs) (hg : OkG ns es) (hm : OkG ms fs) {i : Nat} (hi : i < ns.length) : core (adjI ns es) ns.length i ≤ core (adjI ms fs) ms.length (up ns ms i) :=
 core_map (up ns ms) (fun _ => up_lt h) (fun _ _ hu hv => up_inj h hg hm hu hv) (fun _ _ _ _ => up_adj h) hi
theorem sub_dist (h : Sub ns es ms fs) {s v : Nat} (hd : 0 ≤ dist (adjI ns es) s v) : 0 ≤ dist (adjI ms fs) (up ns ms s) (up ns ms v) ∧ dist (adjI ms fs) (up ns ms s) (up ns ms v) ≤ dist (adjI ns es) s v :=
 dist_map (up ns ms) (fun _ _ => up_adj h) hd
end
end Go.Proofs.YtogmbeifbjgphaaGreat.M
