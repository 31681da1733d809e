/- Taking nodes away till all that stay have k or more near. -/
import Derived.Test.YtogmbeifbjgphaaGreatKB33
namespace Go.Proofs.YtogmbeifbjgphaaGreat.M
set_option linter.unusedVariables false
set_option linter.unusedSimpArgs false
/-- The part of a graph whose nodes are p. -/
def xN (ns : List Nd) (p : Nd → Bool) : List Nd := ns.filter p
def xE (es : List Eg) (p : Nd → Bool) : List Eg := es.filter fun e => p e.a && p e.b
def goneOp (y : Nd) : Op := ⟨4, y, zE⟩
def butP (p : Nd → Bool) (y : Nd) (n : Nd) : Bool := p n && decide (n ≠ y)
section
variable {ns : List Nd} {es : List Eg} {p : Nd → Bool} {y : Nd} {k : Nat}
theorem xN_all : xN ns (fun _ => true) = ns := List.filter_eq_self.2 fun _ _ => rfl
theorem xE_all : xE es (fun _ => true) = es := List.filter_eq_self.2 fun _ _ => rfl
theorem mem_xN : y ∈ xN ns p ↔ y ∈ ns ∧ p y = true := List.mem_filter
theorem x_ok (h : OkG ns es) (p : Nd → Bool) : OkG (xN ns p) (xE es p) := by
 refine ⟨fun n hn => h.nok n (List.mem_filter.1 hn).1, h.nasc.filter _, fun a => Nat.le_trans ((List.filter_sublist).countP_le) (h.nfew a), fun e he' => h.eok e (List.mem_filter.1 he').1, h.easc.filter _, fun a => Nat.le_trans ((List.filter_sublist).countP_le) (h.efew a), fun e he' => ?_⟩
 obtain ⟨h1, h2⟩ := List.mem_filter.1 he'
 have h3 := h.ends e h1
 rw [Bool.and_eq_true] at h2
 exact ⟨List.mem_filter.2 ⟨h3.1, h2.1⟩, List.mem_filter.2 ⟨h3.2, h2.2⟩⟩
theorem gone_fine (h : OkG ns es) (hy : y ∈ ns) : doC ns es (goneOp y) = 0 := by
 have hl : 0 ≤ opLabel (goneOp y) := by
  have hok := h.nok y hy
  unfold opLabel goneOp
  rw [if_pos (.inr rfl), if_pos ⟨hok, rfl⟩]
  exact (okN_iff.1 hok).1.1
 rw [doC_of h hl, endOf4 rfl]
 exact if_pos hy
theorem gone_step (h : OkG ns es) (hy : y ∈ xN ns p) : doN (xN ns p) (xE es p) (goneOp y) = xN ns (butP p y) ∧ doE (xN ns p) (xE es p) (goneOp y) = xE es (butP p y) := by
 obtain ⟨_, _, _, f1, f2⟩ := fine_gone (gone_fine (x_ok h p) hy) rfl
 rw [f1, f2]
 unfold xN xE butP
 rw [List.filter_filter, List.filter_filter]
 refine ⟨List.filter_congr fun n _ => Bool.and_comm _ _, List.filter_congr fun e _ => ?_⟩
 show (decide (e.a ≠ y ∧ e.b ≠ y) && (p e.a && p e.b)) = ((p e.a && decide (e.a ≠ y)) && (p e.b && decide (e.b ≠ y)))
 rw [Bool.decide_and]
 cases p e.a <;> cases p e.b <;> cases decide (e.a ≠ y) <;> cases decide (e.b ≠ y) <;> rfl
theorem but_len (h : OkG ns es) (hy : y ∈ xN ns p) : (xN ns (butP p y)).length < (xN ns p).length := by
 have e : xN ns (butP p y) = (xN ns p).filter fun n => decide (n ≠ y) := by
  unfold xN butP
  rw [List.filter_filter]
  exact List.filter_congr fun n _ => Bool.and_comm _ _
 rw [e]
 exact List.length_filter_lt_length_iff_exists.2 ⟨y, hy, by simp⟩
/-- As many are near as places that stay are. -/
theorem x_deg (h : OkG ns es) {j : Nat} (hj : j < ns.length) (hp : p (at_ ns j) = true) : (nearG (xN ns p) (xE es p) (at_ ns j)).length = degS (adjI ns es) ns.length (fun v => p (at_ ns v)) j := by
 rw [near_of (x_ok h p)]
 unfold xN
 rw [List.filter_filter, filter_range, List.length_map, sm_filter_len]
 unfold degS
 refine sm_congr fun v hv => ?_
 congr 1
 rw [adjI_at hj hv]
 show (_ && p (at_ ns v)) = (_ && p (at_ ns v))
 cases hpv : p (at_ ns v)
 ·rw [Bool.and_false, Bool.and_false]
 ·rw [Bool.and_true, Bool.and_true]
  unfold xE
  rw [Bool.eq_iff_iff, adjE_iff, adjE_iff]
  constructor
  ·rintro ⟨e, he, h⟩
   exact ⟨e, (List.mem_filter.1 he).1, h⟩
  ·rintro ⟨e, he, h⟩
   refine ⟨e, List.mem_filter.2 ⟨he, ?_⟩, h⟩
   rcases h with ⟨h1, h2⟩ | ⟨h1, h2⟩
   ·rw [h1, h2, hp, hpv]
    rfl
   ·rw [h1, h2, hp, hpv]
    rfl
/-- All that lies k-dense stays. -/
def Stay (ns : List Nd) (es : List Eg) (k : Nat) (p : Nd → Bool) : Prop := ∀ v, v < ns.length → Kc (adjI ns es) ns.length k v → p (at_ ns v) = true
theorem Stay.all : Stay ns es k (fun _ => true) := fun _ _ _ => rfl
theorem Stay.strike (h : Stay ns es k p) (hg : OkG ns es) (hy : y ∈ xN ns p) (hd : (nearG (xN ns p) (xE es p) y).length < k) : Stay ns es k (butP p y) := by
 intro v hv hk
 have h1 := h v hv hk
 unfold butP
 rw [h1, Bool.true_and, decide_eq_true_iff]
 rintro rfl
 rw [x_deg hg hv h1] at hd
 have h2 := (kc_dense (adj := adjI ns es) (n := ns.length) (k := k) v (kc_iff.2 hk)).2
 have h3 := degS_mono (adj := adjI ns es) (n := ns.length) (S := kc (adjI ns es) ns.length k) (T := fun v => p (at_ ns v)) (fun w hw hk => h w hw (kc_iff.1 hk)) v
 omega
theorem Stay.done (h : Stay ns es k p) (hg : OkG ns es) (hd : ∀ y ∈ xN ns p, k ≤ (nearG (xN ns p) (xE es p) y).length) {v : Nat} (hv : v < ns.length) : p (at_ ns v) = true ↔ Kc (adjI ns es) ns.length k v := by
 constructor
 ·intro hp
  refine ⟨fun u => decide (u < ns.length) && p (at_ ns u), fun u hu => ?_, by simp [hv, hp]⟩
  simp only [Bool.and_eq_true, decide_eq_true_eq] at hu
  have h1 := hd _ (mem_xN.2 ⟨at_mem hu.1, hu.2⟩)
  rw [x_deg hg hu.1 hu.2] at h1
  refine ⟨hu.1, Nat.le_trans h1 (Nat.le_of_eq ?_)⟩
  unfold degS
  refine sm_congr fun w hw => ?_
  simp [hw]
 ·exact h v hv
end
end Go.Proofs.YtogmbeifbjgphaaGreat.M
