/- What the walks of parts, threes, ways and core numbers keep, step by step. -/
import Derived.Test.YtogmbeifbjgphaaKB2
namespace Go.Proofs.Ytogmbeifbjgphaa.M
set_option linter.unusedVariables false
set_option linter.unusedSimpArgs false
section
variable {adj : Nat → Nat → Bool} {n : Nat}
/-! ### parts -/
theorem nearI_asc (i : Nat) : (nearI adj n i).Pairwise (· < ·) := List.Pairwise.filter _ List.pairwise_lt_range
theorem step_hit (sym : ∀ u v, adj u v = adj v u) (hn : ∀ u v, adj u v = true → u < n ∧ v < n) {b v j : Nat} (h : 0 < dist adj b v) (hj : j < (nearI adj n v).length) (h1 : dist adj b (nearI adj n v)[j] = dist adj b v - 1) (h2 : ∀ i (hi : i < j), dist adj b ((nearI adj n v)[i]'(by omega)) ≠ dist adj b v - 1) : stepTo adj n b v = (nearI adj n v)[j] := by
  obtain ⟨s1, s2, s3, s4⟩ := stepTo_is (b := b) sym hn h
  obtain ⟨hm1, hm2⟩ := nearI_mem.1 (List.getElem_mem hj)
  rcases Nat.lt_trichotomy (stepTo adj n b v) (nearI adj n v)[j] with e | e | e
  · exfalso
    obtain ⟨i, hi, hie⟩ := List.getElem_of_mem (nearI_mem.2 ⟨s3, s1⟩ : stepTo adj n b v ∈ nearI adj n v)
    have hij : i < j := by
      refine Nat.lt_of_not_le fun hle => ?_
      rcases Nat.lt_or_eq_of_le hle with h5 | h5
      · have := List.pairwise_iff_getElem.1 (nearI_asc (adj := adj) (n := n) v) j i hj hi h5
        omega
      · subst h5
        omega
    refine h2 i hij ?_
    rw [hie]
    exact s2
  · exact e
  · exact absurd h1 (s4 _ e hm2)
theorem step_ex (sym : ∀ u v, adj u v = adj v u) (hn : ∀ u v, adj u v = true → u < n ∧ v < n) {b v : Nat} (h : 0 < dist adj b v) : ∃ i, ∃ hi : i < (nearI adj n v).length, dist adj b (nearI adj n v)[i] = dist adj b v - 1 := by
  obtain ⟨s1, s2, s3, s4⟩ := stepTo_is (b := b) sym hn h
  obtain ⟨i, hi, hie⟩ := List.getElem_of_mem (nearI_mem.2 ⟨s3, s1⟩ : stepTo adj n b v ∈ nearI adj n v)
  exact ⟨i, hi, by rw [hie]; exact s2⟩
end
end Go.Proofs.Ytogmbeifbjgphaa.M
