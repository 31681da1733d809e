/- A list of pages handed in, opened to its cells. -/
import Derived.Test.YtcobbpghipeoeaaR0
import Derived.Test.YtcobbpghipeoeaaV
import Derived.Deep.Slices
import Derived.Deep.Fields
import Derived.ChangeSame
import Derived.Lib.SmallJoins
namespace Go.Proofs.Ytcobbpghipeoeaa.R
open Go.ChangeShapes Go.WideShapes Go.Deep Go.RowKit Go.Joins Go.Proofs.YtcobbpghipeoeaaV.PrintWords Go.Proofs.YtcobbpghipeoeaaV.PrintLast
set_option linter.unusedVariables false
section
variable {H : Type} {enc : TypeId × Value → H} {w : World}
theorem pages_open {t : TypeId} {n : Nat} {v : Value} {y : DataW H × List MemPlace} (ht : Try.prog.underlying t = some (.slice 23)) (h : DataW.trod enc Try.prog w 0 (fun _ => true) true n t [v] = some y) :
    ∃ (A : Option Addr) (cap : Nat) (l : List S23), v = .slice A l.length cap ∧ Kd.C k23 w A l.length l ∧ l.length ≤ cap := by
  rcases open_slice ht h with h0 | ⟨a, len, cap, m, n', D, Pl, hcs, hb, hl, hm, hmm, hx, hi⟩
  · have hv : v = .slice none 0 0 := by simpa using h0.1
    refine ⟨none, 0, [], hv, ?_, Nat.le_refl _⟩
    exact ⟨rfl, Nat.zero_le _, fun hn => absurd hn (by simp)⟩
  · obtain ⟨C, hv, hlC⟩ : ∃ C, v = .slice (some a) len C ∧ len ≤ C := ⟨_, by simpa using hcs, hl⟩
    rw [if_pos rfl] at hmm
    have hall : ∀ i : Nat, ∃ p : S23, i < len → w.cell? (a.add (i * 2)) = some (.int .i64 p.f0) ∧ w.cell? (a.add (i * 2 + 1)) = some (.int .i64 p.f1) := by
      intro i
      by_cases hil : i < len
      · obtain ⟨cs', hc, ht'⟩ := hi i (by omega)
        have hC : Try.prog.cellsOf 23 = 2 := by kernel_rfl
        rw [hC] at hc
        obtain ⟨y0, y1, n2, _, hlen, h0, h1⟩ := trod_struct2 Try.underlying23 ht'
        obtain ⟨_, hcl, hat⟩ := World.cells?_some hc
        match cs', hcl with
        | [c0, c1], _ =>
          obtain ⟨p0, e0, _, _⟩ := DataW.trod_int (k := .i64) (by kernel_rfl) h0
          obtain ⟨p1, e1, _, _⟩ := DataW.trod_int (k := .i64) (by kernel_rfl) h1
          have e0' : c0 = .int .i64 p0 := by
            have hx : Try.prog.cellsOf 3 = 1 := by kernel_rfl
            simpa [hx] using e0
          have e1' : c1 = .int .i64 p1 := by
            have hx : Try.prog.cellsOf 3 = 1 := by kernel_rfl
            simpa [hx] using e1
          refine ⟨⟨p0, p1⟩, fun _ => ⟨?_, ?_⟩⟩
          · have := hat (i := 0) (by decide)
            subst e0'
            exact this
          · have := hat (i := 1) (by decide)
            subst e1'
            rw [← Go.Deep.add_add]
            simpa using this
      · exact ⟨z23, fun h => absurd h hil⟩
    obtain ⟨f, hf⟩ := Classical.axiomOfChoice hall
    refine ⟨some a, C, (List.range len).map f, by rw [hv]; simp, ?_, by simpa using hlC⟩
    refine ⟨rfl, by rw [List.length_map, List.length_range]; exact Nat.le_trans (Nat.le_trans hl hm) (by decide), fun hn => ⟨a, rfl, fun j p hj => ?_⟩⟩
    · have hjl : j < len := by
        obtain ⟨hl2, _⟩ := List.getElem?_eq_some_iff.1 hj
        simpa using hl2
      have hp : f j = p := by simpa [hjl] using hj
      subst hp
      refine ⟨[.int .i64 (f j).f0, .int .i64 (f j).f1], rfl, ⟨[.int .i64 (f j).f0], [.int .i64 (f j).f1], rfl, rfl, rfl⟩, fun i u hu => ?_⟩
      match i, hu with
      | 0, hu => 
        obtain rfl : Value.int .i64 (f j).f0 = u := by simpa using hu
        exact (hf j hjl).1
      | 1, hu => 
        obtain rfl : Value.int .i64 (f j).f1 = u := by simpa using hu
        exact (hf j hjl).2
      | i + 2, hu => simp at hu
end
end Go.Proofs.Ytcobbpghipeoeaa.R
