/- The builtin copy into a row of the call's own that is as long as its source, for elements of any number of cells. No condition beyond the two rows. -/
import Derived.Test.YtcobbpghipeoeaaV
import Derived.Laws.CopyOwn
namespace Go.Proofs.Ytcobbpghipeoeaa.Cp
open Go.RowKit Go.Proofs.YtcobbpghipeoeaaV.PrintWords Go.Proofs.YtcobbpghipeoeaaV.PrintLast Go.Proofs.YtcobbpghipeoeaaV.PrintMore

open Kd
theorem run_copy_k {P : Program} (w : World) (dT sT ty elem : TypeId) (k g dLen dCap : Nat) (a : Addr) (sLen sCap m : Nat) (cur : Array Value) (t : TypeId) (cs : List Value)
    (hu : P.underlying dT = some (.slice elem)) (hs : (P.info? elem).map (·.size) = some k)
    (hg : w.heap[g]? = some (.cells cur t (0, 0))) (hm : Nat.min sLen dLen = m) (hn : cs.length = m * k)
    (hsrc : ∀ j v, cs[j]? = some v → w.cell? (a.add j) = some v) (hfit : cs.length ≤ cur.size) (h1 : ∀ v ∈ cs, v.oneCell' = true) :
    (Builtin.copy_ #[dT, sT] ty #[.slice (some ⟨g, 0, none⟩) dLen dCap, .slice (some a) sLen sCap]).run P w =
      .ok (goInt m) (w.setRow g (cs ++ cur.toList.drop cs.length).toArray) := by
  have hl := run_loadCells_list (P := P) w a cs hsrc
  have hst := run_storeCells_at P g 0 t cs 0 cur w hg (by simpa using hfit) h1
  cases hq : P.info? elem with
  | none => simp [hq] at hs
  | some i =>
    have hi : i.size = k := by simpa [hq] using hs
    rw [hn] at hl
    simp only [Nat.add_zero, Nat.zero_add, List.take_zero, List.nil_append] at hst
    simp [Builtin.copy_, run_underlying hu, Builtin.lenOf, Builtin.firstCells, sizeOf, typeInfo, hq, hi, hm, hl, hst]

section
variable {P : Program} {ops : Array Oper} {rest : List Oper} {o : Oper} {a : Act} {Q : Exit → Act → World → Prop} {α : Type}
/-- copy(dst, src) over the whole of dst, a row of the call's own that is as long as src and not empty. -/
theorem R_copy (d : Kd α) {w0 W : World} (base : Nat) (e : Nat) (hgd : o.guard = none) (x y : Operand) (t t2 : TypeId)
    (ho : o.op = .call { callee := .builtin .copy, args := #[x, y], argTypes := #[t, t2] }) (hu : P.underlying t = some (.slice e))
    (hs : (P.info? e).map (·.size) = some d.sz) (v : Value) (zs xs : List α) (A : Option Addr) (c : Nat) (hv : a.eval x = v) (hy : a.eval y = .slice A xs.length c)
    (hl : zs.length = xs.length) (hpos : 0 < xs.length) {ok : Nat → Prop} (hR : d.R e W base ok v zs) (hC : d.C W A xs.length xs)
    (hKM : ∀ x c, d.K W x c → ∀ W' ok', d.M W' base ok' x c) (HB : Below base w0 W)
    (h : ∀ w1, d.R e w1 base ok v xs → Below base w0 w1 → wpList P ops Q rest (a.put o.dst (goInt xs.length)) w1) : wpList P ops Q (o :: rest) a W := by
  obtain ⟨hok, inner, hown, hrep⟩ := hR
  obtain ⟨ad, rfl, -⟩ := hC.2.2 hpos
  obtain ⟨cs, hcs, hcell⟩ := ReadsRow.inner_ hC
  obtain ⟨hil, hown⟩ := hown
  rcases hown with ⟨rfl, h0⟩ | ⟨g, cap, cur, rfl, hbg, hg, hcap, hmax, hsz, htake⟩
  · omega
  have hcl : cs.length = xs.length * d.sz := hcs.1
  have hcur : xs.length * d.sz ≤ cur.size := by rw [hsz]; exact Nat.mul_le_mul_right _ (by omega)
  have h1 : ∀ u ∈ cs, u.oneCell' = true := by
    by_cases hz : 0 < d.sz
    · exact reps_one hcs hz (fun _ _ hp => d.K_one hp)
    · have : cs.length = 0 := by rw [hcl, Nat.eq_zero_of_not_pos hz, Nat.mul_zero]
      rw [List.eq_nil_of_length_eq_zero this]; simp
  have hrun := run_copy_k (P := P) W t t2 o.type e d.sz g xs.length cap ad xs.length c xs.length cur e cs hu hs hg (Nat.min_self _) hcl hcell (by omega) h1
  rw [hl] at hv
  refine event_run (w1 := W.setRow g (cs ++ cur.toList.drop cs.length).toArray) (v := goInt xs.length) hgd ?_ (h _ ⟨hok, cs, ⟨hcl, .inr ⟨g, cap, (cs ++ cur.toList.drop cs.length).toArray, by rw [hl], hbg, setRow_heap W g cur _ e (0, 0) hg, by omega, hmax, ?_, ?_⟩⟩, hcs.imp_ (fun p q hp => hKM p q hp _ _)⟩ (below_setRow HB hbg _))
  · simp [execOp, ho, resolve, invoke, builtin, hv, hy, hrun, Result.andThen]
  · simp; omega
  · rw [← hcl]
    exact List.take_left ..
end
end Go.Proofs.Ytcobbpghipeoeaa.Cp
