/- PoolAll comes to what the plain function tells: the uses one behind the other, and how many pages were not there, where pool and pages are right, else nothing. Of at most 2^40 pages. -/
import Derived.Test.YtcobbpghipeoeaaC38
import Derived.Test.YtcobbpghipeoeaaC22
import Derived.Test.YtcobbpghipeoeaaGB
namespace Go.Proofs.Ytcobbpghipeoeaa.R
open Go.RowKit Go.Proofs.YtcobbpghipeoeaaV.PrintWords Go.Proofs.YtcobbpghipeoeaaV.PrintLast Go.Proofs.YtcobbpghipeoeaaV.PrintMore
attribute [local go_sem] max2_int min2_int max_two min_two max_three min_three max_four min_four
attribute [local go_sem high] eqA25
set_option linter.unusedVariables false
set_option linter.unusedSimpArgs false

/-- One use more: the list, and how many were not there. -/
def stepA (s : Int) (a : List S25 × Int) (p : S25) : List S25 × Int := (useL s a.1 p, if hasP a.1 p = true then a.2 else a.2 + 1)
/-- Uses one behind the other. -/
def allA (s : Int) (l ps : List S25) : List S25 × Int := ps.foldl (stepA s) (l, 0)
theorem allA_snoc (s : Int) (l ps : List S25) (p : S25) : allA s l (ps ++ [p]) = stepA s (allA s l ps) p := by
  unfold allA
  rw [List.foldl_append]
  rfl
theorem useL_le (s : Int) (l : List S25) (p : S25) (hs : s ≤ 12) : (useL s l p).length ≤ 12 := by
  unfold useL
  rw [List.length_take]
  omega
theorem allA_le (s : Int) (l : List S25) (hs : s ≤ 12) (hl : l.length ≤ 12) (ps : List S25) : (allA s l ps).1.length ≤ 12 ∧ 0 ≤ (allA s l ps).2 ∧ (allA s l ps).2 ≤ ps.length := by
  have h : ∀ (n : Nat), n ≤ ps.length → (allA s l (ps.take n)).1.length ≤ 12 ∧ 0 ≤ (allA s l (ps.take n)).2 ∧ (allA s l (ps.take n)).2 ≤ n := by
    intro n
    induction n with
    | zero => intro _; simpa [allA] using hl
    | succ n ih =>
      intro hn
      obtain ⟨h1, h2, h3⟩ := ih (by omega)
      rw [List.take_succ_eq_append_getElem (by omega), allA_snoc]
      unfold stepA
      refine ⟨useL_le s _ _ hs, ?_⟩
      simp only
      split <;> omega
  have := h ps.length (Nat.le_refl _)
  rwa [List.take_length] at this
def impl_PoolAll.f (s : Int) (l ps : List S25) : Option (Int × List S25 × Int) :=
  if ps.length ≤ 1099511627776 then (if (poolOkB s l && ps.all okPage) = true then some (s, (allA s l ps).1, (allA s l ps).2) else some (0, [], 0)) else none
set_option maxHeartbeats 3200000 in
set_option maxRecDepth 100000 in
theorem impl_PoolAll.calls (a0_0 : Int) (A0_1 : Option Addr) (c0_1 : Nat) (l0_1 : List S25) (A1 : Option Addr) (c1 : Nat) (l1 : List S25) (r1 : Int) (r2 : List S25) (r3 : Int) (w : World)
    (hr0_1 : Kd.C k25 w A0_1 l0_1.length l0_1) (hc0_1 : l0_1.length ≤ c0_1) (hr1 : Kd.C k25 w A1 l1.length l1) (hc1 : l1.length ≤ c1) (h : impl_PoolAll.f a0_0 l0_1 l1 = some (r1, r2, r3)) :
    Calls Try.prog 45 #[.agg #[.int .i64 a0_0, .slice A0_1 l0_1.length c0_1], .slice A1 l1.length c1] w fun e w' => ∃ v1_ : Value, e = .returned (.tuple #[.agg #[.int .i64 r1, v1_], .int .i64 r3]) ∧ Kd.R k25 25 w' w.heap.size (fun _ => True) v1_ r2 ∧ Below w.heap.size w w' := by
  have hu46 := Try.underlying46
  have hu25 := Try.underlying25
  have HR := Aside0.mk hr0_1
  have HC := Aside0.mk hc0_1
  have HR1 := Aside0.mk hr1
  have HC1 := Aside0.mk hc1
  have HK := Aside0.mk (poolOk_ev a0_0 l0_1 41 (by omega))
  clear hr0_1 hc0_1 hr1 hc1
  unfold impl_PoolAll.f at h
  by_cases hln : l1.length ≤ 1099511627776
  case neg => rw [if_neg hln] at h; exact absurd h (by simp)
  rw [if_pos hln] at h
  have HLN := Aside0.mk hln
  clear hln
  cases hp : poolOkB a0_0 l0_1 with
  | false =>
    rw [hp] at HK
    rw [hp, Bool.false_and, if_neg (by decide)] at h
    simp only [Option.some.injEq, Prod.mk.injEq] at h
    obtain ⟨rfl, rfl, rfl⟩ := h
    clear hp
    go_enter Try.func45, Try.ntmps45
    go_wp2_with (first | (go_at_call 38; go_must (refine (impl_PoolOk.calls 41 a0_0 _ _ l0_1 false _ (Kd.C_alloc (Kd.C_alloc HR.out _) _) HC.out HK.out).mono ?_); rintro e w1 ⟨rfl, hb⟩; have HB := Aside0.mk (below_step (below_alloc (below_alloc (Below.refl w.heap.size w) _) _) hb); have HG := Aside0.mk (blk_below (blk_at _ _ (n := w.heap.size + 1) (by simp)) hb); obtain ⟨f1, f2, f3, f4⟩ := two_facts HG.out; clear hb))
    refine bodyPost_ret (results_ct rfl _ _ (w.heap.size + 1) 46 #[.int .i64 0, .slice none 0 0] (0, 0) _ rfl (blk_put (blk_put HG.out 0 (.int .i64 0) rfl) 1 (.slice none 0 0) rfl) Try.underlying46 rfl (by kernel_rfl)) rfl ?_
    exact ⟨_, rfl, Kd.R_nil _ _ _ _ _, below_set (below_set HB.out (by omega)) (by omega)⟩
  | true =>
    rw [hp] at HK h
    rw [Bool.true_and] at h
    have H := Aside0.mk h
    have HS := Aside0.mk (poolOk_small hp)
    clear hp h
    go_enter Try.func45, Try.ntmps45
    go_wp2_with (first | (go_at_call 38; go_must (refine (impl_PoolOk.calls 41 a0_0 _ _ l0_1 true _ (Kd.C_alloc (Kd.C_alloc HR.out _) _) HC.out HK.out).mono ?_); rintro e w1 ⟨rfl, hb⟩; have HB := Aside0.mk (below_step (below_alloc (below_alloc (Below.refl w.heap.size w) _) _) hb); have HX := Aside0.mk (blk_below (blk_alloc (blk_at _ _ (n := w.heap.size) rfl) _) hb); have HG := Aside0.mk (blk_below (blk_at _ _ (n := w.heap.size + 1) (by simp)) hb); clear hb))
    have hln := HLN.out
    go_loopw [17] (fun i wr => ∃ j : Nat, Aside0 (j ≤ l1.length) ∧ i = .int .i64 (j : Int) ∧ Aside0 ((l1.take j).all okPage = true) ∧ Aside0 (wr.heap[w.heap.size]? = some (.cells #[.int .i64 a0_0, .slice A0_1 l0_1.length c0_1] 46 (0, 0))) ∧ Aside0 (wr.heap[w.heap.size + 1]? = some (.cells #[.int .i64 0, .slice none 0 0] 46 (0, 0))) ∧ Aside0 (Below w.heap.size w wr)) (fun i _ => l1.length - (intOf i).toNat)
    case atStart => exact ⟨0, ⟨Nat.zero_le _⟩, rfl, ⟨by simp⟩, HX, HG, HB⟩
    case round =>
      obtain ⟨j, HJ, rfl, HA, HX, HG, HB⟩ := hrel
      by_cases hlt : j < l1.length
      · obtain ⟨ad, e1, hx0, hx1⟩ := at_T25 HR1.out (j : Int) (by omega) (by omega)
        cases e1
        rw [Int.toNat_natCast] at hx0 hx1
        replace hx0 := (HB.out.cell (World.block_lt_of_cell? w _ hx0)).trans hx0
        replace hx1 := (HB.out.cell (World.block_lt_of_cell? w _ hx1)).trans hx1
        obtain ⟨g1, g2, g3, g4⟩ := two_facts HG.out
        have HQ := Aside0.mk (pageOk_tells (rd_T25 l1 (j : Int)).f0 (rd_T25 l1 (j : Int)).f1)
        cases hq : okPage (rd_T25 l1 (j : Int)) with
        | false =>
          rw [show okPage ⟨(rd_T25 l1 (j : Int)).f0, (rd_T25 l1 (j : Int)).f1⟩ = false from hq] at HQ
          have hall : l1.all okPage = false := by
            rw [← List.take_append_drop j l1, List.all_append, rd_drop l1 j hlt, List.all_cons, hq]
            simp
          have h := H.out
          rw [hall, if_neg (by decide)] at h
          simp only [Option.some.injEq, Prod.mk.injEq] at h
          obtain ⟨rfl, rfl, rfl⟩ := h
          clear hq hall H
          go_wp2_with (first | (go_at_call 22; go_must (refine (impl_PageOk.calls (rd_T25 l1 (j : Int)).f0 (rd_T25 l1 (j : Int)).f1 false _ HQ.out).mono ?_); rintro e w2 ⟨rfl, hb⟩; have HB2 := Aside0.mk (below_step (below_alloc HB.out _) hb); have HG2 := Aside0.mk (blk_below (blk_alloc HG.out _) hb); clear g1 g2 g3 g4; obtain ⟨g1, g2, g3, g4⟩ := two_facts HG2.out; clear hb))
          refine bodyPost_ret (results_ct rfl _ _ (w.heap.size + 1) 46 #[.int .i64 0, .slice none 0 0] (0, 0) _ rfl (blk_put (blk_put HG2.out 0 (.int .i64 0) rfl) 1 (.slice none 0 0) rfl) Try.underlying46 rfl (by kernel_rfl)) rfl ?_
          exact ⟨_, rfl, Kd.R_nil _ _ _ _ _, below_set (below_set HB2.out (by omega)) (by omega)⟩
        | true =>
          rw [show okPage ⟨(rd_T25 l1 (j : Int)).f0, (rd_T25 l1 (j : Int)).f1⟩ = true from hq] at HQ
          have HQ2 := Aside0.mk hq
          clear hq
          go_wp2_with (first | (go_at_call 22; go_must (refine (impl_PageOk.calls (rd_T25 l1 (j : Int)).f0 (rd_T25 l1 (j : Int)).f1 true _ HQ.out).mono ?_); rintro e w2 ⟨rfl, hb⟩; have HB2 := Aside0.mk (below_step (below_alloc HB.out _) hb); have HG2 := Aside0.mk (blk_below (blk_alloc HG.out _) hb); have HX2 := Aside0.mk (blk_below (blk_alloc HX.out _) hb); clear hb))
          go_roundw
          case rel => exact ⟨j + 1, ⟨by omega⟩, by go_num, ⟨by rw [take_snoc' l1 j hlt, List.all_append, HA.out]; simp [HQ2.out]⟩, HX2, HG2, HB2⟩
          case measure => simp [intOf]; omega
      · have hjl : j = l1.length := by have := HJ.out; omega
        subst hjl
        rw [List.take_length] at HA
        have h := H.out
        rw [HA.out, if_pos rfl] at h
        simp only [Option.some.injEq, Prod.mk.injEq] at h
        obtain ⟨rfl, rfl, rfl⟩ := h
        clear H HA
        obtain ⟨q1, q2, q3, q4⟩ := two_facts HX.out
        go_wp2_with (first | (go_at_call 66; go_must (refine (copyP_calls A0_1 _ c0_1 l0_1 _ rfl (Kd.C_below HR.out HB.out) HC.out (by have := HS.out; omega)).mono ?_); rintro e w3 ⟨v3, rfl, ho3, hb3⟩; obtain ⟨A3, c3, rfl, _, _⟩ := Kd.R_reads ho3; have HX3 := Aside0.mk (blk_below HX.out hb3); have HG3 := Aside0.mk (blk_below HG.out hb3); have HB3 := Aside0.mk (below_step HB.out hb3); have HO3 := Aside0.mk (Kd.R_lower ho3 HB.out.size); clear q1 q2 q3 q4; obtain ⟨q1, q2, q3, q4⟩ := two_facts HX3.out; clear ho3 hb3))
        go_loopw [8, 32] (fun n i wr => ∃ j : Nat, Aside0 (j ≤ l1.length) ∧ i = .int .i64 (j : Int) ∧ n = .int .i64 (allA a0_0 l0_1 (l1.take j)).2 ∧ (∃ v : Value, Aside0 (wr.heap[w.heap.size]? = some (.cells #[.int .i64 a0_0, v] 46 (0, 0))) ∧ Aside0 (Kd.R k25 25 wr w.heap.size (fun _ => True) v (allA a0_0 l0_1 (l1.take j)).1)) ∧ Aside0 (wr.heap[w.heap.size + 1]? = some (.cells #[.int .i64 0, .slice none 0 0] 46 (0, 0))) ∧ Aside0 (Below w.heap.size w wr)) (fun _ i _ => l1.length - (intOf i).toNat)
        case atStart => exact ⟨0, ⟨Nat.zero_le _⟩, rfl, rfl, ⟨_, ⟨blk_put HX3.out 1 _ rfl⟩, ⟨Kd.R_set HO3.out HX3.out (by decide) 1 _⟩⟩, ⟨blk_far HG3.out (by simp) _⟩, ⟨below_set HB3.out (Nat.le_refl _)⟩⟩
        case round =>
          obtain ⟨j, HJ, rfl, rfl, ⟨v, HX, HO⟩, HG, HB⟩ := hrel
          obtain ⟨Al, cl, rfl, hcl, hCl⟩ := Kd.R_reads HO.out
          have hS := HS.out
          have HZ := Aside0.mk (allA_le a0_0 l0_1 hS.2.1 (by omega) (l1.take j))
          have hZ1 := HZ.out.2.1
          have hZ2 : (allA a0_0 l0_1 (l1.take j)).2 ≤ 1099511627776 := by have := HZ.out.2.2; have := List.length_take_le j l1; have := HJ.out; have := HLN.out; omega
          by_cases hlt : j < l1.length
          · obtain ⟨ad, e1, hx0, hx1⟩ := at_T25 HR1.out (j : Int) (by omega) (by omega)
            cases e1
            rw [Int.toNat_natCast] at hx0 hx1
            replace hx0 := (HB.out.cell (World.block_lt_of_cell? w _ hx0)).trans hx0
            replace hx1 := (HB.out.cell (World.block_lt_of_cell? w _ hx1)).trans hx1
            have HCl := Aside0.mk hcl
            have HCC := Aside0.mk hCl
            have HS2 := Aside0.mk hS
            clear hcl hCl hS
            have HN := Aside0.mk (take_snoc' l1 j hlt)
            cases hh : hasP (allA a0_0 l0_1 (l1.take j)).1 (rd_T25 l1 (j : Int))
            all_goals
              have HH := Aside0.mk hh
              clear hh
              go_wp2_with (first | (go_at_call 65; go_must (refine (use_calls w.heap.size a0_0 Al cl (allA a0_0 l0_1 (l1.take j)).1 (rd_T25 l1 (j : Int)) _ (blk_alloc HX.out _) (Kd.C_alloc HCC.out _) HCl.out (by have := HZ.out.1; omega) HS2.out.1).mono ?_); rw [HH.out]; rintro e w4 ⟨v4, rfl, hX4, hR4, hK4, hB4⟩; have hsz := HB.out.size; have HG4 := Aside0.mk (KeepBut.blk hK4.out (blk_alloc HG.out _) (by omega) (by simp)); have HX4 := hX4; have HR4 := Aside0.mk (Kd.R_lower hR4.out (show w.heap.size ≤ _ by simp only [World.size_alloc]; omega)); have HB4 := Aside0.mk ((below_alloc HB.out _).trans (hB4.out w.heap.size (Nat.le_refl _) (by simp only [World.size_alloc]; omega))); clear hX4 hR4 hK4 hB4 hsz))
              go_roundw
              case rel => exact ⟨j + 1, ⟨by have := HJ.out; omega⟩, by go_num, by rw [HN.out, allA_snoc]; unfold stepA; simp [HH.out], ⟨v4, HX4, ⟨by rw [HN.out, allA_snoc]; exact HR4.out⟩⟩, HG4, HB4⟩
              case measure => simp [intOf]; omega
          · have hjl : j = l1.length := by have := HJ.out; omega
            subst hjl
            obtain ⟨q1, q2, q3, q4⟩ := two_facts HX.out
            obtain ⟨f1, f2, f3, f4⟩ := two_facts HG.out
            simp only [List.take_length] at HO HX q1 q2
            go_wp2_with (fail)
            refine bodyPost_ret (results_ct rfl _ _ (w.heap.size + 1) 46 #[.int .i64 a0_0, .slice Al _ cl] (0, 0) _ rfl (blk_put (blk_put HG.out 0 (.int .i64 a0_0) rfl) 1 _ rfl) Try.underlying46 rfl (by kernel_rfl)) rfl ?_
            refine ⟨_, by simp, Kd.R_mono (Kd.R_far (p := ⟨w.heap.size + 1, 1, none⟩) (Kd.R_far (p := ⟨w.heap.size + 1, 0, none⟩) (Kd.R_types HO.out HG.out (by decide)) (fun _ hk => hk.2) _) (fun _ hk => hk.2) _) (fun _ _ => trivial), below_set (below_set HB.out (by omega)) (by omega)⟩
end Go.Proofs.Ytcobbpghipeoeaa.R
