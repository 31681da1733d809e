/- The reference: where a node stands in a right graph. -/
import Derived.Test.YtogmbeifbjgphaaKGT
import Derived.Test.YtogmbeifbjgphaaKHA
import Derived.Test.YtogmbeifbjgphaaKB7
namespace Go.Proofs.Ytogmbeifbjgphaa.R
open Go.RowKit Go.Proofs.YtogmbeifbjgphaaV.PrintWords Go.Proofs.YtogmbeifbjgphaaV.PrintLast Go.Proofs.YtogmbeifbjgphaaV.PrintMore Go.Proofs.Ytogmbeifbjgphaa.M
set_option linter.unusedVariables false
set_option linter.unusedSimpArgs false
attribute [local go_sem high] eqN eqE
set_option maxHeartbeats 3200000 in
set_option maxRecDepth 100000 in
theorem atP_calls (A : Option Addr) (c : Nat) (ns : List Nd) (B : Option Addr) (d : Nat) (es : List Eg) (x : Nd) (w : World) (hr : kN.C w A ns.length ns) (hg : OkG ns es) :
    Calls Try.prog 101 #[.agg #[.slice A ns.length c, .slice B es.length d], .agg #[.int .i64 x.lab, .int .i64 x.num]] w fun e w' => e = .returned (.int .i64 (placeI ns x)) ∧ Below w.heap.size w w' := by
  have HR := Aside0.mk hr
  have HOG := Aside0.mk hg
  have HL := Aside0.mk (show ns.length ≤ 1000000 by have := (NsOk.mk hg.nok hg.nasc hg.nfew).len; omega)
  clear hr hg
  go_enter Try.func101, Try.ntmps101
  go_wp2_with (fail)
  go_loopw [5] (fun s5 wr => ∃ j : Nat, j ≤ ns.length ∧ s5 = .int .i64 (j : Int) ∧ Aside0 (∀ t, t < j → at_ ns t ≠ x) ∧ Aside0 (wr.cell? ⟨w.heap.size, 0, none⟩ = some (.slice A ns.length c)) ∧ Aside0 (wr.cell? ⟨w.heap.size + 1, 0, none⟩ = some (.int .i64 x.lab)) ∧ Aside0 (wr.cell? ⟨w.heap.size + 1, 1, none⟩ = some (.int .i64 x.num)) ∧ Aside0 (Below w.heap.size w wr)) (fun s5 _ => (ns.length - intOf s5).toNat)
  case atStart => exact ⟨0, Nat.zero_le _, rfl, ⟨fun t ht => absurd ht (Nat.not_lt_zero _)⟩, ⟨by simp⟩, ⟨by simp⟩, ⟨by simp⟩, ⟨below_alloc (below_alloc (Below.refl _ _) _) _⟩⟩
  case round =>
    obtain ⟨j, hj, rfl, H1, Q0, X0, X1, HB⟩ := hrel
    have hl := HL.out
    have g0 := Q0.out
    by_cases hlt : j < ns.length
    · obtain ⟨ad, e1, r0, r1⟩ := nd_at (Kd.C_below HR.out HB.out) j hlt
      cases e1
      generalize hy : at_ ns j = y at r0 r1
      have HY := Aside0.mk hy
      clear hy
      have x0 := X0.out
      have x1 := X1.out
      by_cases hxy : y = x
      · have hne : (y.lab == x.lab && (y.num == x.num)) = true := (nd_eq y x).trans (decide_eq_true hxy)
        have HM := Aside0.mk (show placeI ns x = (j : Int) by rw [← hxy, ← HY.out, placeI_in (at_mem hlt), idx_at HOG.out hlt])
        clear hxy
        go_wp2_with (fail)
        have HK_ := Aside0.mk (show Reg (fun u_ => Below w.heap.size w u_ ∧ u_.cell? ⟨w.heap.size, 0, none⟩ = some (.slice (some ad) ns.length c) ∧ u_.cell? (ad.add (j * 2)) = some (.int .i64 y.lab) ∧ u_.cell? ⟨(ad.add (j * 2)).block, (ad.add (j * 2)).off + 1, none⟩ = some (.int .i64 y.num) ∧ u_.cell? ⟨w.heap.size + 1, 0, none⟩ = some (.int .i64 x.lab) ∧ u_.cell? ⟨w.heap.size + 1, 1, none⟩ = some (.int .i64 x.num) ∧ True) from ⟨fun _ _ hb_ ⟨q_, s0_, s1_, s2_, s3_, s4_, _⟩ => ⟨below_step q_ hb_, pw_cell_below hb_ s0_, pw_cell_below hb_ s1_, pw_cell_below hb_ s2_, pw_cell_below hb_ s3_, pw_cell_below hb_ s4_, trivial⟩⟩)
        refine region_by _ sAtN (by kernel_rfl) sAtN_ok rfl (fun d _ _ _ _ h => by cases d <;> exact h) HK_.out ⟨HB.out, g0, r0, r1, x0, x1, trivial⟩ ?_
        intro u hS
        clear g0 r0 r1 x0 x1
        repeat (first | (refine h_off gt_ (by rfl) ?_; intro a_ ha_; (simp only [Act.put, List.setIfInBounds_toArray, List.set_cons_zero, List.set_cons_succ] at ha_); subst ha_) | (refine h_on (v := ?_) gt_ (by rfl) ?_ ?_; rotate_left; (· rintro w_ ⟨-, s0_, s1_, s2_, s3_, s4_, -⟩; go_simp; with_reducible rfl); intro a_ ha_; (simp only [Act.put, List.setIfInBounds_toArray, List.set_cons_zero, List.set_cons_succ] at ha_); subst ha_) | (refine h_offc hS gt_ (by rfl) ?_; intro a_ ha_; (simp only [Act.put, List.setIfInBounds_toArray, List.set_cons_zero, List.set_cons_succ] at ha_); subst ha_))
        refine h_end ?_
        clear HK_ HB
        obtain ⟨hB_, g0, r0, r1, x0, x1, -⟩ := hS
        have HB := Aside0.mk hB_
        clear hB_
        go_wp2
        go_ret
        exact ⟨retI HM.out.symm, HB.out⟩
      · have hne : (y.lab == x.lab && (y.num == x.num)) = false := (nd_eq y x).trans (decide_eq_false hxy)
        have HNE := Aside0.mk hxy
        clear hxy
        go_wp2_with (fail)
        have HK_ := Aside0.mk (show Reg (fun u_ => Below w.heap.size w u_ ∧ u_.cell? ⟨w.heap.size, 0, none⟩ = some (.slice (some ad) ns.length c) ∧ u_.cell? (ad.add (j * 2)) = some (.int .i64 y.lab) ∧ u_.cell? ⟨(ad.add (j * 2)).block, (ad.add (j * 2)).off + 1, none⟩ = some (.int .i64 y.num) ∧ u_.cell? ⟨w.heap.size + 1, 0, none⟩ = some (.int .i64 x.lab) ∧ u_.cell? ⟨w.heap.size + 1, 1, none⟩ = some (.int .i64 x.num) ∧ True) from ⟨fun _ _ hb_ ⟨q_, s0_, s1_, s2_, s3_, s4_, _⟩ => ⟨below_step q_ hb_, pw_cell_below hb_ s0_, pw_cell_below hb_ s1_, pw_cell_below hb_ s2_, pw_cell_below hb_ s3_, pw_cell_below hb_ s4_, trivial⟩⟩)
        refine region_by _ sAtN (by kernel_rfl) sAtN_ok rfl (fun d _ _ _ _ h => by cases d <;> exact h) HK_.out ⟨HB.out, g0, r0, r1, x0, x1, trivial⟩ ?_
        intro u hS
        clear g0 r0 r1 x0 x1
        repeat (first | (refine h_off gt_ (by rfl) ?_; intro a_ ha_; (simp only [Act.put, List.setIfInBounds_toArray, List.set_cons_zero, List.set_cons_succ] at ha_); subst ha_) | (refine h_on (v := ?_) gt_ (by rfl) ?_ ?_; rotate_left; (· rintro w_ ⟨-, s0_, s1_, s2_, s3_, s4_, -⟩; go_simp; with_reducible rfl); intro a_ ha_; (simp only [Act.put, List.setIfInBounds_toArray, List.set_cons_zero, List.set_cons_succ] at ha_); subst ha_) | (refine h_offc hS gt_ (by rfl) ?_; intro a_ ha_; (simp only [Act.put, List.setIfInBounds_toArray, List.set_cons_zero, List.set_cons_succ] at ha_); subst ha_))
        refine h_end ?_
        clear HK_ HB
        obtain ⟨hB_, g0, r0, r1, x0, x1, -⟩ := hS
        have HB := Aside0.mk hB_
        clear hB_
        go_wp2
        go_roundw
        case rel => exact ⟨j + 1, by omega, by go_num, ⟨fun t ht => by
          rcases Nat.lt_succ_iff_lt_or_eq.1 ht with h | rfl
          · exact H1.out t h
          · rw [HY.out]; exact HNE.out⟩, ⟨g0⟩, ⟨x0⟩, ⟨x1⟩, HB⟩
        case measure => simp [intOf]; omega
    · have HM := Aside0.mk (show ¬ x ∈ ns by
        intro hm
        obtain ⟨t, ht, rfl⟩ := List.getElem_of_mem hm
        exact H1.out t (by omega) (at__lt' ht))
      go_wp2_with (fail)
      go_ret
      exact ⟨retI (placeI_out HM.out).symm, HB.out⟩
end Go.Proofs.Ytogmbeifbjgphaa.R
