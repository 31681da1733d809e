/- The order of nodes, as a sort asks it: what is called only lays blocks and draws. -/
import Derived.Sort.Grow
import Derived.Test.YtogmbeifbjgphaaKB6
import Derived.Test.YtogmbeifbjgphaaKB20
namespace Go.Proofs.Ytogmbeifbjgphaa.R
open Go.Sort Go.RowKit Go.Proofs.YtogmbeifbjgphaaV.PrintWords Go.Proofs.YtogmbeifbjgphaaV.PrintLast Go.Proofs.YtogmbeifbjgphaaV.PrintMore Go.Proofs.Ytogmbeifbjgphaa.M
set_option linter.unusedVariables false
set_option linter.unusedSimpArgs false
attribute [local go_sem high] eqN eqE
abbrev sNo1 : Pl := (.tk 0 (.tk 2 (.nd .one 1 (.nd .one 3 (.nd .one 4 (.tk 5 .fin))))))
theorem sNo1_ok : planB .any (opsOf Try.f114 1) [] sNo1 (Array.replicate (opsOf Try.f114 1).size false) = true := by kernel_rfl
/-- Only blocks are laid and draws made. -/
def Bd (w w' : World) : Prop := Below w.heap.size w w' ∧ w.drawn ≤ w'.drawn
theorem Bd.step {w a b : World} (h : Bd w a) (k : Bd a b) : Bd w b := ⟨below_step h.1 k.1, Nat.le_trans h.2 k.2⟩
theorem Bd.alloc (w : World) (o : Obj) : Bd w (w.alloc o) := ⟨below_alloc (Below.refl _ _) _, Nat.le_refl _⟩
theorem Bd.allocs {w u : World} (h : Bd w u) (o : Obj) : Bd w (u.alloc o) := h.step (Bd.alloc u o)
theorem grow_of {w w' : World} (h : Bd w w') : ∃ q os, w' = grow (w.drewN q) os := by
  obtain ⟨⟨h1, h2, h3, h4, h5⟩, h6⟩ := h
  refine ⟨w'.drawn - w.drawn, w'.heap.extract w.heap.size w'.heap.size, ?_⟩
  have hh : w'.heap = w.heap ++ w'.heap.extract w.heap.size w'.heap.size := by
    apply Array.ext_getElem?
    intro i
    by_cases hi : i < w.heap.size
    · rw [Array.getElem?_append_left hi]
      exact h5 i hi
    · rw [Array.getElem?_append_right (by omega), Array.getElem?_extract]
      split
      · congr 1
        omega
      · rw [Array.getElem?_eq_none (by omega)]
  cases w
  cases w'
  simp only [grow, World.drewN] at *
  subst h1 h2 h3
  congr 1
  omega
section
variable {P : Program} {ops : Array Oper} {Q : Exit → Act → World → Prop}
theorem region_bd {id : Nat} {a : Act} {w : World} (ds : List Nat) (p : Pl) (hm : P.follows .mixedOrders = true) (hc : planB .any ops ds p (Array.replicate ops.size false) = true) (hl : p.depth ≤ ops.size)
    (hQ : ∀ (d : Option Tmp) (v : Value) (c : _) (a : Act) (w : World), Q (.panic c) (a.put d v) w → Q (.panic c) a w) (h : ∀ u, Bd w u → wpP P ops Q (Bd w) p a u) : (Code.region id ops true).wp P Q a w :=
  region_pl (Bd w) ds p hm hc hl hQ ⟨(Below.refl _ _).drew, Nat.le_succ _⟩ fun u _ hS => h u hS
end
theorem nodeOk_bd (n : Nd) (w : World) : Calls Try.prog 104 #[.agg #[.int .i64 n.lab, .int .i64 n.num]] w fun e w' => e = .returned (.bool (okN n)) ∧ Bd w w' := by
  rcases okN_tests n with ⟨h0, h1, h2, h3⟩ | ⟨h0, h1⟩ | ⟨h0, h1, h2⟩ | ⟨h0, h1, h2, h3⟩
  all_goals
    have H0 := Aside0.mk h0
    have H1 := Aside0.mk h1
    clear h0 h1
    go_enter Try.func104, Try.ntmps104
    go_wp2_with (first | (go_at_call 78; (refine (labelOk_calls n.lab _).mono ?_); rintro e w' ⟨rfl, rfl⟩; rw [H1.out]))
    go_ret
    exact ⟨retB (by rw [H0.out]; first | done | rfl | exact decide_eq_false (by omega) | exact decide_eq_true (by omega)), Bd.alloc _ _⟩
set_option maxHeartbeats 800000 in
theorem nodeCode_bd (n : Nd) (w : World) : Calls Try.prog 34 #[.agg #[.int .i64 n.lab, .int .i64 n.num]] w fun e w' => e = .returned (.int .i64 (codeI n)) ∧ Bd w w' := by
  cases h : okN n with
  | false =>
    have HC := Aside0.mk (show codeI n = -1 by unfold codeI; rw [h]; rfl)
    have H := Aside0.mk h
    clear h
    go_enter Try.func34, Try.ntmps34
    go_wp2_with (first | (go_at_call 104; (refine (nodeOk_bd n _).mono ?_); rintro e w' ⟨rfl, hb⟩; rw [H.out]; have HB := Aside0.mk ((Bd.alloc w _).step hb); clear hb))
    go_ret
    exact ⟨retI HC.out.symm, HB.out⟩
  | true =>
    have HC := Aside0.mk (show codeI n = 64 * n.lab + n.num by unfold codeI; rw [h]; rfl)
    obtain ⟨⟨l0, l7⟩, m0, m1⟩ := okN_iff.1 h
    have H := Aside0.mk h
    clear h
    go_enter Try.func34, Try.ntmps34
    go_wp2_with (first | (go_at_call 104; (refine (nodeOk_bd n _).mono ?_); rintro e w' ⟨rfl, hb⟩; rw [H.out]; have HB := Aside0.mk ((Bd.alloc w _).step hb); have hc0 : w'.cell? ⟨w.heap.size, 0, none⟩ = some (.int .i64 n.lab) := (hb.1.cell (by simp)).trans (by simp); have hc1 : w'.cell? ⟨w.heap.size, 1, none⟩ = some (.int .i64 n.num) := (hb.1.cell (by simp)).trans (by simp); clear hb))
    go_ret
    exact ⟨retI HC.out.symm, HB.out⟩
set_option maxHeartbeats 3200000 in
set_option maxRecDepth 100000 in
theorem nodeOrder_bd (x y : Nd) (w : World) : Calls Try.prog 114 #[.agg #[.int .i64 x.lab, .int .i64 x.num], .agg #[.int .i64 y.lab, .int .i64 y.num]] w fun e w' => e = .returned (.int .i64 (cmpI (codeI x) (codeI y))) ∧ Bd w w' := by
  obtain ⟨L0, L1, HB⟩ := al2 w #[.int .i64 x.lab, .int .i64 x.num] #[.int .i64 y.lab, .int .i64 y.num] 28 28
  clear HB
  have HB := Aside0.mk ((Bd.alloc w (.cells #[.int .i64 x.lab, .int .i64 x.num] 28)).allocs (.cells #[.int .i64 y.lab, .int .i64 y.num] 28))
  go_enter Try.func114, Try.ntmps114
  go_wp2_with (fail)
  have ZL0 := L0
  have ZL1 := L1
  refine region_bd [] sNo1 (by kernel_rfl) sNo1_ok (by decide) (fun d _ _ _ _ h => by cases d <;> exact h) ?_
  intro u hb
  have hS := hb
  replace HB := Aside0.mk (HB.out.step hb)
  clear hb
  repeat (first | (refine p_off hS gt_ (by rfl) ?_; intro a_ ha_; (simp only [Act.put, List.setIfInBounds_toArray, List.set_cons_zero, List.set_cons_succ] at ha_); subst ha_) | (refine p_on (v := ?_) hS gt_ (by rfl) ?_ ?_; rotate_left; (· rintro w_ hS_; obtain ⟨c0_, c1_⟩ := cs2 (blk_below ZL0.out hS_.1); obtain ⟨e0_, e1_⟩ := cs2 (blk_below ZL1.out hS_.1); go_simp; with_reducible rfl); intro a_ ha_; (simp only [Act.put, List.setIfInBounds_toArray, List.set_cons_zero, List.set_cons_succ] at ha_); subst ha_) | (refine p_poff gt_ (by rfl) ?_; intro a_ ha_; (simp only [Act.put, List.setIfInBounds_toArray, List.set_cons_zero, List.set_cons_succ] at ha_); subst ha_) | (refine p_pon (v := ?_) gt_ (by rfl) ?_ ?_; rotate_left; (· go_simp; with_reducible rfl); intro a_ ha_; (simp only [Act.put, List.setIfInBounds_toArray, List.set_cons_zero, List.set_cons_succ] at ha_); subst ha_) | (refine p_ooff hS gt_ (by rfl) ?_; intro a_ ha_; (simp only [Act.put, List.setIfInBounds_toArray, List.set_cons_zero, List.set_cons_succ] at ha_); subst ha_) | (refine p_loff gt_ (by rfl) ?_; intro a_ ha_; (simp only [Act.put, List.setIfInBounds_toArray, List.set_cons_zero, List.set_cons_succ] at ha_); subst ha_) | (refine p_call (f := 34) (args := #[.agg #[.int .i64 x.lab, .int .i64 x.num]]) Try.func34 (by kernel_rfl) rfl gt_ (by rfl) (by rfl) mp_ ?_; (with_reducible refine (nodeCode_bd x _).mono ?_); rintro e_ u_ ⟨rfl, hb⟩; replace HB := Aside0.mk (HB.out.step hb); replace hS := hS.step hb; refine ⟨_, rfl, hS, fun a_ ha_ => ?_⟩; (simp only [Act.put, List.setIfInBounds_toArray, List.set_cons_zero, List.set_cons_succ] at ha_); subst ha_; clear hb) | (refine p_call (f := 34) (args := #[.agg #[.int .i64 y.lab, .int .i64 y.num]]) Try.func34 (by kernel_rfl) rfl gt_ (by rfl) (by rfl) mp_ ?_; (with_reducible refine (nodeCode_bd y _).mono ?_); rintro e_ u_ ⟨rfl, hb⟩; replace HB := Aside0.mk (HB.out.step hb); replace hS := hS.step hb; refine ⟨_, rfl, hS, fun a_ ha_ => ?_⟩; (simp only [Act.put, List.setIfInBounds_toArray, List.set_cons_zero, List.set_cons_succ] at ha_); subst ha_; clear hb) | (refine p_call (f := 178) (args := #[.int .i64 (codeI x), .int .i64 (codeI y)]) Try.func178 (by kernel_rfl) rfl gt_ (by rfl) (by rfl) mp_ ?_; (with_reducible refine (compare_calls _ _ _).mono ?_); rintro e_ u_ ⟨rfl, rfl⟩; refine ⟨_, rfl, hS, fun a_ ha_ => ?_⟩; (simp only [Act.put, List.setIfInBounds_toArray, List.set_cons_zero, List.set_cons_succ] at ha_); subst ha_))
  refine p_fin ?_
  clear hS ZL0 ZL1
  go_wp2
  go_ret
  exact ⟨rfl, HB.out⟩
end Go.Proofs.Ytogmbeifbjgphaa.R
