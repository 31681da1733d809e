/- The reference: labels, nodes; The reference: edges, where things stand, how many there are; The reference: where things stand, how many there are. -/
import Derived.Test.YtogmbeifbjgphaaGreatKB11
namespace Go.Proofs.YtogmbeifbjgphaaGreat.R
open Go.RowKit Go.Proofs.YtogmbeifbjgphaaGreatV.PrintWords Go.Proofs.YtogmbeifbjgphaaGreatV.PrintLast Go.Proofs.YtogmbeifbjgphaaGreatV.PrintMore Go.Proofs.YtogmbeifbjgphaaGreat.M
set_option linter.unusedVariables false
set_option linter.unusedSimpArgs false
attribute [local go_sem high] eqN eqE
set_option maxHeartbeats 400000 in
theorem sLabelOk_calls (a : Int) (w : World) : Calls Tryz.prog 108 #[.int .i64 a] w fun e w' => e = .returned (.bool (okL a)) ∧ w = w' := by
 unfold okL
 by_cases h : 0 ≤ a
 ·go_enter Tryz.func108, Tryz.ntmps108
  go_wp2
  go_ret
  exact ⟨by simp [h], rfl⟩
 ·go_enter Tryz.func108, Tryz.ntmps108
  go_wp2
  go_ret
  exact ⟨retB (by rw [decide_eq_false (show ¬ 0 ≤ a by omega)]; rfl), rfl⟩
set_option maxHeartbeats 800000 in
theorem two_calls (n : Nat) (hn : n ≤ 10) (w : World) : Calls Tryz.prog 154 #[.int .i64 (n : Int)] w fun e w' => e = .returned (.int .i64 ((2 ^ n : Nat) : Int)) ∧ w = w' := by
 generalize hr : 2 ^ n = r
 have HR := Aside0.mk hr
 clear hr
 go_enter Tryz.func154, Tryz.ntmps154
 go_wp2
 go_loopw [3, 4] (fun s3 s4 wr => ∃ i : Nat, i ≤ n ∧ s3 = .int .i64 ((2 ^ i : Nat) : Int) ∧ s4 = .int .i64 (i : Int) ∧ w = wr) (fun _ s4 _ => (n - intOf s4).toNat)
 case atStart => exact ⟨0, Nat.zero_le _, rfl, rfl, rfl⟩
 case round =>
  obtain ⟨i, hi, rfl, rfl, rfl⟩ := hrel
  have hb : 2 ^ i ≤ 1024 := Nat.le_trans (Nat.pow_le_pow_right (by decide) (show i ≤ 10 by omega)) (by decide)
  have HT := Aside0.mk (Nat.pow_succ 2 i)
  have HS := Aside0.mk HR.out
  by_cases hlt : i < n
  ·generalize hp : 2 ^ i = p at hb HT
   clear hp
   go_wp2
   go_roundw
   case rel => exact ⟨i + 1, by omega, by rw [HT.out]; go_num, by go_num, by trivial⟩
   case measure => simp [intOf]; omega
  ·obtain rfl : i = n := by omega
   rw [HS.out]
   go_wp2
   go_ret
   exact ⟨rfl, rfl⟩
/-- Has the label the letter? -/
def hasL (a : Int) (i : Nat) : Bool := (a / ((2 ^ i : Nat) : Int)) % 2 == 1
theorem has_fin : ∀ x : Fin 8, ∀ i : Fin 3, ((wrap64 (((x.val : Nat) : Int).tdiv ((2 ^ i.val : Nat) : Int))).tmod 2 == 1) = hasL ((x.val : Nat) : Int) i.val := by decide +kernel
set_option maxHeartbeats 800000 in
theorem has_calls (a : Int) (i : Nat) (hi : i ≤ 2) (w : World) : Calls Tryz.prog 132 #[.int .i64 a, .int .i64 (i : Int)] w fun e w' => (∃ b, (okL a = true → b = hasL a i) ∧ e = .returned (.bool b)) ∧ w = w' := by
 have HT := Aside0.mk (two_calls i (by omega))
 obtain ⟨p, hp⟩ : ∃ p : Nat, p = 2 ^ i := ⟨_, rfl⟩
 have hpp : 1 ≤ p ∧ p ≤ 4 := by
  subst hp
  match i, hi with
  | 0, _ => decide
  | 1, _ => decide
  | 2, _ => decide
 have hp0 : ¬ p = 0 := by omega
 have hpi : ¬ (p : Int) = 0 := by omega
 rw [← hp] at HT
 have HP := Aside0.mk hp
 clear hp
 go_enter Tryz.func132, Tryz.ntmps132
 go_wp2_with (first | (go_at_call 154; (refine (HT.out _).mono ?_); rintro e w1 ⟨rfl, rfl⟩))
 go_ret
 refine ⟨⟨_, fun h => ?_, rfl⟩, rfl⟩
 obtain ⟨h0, h7⟩ := okL_iff.1 h
 obtain ⟨x, rfl⟩ := Int.eq_ofNat_of_zero_le h0
 rw [HP.out]
 exact has_fin ⟨x, by omega⟩ ⟨i, by omega⟩
theorem under_fin : ∀ x y : Fin 8, under ((x.val : Nat) : Int) ((y.val : Nat) : Int) = ((!hasL ((x.val : Nat) : Int) 0 || hasL ((y.val : Nat) : Int) 0) && ((!hasL ((x.val : Nat) : Int) 1 || hasL ((y.val : Nat) : Int) 1) && (!hasL ((x.val : Nat) : Int) 2 || hasL ((y.val : Nat) : Int) 2))) := by decide +kernel
theorem under_has {a b : Int} (ha : okL a = true) (hb : okL b = true) : under a b = ((!hasL a 0 || hasL b 0) && ((!hasL a 1 || hasL b 1) && (!hasL a 2 || hasL b 2))) := by
 obtain ⟨a0, a7⟩ := okL_iff.1 ha
 obtain ⟨b0, b7⟩ := okL_iff.1 hb
 obtain ⟨x, rfl⟩ := Int.eq_ofNat_of_zero_le a0
 obtain ⟨y, rfl⟩ := Int.eq_ofNat_of_zero_le b0
 exact under_fin ⟨x, by omega⟩ ⟨y, by omega⟩
set_option maxHeartbeats 3200000 in
theorem sUnder_calls (a b : Int) (ha : okL a = true) (hb : okL b = true) (w : World) : Calls Tryz.prog 109 #[.int .i64 a, .int .i64 b] w fun e w' => e = .returned (.bool (under a b)) ∧ w = w' := by
 have HA := Aside0.mk ha
 have HB := Aside0.mk hb
 generalize hu : under a b = u
 have HU := Aside0.mk hu
 clear ha hb hu
 go_enter Tryz.func109, Tryz.ntmps109
 go_wp2
 go_loopw [5] (fun s5 wr => ∃ i : Nat, i ≤ 3 ∧ s5 = .int .i64 (i : Int) ∧ Aside0 (∀ t, t < i → (!hasL a t || hasL b t) = true) ∧ w = wr) (fun s5 _ => (3 - intOf s5).toNat)
 case atStart => exact ⟨0, Nat.zero_le _, rfl, ⟨fun t ht => absurd ht (Nat.not_lt_zero _)⟩, by trivial⟩
 case round =>
  obtain ⟨i, hi, rfl, H1, rfl⟩ := hrel
  by_cases hlt : i < 3
  ·have hi2 : i ≤ 2 := by omega
   cases h1 : hasL a i with
   | false =>
     have HH1 := Aside0.mk h1
     clear h1
     go_wp2_with (first | (go_at_call 132; ((with_reducible refine (has_calls a i hi2 _).mono ?_); rintro e w1 ⟨⟨b1, hb1, rfl⟩, rfl⟩; rw [hb1 HA.out, HH1.out]; clear hb1)))
     go_roundw
     case rel => exact ⟨i + 1, by omega, by go_num, ⟨fun t ht => by
      rcases Nat.lt_succ_iff_lt_or_eq.1 ht with h | rfl
      ·exact H1.out t h
      ·rw [HH1.out]; rfl⟩, by trivial⟩
     case measure => simp [intOf]; omega
   | true =>
     have HH1 := Aside0.mk h1
     clear h1
     cases h2 : hasL b i with
     | true =>
       have HH2 := Aside0.mk h2
       clear h2
       go_wp2_with (first | (go_at_call 132; ((with_reducible refine (has_calls a i hi2 _).mono ?_); rintro e w1 ⟨⟨b1, hb1, rfl⟩, rfl⟩; rw [hb1 HA.out, HH1.out]; clear hb1)) | (go_at_call 132; ((with_reducible refine (has_calls b i hi2 _).mono ?_); rintro e w1 ⟨⟨b1, hb1, rfl⟩, rfl⟩; rw [hb1 HB.out, HH2.out]; clear hb1)))
       go_roundw
       case rel => exact ⟨i + 1, by omega, by go_num, ⟨fun t ht => by
        rcases Nat.lt_succ_iff_lt_or_eq.1 ht with h | rfl
        ·exact H1.out t h
        ·rw [HH1.out, HH2.out]; rfl⟩, by trivial⟩
       case measure => simp [intOf]; omega
     | false =>
       have HH2 := Aside0.mk h2
       clear h2
       have HF := Aside0.mk (show u = false by
        rw [← HU.out, under_has HA.out HB.out]
        have h3 := HH1.out
        have h4 := HH2.out
        match i, hi2, h3, h4 with
        | 0, _, h3, h4 => rw [h3, h4]; rfl
        | 1, _, h3, h4 => rw [h3, h4]; simp
        | 2, _, h3, h4 => rw [h3, h4]; simp)
       go_wp2_with (first | (go_at_call 132; ((with_reducible refine (has_calls a i hi2 _).mono ?_); rintro e w1 ⟨⟨b1, hb1, rfl⟩, rfl⟩; rw [hb1 HA.out, HH1.out]; clear hb1)) | (go_at_call 132; ((with_reducible refine (has_calls b i hi2 _).mono ?_); rintro e w1 ⟨⟨b1, hb1, rfl⟩, rfl⟩; rw [hb1 HB.out, HH2.out]; clear hb1)))
       go_ret
       exact ⟨retB HF.out.symm, rfl⟩
  ·obtain rfl : i = 3 := by omega
   have HF := Aside0.mk (show u = true by
    rw [← HU.out, under_has HA.out HB.out, H1.out 0 (by decide), H1.out 1 (by decide), H1.out 2 (by decide)]
    rfl)
   go_wp2
   go_ret
   exact ⟨retB HF.out.symm, rfl⟩
set_option maxHeartbeats 1600000 in
theorem sNodeOk_calls (n : Nd) (w : World) : Calls Tryz.prog 51 #[.agg #[.int .i64 n.lab, .int .i64 n.num]] w fun e w' => e = .returned (.bool (okN n)) ∧ Below w.heap.size w w' := by
 have HU := Aside0.mk (show okN n = (okL n.lab && (decide (0 ≤ n.num) && decide (n.num ≤ 40))) from by rw [okN, Bool.and_assoc])
 cases h1 : okL n.lab with
 | false =>
   have H1 := Aside0.mk h1
   have HG := Aside0.mk (show okN n = false by rw [HU.out, h1]; rfl)
   clear h1 HU
   go_enter Tryz.func51, Tryz.ntmps51
   go_wp2_with (first | (go_at_call 108; (refine (sLabelOk_calls n.lab _).mono ?_); rintro e w1 ⟨rfl, rfl⟩; rw [H1.out]))
   go_ret
   exact ⟨retB HG.out.symm, below_alloc (Below.refl _ _) _⟩
 | true =>
   have H1 := Aside0.mk h1
   clear h1
   by_cases h2 : 0 ≤ n.num
   ·have HG := Aside0.mk (show okN n = decide (n.num ≤ 40) by rw [HU.out, H1.out, decide_eq_true h2]; rfl)
    clear HU
    go_enter Tryz.func51, Tryz.ntmps51
    go_wp2_with (first | (go_at_call 108; (refine (sLabelOk_calls n.lab _).mono ?_); rintro e w1 ⟨rfl, rfl⟩; rw [H1.out]))
    go_ret
    exact ⟨retB HG.out.symm, below_alloc (Below.refl _ _) _⟩
   ·have HG := Aside0.mk (show okN n = false by rw [HU.out, H1.out, decide_eq_false h2]; rfl)
    clear HU
    go_enter Tryz.func51, Tryz.ntmps51
    go_wp2_with (first | (go_at_call 108; (refine (sLabelOk_calls n.lab _).mono ?_); rintro e w1 ⟨rfl, rfl⟩; rw [H1.out]))
    go_ret
    exact ⟨retB HG.out.symm, below_alloc (Below.refl _ _) _⟩
set_option maxHeartbeats 800000 in
theorem sCode_calls (n : Nd) (h : okN n = true) (w : World) : Calls Tryz.prog 52 #[.agg #[.int .i64 n.lab, .int .i64 n.num]] w fun e w' => e = .returned (.int .i64 (code n)) ∧ Below w.heap.size w w' := by
 obtain ⟨⟨h0, h7⟩, n0, n40⟩ := okN_iff.1 h
 have HG := Aside0.mk (show code n = n.lab * 64 + n.num by unfold code; omega)
 clear h
 go_enter Tryz.func52, Tryz.ntmps52
 go_wp2
 go_ret
 exact ⟨retI (by rw [HG.out]), below_alloc (Below.refl _ _) _⟩
end Go.Proofs.YtogmbeifbjgphaaGreat.R
namespace Go.Proofs.YtogmbeifbjgphaaGreat.R
open Go.RowKit Go.Proofs.YtogmbeifbjgphaaGreatV.PrintWords Go.Proofs.YtogmbeifbjgphaaGreatV.PrintLast Go.Proofs.YtogmbeifbjgphaaGreatV.PrintMore Go.Proofs.YtogmbeifbjgphaaGreat.M
set_option linter.unusedVariables false
set_option linter.unusedSimpArgs false
attribute [local go_sem high] eqN eqE
theorem okN_lab {n : Nd} (h : okN n = true) : okL n.lab = true := okL_iff.2 (okN_iff.1 h).1
abbrev sEdgeOkS : List (Nat × Bool) := [(0, true), (1, true), (2, false), (3, true), (4, true), (5, true), (6, false), (7, true), (8, true), (9, true), (10, true), (11, false), (12, true), (13, true), (14, true), (15, true), (17, true), (18, true), (16, false), (19, false), (20, true), (21, true), (22, true), (23, true), (24, true), (25, true), (26, true), (27, true), (28, false), (29, true), (30, true), (31, true), (32, true), (33, true), (34, true), (35, true), (36, false), (37, true), (38, true)]
theorem sEdgeOkS_ok : schedB .any (opsOf Tryz.f53 1) sEdgeOkS (Array.replicate (opsOf Tryz.f53 1).size false) = true := by kernel_rfl
set_option maxHeartbeats 1600000 in
set_option maxRecDepth 100000 in
theorem spEdgeOk_calls (x : Eg) (w : World) : Calls Tryz.prog 53 #[.agg #[.int .i64 x.lab, .int .i64 x.a.lab, .int .i64 x.a.num, .int .i64 x.b.lab, .int .i64 x.b.num]] w fun e w' => e = .returned (.bool (okE x)) ∧ Below w.heap.size w w' := by
 rcases okE_tests x with ⟨h0, h1, h2, h3, h4, h5, h6⟩ | ⟨h0, h1⟩ | ⟨h0, h1, h2⟩ | ⟨h0, h1, h2, h3⟩ | ⟨h0, h1, h2, h3, h4⟩ | ⟨h0, h1, h2, h3, h4, h5⟩ | ⟨h0, h1, h2, h3, h4, h5, h6⟩
 all_goals
  try rw [codeI_ok h2, codeI_ok h3] at h4
  have H0 := Aside0.mk h0
  have H1 := Aside0.mk h1
  clear h0 h1
  try (have H2 := Aside0.mk h2; clear h2)
  try (have H3 := Aside0.mk h3; clear h3)
  try (have H5 := Aside0.mk h5; clear h5)
  try (have H6 := Aside0.mk h6; clear h6)
  go_enter Tryz.func53, Tryz.ntmps53
  go_wp2_with (fail)
  refine named _ ?_
  intro W hW
  obtain ⟨c0, c1, c2, c3, c4, hB⟩ := one_eg hW
  have HB := Aside0.mk hB
  clear hW hB
  have HK_ := Aside0.mk (show Reg (fun u_ => Below w.heap.size w u_ ∧ u_.cell? ⟨w.heap.size, 0, none⟩ = some (.int .i64 x.lab) ∧ u_.cell? ⟨w.heap.size, 1, none⟩ = some (.int .i64 x.a.lab) ∧ u_.cell? ⟨w.heap.size, 2, none⟩ = some (.int .i64 x.a.num) ∧ u_.cell? ⟨w.heap.size, 3, none⟩ = some (.int .i64 x.b.lab) ∧ u_.cell? ⟨w.heap.size, 4, none⟩ = some (.int .i64 x.b.num) ∧ True) from ⟨fun _ _ hb_ ⟨q_, s0_, s1_, s2_, s3_, s4_, _⟩ => ⟨below_step q_ hb_, pw_cell_below hb_ s0_, pw_cell_below hb_ s1_, pw_cell_below hb_ s2_, pw_cell_below hb_ s3_, pw_cell_below hb_ s4_, trivial⟩⟩)
  refine region_by _ sEdgeOkS (by kernel_rfl) sEdgeOkS_ok rfl (fun d _ _ _ _ h => by cases d <;> exact h) HK_.out ⟨HB.out, c0, c1, c2, c3, c4, trivial⟩ ?_
  intro u hS
  clear c0 c1 c2 c3 c4
  repeat (first | (refine h_off gt_ (by rfl) ?_; intro a_ ha_; (simp only [Act.put, pu1, pu2, pu3] at ha_); subst ha_) | (refine h_on (v := ?_) gt_ (by rfl) ?_ ?_; rotate_left; (· rintro w_ ⟨-, s0_, s1_, s2_, s3_, s4_, -⟩; go_simp; with_reducible rfl); intro a_ ha_; (simp only [Act.put, pu1, pu2, pu3] at ha_); subst ha_) | (refine h_offc hS gt_ (by rfl) ?_; intro a_ ha_; (simp only [Act.put, pu1, pu2, pu3] at ha_); subst ha_) | (refine h_call (f := 108) (args := #[.int .i64 x.lab]) HK_.out hS Tryz.func108 (by kernel_rfl) rfl gt_ (by rfl) (by rfl) mp_ ?_; (with_reducible refine (sLabelOk_calls x.lab _).mono ?_); rintro e_ u_ ⟨rfl, rfl⟩; rw [H1.out]; refine ⟨_, rfl, Below.refl _ _, fun a_ ha_ hS_ => ?_⟩; (simp only [Act.put, pu1, pu2, pu3] at ha_); subst ha_; clear hS; have hS := hS_; clear hS_) | (refine h_call (f := 51) (args := #[.agg #[.int .i64 x.a.lab, .int .i64 x.a.num]]) HK_.out hS Tryz.func51 (by kernel_rfl) rfl gt_ (by rfl) (by rfl) mp_ ?_; (with_reducible refine (sNodeOk_calls x.a _).mono ?_); rintro e_ u_ ⟨rfl, hb_⟩; rw [H2.out]; refine ⟨_, rfl, hb_, fun a_ ha_ hS_ => ?_⟩; (simp only [Act.put, pu1, pu2, pu3] at ha_); subst ha_; clear hS; have hS := hS_; clear hS_; clear hb_) | (refine h_call (f := 51) (args := #[.agg #[.int .i64 x.b.lab, .int .i64 x.b.num]]) HK_.out hS Tryz.func51 (by kernel_rfl) rfl gt_ (by rfl) (by rfl) mp_ ?_; (with_reducible refine (sNodeOk_calls x.b _).mono ?_); rintro e_ u_ ⟨rfl, hb_⟩; rw [H3.out]; refine ⟨_, rfl, hb_, fun a_ ha_ hS_ => ?_⟩; (simp only [Act.put, pu1, pu2, pu3] at ha_); subst ha_; clear hS; have hS := hS_; clear hS_; clear hb_) | (refine h_call (f := 52) (args := #[.agg #[.int .i64 x.a.lab, .int .i64 x.a.num]]) HK_.out hS Tryz.func52 (by kernel_rfl) rfl gt_ (by rfl) (by rfl) mp_ ?_; (with_reducible refine (sCode_calls x.a H2.out _).mono ?_); rintro e_ u_ ⟨rfl, hb_⟩; refine ⟨_, rfl, hb_, fun a_ ha_ hS_ => ?_⟩; (simp only [Act.put, pu1, pu2, pu3] at ha_); subst ha_; clear hS; have hS := hS_; clear hS_; clear hb_) | (refine h_call (f := 52) (args := #[.agg #[.int .i64 x.b.lab, .int .i64 x.b.num]]) HK_.out hS Tryz.func52 (by kernel_rfl) rfl gt_ (by rfl) (by rfl) mp_ ?_; (with_reducible refine (sCode_calls x.b H3.out _).mono ?_); rintro e_ u_ ⟨rfl, hb_⟩; refine ⟨_, rfl, hb_, fun a_ ha_ hS_ => ?_⟩; (simp only [Act.put, pu1, pu2, pu3] at ha_); subst ha_; clear hS; have hS := hS_; clear hS_; clear hb_) | (refine h_call (f := 109) (args := #[.int .i64 x.a.lab, .int .i64 x.lab]) HK_.out hS Tryz.func109 (by kernel_rfl) rfl gt_ (by rfl) (by rfl) mp_ ?_; (with_reducible refine (sUnder_calls x.a.lab x.lab (okN_lab H2.out) H1.out _).mono ?_); rintro e_ u_ ⟨rfl, rfl⟩; rw [H5.out]; refine ⟨_, rfl, Below.refl _ _, fun a_ ha_ hS_ => ?_⟩; (simp only [Act.put, pu1, pu2, pu3] at ha_); subst ha_; clear hS; have hS := hS_; clear hS_) | (refine h_call (f := 109) (args := #[.int .i64 x.b.lab, .int .i64 x.lab]) HK_.out hS Tryz.func109 (by kernel_rfl) rfl gt_ (by rfl) (by rfl) mp_ ?_; (with_reducible refine (sUnder_calls x.b.lab x.lab (okN_lab H3.out) H1.out _).mono ?_); rintro e_ u_ ⟨rfl, rfl⟩; rw [H6.out]; refine ⟨_, rfl, Below.refl _ _, fun a_ ha_ hS_ => ?_⟩; (simp only [Act.put, pu1, pu2, pu3] at ha_); subst ha_; clear hS; have hS := hS_; clear hS_))
  refine h_end ?_
  clear HK_ HB
  obtain ⟨hB_, c0, c1, c2, c3, c4, -⟩ := hS
  have HB := Aside0.mk hB_
  clear hB_
  go_wp2
  go_ret
  exact ⟨retB (by rw [H0.out]), HB.out⟩
abbrev sLess : List (Nat × Bool) := [(0, true), (1, true), (3, true), (4, true), (2, false), (5, false), (6, true), (7, true)]
theorem sLess4_ok : schedB .any (opsOf Tryz.f54 4) sLess (Array.replicate (opsOf Tryz.f54 4).size false) = true := by kernel_rfl
theorem sLess5_ok : schedB .any (opsOf Tryz.f54 5) sLess (Array.replicate (opsOf Tryz.f54 5).size false) = true := by kernel_rfl
abbrev sLess4 := sLess
abbrev sLess5 := sLess
set_option maxHeartbeats 3200000 in
set_option maxRecDepth 100000 in
theorem sLess_calls (a b : Eg) (ha : okE a = true) (hb : okE b = true) (w : World) : Calls Tryz.prog 54 #[.agg #[.int .i64 a.lab, .int .i64 a.a.lab, .int .i64 a.a.num, .int .i64 a.b.lab, .int .i64 a.b.num], .agg #[.int .i64 b.lab, .int .i64 b.a.lab, .int .i64 b.a.num, .int .i64 b.b.lab, .int .i64 b.b.num]] w fun e w' => e = .returned (.bool (decide (key a < key b))) ∧ Below w.heap.size w w' := by
 have HK := Aside0.mk (key_lt ha hb)
 have HA := Aside0.mk (okE_iff.1 ha)
 have HBO := Aside0.mk (okE_iff.1 hb)
 generalize hr : decide (key a < key b) = r
 have HR := Aside0.mk hr
 clear hr ha hb
 by_cases h1 : a.lab = b.lab
 ·have q1 : (a.lab == b.lab) = true := beq_iff_eq.2 h1
  by_cases h2 : a.a = b.a
  ·have HG := Aside0.mk (show r = decide (code a.b < code b.b) by
    rw [← HR.out]
    refine decide_eq_decide.2 (HK.out.trans ?_)
    rw [h1, h2]
    constructor
    ·intro h; omega
    ·intro h; omega)
   have q2 : (!a.a.lab == b.a.lab || !a.a.num == b.a.num) = false := by
    rw [h2]
    simp
   clear h1 h2
   go_enter Tryz.func54, Tryz.ntmps54
   go_wp2_with (fail)
   refine named _ ?_
   intro W hW
   obtain ⟨c0, c1, c2, c3, c4, c5, c6, c7, c8, c9, hB⟩ := two_eg hW
   have HB := Aside0.mk hB
   clear hW hB
   have HK_ := Aside0.mk (show Reg (fun u_ => Below w.heap.size w u_ ∧ u_.cell? ⟨w.heap.size, 0, none⟩ = some (.int .i64 a.lab) ∧ u_.cell? ⟨w.heap.size, 1, none⟩ = some (.int .i64 a.a.lab) ∧ u_.cell? ⟨w.heap.size, 2, none⟩ = some (.int .i64 a.a.num) ∧ u_.cell? ⟨w.heap.size, 3, none⟩ = some (.int .i64 a.b.lab) ∧ u_.cell? ⟨w.heap.size, 4, none⟩ = some (.int .i64 a.b.num) ∧ u_.cell? ⟨w.heap.size + 1, 0, none⟩ = some (.int .i64 b.lab) ∧ u_.cell? ⟨w.heap.size + 1, 1, none⟩ = some (.int .i64 b.a.lab) ∧ u_.cell? ⟨w.heap.size + 1, 2, none⟩ = some (.int .i64 b.a.num) ∧ u_.cell? ⟨w.heap.size + 1, 3, none⟩ = some (.int .i64 b.b.lab) ∧ u_.cell? ⟨w.heap.size + 1, 4, none⟩ = some (.int .i64 b.b.num) ∧ True) from ⟨fun _ _ hb_ ⟨q_, s0_, s1_, s2_, s3_, s4_, s5_, s6_, s7_, s8_, s9_, _⟩ => ⟨below_step q_ hb_, pw_cell_below hb_ s0_, pw_cell_below hb_ s1_, pw_cell_below hb_ s2_, pw_cell_below hb_ s3_, pw_cell_below hb_ s4_, pw_cell_below hb_ s5_, pw_cell_below hb_ s6_, pw_cell_below hb_ s7_, pw_cell_below hb_ s8_, pw_cell_below hb_ s9_, trivial⟩⟩)
   refine region_by _ sLess5 (by kernel_rfl) sLess5_ok rfl (fun d _ _ _ _ h => by cases d <;> exact h) HK_.out ⟨HB.out, c0, c1, c2, c3, c4, c5, c6, c7, c8, c9, trivial⟩ ?_
   intro u hS
   clear c0 c1 c2 c3 c4 c5 c6 c7 c8 c9
   repeat (first | (refine h_off gt_ (by rfl) ?_; intro a_ ha_; (simp only [Act.put, pu1, pu2, pu3] at ha_); subst ha_) | (refine h_on (v := ?_) gt_ (by rfl) ?_ ?_; rotate_left; (· rintro w_ ⟨-, s0_, s1_, s2_, s3_, s4_, s5_, s6_, s7_, s8_, s9_, -⟩; go_simp; with_reducible rfl); intro a_ ha_; (simp only [Act.put, pu1, pu2, pu3] at ha_); subst ha_) | (refine h_offc hS gt_ (by rfl) ?_; intro a_ ha_; (simp only [Act.put, pu1, pu2, pu3] at ha_); subst ha_) | (refine h_call (f := 52) (args := #[.agg #[.int .i64 a.b.lab, .int .i64 a.b.num]]) HK_.out hS Tryz.func52 (by kernel_rfl) rfl gt_ (by rfl) (by rfl) mp_ ?_; (with_reducible refine (sCode_calls a.b HA.out.2.2.1 _).mono ?_); rintro e_ u_ ⟨rfl, hb_⟩; refine ⟨_, rfl, hb_, fun a_ ha_ hS_ => ?_⟩; (simp only [Act.put, pu1, pu2, pu3] at ha_); subst ha_; clear hS; have hS := hS_; clear hS_; clear hb_) | (refine h_call (f := 52) (args := #[.agg #[.int .i64 b.b.lab, .int .i64 b.b.num]]) HK_.out hS Tryz.func52 (by kernel_rfl) rfl gt_ (by rfl) (by rfl) mp_ ?_; (with_reducible refine (sCode_calls b.b HBO.out.2.2.1 _).mono ?_); rintro e_ u_ ⟨rfl, hb_⟩; refine ⟨_, rfl, hb_, fun a_ ha_ hS_ => ?_⟩; (simp only [Act.put, pu1, pu2, pu3] at ha_); subst ha_; clear hS; have hS := hS_; clear hS_; clear hb_))
   refine h_end ?_
   clear HK_ HB
   obtain ⟨hB_, c0, c1, c2, c3, c4, c5, c6, c7, c8, c9, -⟩ := hS
   have HB := Aside0.mk hB_
   clear hB_
   go_wp2
   go_ret
   exact ⟨retB HG.out.symm, HB.out⟩
  ·have HG := Aside0.mk (show r = decide (code a.a < code b.a) by
    rw [← HR.out]
    refine decide_eq_decide.2 (HK.out.trans ?_)
    have h3 : code a.a ≠ code b.a := fun e => h2 (code_inj HA.out.2.1 HBO.out.2.1 e)
    rw [h1]
    constructor
    ·intro h; omega
    ·intro h; omega)
   have q2 : (!a.a.lab == b.a.lab || !a.a.num == b.a.num) = true := by
    have h := (nd_eq a.a b.a).trans (decide_eq_false h2)
    revert h
    cases a.a.lab == b.a.lab <;> cases a.a.num == b.a.num <;> decide
   clear h1 h2
   go_enter Tryz.func54, Tryz.ntmps54
   go_wp2_with (fail)
   refine named _ ?_
   intro W hW
   obtain ⟨c0, c1, c2, c3, c4, c5, c6, c7, c8, c9, hB⟩ := two_eg hW
   have HB := Aside0.mk hB
   clear hW hB
   have HK_ := Aside0.mk (show Reg (fun u_ => Below w.heap.size w u_ ∧ u_.cell? ⟨w.heap.size, 0, none⟩ = some (.int .i64 a.lab) ∧ u_.cell? ⟨w.heap.size, 1, none⟩ = some (.int .i64 a.a.lab) ∧ u_.cell? ⟨w.heap.size, 2, none⟩ = some (.int .i64 a.a.num) ∧ u_.cell? ⟨w.heap.size, 3, none⟩ = some (.int .i64 a.b.lab) ∧ u_.cell? ⟨w.heap.size, 4, none⟩ = some (.int .i64 a.b.num) ∧ u_.cell? ⟨w.heap.size + 1, 0, none⟩ = some (.int .i64 b.lab) ∧ u_.cell? ⟨w.heap.size + 1, 1, none⟩ = some (.int .i64 b.a.lab) ∧ u_.cell? ⟨w.heap.size + 1, 2, none⟩ = some (.int .i64 b.a.num) ∧ u_.cell? ⟨w.heap.size + 1, 3, none⟩ = some (.int .i64 b.b.lab) ∧ u_.cell? ⟨w.heap.size + 1, 4, none⟩ = some (.int .i64 b.b.num) ∧ True) from ⟨fun _ _ hb_ ⟨q_, s0_, s1_, s2_, s3_, s4_, s5_, s6_, s7_, s8_, s9_, _⟩ => ⟨below_step q_ hb_, pw_cell_below hb_ s0_, pw_cell_below hb_ s1_, pw_cell_below hb_ s2_, pw_cell_below hb_ s3_, pw_cell_below hb_ s4_, pw_cell_below hb_ s5_, pw_cell_below hb_ s6_, pw_cell_below hb_ s7_, pw_cell_below hb_ s8_, pw_cell_below hb_ s9_, trivial⟩⟩)
   refine region_by _ sLess4 (by kernel_rfl) sLess4_ok rfl (fun d _ _ _ _ h => by cases d <;> exact h) HK_.out ⟨HB.out, c0, c1, c2, c3, c4, c5, c6, c7, c8, c9, trivial⟩ ?_
   intro u hS
   clear c0 c1 c2 c3 c4 c5 c6 c7 c8 c9
   repeat (first | (refine h_off gt_ (by rfl) ?_; intro a_ ha_; (simp only [Act.put, pu1, pu2, pu3] at ha_); subst ha_) | (refine h_on (v := ?_) gt_ (by rfl) ?_ ?_; rotate_left; (· rintro w_ ⟨-, s0_, s1_, s2_, s3_, s4_, s5_, s6_, s7_, s8_, s9_, -⟩; go_simp; with_reducible rfl); intro a_ ha_; (simp only [Act.put, pu1, pu2, pu3] at ha_); subst ha_) | (refine h_offc hS gt_ (by rfl) ?_; intro a_ ha_; (simp only [Act.put, pu1, pu2, pu3] at ha_); subst ha_) | (refine h_call (f := 52) (args := #[.agg #[.int .i64 a.a.lab, .int .i64 a.a.num]]) HK_.out hS Tryz.func52 (by kernel_rfl) rfl gt_ (by rfl) (by rfl) mp_ ?_; (with_reducible refine (sCode_calls a.a HA.out.2.1 _).mono ?_); rintro e_ u_ ⟨rfl, hb_⟩; refine ⟨_, rfl, hb_, fun a_ ha_ hS_ => ?_⟩; (simp only [Act.put, pu1, pu2, pu3] at ha_); subst ha_; clear hS; have hS := hS_; clear hS_; clear hb_) | (refine h_call (f := 52) (args := #[.agg #[.int .i64 b.a.lab, .int .i64 b.a.num]]) HK_.out hS Tryz.func52 (by kernel_rfl) rfl gt_ (by rfl) (by rfl) mp_ ?_; (with_reducible refine (sCode_calls b.a HBO.out.2.1 _).mono ?_); rintro e_ u_ ⟨rfl, hb_⟩; refine ⟨_, rfl, hb_, fun a_ ha_ hS_ => ?_⟩; (simp only [Act.put, pu1, pu2, pu3] at ha_); subst ha_; clear hS; have hS := hS_; clear hS_; clear hb_))
   refine h_end ?_
   clear HK_ HB
   obtain ⟨hB_, c0, c1, c2, c3, c4, c5, c6, c7, c8, c9, -⟩ := hS
   have HB := Aside0.mk hB_
   clear hB_
   go_wp2
   go_ret
   exact ⟨retB HG.out.symm, HB.out⟩
 ·have q1 : (a.lab == b.lab) = false := beq_eq_false_iff_ne.2 h1
  have HG := Aside0.mk (show r = decide (a.lab < b.lab) by
   rw [← HR.out]
   exact decide_eq_decide.2 (HK.out.trans ⟨fun h => by omega, fun h => by omega⟩))
  clear h1
  go_enter Tryz.func54, Tryz.ntmps54
  go_wp2
  go_ret
  exact ⟨retB HG.out.symm, below_alloc (below_alloc (Below.refl _ _) _) _⟩
end Go.Proofs.YtogmbeifbjgphaaGreat.R
namespace Go.Proofs.YtogmbeifbjgphaaGreat.R
open Go.RowKit Go.Proofs.YtogmbeifbjgphaaGreatV.PrintWords Go.Proofs.YtogmbeifbjgphaaGreatV.PrintLast Go.Proofs.YtogmbeifbjgphaaGreatV.PrintMore Go.Proofs.YtogmbeifbjgphaaGreat.M
set_option linter.unusedVariables false
set_option linter.unusedSimpArgs false
attribute [local go_sem high] eqN eqE
theorem at__lt' {ns : List Nd} {i : Nat} (h : i < ns.length) : at_ ns i = ns[i] := at_lt h
theorem eat_lt' {es : List Eg} {i : Nat} (h : i < es.length) : eat es i = es[i] := eat_lt h
abbrev sAtN : List (Nat × Bool) := [(0, true), (1, true), (2, true), (3, true), (4, true), (5, true), (6, true)]
theorem sAtN_ok : schedB .any (opsOf Tryz.f55 4) sAtN (Array.replicate (opsOf Tryz.f55 4).size false) = true := by kernel_rfl
set_option maxHeartbeats 3200000 in
set_option maxRecDepth 100000 in
theorem atN_calls (A : Option Addr) (c : Nat) (ns : List Nd) (B : Option Addr) (d : Nat) (es : List Eg) (x : Nd) (w : World) (hr : kN.C w A ns.length ns) (hl : ns.length ≤ 1000000) :
 Calls Tryz.prog 55 #[.agg #[.slice A ns.length c, .slice B es.length d], .agg #[.int .i64 x.lab, .int .i64 x.num]] w fun e w' => (∃ r : Int, -1 ≤ r ∧ (0 ≤ r ↔ x ∈ ns) ∧ e = .returned (.int .i64 r)) ∧ Below w.heap.size w w' := by
 have HR := Aside0.mk hr
 have HL := Aside0.mk hl
 clear hr hl
 go_enter Tryz.func55, Tryz.ntmps55
 go_wp2_with (fail)
 go_loopw [5] (fun s5 wr => ∃ j : Nat, j ≤ ns.length ∧ s5 = .int .i64 (j : Int) ∧ Aside0 (∀ t, t < j → at_ ns t ≠ x) ∧ Aside0 (wr.cell? ⟨w.heap.size, 0, none⟩ = some (.slice A ns.length c)) ∧ Aside0 (wr.cell? ⟨w.heap.size + 1, 0, none⟩ = some (.int .i64 x.lab)) ∧ Aside0 (wr.cell? ⟨w.heap.size + 1, 1, none⟩ = some (.int .i64 x.num)) ∧ Aside0 (Below w.heap.size w wr)) (fun s5 _ => (ns.length - intOf s5).toNat)
 case atStart => exact ⟨0, Nat.zero_le _, rfl, ⟨fun t ht => absurd ht (Nat.not_lt_zero _)⟩, ⟨by simp⟩, ⟨by simp⟩, ⟨by simp⟩, ⟨below_alloc (below_alloc (Below.refl _ _) _) _⟩⟩
 case round =>
  obtain ⟨j, hj, rfl, H1, Q0, X0, X1, HB⟩ := hrel
  have hl := HL.out
  have g0 := Q0.out
  by_cases hlt : j < ns.length
  ·obtain ⟨ad, e1, r0, r1⟩ := nd_at (Kd.C_below HR.out HB.out) j hlt
   cases e1
   generalize hy : at_ ns j = y at r0 r1
   have HY := Aside0.mk hy
   clear hy
   have x0 := X0.out
   have x1 := X1.out
   by_cases hxy : y = x
   ·have hne : (y.lab == x.lab && (y.num == x.num)) = true := (nd_eq y x).trans (decide_eq_true hxy)
    have HM := Aside0.mk (show x ∈ ns by rw [← hxy, ← HY.out]; exact at_mem hlt)
    clear hxy
    go_wp2_with (fail)
    have HK_ := Aside0.mk (show Reg (fun u_ => Below w.heap.size w u_ ∧ u_.cell? ⟨w.heap.size, 0, none⟩ = some (.slice (some ad) ns.length c) ∧ u_.cell? (ad.add (j * 2)) = some (.int .i64 y.lab) ∧ u_.cell? ⟨(ad.add (j * 2)).block, (ad.add (j * 2)).off + 1, none⟩ = some (.int .i64 y.num) ∧ u_.cell? ⟨w.heap.size + 1, 0, none⟩ = some (.int .i64 x.lab) ∧ u_.cell? ⟨w.heap.size + 1, 1, none⟩ = some (.int .i64 x.num) ∧ True) from ⟨fun _ _ hb_ ⟨q_, s0_, s1_, s2_, s3_, s4_, _⟩ => ⟨below_step q_ hb_, pw_cell_below hb_ s0_, pw_cell_below hb_ s1_, pw_cell_below hb_ s2_, pw_cell_below hb_ s3_, pw_cell_below hb_ s4_, trivial⟩⟩)
    refine region_by _ sAtN (by kernel_rfl) sAtN_ok rfl (fun d _ _ _ _ h => by cases d <;> exact h) HK_.out ⟨HB.out, g0, r0, r1, x0, x1, trivial⟩ ?_
    intro u hS
    clear g0 r0 r1 x0 x1
    repeat (first | (refine h_off gt_ (by rfl) ?_; intro a_ ha_; (simp only [Act.put, pu1, pu2, pu3] at ha_); subst ha_) | (refine h_on (v := ?_) gt_ (by rfl) ?_ ?_; rotate_left; (· rintro w_ ⟨-, s0_, s1_, s2_, s3_, s4_, -⟩; go_simp; with_reducible rfl); intro a_ ha_; (simp only [Act.put, pu1, pu2, pu3] at ha_); subst ha_) | (refine h_offc hS gt_ (by rfl) ?_; intro a_ ha_; (simp only [Act.put, pu1, pu2, pu3] at ha_); subst ha_))
    refine h_end ?_
    clear HK_ HB
    obtain ⟨hB_, g0, r0, r1, x0, x1, -⟩ := hS
    have HB := Aside0.mk hB_
    clear hB_
    go_wp2
    go_ret
    exact ⟨⟨(j : Int), by omega, ⟨fun _ => HM.out, fun _ => by omega⟩, rfl⟩, HB.out⟩
   ·have hne : (y.lab == x.lab && (y.num == x.num)) = false := (nd_eq y x).trans (decide_eq_false hxy)
    have HNE := Aside0.mk hxy
    clear hxy
    go_wp2_with (fail)
    have HK_ := Aside0.mk (show Reg (fun u_ => Below w.heap.size w u_ ∧ u_.cell? ⟨w.heap.size, 0, none⟩ = some (.slice (some ad) ns.length c) ∧ u_.cell? (ad.add (j * 2)) = some (.int .i64 y.lab) ∧ u_.cell? ⟨(ad.add (j * 2)).block, (ad.add (j * 2)).off + 1, none⟩ = some (.int .i64 y.num) ∧ u_.cell? ⟨w.heap.size + 1, 0, none⟩ = some (.int .i64 x.lab) ∧ u_.cell? ⟨w.heap.size + 1, 1, none⟩ = some (.int .i64 x.num) ∧ True) from ⟨fun _ _ hb_ ⟨q_, s0_, s1_, s2_, s3_, s4_, _⟩ => ⟨below_step q_ hb_, pw_cell_below hb_ s0_, pw_cell_below hb_ s1_, pw_cell_below hb_ s2_, pw_cell_below hb_ s3_, pw_cell_below hb_ s4_, trivial⟩⟩)
    refine region_by _ sAtN (by kernel_rfl) sAtN_ok rfl (fun d _ _ _ _ h => by cases d <;> exact h) HK_.out ⟨HB.out, g0, r0, r1, x0, x1, trivial⟩ ?_
    intro u hS
    clear g0 r0 r1 x0 x1
    repeat (first | (refine h_off gt_ (by rfl) ?_; intro a_ ha_; (simp only [Act.put, pu1, pu2, pu3] at ha_); subst ha_) | (refine h_on (v := ?_) gt_ (by rfl) ?_ ?_; rotate_left; (· rintro w_ ⟨-, s0_, s1_, s2_, s3_, s4_, -⟩; go_simp; with_reducible rfl); intro a_ ha_; (simp only [Act.put, pu1, pu2, pu3] at ha_); subst ha_) | (refine h_offc hS gt_ (by rfl) ?_; intro a_ ha_; (simp only [Act.put, pu1, pu2, pu3] at ha_); subst ha_))
    refine h_end ?_
    clear HK_ HB
    obtain ⟨hB_, g0, r0, r1, x0, x1, -⟩ := hS
    have HB := Aside0.mk hB_
    clear hB_
    go_wp2
    go_roundw
    case rel => exact ⟨j + 1, by omega, by go_num, ⟨fun t ht => by
     rcases Nat.lt_succ_iff_lt_or_eq.1 ht with h | rfl
     ·exact H1.out t h
     ·rw [HY.out]; exact HNE.out⟩, ⟨g0⟩, ⟨x0⟩, ⟨x1⟩, HB⟩
    case measure => simp [intOf]; omega
  ·have HM := Aside0.mk (show ¬ x ∈ ns by
    intro hm
    obtain ⟨t, ht, rfl⟩ := List.getElem_of_mem hm
    exact H1.out t (by omega) (at__lt' ht))
   go_wp2_with (fail)
   go_ret
   exact ⟨⟨-1, by omega, ⟨fun h => by omega, fun h => absurd h HM.out⟩, rfl⟩, HB.out⟩
abbrev sAtE : List (Nat × Bool) := [(0, true), (1, true), (2, true), (3, true), (4, true), (5, true), (6, true)]
theorem sAtE_ok : schedB .any (opsOf Tryz.f129 4) sAtE (Array.replicate (opsOf Tryz.f129 4).size false) = true := by kernel_rfl
set_option maxHeartbeats 3200000 in
set_option maxRecDepth 100000 in
theorem atE_calls (A : Option Addr) (c : Nat) (ns : List Nd) (B : Option Addr) (d : Nat) (es : List Eg) (x : Eg) (w : World) (hr : kE.C w B es.length es) (hl : es.length ≤ 1000000) :
 Calls Tryz.prog 129 #[.agg #[.slice A ns.length c, .slice B es.length d], .agg #[.int .i64 x.lab, .int .i64 x.a.lab, .int .i64 x.a.num, .int .i64 x.b.lab, .int .i64 x.b.num]] w fun e w' => (∃ r : Int, -1 ≤ r ∧ (0 ≤ r ↔ x ∈ es) ∧ e = .returned (.int .i64 r)) ∧ Below w.heap.size w w' := by
 have HR := Aside0.mk hr
 have HL := Aside0.mk hl
 clear hr hl
 go_enter Tryz.func129, Tryz.ntmps129
 go_wp2_with (fail)
 go_loopw [5] (fun s5 wr => ∃ j : Nat, j ≤ es.length ∧ s5 = .int .i64 (j : Int) ∧ Aside0 (∀ t, t < j → eat es t ≠ x) ∧ Aside0 (wr.cell? ⟨w.heap.size, 1, none⟩ = some (.slice B es.length d)) ∧ Aside0 (wr.cell? ⟨w.heap.size + 1, 0, none⟩ = some (.int .i64 x.lab)) ∧ Aside0 (wr.cell? ⟨w.heap.size + 1, 1, none⟩ = some (.int .i64 x.a.lab)) ∧ Aside0 (wr.cell? ⟨w.heap.size + 1, 2, none⟩ = some (.int .i64 x.a.num)) ∧ Aside0 (wr.cell? ⟨w.heap.size + 1, 3, none⟩ = some (.int .i64 x.b.lab)) ∧ Aside0 (wr.cell? ⟨w.heap.size + 1, 4, none⟩ = some (.int .i64 x.b.num)) ∧ Aside0 (Below w.heap.size w wr)) (fun s5 _ => (es.length - intOf s5).toNat)
 case atStart => exact ⟨0, Nat.zero_le _, rfl, ⟨fun t ht => absurd ht (Nat.not_lt_zero _)⟩, ⟨by simp⟩, ⟨by simp⟩, ⟨by simp⟩, ⟨by simp⟩, ⟨by simp⟩, ⟨by simp⟩, ⟨below_alloc (below_alloc (Below.refl _ _) _) _⟩⟩
 case round =>
  obtain ⟨j, hj, rfl, H1, Q0, X0, X1, X2, X3, X4, HB⟩ := hrel
  have hl := HL.out
  have g0 := Q0.out
  by_cases hlt : j < es.length
  ·obtain ⟨ad, e1, r0, r1, r2, r3, r4⟩ := eg_at (Kd.C_below HR.out HB.out) j hlt
   cases e1
   generalize hy : eat es j = y at r0 r1 r2 r3 r4
   have HY := Aside0.mk hy
   clear hy
   have x0 := X0.out
   have x1 := X1.out
   have x2 := X2.out
   have x3 := X3.out
   have x4 := X4.out
   by_cases hxy : y = x
   ·have hne : (y.lab == x.lab && ((y.a.lab == x.a.lab && (y.a.num == x.a.num)) && (y.b.lab == x.b.lab && (y.b.num == x.b.num)))) = true := (eg_eq y x).trans (decide_eq_true hxy)
    have HM := Aside0.mk (show x ∈ es by rw [← hxy, ← HY.out]; exact eat_mem hlt)
    clear hxy
    go_wp2_with (fail)
    have HK_ := Aside0.mk (show Reg (fun u_ => Below w.heap.size w u_ ∧ u_.cell? ⟨w.heap.size, 1, none⟩ = some (.slice (some ad) es.length d) ∧ u_.cell? (ad.add (j * 5)) = some (.int .i64 y.lab) ∧ u_.cell? ⟨(ad.add (j * 5)).block, (ad.add (j * 5)).off + 1, none⟩ = some (.int .i64 y.a.lab) ∧ u_.cell? ⟨(ad.add (j * 5)).block, (ad.add (j * 5)).off + 2, none⟩ = some (.int .i64 y.a.num) ∧ u_.cell? ⟨(ad.add (j * 5)).block, (ad.add (j * 5)).off + 3, none⟩ = some (.int .i64 y.b.lab) ∧ u_.cell? ⟨(ad.add (j * 5)).block, (ad.add (j * 5)).off + 4, none⟩ = some (.int .i64 y.b.num) ∧ u_.cell? ⟨w.heap.size + 1, 0, none⟩ = some (.int .i64 x.lab) ∧ u_.cell? ⟨w.heap.size + 1, 1, none⟩ = some (.int .i64 x.a.lab) ∧ u_.cell? ⟨w.heap.size + 1, 2, none⟩ = some (.int .i64 x.a.num) ∧ u_.cell? ⟨w.heap.size + 1, 3, none⟩ = some (.int .i64 x.b.lab) ∧ u_.cell? ⟨w.heap.size + 1, 4, none⟩ = some (.int .i64 x.b.num) ∧ True) from ⟨fun _ _ hb_ ⟨q_, s0_, s1_, s2_, s3_, s4_, s5_, s6_, s7_, s8_, s9_, s10_, _⟩ => ⟨below_step q_ hb_, pw_cell_below hb_ s0_, pw_cell_below hb_ s1_, pw_cell_below hb_ s2_, pw_cell_below hb_ s3_, pw_cell_below hb_ s4_, pw_cell_below hb_ s5_, pw_cell_below hb_ s6_, pw_cell_below hb_ s7_, pw_cell_below hb_ s8_, pw_cell_below hb_ s9_, pw_cell_below hb_ s10_, trivial⟩⟩)
    refine region_by _ sAtE (by kernel_rfl) sAtE_ok rfl (fun d _ _ _ _ h => by cases d <;> exact h) HK_.out ⟨HB.out, g0, r0, r1, r2, r3, r4, x0, x1, x2, x3, x4, trivial⟩ ?_
    intro u hS
    clear g0 r0 r1 r2 r3 r4 x0 x1 x2 x3 x4
    repeat (first | (refine h_off gt_ (by rfl) ?_; intro a_ ha_; (simp only [Act.put, pu1, pu2, pu3] at ha_); subst ha_) | (refine h_on (v := ?_) gt_ (by rfl) ?_ ?_; rotate_left; (· rintro w_ ⟨-, s0_, s1_, s2_, s3_, s4_, s5_, s6_, s7_, s8_, s9_, s10_, -⟩; go_simp; with_reducible rfl); intro a_ ha_; (simp only [Act.put, pu1, pu2, pu3] at ha_); subst ha_) | (refine h_offc hS gt_ (by rfl) ?_; intro a_ ha_; (simp only [Act.put, pu1, pu2, pu3] at ha_); subst ha_))
    refine h_end ?_
    clear HK_ HB
    obtain ⟨hB_, g0, r0, r1, r2, r3, r4, x0, x1, x2, x3, x4, -⟩ := hS
    have HB := Aside0.mk hB_
    clear hB_
    go_wp2
    go_ret
    exact ⟨⟨(j : Int), by omega, ⟨fun _ => HM.out, fun _ => by omega⟩, rfl⟩, HB.out⟩
   ·have hne : (y.lab == x.lab && ((y.a.lab == x.a.lab && (y.a.num == x.a.num)) && (y.b.lab == x.b.lab && (y.b.num == x.b.num)))) = false := (eg_eq y x).trans (decide_eq_false hxy)
    have HNE := Aside0.mk hxy
    clear hxy
    go_wp2_with (fail)
    have HK_ := Aside0.mk (show Reg (fun u_ => Below w.heap.size w u_ ∧ u_.cell? ⟨w.heap.size, 1, none⟩ = some (.slice (some ad) es.length d) ∧ u_.cell? (ad.add (j * 5)) = some (.int .i64 y.lab) ∧ u_.cell? ⟨(ad.add (j * 5)).block, (ad.add (j * 5)).off + 1, none⟩ = some (.int .i64 y.a.lab) ∧ u_.cell? ⟨(ad.add (j * 5)).block, (ad.add (j * 5)).off + 2, none⟩ = some (.int .i64 y.a.num) ∧ u_.cell? ⟨(ad.add (j * 5)).block, (ad.add (j * 5)).off + 3, none⟩ = some (.int .i64 y.b.lab) ∧ u_.cell? ⟨(ad.add (j * 5)).block, (ad.add (j * 5)).off + 4, none⟩ = some (.int .i64 y.b.num) ∧ u_.cell? ⟨w.heap.size + 1, 0, none⟩ = some (.int .i64 x.lab) ∧ u_.cell? ⟨w.heap.size + 1, 1, none⟩ = some (.int .i64 x.a.lab) ∧ u_.cell? ⟨w.heap.size + 1, 2, none⟩ = some (.int .i64 x.a.num) ∧ u_.cell? ⟨w.heap.size + 1, 3, none⟩ = some (.int .i64 x.b.lab) ∧ u_.cell? ⟨w.heap.size + 1, 4, none⟩ = some (.int .i64 x.b.num) ∧ True) from ⟨fun _ _ hb_ ⟨q_, s0_, s1_, s2_, s3_, s4_, s5_, s6_, s7_, s8_, s9_, s10_, _⟩ => ⟨below_step q_ hb_, pw_cell_below hb_ s0_, pw_cell_below hb_ s1_, pw_cell_below hb_ s2_, pw_cell_below hb_ s3_, pw_cell_below hb_ s4_, pw_cell_below hb_ s5_, pw_cell_below hb_ s6_, pw_cell_below hb_ s7_, pw_cell_below hb_ s8_, pw_cell_below hb_ s9_, pw_cell_below hb_ s10_, trivial⟩⟩)
    refine region_by _ sAtE (by kernel_rfl) sAtE_ok rfl (fun d _ _ _ _ h => by cases d <;> exact h) HK_.out ⟨HB.out, g0, r0, r1, r2, r3, r4, x0, x1, x2, x3, x4, trivial⟩ ?_
    intro u hS
    clear g0 r0 r1 r2 r3 r4 x0 x1 x2 x3 x4
    repeat (first | (refine h_off gt_ (by rfl) ?_; intro a_ ha_; (simp only [Act.put, pu1, pu2, pu3] at ha_); subst ha_) | (refine h_on (v := ?_) gt_ (by rfl) ?_ ?_; rotate_left; (· rintro w_ ⟨-, s0_, s1_, s2_, s3_, s4_, s5_, s6_, s7_, s8_, s9_, s10_, -⟩; go_simp; with_reducible rfl); intro a_ ha_; (simp only [Act.put, pu1, pu2, pu3] at ha_); subst ha_) | (refine h_offc hS gt_ (by rfl) ?_; intro a_ ha_; (simp only [Act.put, pu1, pu2, pu3] at ha_); subst ha_))
    refine h_end ?_
    clear HK_ HB
    obtain ⟨hB_, g0, r0, r1, r2, r3, r4, x0, x1, x2, x3, x4, -⟩ := hS
    have HB := Aside0.mk hB_
    clear hB_
    go_wp2
    go_roundw
    case rel => exact ⟨j + 1, by omega, by go_num, ⟨fun t ht => by
     rcases Nat.lt_succ_iff_lt_or_eq.1 ht with h | rfl
     ·exact H1.out t h
     ·rw [HY.out]; exact HNE.out⟩, ⟨g0⟩, ⟨x0⟩, ⟨x1⟩, ⟨x2⟩, ⟨x3⟩, ⟨x4⟩, HB⟩
    case measure => simp [intOf]; omega
  ·have HM := Aside0.mk (show ¬ x ∈ es by
    intro hm
    obtain ⟨t, ht, rfl⟩ := List.getElem_of_mem hm
    exact H1.out t (by omega) (eat_lt' ht))
   go_wp2_with (fail)
   go_ret
   exact ⟨⟨-1, by omega, ⟨fun h => by omega, fun h => absurd h HM.out⟩, rfl⟩, HB.out⟩
set_option maxHeartbeats 3200000 in
set_option maxRecDepth 100000 in
theorem cntN_calls (A : Option Addr) (c : Nat) (ns : List Nd) (B : Option Addr) (d : Nat) (es : List Eg) (a : Int) (w : World) (hr : kN.C w A ns.length ns) (hl : ns.length ≤ 1000000) :
 Calls Tryz.prog 56 #[.agg #[.slice A ns.length c, .slice B es.length d], .int .i64 a] w fun e w' => e = .returned (.int .i64 ((ns.countP fun y => y.lab == a : Nat) : Int)) ∧ Below w.heap.size w w' := by
 have HR := Aside0.mk hr
 have HL := Aside0.mk hl
 generalize hr : (ns.countP fun y => y.lab == a) = r
 have HE := Aside0.mk hr
 clear hr hl
 go_enter Tryz.func56, Tryz.ntmps56
 go_wp2_with (fail)
 go_loopw [5, 6] (fun s5 s6 wr => ∃ j : Nat, j ≤ ns.length ∧ s5 = .int .i64 (((ns.take j).countP fun y => y.lab == a : Nat) : Int) ∧ s6 = .int .i64 (j : Int) ∧ Aside0 (wr.cell? ⟨w.heap.size, 0, none⟩ = some (.slice A ns.length c)) ∧ Aside0 (Below w.heap.size w wr)) (fun _ s6 _ => (ns.length - intOf s6).toNat)
 case atStart => exact ⟨0, Nat.zero_le _, by simp, rfl, ⟨by simp⟩, ⟨below_alloc (Below.refl _ _) _⟩⟩
 case round =>
  obtain ⟨j, hj, rfl, rfl, Q0, HB⟩ := hrel
  have hl := HL.out
  have g0 := Q0.out
  have hcj : ((ns.take j).countP fun y => y.lab == a) ≤ 1000000 := Nat.le_trans List.countP_le_length (by rw [List.length_take]; omega)
  by_cases hlt : j < ns.length
  ·obtain ⟨ad, e1, r0, r1⟩ := nd_at (Kd.C_below HR.out HB.out) j hlt
   cases e1
   have HT := Aside0.mk (count_snoc hlt a)
   generalize hy : at_ ns j = y at r0 r1 HT
   clear hy
   generalize hcn : ((ns.take j).countP fun y => y.lab == a) = cnt at hcj HT
   clear hcn
   cases hb : (y.lab == a)
   all_goals
    rw [hb] at HT
    go_wp2
    go_roundw
    case rel => exact ⟨j + 1, by omega, by rw [HT.out]; go_num, by go_num, ⟨g0⟩, HB⟩
    case measure => simp [intOf]; omega
  ·obtain rfl : j = ns.length := by omega
   rw [List.take_length] at hcj ⊢
   rw [HE.out] at hcj ⊢
   go_wp2
   go_ret
   exact ⟨rfl, HB.out⟩
set_option maxHeartbeats 3200000 in
set_option maxRecDepth 100000 in
theorem cntE_calls (A : Option Addr) (c : Nat) (ns : List Nd) (B : Option Addr) (d : Nat) (es : List Eg) (a : Int) (w : World) (hr : kE.C w B es.length es) (hl : es.length ≤ 1000000) :
 Calls Tryz.prog 57 #[.agg #[.slice A ns.length c, .slice B es.length d], .int .i64 a] w fun e w' => e = .returned (.int .i64 ((es.countP fun y => y.lab == a : Nat) : Int)) ∧ Below w.heap.size w w' := by
 have HR := Aside0.mk hr
 have HL := Aside0.mk hl
 generalize hr : (es.countP fun y => y.lab == a) = r
 have HE := Aside0.mk hr
 clear hr hl
 go_enter Tryz.func57, Tryz.ntmps57
 go_wp2_with (fail)
 go_loopw [5, 6] (fun s5 s6 wr => ∃ j : Nat, j ≤ es.length ∧ s5 = .int .i64 (((es.take j).countP fun y => y.lab == a : Nat) : Int) ∧ s6 = .int .i64 (j : Int) ∧ Aside0 (wr.cell? ⟨w.heap.size, 1, none⟩ = some (.slice B es.length d)) ∧ Aside0 (Below w.heap.size w wr)) (fun _ s6 _ => (es.length - intOf s6).toNat)
 case atStart => exact ⟨0, Nat.zero_le _, by simp, rfl, ⟨by simp⟩, ⟨below_alloc (Below.refl _ _) _⟩⟩
 case round =>
  obtain ⟨j, hj, rfl, rfl, Q0, HB⟩ := hrel
  have hl := HL.out
  have g0 := Q0.out
  have hcj : ((es.take j).countP fun y => y.lab == a) ≤ 1000000 := Nat.le_trans List.countP_le_length (by rw [List.length_take]; omega)
  by_cases hlt : j < es.length
  ·obtain ⟨ad, e1, r0, r1, r2, r3, r4⟩ := eg_at (Kd.C_below HR.out HB.out) j hlt
   cases e1
   have HT := Aside0.mk (count_snocE hlt a)
   generalize hy : eat es j = y at r0 r1 r2 r3 r4 HT
   clear hy
   generalize hcn : ((es.take j).countP fun y => y.lab == a) = cnt at hcj HT
   clear hcn
   cases hb : (y.lab == a)
   all_goals
    rw [hb] at HT
    go_wp2
    go_roundw
    case rel => exact ⟨j + 1, by omega, by rw [HT.out]; go_num, by go_num, ⟨g0⟩, HB⟩
    case measure => simp [intOf]; omega
  ·obtain rfl : j = es.length := by omega
   rw [List.take_length] at hcj ⊢
   rw [HE.out] at hcj ⊢
   go_wp2
   go_ret
   exact ⟨rfl, HB.out⟩
end Go.Proofs.YtogmbeifbjgphaaGreat.R
