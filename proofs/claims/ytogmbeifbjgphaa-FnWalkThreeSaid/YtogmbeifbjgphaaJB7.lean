/- The cells of a block of known length; blocks laid at a function's entry; impl.GraphDo; The reference: labels, nodes; The reference: edges, where things stand, how many there are. -/
import Derived.Laws.CopyOwn
import Derived.Test.YtogmbeifbjgphaaJB4
import Derived.Test.YtogmbeifbjgphaaJB6
namespace Go.Proofs.Ytogmbeifbjgphaa.R
open Go.RowKit Go.Proofs.YtogmbeifbjgphaaV.PrintWords Go.Proofs.YtogmbeifbjgphaaV.PrintLast Go.Proofs.YtogmbeifbjgphaaV.PrintMore
set_option linter.unusedVariables false
section
variable {w u : World} {g : Nat} {t : TypeId} {a b c d e f i j : Value}
theorem cs2 (h : w.heap[g]? = some (.cells #[a, b] t (0, 0))) : w.cell? ⟨g, 0, none⟩ = some a ∧ w.cell? ⟨g, 1, none⟩ = some b := ⟨(blk_cell h 0).trans rfl, (blk_cell h 1).trans rfl⟩
theorem cs5 (h : w.heap[g]? = some (.cells #[a, b, c, d, e] t (0, 0))) : w.cell? ⟨g, 0, none⟩ = some a ∧ w.cell? ⟨g, 1, none⟩ = some b ∧ w.cell? ⟨g, 2, none⟩ = some c ∧ w.cell? ⟨g, 3, none⟩ = some d ∧ w.cell? ⟨g, 4, none⟩ = some e :=
  ⟨(blk_cell h 0).trans rfl, (blk_cell h 1).trans rfl, (blk_cell h 2).trans rfl, (blk_cell h 3).trans rfl, (blk_cell h 4).trans rfl⟩
theorem cs8 (h : w.heap[g]? = some (.cells #[a, b, c, d, e, f, i, j] t (0, 0))) : w.cell? ⟨g, 0, none⟩ = some a ∧ w.cell? ⟨g, 1, none⟩ = some b ∧ w.cell? ⟨g, 2, none⟩ = some c ∧ w.cell? ⟨g, 3, none⟩ = some d ∧ w.cell? ⟨g, 4, none⟩ = some e ∧ w.cell? ⟨g, 5, none⟩ = some f ∧ w.cell? ⟨g, 6, none⟩ = some i ∧ w.cell? ⟨g, 7, none⟩ = some j :=
  ⟨(blk_cell h 0).trans rfl, (blk_cell h 1).trans rfl, (blk_cell h 2).trans rfl, (blk_cell h 3).trans rfl, (blk_cell h 4).trans rfl, (blk_cell h 5).trans rfl, (blk_cell h 6).trans rfl, (blk_cell h 7).trans rfl⟩
end
section
variable (w : World) (a b c d : Array Value) (p q r s : TypeId)
theorem al1 : Aside0 ((w.alloc (.cells a p)).heap[w.heap.size]? = some (.cells a p (0, 0))) ∧ Aside0 (Below w.heap.size w (w.alloc (.cells a p))) := ⟨⟨blk_new w _⟩, ⟨below_alloc (Below.refl _ _) _⟩⟩
theorem al2 : Aside0 (((w.alloc (.cells a p)).alloc (.cells b q)).heap[w.heap.size]? = some (.cells a p (0, 0))) ∧ Aside0 (((w.alloc (.cells a p)).alloc (.cells b q)).heap[w.heap.size + 1]? = some (.cells b q (0, 0))) ∧ Aside0 (Below w.heap.size w ((w.alloc (.cells a p)).alloc (.cells b q))) :=
  ⟨⟨blk_alloc (blk_new w _) _⟩, ⟨by have h := blk_new (w.alloc (.cells a p)) (.cells b q); simpa using h⟩, ⟨below_alloc (below_alloc (Below.refl _ _) _) _⟩⟩
theorem al3 : Aside0 ((((w.alloc (.cells a p)).alloc (.cells b q)).alloc (.cells c r)).heap[w.heap.size]? = some (.cells a p (0, 0))) ∧ Aside0 ((((w.alloc (.cells a p)).alloc (.cells b q)).alloc (.cells c r)).heap[w.heap.size + 1]? = some (.cells b q (0, 0))) ∧ Aside0 ((((w.alloc (.cells a p)).alloc (.cells b q)).alloc (.cells c r)).heap[w.heap.size + 2]? = some (.cells c r (0, 0))) ∧ Aside0 (Below w.heap.size w (((w.alloc (.cells a p)).alloc (.cells b q)).alloc (.cells c r))) := by
  obtain ⟨h1, h2, h3⟩ := al2 w a b p q
  exact ⟨⟨blk_alloc h1.out _⟩, ⟨blk_alloc h2.out _⟩, ⟨by have h := blk_new ((w.alloc (.cells a p)).alloc (.cells b q)) (.cells c r); simpa using h⟩, ⟨below_alloc h3.out _⟩⟩
end
section
variable {w u v : World} {g k B : Nat} {cs old : Array Value} {t : TypeId} {o : Obj}
theorem so_ (e : u = w.setRow g cs) (h : w.heap[k]? = some o) (hne : k ≠ g) : u.heap[k]? = some o := by
  rw [e]
  exact (setRow_other w g k cs hne).trans h
theorem sh_ (e : u = w.setRow g cs) (h : w.heap[g]? = some (.cells old t (0, 0))) : u.heap[g]? = some (.cells cs t (0, 0)) := by
  rw [e]
  exact setRow_heap _ _ _ _ _ _ h
theorem sb_ (e : u = w.setRow g cs) (h : Below B v w) (hg : B ≤ g) : Below B v u := by
  rw [e]
  exact below_setRow h hg _
end
end Go.Proofs.Ytogmbeifbjgphaa.R
namespace Go.Proofs.Ytogmbeifbjgphaa.R
open Go.RowKit Go.Proofs.YtogmbeifbjgphaaV.PrintWords Go.Proofs.YtogmbeifbjgphaaV.PrintLast Go.Proofs.YtogmbeifbjgphaaV.PrintMore Go.Proofs.Ytogmbeifbjgphaa.M
set_option linter.unusedVariables false
set_option linter.unusedSimpArgs false
attribute [local go_sem high] eqN eqE
theorem Own.far {w u : World} {base G : Nat} {A B : Option Addr} {c d : Nat} {ns : List Nd} {es : List Eg} (h : Own w base G A c ns B d es) {row : Option Nat} (hg : w.grownBy u row) (hk : ∀ k, row = some k → k < base) : Own u base G A c ns B d es :=
  ⟨(hg.block G (blk_lt h.blk) (fun e => by have := hk G e.symm; have := h.gb; omega)).trans h.blk, R_farN h.rn hg (fun k h1 e => by have := hk k e.symm; have := Kd.R_base h.rn k h1; omega), R_farE h.re hg (fun k h1 e => by have := hk k e.symm; have := Kd.R_base h.re k h1; omega), h.off, h.gn, h.ge, h.gb⟩
end Go.Proofs.Ytogmbeifbjgphaa.R
namespace Go.Proofs.Ytogmbeifbjgphaa.R
open Go.RowKit Go.Proofs.YtogmbeifbjgphaaV.PrintWords Go.Proofs.YtogmbeifbjgphaaV.PrintLast Go.Proofs.YtogmbeifbjgphaaV.PrintMore Go.Proofs.Ytogmbeifbjgphaa.M
set_option linter.unusedVariables false
set_option linter.unusedSimpArgs false
attribute [local go_sem high] eqN eqE
set_option maxHeartbeats 400000 in
theorem sLabelOk_calls (a : Int) (w : World) : Calls Try.prog 119 #[.int .i64 a] w fun e w' => e = .returned (.bool (okL a)) ∧ w = w' := by
  unfold okL
  by_cases h : 0 ≤ a
  · go_enter Try.func119, Try.ntmps119
    go_wp2
    go_ret
    exact ⟨by simp [h], rfl⟩
  · go_enter Try.func119, Try.ntmps119
    go_wp2
    go_ret
    exact ⟨retB (by rw [decide_eq_false (show ¬ 0 ≤ a by omega)]; rfl), rfl⟩
set_option maxHeartbeats 800000 in
theorem two_calls (n : Nat) (hn : n ≤ 10) (w : World) : Calls Try.prog 226 #[.int .i64 (n : Int)] w fun e w' => e = .returned (.int .i64 ((2 ^ n : Nat) : Int)) ∧ w = w' := by
  generalize hr : 2 ^ n = r
  have HR := Aside0.mk hr
  clear hr
  go_enter Try.func226, Try.ntmps226
  go_wp2
  go_loopw [3, 4] (fun s3 s4 wr => ∃ i : Nat, i ≤ n ∧ s3 = .int .i64 ((2 ^ i : Nat) : Int) ∧ s4 = .int .i64 (i : Int) ∧ w = wr) (fun _ s4 _ => (n - intOf s4).toNat)
  case atStart => exact ⟨0, Nat.zero_le _, rfl, rfl, rfl⟩
  case round =>
    obtain ⟨i, hi, rfl, rfl, rfl⟩ := hrel
    have hb : 2 ^ i ≤ 1024 := Nat.le_trans (Nat.pow_le_pow_right (by decide) (show i ≤ 10 by omega)) (by decide)
    have HT := Aside0.mk (Nat.pow_succ 2 i)
    have HS := Aside0.mk HR.out
    by_cases hlt : i < n
    · generalize hp : 2 ^ i = p at hb HT
      clear hp
      go_wp2
      go_roundw
      case rel => exact ⟨i + 1, by omega, by rw [HT.out]; go_num, by go_num, by trivial⟩
      case measure => simp [intOf]; omega
    · obtain rfl : i = n := by omega
      rw [HS.out]
      go_wp2
      go_ret
      exact ⟨rfl, rfl⟩
/-- Has the label the letter? -/
def hasL (a : Int) (i : Nat) : Bool := (a / ((2 ^ i : Nat) : Int)) % 2 == 1
theorem has_fin : ∀ x : Fin 8, ∀ i : Fin 3, ((wrap64 (((x.val : Nat) : Int).tdiv ((2 ^ i.val : Nat) : Int))).tmod 2 == 1) = hasL ((x.val : Nat) : Int) i.val := by decide +kernel
set_option maxHeartbeats 800000 in
theorem has_calls (a : Int) (i : Nat) (hi : i ≤ 2) (w : World) : Calls Try.prog 206 #[.int .i64 a, .int .i64 (i : Int)] w fun e w' => (∃ b, (okL a = true → b = hasL a i) ∧ e = .returned (.bool b)) ∧ w = w' := by
  have HT := Aside0.mk (two_calls i (by omega))
  obtain ⟨p, hp⟩ : ∃ p : Nat, p = 2 ^ i := ⟨_, rfl⟩
  have hpp : 1 ≤ p ∧ p ≤ 4 := by
    subst hp
    match i, hi with
    | 0, _ => decide
    | 1, _ => decide
    | 2, _ => decide
  have hp0 : ¬ p = 0 := by omega
  have hpi : ¬ (p : Int) = 0 := by omega
  rw [← hp] at HT
  have HP := Aside0.mk hp
  clear hp
  go_enter Try.func206, Try.ntmps206
  go_wp2_with (first | (go_at_call 226; (refine (HT.out _).mono ?_); rintro e w1 ⟨rfl, rfl⟩))
  go_ret
  refine ⟨⟨_, fun h => ?_, rfl⟩, rfl⟩
  obtain ⟨h0, h7⟩ := okL_iff.1 h
  obtain ⟨x, rfl⟩ := Int.eq_ofNat_of_zero_le h0
  rw [HP.out]
  exact has_fin ⟨x, by omega⟩ ⟨i, by omega⟩
theorem under_fin : ∀ x y : Fin 8, under ((x.val : Nat) : Int) ((y.val : Nat) : Int) = ((!hasL ((x.val : Nat) : Int) 0 || hasL ((y.val : Nat) : Int) 0) && ((!hasL ((x.val : Nat) : Int) 1 || hasL ((y.val : Nat) : Int) 1) && (!hasL ((x.val : Nat) : Int) 2 || hasL ((y.val : Nat) : Int) 2))) := by decide +kernel
theorem under_has {a b : Int} (ha : okL a = true) (hb : okL b = true) : under a b = ((!hasL a 0 || hasL b 0) && ((!hasL a 1 || hasL b 1) && (!hasL a 2 || hasL b 2))) := by
  obtain ⟨a0, a7⟩ := okL_iff.1 ha
  obtain ⟨b0, b7⟩ := okL_iff.1 hb
  obtain ⟨x, rfl⟩ := Int.eq_ofNat_of_zero_le a0
  obtain ⟨y, rfl⟩ := Int.eq_ofNat_of_zero_le b0
  exact under_fin ⟨x, by omega⟩ ⟨y, by omega⟩
set_option maxHeartbeats 3200000 in
theorem sUnder_calls (a b : Int) (ha : okL a = true) (hb : okL b = true) (w : World) : Calls Try.prog 175 #[.int .i64 a, .int .i64 b] w fun e w' => e = .returned (.bool (under a b)) ∧ w = w' := by
  have HA := Aside0.mk ha
  have HB := Aside0.mk hb
  generalize hu : under a b = u
  have HU := Aside0.mk hu
  clear ha hb hu
  go_enter Try.func175, Try.ntmps175
  go_wp2
  go_loopw [5] (fun s5 wr => ∃ i : Nat, i ≤ 3 ∧ s5 = .int .i64 (i : Int) ∧ Aside0 (∀ t, t < i → (!hasL a t || hasL b t) = true) ∧ w = wr) (fun s5 _ => (3 - intOf s5).toNat)
  case atStart => exact ⟨0, Nat.zero_le _, rfl, ⟨fun t ht => absurd ht (Nat.not_lt_zero _)⟩, by trivial⟩
  case round =>
    obtain ⟨i, hi, rfl, H1, rfl⟩ := hrel
    by_cases hlt : i < 3
    · have hi2 : i ≤ 2 := by omega
      cases h1 : hasL a i with
      | false =>
        have HH1 := Aside0.mk h1
        clear h1
        go_wp2_with (first | (go_at_call 206; ((with_reducible refine (has_calls a i hi2 _).mono ?_); rintro e w1 ⟨⟨b1, hb1, rfl⟩, rfl⟩; rw [hb1 HA.out, HH1.out]; clear hb1)))
        go_roundw
        case rel => exact ⟨i + 1, by omega, by go_num, ⟨fun t ht => by
          rcases Nat.lt_succ_iff_lt_or_eq.1 ht with h | rfl
          · exact H1.out t h
          · rw [HH1.out]; rfl⟩, by trivial⟩
        case measure => simp [intOf]; omega
      | true =>
        have HH1 := Aside0.mk h1
        clear h1
        cases h2 : hasL b i with
        | true =>
          have HH2 := Aside0.mk h2
          clear h2
          go_wp2_with (first | (go_at_call 206; ((with_reducible refine (has_calls a i hi2 _).mono ?_); rintro e w1 ⟨⟨b1, hb1, rfl⟩, rfl⟩; rw [hb1 HA.out, HH1.out]; clear hb1)) | (go_at_call 206; ((with_reducible refine (has_calls b i hi2 _).mono ?_); rintro e w1 ⟨⟨b1, hb1, rfl⟩, rfl⟩; rw [hb1 HB.out, HH2.out]; clear hb1)))
          go_roundw
          case rel => exact ⟨i + 1, by omega, by go_num, ⟨fun t ht => by
            rcases Nat.lt_succ_iff_lt_or_eq.1 ht with h | rfl
            · exact H1.out t h
            · rw [HH1.out, HH2.out]; rfl⟩, by trivial⟩
          case measure => simp [intOf]; omega
        | false =>
          have HH2 := Aside0.mk h2
          clear h2
          have HF := Aside0.mk (show u = false by
            rw [← HU.out, under_has HA.out HB.out]
            have h3 := HH1.out
            have h4 := HH2.out
            match i, hi2, h3, h4 with
            | 0, _, h3, h4 => rw [h3, h4]; rfl
            | 1, _, h3, h4 => rw [h3, h4]; simp
            | 2, _, h3, h4 => rw [h3, h4]; simp)
          go_wp2_with (first | (go_at_call 206; ((with_reducible refine (has_calls a i hi2 _).mono ?_); rintro e w1 ⟨⟨b1, hb1, rfl⟩, rfl⟩; rw [hb1 HA.out, HH1.out]; clear hb1)) | (go_at_call 206; ((with_reducible refine (has_calls b i hi2 _).mono ?_); rintro e w1 ⟨⟨b1, hb1, rfl⟩, rfl⟩; rw [hb1 HB.out, HH2.out]; clear hb1)))
          go_ret
          exact ⟨retB HF.out.symm, rfl⟩
    · obtain rfl : i = 3 := by omega
      have HF := Aside0.mk (show u = true by
        rw [← HU.out, under_has HA.out HB.out, H1.out 0 (by decide), H1.out 1 (by decide), H1.out 2 (by decide)]
        rfl)
      go_wp2
      go_ret
      exact ⟨retB HF.out.symm, rfl⟩
set_option maxHeartbeats 1600000 in
theorem sNodeOk_calls (n : Nd) (w : World) : Calls Try.prog 97 #[.agg #[.int .i64 n.lab, .int .i64 n.num]] w fun e w' => e = .returned (.bool (okN n)) ∧ Below w.heap.size w w' := by
  have HU := Aside0.mk (show okN n = (okL n.lab && (decide (0 ≤ n.num) && decide (n.num ≤ 40))) from by rw [okN, Bool.and_assoc])
  cases h1 : okL n.lab with
  | false =>
    have H1 := Aside0.mk h1
    have HG := Aside0.mk (show okN n = false by rw [HU.out, h1]; rfl)
    clear h1 HU
    go_enter Try.func97, Try.ntmps97
    go_wp2_with (first | (go_at_call 119; (refine (sLabelOk_calls n.lab _).mono ?_); rintro e w1 ⟨rfl, rfl⟩; rw [H1.out]))
    go_ret
    exact ⟨retB HG.out.symm, below_alloc (Below.refl _ _) _⟩
  | true =>
    have H1 := Aside0.mk h1
    clear h1
    by_cases h2 : 0 ≤ n.num
    · have HG := Aside0.mk (show okN n = decide (n.num ≤ 40) by rw [HU.out, H1.out, decide_eq_true h2]; rfl)
      clear HU
      go_enter Try.func97, Try.ntmps97
      go_wp2_with (first | (go_at_call 119; (refine (sLabelOk_calls n.lab _).mono ?_); rintro e w1 ⟨rfl, rfl⟩; rw [H1.out]))
      go_ret
      exact ⟨retB HG.out.symm, below_alloc (Below.refl _ _) _⟩
    · have HG := Aside0.mk (show okN n = false by rw [HU.out, H1.out, decide_eq_false h2]; rfl)
      clear HU
      go_enter Try.func97, Try.ntmps97
      go_wp2_with (first | (go_at_call 119; (refine (sLabelOk_calls n.lab _).mono ?_); rintro e w1 ⟨rfl, rfl⟩; rw [H1.out]))
      go_ret
      exact ⟨retB HG.out.symm, below_alloc (Below.refl _ _) _⟩
set_option maxHeartbeats 800000 in
theorem sCode_calls (n : Nd) (h : okN n = true) (w : World) : Calls Try.prog 98 #[.agg #[.int .i64 n.lab, .int .i64 n.num]] w fun e w' => e = .returned (.int .i64 (code n)) ∧ Below w.heap.size w w' := by
  obtain ⟨⟨h0, h7⟩, n0, n40⟩ := okN_iff.1 h
  have HG := Aside0.mk (show code n = n.lab * 64 + n.num by unfold code; omega)
  clear h
  go_enter Try.func98, Try.ntmps98
  go_wp2
  go_ret
  exact ⟨retI (by rw [HG.out]), below_alloc (Below.refl _ _) _⟩
end Go.Proofs.Ytogmbeifbjgphaa.R
namespace Go.Proofs.Ytogmbeifbjgphaa.R
open Go.RowKit Go.Proofs.YtogmbeifbjgphaaV.PrintWords Go.Proofs.YtogmbeifbjgphaaV.PrintLast Go.Proofs.YtogmbeifbjgphaaV.PrintMore Go.Proofs.Ytogmbeifbjgphaa.M
set_option linter.unusedVariables false
set_option linter.unusedSimpArgs false
attribute [local go_sem high] eqN eqE
theorem okN_lab {n : Nd} (h : okN n = true) : okL n.lab = true := okL_iff.2 (okN_iff.1 h).1
abbrev sEdgeOkS : List (Nat × Bool) := [(0, true), (1, true), (2, false), (3, true), (4, true), (5, true), (6, false), (7, true), (8, true), (9, true), (10, true), (11, false), (12, true), (13, true), (14, true), (15, true), (17, true), (18, true), (16, false), (19, false), (20, true), (21, true), (22, true), (23, true), (24, true), (25, true), (26, true), (27, true), (28, false), (29, true), (30, true), (31, true), (32, true), (33, true), (34, true), (35, true), (36, false), (37, true), (38, true)]
theorem sEdgeOkS_ok : schedB .any (opsOf Try.f99 1) sEdgeOkS (Array.replicate (opsOf Try.f99 1).size false) = true := by kernel_rfl
set_option maxHeartbeats 1600000 in
set_option maxRecDepth 100000 in
theorem spEdgeOk_calls (x : Eg) (w : World) : Calls Try.prog 99 #[.agg #[.int .i64 x.lab, .int .i64 x.a.lab, .int .i64 x.a.num, .int .i64 x.b.lab, .int .i64 x.b.num]] w fun e w' => e = .returned (.bool (okE x)) ∧ Below w.heap.size w w' := by
  rcases okE_tests x with ⟨h0, h1, h2, h3, h4, h5, h6⟩ | ⟨h0, h1⟩ | ⟨h0, h1, h2⟩ | ⟨h0, h1, h2, h3⟩ | ⟨h0, h1, h2, h3, h4⟩ | ⟨h0, h1, h2, h3, h4, h5⟩ | ⟨h0, h1, h2, h3, h4, h5, h6⟩
  all_goals
    try rw [codeI_ok h2, codeI_ok h3] at h4
    have H0 := Aside0.mk h0
    have H1 := Aside0.mk h1
    clear h0 h1
    try (have H2 := Aside0.mk h2; clear h2)
    try (have H3 := Aside0.mk h3; clear h3)
    try (have H5 := Aside0.mk h5; clear h5)
    try (have H6 := Aside0.mk h6; clear h6)
    go_enter Try.func99, Try.ntmps99
    go_wp2_with (fail)
    refine named _ ?_
    intro W hW
    obtain ⟨c0, c1, c2, c3, c4, hB⟩ := one_eg hW
    have HB := Aside0.mk hB
    clear hW hB
    have HK_ := Aside0.mk (show Reg (fun u_ => Below w.heap.size w u_ ∧ u_.cell? ⟨w.heap.size, 0, none⟩ = some (.int .i64 x.lab) ∧ u_.cell? ⟨w.heap.size, 1, none⟩ = some (.int .i64 x.a.lab) ∧ u_.cell? ⟨w.heap.size, 2, none⟩ = some (.int .i64 x.a.num) ∧ u_.cell? ⟨w.heap.size, 3, none⟩ = some (.int .i64 x.b.lab) ∧ u_.cell? ⟨w.heap.size, 4, none⟩ = some (.int .i64 x.b.num) ∧ True) from ⟨fun _ _ hb_ ⟨q_, s0_, s1_, s2_, s3_, s4_, _⟩ => ⟨below_step q_ hb_, pw_cell_below hb_ s0_, pw_cell_below hb_ s1_, pw_cell_below hb_ s2_, pw_cell_below hb_ s3_, pw_cell_below hb_ s4_, trivial⟩⟩)
    refine region_by _ sEdgeOkS (by kernel_rfl) sEdgeOkS_ok rfl (fun d _ _ _ _ h => by cases d <;> exact h) HK_.out ⟨HB.out, c0, c1, c2, c3, c4, trivial⟩ ?_
    intro u hS
    clear c0 c1 c2 c3 c4
    repeat (first | (refine h_off gt_ (by rfl) ?_; intro a_ ha_; (simp only [Act.put, List.setIfInBounds_toArray, List.set_cons_zero, List.set_cons_succ] at ha_); subst ha_) | (refine h_on (v := ?_) gt_ (by rfl) ?_ ?_; rotate_left; (· rintro w_ ⟨-, s0_, s1_, s2_, s3_, s4_, -⟩; go_simp; with_reducible rfl); intro a_ ha_; (simp only [Act.put, List.setIfInBounds_toArray, List.set_cons_zero, List.set_cons_succ] at ha_); subst ha_) | (refine h_offc hS gt_ (by rfl) ?_; intro a_ ha_; (simp only [Act.put, List.setIfInBounds_toArray, List.set_cons_zero, List.set_cons_succ] at ha_); subst ha_) | (refine h_call (f := 119) (args := #[.int .i64 x.lab]) HK_.out hS Try.func119 (by kernel_rfl) rfl gt_ (by rfl) (by rfl) mp_ ?_; (with_reducible refine (sLabelOk_calls x.lab _).mono ?_); rintro e_ u_ ⟨rfl, rfl⟩; rw [H1.out]; refine ⟨_, rfl, Below.refl _ _, fun a_ ha_ hS_ => ?_⟩; (simp only [Act.put, List.setIfInBounds_toArray, List.set_cons_zero, List.set_cons_succ] at ha_); subst ha_; clear hS; have hS := hS_; clear hS_) | (refine h_call (f := 97) (args := #[.agg #[.int .i64 x.a.lab, .int .i64 x.a.num]]) HK_.out hS Try.func97 (by kernel_rfl) rfl gt_ (by rfl) (by rfl) mp_ ?_; (with_reducible refine (sNodeOk_calls x.a _).mono ?_); rintro e_ u_ ⟨rfl, hb_⟩; rw [H2.out]; refine ⟨_, rfl, hb_, fun a_ ha_ hS_ => ?_⟩; (simp only [Act.put, List.setIfInBounds_toArray, List.set_cons_zero, List.set_cons_succ] at ha_); subst ha_; clear hS; have hS := hS_; clear hS_; clear hb_) | (refine h_call (f := 97) (args := #[.agg #[.int .i64 x.b.lab, .int .i64 x.b.num]]) HK_.out hS Try.func97 (by kernel_rfl) rfl gt_ (by rfl) (by rfl) mp_ ?_; (with_reducible refine (sNodeOk_calls x.b _).mono ?_); rintro e_ u_ ⟨rfl, hb_⟩; rw [H3.out]; refine ⟨_, rfl, hb_, fun a_ ha_ hS_ => ?_⟩; (simp only [Act.put, List.setIfInBounds_toArray, List.set_cons_zero, List.set_cons_succ] at ha_); subst ha_; clear hS; have hS := hS_; clear hS_; clear hb_) | (refine h_call (f := 98) (args := #[.agg #[.int .i64 x.a.lab, .int .i64 x.a.num]]) HK_.out hS Try.func98 (by kernel_rfl) rfl gt_ (by rfl) (by rfl) mp_ ?_; (with_reducible refine (sCode_calls x.a H2.out _).mono ?_); rintro e_ u_ ⟨rfl, hb_⟩; refine ⟨_, rfl, hb_, fun a_ ha_ hS_ => ?_⟩; (simp only [Act.put, List.setIfInBounds_toArray, List.set_cons_zero, List.set_cons_succ] at ha_); subst ha_; clear hS; have hS := hS_; clear hS_; clear hb_) | (refine h_call (f := 98) (args := #[.agg #[.int .i64 x.b.lab, .int .i64 x.b.num]]) HK_.out hS Try.func98 (by kernel_rfl) rfl gt_ (by rfl) (by rfl) mp_ ?_; (with_reducible refine (sCode_calls x.b H3.out _).mono ?_); rintro e_ u_ ⟨rfl, hb_⟩; refine ⟨_, rfl, hb_, fun a_ ha_ hS_ => ?_⟩; (simp only [Act.put, List.setIfInBounds_toArray, List.set_cons_zero, List.set_cons_succ] at ha_); subst ha_; clear hS; have hS := hS_; clear hS_; clear hb_) | (refine h_call (f := 175) (args := #[.int .i64 x.a.lab, .int .i64 x.lab]) HK_.out hS Try.func175 (by kernel_rfl) rfl gt_ (by rfl) (by rfl) mp_ ?_; (with_reducible refine (sUnder_calls x.a.lab x.lab (okN_lab H2.out) H1.out _).mono ?_); rintro e_ u_ ⟨rfl, rfl⟩; rw [H5.out]; refine ⟨_, rfl, Below.refl _ _, fun a_ ha_ hS_ => ?_⟩; (simp only [Act.put, List.setIfInBounds_toArray, List.set_cons_zero, List.set_cons_succ] at ha_); subst ha_; clear hS; have hS := hS_; clear hS_) | (refine h_call (f := 175) (args := #[.int .i64 x.b.lab, .int .i64 x.lab]) HK_.out hS Try.func175 (by kernel_rfl) rfl gt_ (by rfl) (by rfl) mp_ ?_; (with_reducible refine (sUnder_calls x.b.lab x.lab (okN_lab H3.out) H1.out _).mono ?_); rintro e_ u_ ⟨rfl, rfl⟩; rw [H6.out]; refine ⟨_, rfl, Below.refl _ _, fun a_ ha_ hS_ => ?_⟩; (simp only [Act.put, List.setIfInBounds_toArray, List.set_cons_zero, List.set_cons_succ] at ha_); subst ha_; clear hS; have hS := hS_; clear hS_))
    refine h_end ?_
    clear HK_ HB
    obtain ⟨hB_, c0, c1, c2, c3, c4, -⟩ := hS
    have HB := Aside0.mk hB_
    clear hB_
    go_wp2
    go_ret
    exact ⟨retB (by rw [H0.out]), HB.out⟩
abbrev sLess : List (Nat × Bool) := [(0, true), (1, true), (3, true), (4, true), (2, false), (5, false), (6, true), (7, true)]
theorem sLess4_ok : schedB .any (opsOf Try.f100 4) sLess (Array.replicate (opsOf Try.f100 4).size false) = true := by kernel_rfl
theorem sLess5_ok : schedB .any (opsOf Try.f100 5) sLess (Array.replicate (opsOf Try.f100 5).size false) = true := by kernel_rfl
abbrev sLess4 := sLess
abbrev sLess5 := sLess
set_option maxHeartbeats 3200000 in
set_option maxRecDepth 100000 in
theorem sLess_calls (a b : Eg) (ha : okE a = true) (hb : okE b = true) (w : World) : Calls Try.prog 100 #[.agg #[.int .i64 a.lab, .int .i64 a.a.lab, .int .i64 a.a.num, .int .i64 a.b.lab, .int .i64 a.b.num], .agg #[.int .i64 b.lab, .int .i64 b.a.lab, .int .i64 b.a.num, .int .i64 b.b.lab, .int .i64 b.b.num]] w fun e w' => e = .returned (.bool (decide (key a < key b))) ∧ Below w.heap.size w w' := by
  have HK := Aside0.mk (key_lt ha hb)
  have HA := Aside0.mk (okE_iff.1 ha)
  have HBO := Aside0.mk (okE_iff.1 hb)
  generalize hr : decide (key a < key b) = r
  have HR := Aside0.mk hr
  clear hr ha hb
  by_cases h1 : a.lab = b.lab
  · have q1 : (a.lab == b.lab) = true := beq_iff_eq.2 h1
    by_cases h2 : a.a = b.a
    · have HG := Aside0.mk (show r = decide (code a.b < code b.b) by
        rw [← HR.out]
        refine decide_eq_decide.2 (HK.out.trans ?_)
        rw [h1, h2]
        constructor
        · intro h; omega
        · intro h; omega)
      have q2 : (!a.a.lab == b.a.lab || !a.a.num == b.a.num) = false := by
        rw [h2]
        simp
      clear h1 h2
      go_enter Try.func100, Try.ntmps100
      go_wp2_with (fail)
      refine named _ ?_
      intro W hW
      obtain ⟨c0, c1, c2, c3, c4, c5, c6, c7, c8, c9, hB⟩ := two_eg hW
      have HB := Aside0.mk hB
      clear hW hB
      have HK_ := Aside0.mk (show Reg (fun u_ => Below w.heap.size w u_ ∧ u_.cell? ⟨w.heap.size, 0, none⟩ = some (.int .i64 a.lab) ∧ u_.cell? ⟨w.heap.size, 1, none⟩ = some (.int .i64 a.a.lab) ∧ u_.cell? ⟨w.heap.size, 2, none⟩ = some (.int .i64 a.a.num) ∧ u_.cell? ⟨w.heap.size, 3, none⟩ = some (.int .i64 a.b.lab) ∧ u_.cell? ⟨w.heap.size, 4, none⟩ = some (.int .i64 a.b.num) ∧ u_.cell? ⟨w.heap.size + 1, 0, none⟩ = some (.int .i64 b.lab) ∧ u_.cell? ⟨w.heap.size + 1, 1, none⟩ = some (.int .i64 b.a.lab) ∧ u_.cell? ⟨w.heap.size + 1, 2, none⟩ = some (.int .i64 b.a.num) ∧ u_.cell? ⟨w.heap.size + 1, 3, none⟩ = some (.int .i64 b.b.lab) ∧ u_.cell? ⟨w.heap.size + 1, 4, none⟩ = some (.int .i64 b.b.num) ∧ True) from ⟨fun _ _ hb_ ⟨q_, s0_, s1_, s2_, s3_, s4_, s5_, s6_, s7_, s8_, s9_, _⟩ => ⟨below_step q_ hb_, pw_cell_below hb_ s0_, pw_cell_below hb_ s1_, pw_cell_below hb_ s2_, pw_cell_below hb_ s3_, pw_cell_below hb_ s4_, pw_cell_below hb_ s5_, pw_cell_below hb_ s6_, pw_cell_below hb_ s7_, pw_cell_below hb_ s8_, pw_cell_below hb_ s9_, trivial⟩⟩)
      refine region_by _ sLess5 (by kernel_rfl) sLess5_ok rfl (fun d _ _ _ _ h => by cases d <;> exact h) HK_.out ⟨HB.out, c0, c1, c2, c3, c4, c5, c6, c7, c8, c9, trivial⟩ ?_
      intro u hS
      clear c0 c1 c2 c3 c4 c5 c6 c7 c8 c9
      repeat (first | (refine h_off gt_ (by rfl) ?_; intro a_ ha_; (simp only [Act.put, List.setIfInBounds_toArray, List.set_cons_zero, List.set_cons_succ] at ha_); subst ha_) | (refine h_on (v := ?_) gt_ (by rfl) ?_ ?_; rotate_left; (· rintro w_ ⟨-, s0_, s1_, s2_, s3_, s4_, s5_, s6_, s7_, s8_, s9_, -⟩; go_simp; with_reducible rfl); intro a_ ha_; (simp only [Act.put, List.setIfInBounds_toArray, List.set_cons_zero, List.set_cons_succ] at ha_); subst ha_) | (refine h_offc hS gt_ (by rfl) ?_; intro a_ ha_; (simp only [Act.put, List.setIfInBounds_toArray, List.set_cons_zero, List.set_cons_succ] at ha_); subst ha_) | (refine h_call (f := 98) (args := #[.agg #[.int .i64 a.b.lab, .int .i64 a.b.num]]) HK_.out hS Try.func98 (by kernel_rfl) rfl gt_ (by rfl) (by rfl) mp_ ?_; (with_reducible refine (sCode_calls a.b HA.out.2.2.1 _).mono ?_); rintro e_ u_ ⟨rfl, hb_⟩; refine ⟨_, rfl, hb_, fun a_ ha_ hS_ => ?_⟩; (simp only [Act.put, List.setIfInBounds_toArray, List.set_cons_zero, List.set_cons_succ] at ha_); subst ha_; clear hS; have hS := hS_; clear hS_; clear hb_) | (refine h_call (f := 98) (args := #[.agg #[.int .i64 b.b.lab, .int .i64 b.b.num]]) HK_.out hS Try.func98 (by kernel_rfl) rfl gt_ (by rfl) (by rfl) mp_ ?_; (with_reducible refine (sCode_calls b.b HBO.out.2.2.1 _).mono ?_); rintro e_ u_ ⟨rfl, hb_⟩; refine ⟨_, rfl, hb_, fun a_ ha_ hS_ => ?_⟩; (simp only [Act.put, List.setIfInBounds_toArray, List.set_cons_zero, List.set_cons_succ] at ha_); subst ha_; clear hS; have hS := hS_; clear hS_; clear hb_))
      refine h_end ?_
      clear HK_ HB
      obtain ⟨hB_, c0, c1, c2, c3, c4, c5, c6, c7, c8, c9, -⟩ := hS
      have HB := Aside0.mk hB_
      clear hB_
      go_wp2
      go_ret
      exact ⟨retB HG.out.symm, HB.out⟩
    · have HG := Aside0.mk (show r = decide (code a.a < code b.a) by
        rw [← HR.out]
        refine decide_eq_decide.2 (HK.out.trans ?_)
        have h3 : code a.a ≠ code b.a := fun e => h2 (code_inj HA.out.2.1 HBO.out.2.1 e)
        rw [h1]
        constructor
        · intro h; omega
        · intro h; omega)
      have q2 : (!a.a.lab == b.a.lab || !a.a.num == b.a.num) = true := by
        have h := (nd_eq a.a b.a).trans (decide_eq_false h2)
        revert h
        cases a.a.lab == b.a.lab <;> cases a.a.num == b.a.num <;> decide
      clear h1 h2
      go_enter Try.func100, Try.ntmps100
      go_wp2_with (fail)
      refine named _ ?_
      intro W hW
      obtain ⟨c0, c1, c2, c3, c4, c5, c6, c7, c8, c9, hB⟩ := two_eg hW
      have HB := Aside0.mk hB
      clear hW hB
      have HK_ := Aside0.mk (show Reg (fun u_ => Below w.heap.size w u_ ∧ u_.cell? ⟨w.heap.size, 0, none⟩ = some (.int .i64 a.lab) ∧ u_.cell? ⟨w.heap.size, 1, none⟩ = some (.int .i64 a.a.lab) ∧ u_.cell? ⟨w.heap.size, 2, none⟩ = some (.int .i64 a.a.num) ∧ u_.cell? ⟨w.heap.size, 3, none⟩ = some (.int .i64 a.b.lab) ∧ u_.cell? ⟨w.heap.size, 4, none⟩ = some (.int .i64 a.b.num) ∧ u_.cell? ⟨w.heap.size + 1, 0, none⟩ = some (.int .i64 b.lab) ∧ u_.cell? ⟨w.heap.size + 1, 1, none⟩ = some (.int .i64 b.a.lab) ∧ u_.cell? ⟨w.heap.size + 1, 2, none⟩ = some (.int .i64 b.a.num) ∧ u_.cell? ⟨w.heap.size + 1, 3, none⟩ = some (.int .i64 b.b.lab) ∧ u_.cell? ⟨w.heap.size + 1, 4, none⟩ = some (.int .i64 b.b.num) ∧ True) from ⟨fun _ _ hb_ ⟨q_, s0_, s1_, s2_, s3_, s4_, s5_, s6_, s7_, s8_, s9_, _⟩ => ⟨below_step q_ hb_, pw_cell_below hb_ s0_, pw_cell_below hb_ s1_, pw_cell_below hb_ s2_, pw_cell_below hb_ s3_, pw_cell_below hb_ s4_, pw_cell_below hb_ s5_, pw_cell_below hb_ s6_, pw_cell_below hb_ s7_, pw_cell_below hb_ s8_, pw_cell_below hb_ s9_, trivial⟩⟩)
      refine region_by _ sLess4 (by kernel_rfl) sLess4_ok rfl (fun d _ _ _ _ h => by cases d <;> exact h) HK_.out ⟨HB.out, c0, c1, c2, c3, c4, c5, c6, c7, c8, c9, trivial⟩ ?_
      intro u hS
      clear c0 c1 c2 c3 c4 c5 c6 c7 c8 c9
      repeat (first | (refine h_off gt_ (by rfl) ?_; intro a_ ha_; (simp only [Act.put, List.setIfInBounds_toArray, List.set_cons_zero, List.set_cons_succ] at ha_); subst ha_) | (refine h_on (v := ?_) gt_ (by rfl) ?_ ?_; rotate_left; (· rintro w_ ⟨-, s0_, s1_, s2_, s3_, s4_, s5_, s6_, s7_, s8_, s9_, -⟩; go_simp; with_reducible rfl); intro a_ ha_; (simp only [Act.put, List.setIfInBounds_toArray, List.set_cons_zero, List.set_cons_succ] at ha_); subst ha_) | (refine h_offc hS gt_ (by rfl) ?_; intro a_ ha_; (simp only [Act.put, List.setIfInBounds_toArray, List.set_cons_zero, List.set_cons_succ] at ha_); subst ha_) | (refine h_call (f := 98) (args := #[.agg #[.int .i64 a.a.lab, .int .i64 a.a.num]]) HK_.out hS Try.func98 (by kernel_rfl) rfl gt_ (by rfl) (by rfl) mp_ ?_; (with_reducible refine (sCode_calls a.a HA.out.2.1 _).mono ?_); rintro e_ u_ ⟨rfl, hb_⟩; refine ⟨_, rfl, hb_, fun a_ ha_ hS_ => ?_⟩; (simp only [Act.put, List.setIfInBounds_toArray, List.set_cons_zero, List.set_cons_succ] at ha_); subst ha_; clear hS; have hS := hS_; clear hS_; clear hb_) | (refine h_call (f := 98) (args := #[.agg #[.int .i64 b.a.lab, .int .i64 b.a.num]]) HK_.out hS Try.func98 (by kernel_rfl) rfl gt_ (by rfl) (by rfl) mp_ ?_; (with_reducible refine (sCode_calls b.a HBO.out.2.1 _).mono ?_); rintro e_ u_ ⟨rfl, hb_⟩; refine ⟨_, rfl, hb_, fun a_ ha_ hS_ => ?_⟩; (simp only [Act.put, List.setIfInBounds_toArray, List.set_cons_zero, List.set_cons_succ] at ha_); subst ha_; clear hS; have hS := hS_; clear hS_; clear hb_))
      refine h_end ?_
      clear HK_ HB
      obtain ⟨hB_, c0, c1, c2, c3, c4, c5, c6, c7, c8, c9, -⟩ := hS
      have HB := Aside0.mk hB_
      clear hB_
      go_wp2
      go_ret
      exact ⟨retB HG.out.symm, HB.out⟩
  · have q1 : (a.lab == b.lab) = false := beq_eq_false_iff_ne.2 h1
    have HG := Aside0.mk (show r = decide (a.lab < b.lab) by
      rw [← HR.out]
      exact decide_eq_decide.2 (HK.out.trans ⟨fun h => by omega, fun h => by omega⟩))
    clear h1
    go_enter Try.func100, Try.ntmps100
    go_wp2
    go_ret
    exact ⟨retB HG.out.symm, below_alloc (below_alloc (Below.refl _ _) _) _⟩
end Go.Proofs.Ytogmbeifbjgphaa.R
