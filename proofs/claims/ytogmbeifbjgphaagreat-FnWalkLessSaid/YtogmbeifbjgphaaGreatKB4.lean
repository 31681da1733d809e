/- Nodes and edges in memory; labels, nodes, edges of the program: what each call comes to; Nodes: are they right, their numbers, their order; A region that draws its order and holds calls: walked once, in an order that a list tells. S: what its loads read, in every world that it passes through; Edges: are they right, their order; The order of edges; the first that is not zero. -/
import Derived.Deep.RegionHeld3
import Derived.Deep.RegionWith
import Derived.WalkSpells
import Derived.Test.YtogmbeifbjgphaaGreatKB3
import Derived.Test.YtogmbeifbjgphaaGreatProg
import Derived.Test.YtogmbeifbjgphaaGreatKBV
namespace Go.Proofs.YtogmbeifbjgphaaGreat.R
open Go.RowKit Go.Proofs.YtogmbeifbjgphaaGreatV.PrintWords Go.Proofs.YtogmbeifbjgphaaGreatV.PrintLast Go.Proofs.YtogmbeifbjgphaaGreatV.PrintMore Go.Proofs.YtogmbeifbjgphaaGreat.M
set_option linter.unusedVariables false
set_option linter.unusedSimpArgs false
def kN : Kd Nd := Kd.iso (Kd.pair (Kd.int .i64) (Kd.int .i64)) (fun x : Nd => (x.lab, x.num))
def kE : Kd Eg := Kd.iso (Kd.pair (Kd.int .i64) (Kd.pair kN kN)) (fun x : Eg => (x.lab, (x.a, x.b)))
/-- A node's cells, an edge's. -/
abbrev cN (x : Nd) : List Value := [.int .i64 x.lab, .int .i64 x.num]
abbrev cE (x : Eg) : List Value := [.int .i64 x.lab, .int .i64 x.a.lab, .int .i64 x.a.num, .int .i64 x.b.lab, .int .i64 x.b.num]
theorem kN_open {w : World} {x : Nd} {cs : List Value} (h : kN.K w x cs) : cs = cN x := by
 obtain ⟨_, _, rfl, rfl, rfl⟩ := h
 exact rfl
theorem kN_mk (w : World) (x : Nd) : kN.K w x (cN x) := ⟨[.int .i64 x.lab], [.int .i64 x.num], rfl, rfl, rfl⟩
theorem kN_mkM (w : World) (base : Nat) (ok : Nat → Prop) (x : Nd) : kN.M w base ok x (cN x) := ⟨[.int .i64 x.lab], [.int .i64 x.num], rfl, rfl, rfl⟩
theorem kE_open {w : World} {x : Eg} {cs : List Value} (h : kE.K w x cs) : cs = cE x := by
 obtain ⟨_, _, rfl, rfl, _, _, rfl, ha, hb⟩ := h
 rw [kN_open ha, kN_open hb]
 rfl
theorem kE_mk (w : World) (x : Eg) : kE.K w x (cE x) := ⟨[.int .i64 x.lab], cN x.a ++ cN x.b, rfl, rfl, cN x.a, cN x.b, rfl, kN_mk w _, kN_mk w _⟩
theorem kE_mkM (w : World) (base : Nat) (ok : Nat → Prop) (x : Eg) : kE.M w base ok x (cE x) := ⟨[.int .i64 x.lab], cN x.a ++ cN x.b, rfl, rfl, cN x.a, cN x.b, rfl, kN_mkM w base ok _, kN_mkM w base ok _⟩
theorem kN_KM (x : Nd) (c : List Value) (W : World) (h : kN.K W x c) (W' : World) (base : Nat) (ok' : Nat → Prop) : kN.M W' base ok' x c := by
 obtain rfl := kN_open h
 exact kN_mkM _ _ _ x
theorem kE_KM (x : Eg) (c : List Value) (W : World) (h : kE.K W x c) (W' : World) (base : Nat) (ok' : Nat → Prop) : kE.M W' base ok' x c := by
 obtain rfl := kE_open h
 exact kE_mkM _ _ _ x
def eat (es : List Eg) (i : Nat) : Eg := es.getD i zE
theorem eat_lt {es : List Eg} {i : Nat} (h : i < es.length) : eat es i = es[i] := by
 unfold eat
 simp [List.getD_eq_getElem?_getD, h]
theorem eat_mem {es : List Eg} {i : Nat} (h : i < es.length) : eat es i ∈ es := by
 rw [eat_lt h]
 exact List.getElem_mem h
/-- The j-th node's two cells; the j-th edge's five. -/
theorem nd_at {w : World} {A : Option Addr} {n : Nat} {xs : List Nd} (h : kN.C w A n xs) (j : Nat) (hj : j < n) : ∃ ad, A = some ad ∧ w.cell? (ad.add (j * 2)) = some (.int .i64 (at_ xs j).lab) ∧ w.cell? ⟨(ad.add (j * 2)).block, (ad.add (j * 2)).off + 1, none⟩ = some (.int .i64 (at_ xs j).num) := by
 obtain ⟨ad, c, e, _, hK, hc0⟩ := Kd.C_get h zN (j : Int) (by omega) (by omega)
 rw [Int.toNat_natCast] at hK hc0
 have hc : ∀ i u, c[i]? = some u → w.cell? (ad.add (j * 2 + i)) = some u := hc0
 obtain rfl := kN_open hK
 exact ⟨ad, e, hc 0 _ rfl, by rw [← add_field _ _ 1 (by omega)]; exact hc 1 _ rfl⟩
theorem eg_at {w : World} {A : Option Addr} {n : Nat} {xs : List Eg} (h : kE.C w A n xs) (j : Nat) (hj : j < n) : ∃ ad, A = some ad ∧ w.cell? (ad.add (j * 5)) = some (.int .i64 (eat xs j).lab) ∧ w.cell? ⟨(ad.add (j * 5)).block, (ad.add (j * 5)).off + 1, none⟩ = some (.int .i64 (eat xs j).a.lab) ∧
 w.cell? ⟨(ad.add (j * 5)).block, (ad.add (j * 5)).off + 2, none⟩ = some (.int .i64 (eat xs j).a.num) ∧ w.cell? ⟨(ad.add (j * 5)).block, (ad.add (j * 5)).off + 3, none⟩ = some (.int .i64 (eat xs j).b.lab) ∧ w.cell? ⟨(ad.add (j * 5)).block, (ad.add (j * 5)).off + 4, none⟩ = some (.int .i64 (eat xs j).b.num) := by
 obtain ⟨ad, c, e, _, hK, hc0⟩ := Kd.C_get h zE (j : Int) (by omega) (by omega)
 rw [Int.toNat_natCast] at hK hc0
 have hc : ∀ i u, c[i]? = some u → w.cell? (ad.add (j * 5 + i)) = some u := hc0
 obtain rfl := kE_open hK
 exact ⟨ad, e, hc 0 _ rfl, by rw [← add_field _ _ 1 (by omega)]; exact hc 1 _ rfl, by rw [← add_field _ _ 2 (by omega)]; exact hc 2 _ rfl, by rw [← add_field _ _ 3 (by omega)]; exact hc 3 _ rfl, by rw [← add_field _ _ 4 (by omega)]; exact hc 4 _ rfl⟩
theorem infoN : (Tryz.prog.info? 28).map (fun i => (i.zero, i.size, i.bytes)) = some (some (.agg #[(.int .i64 0), (.int .i64 0)]), 2, 16) := by kernel_rfl
theorem infoE : (Tryz.prog.info? 30).map (fun i => (i.zero, i.size, i.bytes)) = some (some (.agg #[(.int .i64 0), (.int .i64 0), (.int .i64 0), (.int .i64 0), (.int .i64 0)]), 5, 40) := by kernel_rfl
theorem eqN (d : Nat) (w : World) (x0 y0 : Int) (x1 y1 : Int) :
 (Op.equalIn (d + 2) 28 (.agg #[.int .i64 x0, .int .i64 x1]) (.agg #[.int .i64 y0, .int .i64 y1])).run Tryz.prog w = .ok (x0 == y0 && (x1 == y1)) w := by
 refine eqA_of Tryz.underlying28 (by kernel_rfl) ?_
 refine eqf_cons (by rfl) (by go_simp; rfl) (by go_simp; rfl) (by go_simp) ?_
 exact eqf_last (by rfl) (by go_simp; rfl) (by go_simp; rfl) (by go_simp)
theorem eqE (d : Nat) (w : World) (x0 y0 : Int) (x1 y1 : Int) (x2 y2 : Int) (x3 y3 : Int) (x4 y4 : Int) :
 (Op.equalIn (d + 3) 30 (.agg #[.int .i64 x0, .int .i64 x1, .int .i64 x2, .int .i64 x3, .int .i64 x4]) (.agg #[.int .i64 y0, .int .i64 y1, .int .i64 y2, .int .i64 y3, .int .i64 y4])).run Tryz.prog w = .ok (x0 == y0 && ((x1 == y1 && (x2 == y2)) && (x3 == y3 && (x4 == y4)))) w := by
 refine eqA_of Tryz.underlying30 (by kernel_rfl) ?_
 refine eqf_cons (by rfl) (by go_simp; rfl) (by go_simp; rfl) (by go_simp) ?_
 refine eqf_cons (by rfl) (by go_simp) (by go_simp) (eqN (d + 0) w _ _ _ _) ?_
 exact eqf_last (by rfl) (by go_simp) (by go_simp) (eqN (d + 0) w _ _ _ _)
/-- Node by node, edge by edge: what '==' tells. -/
theorem nd_eq (x y : Nd) : (x.lab == y.lab && (x.num == y.num)) = decide (x = y) := by
 cases x
 cases y
 rw [Bool.eq_iff_iff]
 simp
theorem eg_eq (x y : Eg) : (x.lab == y.lab && ((x.a.lab == y.a.lab && (x.a.num == y.a.num)) && (x.b.lab == y.b.lab && (x.b.num == y.b.num)))) = decide (x = y) := by
 rw [nd_eq, nd_eq]
 cases x
 cases y
 rw [Bool.eq_iff_iff]
 simp
attribute [local go_sem high] eqN eqE
theorem retB {a b : Bool} (h : a = b) : Ending.returned (.bool a) = .returned (.bool b) := by rw [h]
theorem retI {a b : Int} (h : a = b) : Ending.returned (.int .i64 a) = .returned (.int .i64 b) := by rw [h]
set_option maxHeartbeats 400000 in
theorem labelOk_calls (a : Int) (w : World) : Calls Tryz.prog 62 #[.int .i64 a] w fun e w' => e = .returned (.bool (okL a)) ∧ w = w' := by
 unfold okL
 by_cases h : 0 ≤ a
 ·go_enter Tryz.func62, Tryz.ntmps62
  go_wp2
  go_ret
  exact ⟨by simp [h], rfl⟩
 ·go_enter Tryz.func62, Tryz.ntmps62
  go_wp2
  go_ret
  exact ⟨retB (by rw [decide_eq_false (show ¬ 0 ≤ a by omega)]; rfl), rfl⟩
set_option maxHeartbeats 400000 in
theorem lettersUnder_calls (a b : Int) (w : World) : Calls Tryz.prog 80 #[.int .u8 a, .int .u8 b] w fun e w' => e = .returned (.bool (Go.bits .andNot .u8 a b == 0)) ∧ w = w' := by
 go_enter Tryz.func80, Tryz.ntmps80
 go_wp2
 go_ret
 exact ⟨rfl, rfl⟩
theorem under_bits {a b : Int} (ha : okL a = true) (hb : okL b = true) : (Go.bits .andNot .u8 a b == 0) = under a b := by
 obtain ⟨a0, a7⟩ := okL_iff.1 ha
 obtain ⟨b0, b7⟩ := okL_iff.1 hb
 obtain ⟨x, rfl⟩ := Int.eq_ofNat_of_zero_le a0
 obtain ⟨y, rfl⟩ := Int.eq_ofNat_of_zero_le b0
 have h : ∀ x : Fin 8, ∀ y : Fin 8, (Go.bits .andNot .u8 ((x.val : Nat) : Int) ((y.val : Nat) : Int) == 0) = under ((x.val : Nat) : Int) ((y.val : Nat) : Int) := by decide +kernel
 exact h ⟨x, by omega⟩ ⟨y, by omega⟩
theorem u8_id {a : Int} (h : okL a = true) : a % 256 = a := by
 obtain ⟨h0, h7⟩ := okL_iff.1 h
 omega
set_option maxHeartbeats 800000 in
theorem labelUnder_calls (a b : Int) (w : World) : Calls Tryz.prog 32 #[.int .i64 a, .int .i64 b] w fun e w' => e = .returned (.bool (under a b)) ∧ w = w' := by
 cases ha : okL a with
 | false =>
   have HR := Aside0.mk (show under a b = false by unfold under; rw [ha]; rfl)
   have HA := Aside0.mk ha
   clear ha
   go_enter Tryz.func32, Tryz.ntmps32
   go_wp2_with (first | (go_at_call 62; go_must (refine (labelOk_calls a _).mono ?_); rintro e w' ⟨rfl, rfl⟩; rw [HA.out]))
   go_ret
   exact ⟨retB HR.out.symm, rfl⟩
 | true =>
   cases hb : okL b with
   | false =>
     have HR := Aside0.mk (show under a b = false by unfold under; rw [ha, hb]; rfl)
     have HA := Aside0.mk ha
     have HB := Aside0.mk hb
     clear ha hb
     go_enter Tryz.func32, Tryz.ntmps32
     go_wp2_with (first | (go_at_call 62; ((with_reducible refine (labelOk_calls a _).mono ?_); rintro e w' ⟨rfl, rfl⟩; rw [HA.out])) | (go_at_call 62; ((with_reducible refine (labelOk_calls b _).mono ?_); rintro e w' ⟨rfl, rfl⟩; rw [HB.out])))
     go_ret
     exact ⟨retB HR.out.symm, rfl⟩
   | true =>
     have HR := Aside0.mk (under_bits ha hb)
     have HA := Aside0.mk ha
     have HB := Aside0.mk hb
     have HU := Aside0.mk (u8_id ha)
     have HV := Aside0.mk (u8_id hb)
     clear ha hb
     go_enter Tryz.func32, Tryz.ntmps32
     go_wp2_with (first | (go_at_call 62; ((with_reducible refine (labelOk_calls a _).mono ?_); rintro e w' ⟨rfl, rfl⟩; rw [HA.out])) | (go_at_call 62; ((with_reducible refine (labelOk_calls b _).mono ?_); rintro e w' ⟨rfl, rfl⟩; rw [HB.out])) | (go_at_call 80; rw [HU.out, HV.out]; (refine (lettersUnder_calls a b _).mono ?_); rintro e w' ⟨rfl, rfl⟩; rw [HR.out]))
     go_ret
     exact ⟨rfl, rfl⟩
end Go.Proofs.YtogmbeifbjgphaaGreat.R
namespace Go.Proofs.YtogmbeifbjgphaaGreat.R
open Go.RowKit Go.Proofs.YtogmbeifbjgphaaGreatV.PrintWords Go.Proofs.YtogmbeifbjgphaaGreatV.PrintLast Go.Proofs.YtogmbeifbjgphaaGreatV.PrintMore Go.Proofs.YtogmbeifbjgphaaGreat.M
set_option linter.unusedVariables false
set_option linter.unusedSimpArgs false
attribute [local go_sem high] eqN eqE
theorem okN_tests (n : Nd) : (okN n = true ∧ okL n.lab = true ∧ 0 ≤ n.num ∧ n.num ≤ 40) ∨ (okN n = false ∧ okL n.lab = false) ∨ (okN n = false ∧ okL n.lab = true ∧ n.num < 0) ∨ (okN n = false ∧ okL n.lab = true ∧ 0 ≤ n.num ∧ 40 < n.num) := by
 unfold okN
 cases okL n.lab
 ·exact .inr (.inl ⟨rfl, rfl⟩)
 ·by_cases h : 0 ≤ n.num
  ·by_cases h1 : n.num ≤ 40
   ·exact .inl ⟨by simp [h, h1], rfl, h, h1⟩
   ·exact .inr (.inr (.inr ⟨by simp [h, h1], rfl, h, by omega⟩))
  ·exact .inr (.inr (.inl ⟨by simp [h], rfl, by omega⟩))
set_option maxHeartbeats 800000 in
theorem nodeOk_calls (n : Nd) (w : World) : Calls Tryz.prog 74 #[.agg #[.int .i64 n.lab, .int .i64 n.num]] w fun e w' => e = .returned (.bool (okN n)) ∧ Below w.heap.size w w' := by
 rcases okN_tests n with ⟨h0, h1, h2, h3⟩ | ⟨h0, h1⟩ | ⟨h0, h1, h2⟩ | ⟨h0, h1, h2, h3⟩
 all_goals
  have H0 := Aside0.mk h0
  have H1 := Aside0.mk h1
  clear h0 h1
  go_enter Tryz.func74, Tryz.ntmps74
  go_wp2_with (first | (go_at_call 62; (refine (labelOk_calls n.lab _).mono ?_); rintro e w' ⟨rfl, rfl⟩; rw [H1.out]))
  go_ret
  exact ⟨retB (by rw [H0.out]; first | done | rfl | exact decide_eq_false (by omega) | exact decide_eq_true (by omega)), below_alloc (Below.refl _ _) _⟩
def codeI (n : Nd) : Int := if okN n = true then code n else -1
set_option maxHeartbeats 800000 in
theorem nodeCode_calls (n : Nd) (w : World) : Calls Tryz.prog 113 #[.agg #[.int .i64 n.lab, .int .i64 n.num]] w fun e w' => e = .returned (.int .i64 (codeI n)) ∧ Below w.heap.size w w' := by
 cases h : okN n with
 | false =>
   have HC := Aside0.mk (show codeI n = -1 by unfold codeI; rw [h]; rfl)
   have H := Aside0.mk h
   clear h
   go_enter Tryz.func113, Tryz.ntmps113
   go_wp2_with (first | (go_at_call 74; (refine (nodeOk_calls n _).mono ?_); rintro e w' ⟨rfl, hb⟩; rw [H.out]; have HB := Aside0.mk (below_step (below_alloc (Below.refl _ _) _) hb); clear hb))
   go_ret
   exact ⟨retI HC.out.symm, HB.out⟩
 | true =>
   have HC := Aside0.mk (show codeI n = 64 * n.lab + n.num by unfold codeI; rw [h]; rfl)
   obtain ⟨⟨l0, l7⟩, m0, m1⟩ := okN_iff.1 h
   have H := Aside0.mk h
   clear h
   go_enter Tryz.func113, Tryz.ntmps113
   go_wp2_with (first | (go_at_call 74; (refine (nodeOk_calls n _).mono ?_); rintro e w' ⟨rfl, hb⟩; rw [H.out]; have HB := Aside0.mk (below_step (below_alloc (Below.refl _ _) _) hb); have hc0 : w'.cell? ⟨w.heap.size, 0, none⟩ = some (.int .i64 n.lab) := (hb.cell (by simp)).trans (by simp); have hc1 : w'.cell? ⟨w.heap.size, 1, none⟩ = some (.int .i64 n.num) := (hb.cell (by simp)).trans (by simp); clear hb))
   go_ret
   exact ⟨retI HC.out.symm, HB.out⟩
def cmpI (a b : Int) : Int := if a < b then -1 else if b < a then 1 else 0
set_option maxHeartbeats 800000 in
theorem compare_calls (a b : Int) (w : World) : Calls Tryz.prog 112 #[.int .i64 a, .int .i64 b] w fun e w' => e = .returned (.int .i64 (cmpI a b)) ∧ w = w' := by
 have hn : ∀ (x : Int) (W : World), Calls Tryz.prog 143 #[.int .i64 x] W fun e w' => e = .returned (.bool false) ∧ W = w' := by
  intro x W
  go_enter Tryz.func143, Tryz.ntmps143
  go_wp2
  go_ret
  exact ⟨retB (by simp), rfl⟩
 have HN := Aside0.mk hn
 clear hn
 rcases Int.lt_trichotomy a b with h | h | h
 ·have HC := Aside0.mk (show cmpI a b = -1 by unfold cmpI; rw [if_pos h])
  go_enter Tryz.func112, Tryz.ntmps112
  go_wp2_with (first | (go_at_call 143; (refine (HN.out _ _).mono ?_); rintro e w' ⟨rfl, rfl⟩))
  go_ret
  exact ⟨retI HC.out.symm, rfl⟩
 ·have HC := Aside0.mk (show cmpI a b = 0 by unfold cmpI; rw [if_neg (by omega), if_neg (by omega)])
  have h1 : ¬ a < b := by omega
  have h2 : ¬ b < a := by omega
  clear h
  go_enter Tryz.func112, Tryz.ntmps112
  go_wp2_with (first | (go_at_call 143; (refine (HN.out _ _).mono ?_); rintro e w' ⟨rfl, rfl⟩))
  go_ret
  exact ⟨retI HC.out.symm, rfl⟩
 ·have HC := Aside0.mk (show cmpI a b = 1 by unfold cmpI; rw [if_neg (by omega), if_pos h])
  have h1 : ¬ a < b := by omega
  go_enter Tryz.func112, Tryz.ntmps112
  go_wp2_with (first | (go_at_call 143; (refine (HN.out _ _).mono ?_); rintro e w' ⟨rfl, rfl⟩))
  go_ret
  exact ⟨retI HC.out.symm, rfl⟩
/-- A world by a name of its own. -/
theorem named {p : World → Prop} (w : World) (h : ∀ W, W = w → p W) : p w := h w rfl
theorem two_nd {w W : World} {a b : Nd} (h : W = (w.alloc (.cells #[.int .i64 a.lab, .int .i64 a.num] 28)).alloc (.cells #[.int .i64 b.lab, .int .i64 b.num] 28)) :
 W.cell? ⟨w.heap.size, 0, none⟩ = some (.int .i64 a.lab) ∧ W.cell? ⟨w.heap.size, 1, none⟩ = some (.int .i64 a.num) ∧ W.cell? ⟨w.heap.size + 1, 0, none⟩ = some (.int .i64 b.lab) ∧ W.cell? ⟨w.heap.size + 1, 1, none⟩ = some (.int .i64 b.num) ∧ Below w.heap.size w W := by
 subst h
 exact ⟨by simp, by simp, by simp, by simp, below_alloc (below_alloc (Below.refl _ _) _) _⟩
set_option maxHeartbeats 1600000 in
set_option maxRecDepth 100000 in
theorem nodeOrder_calls (a b : Nd) (w : World) : Calls Tryz.prog 59 #[.agg #[.int .i64 a.lab, .int .i64 a.num], .agg #[.int .i64 b.lab, .int .i64 b.num]] w fun e w' => e = .returned (.int .i64 (cmpI (codeI a) (codeI b))) ∧ Below w.heap.size w w' := by
 go_enter Tryz.func59, Tryz.ntmps59
 go_wp2_with (fail)
 refine named _ ?_
 intro W hW
 obtain ⟨c1, c2, c3, c4, hB⟩ := two_nd hW
 have HB := Aside0.mk hB
 clear hW hB
 go_region_held3 (fun w' => w'.cell? ⟨w.heap.size, 0, none⟩ = some (.int .i64 a.lab) ∧ w'.cell? ⟨w.heap.size, 1, none⟩ = some (.int .i64 a.num) ∧ w'.cell? ⟨w.heap.size + 1, 0, none⟩ = some (.int .i64 b.lab) ∧ w'.cell? ⟨w.heap.size + 1, 1, none⟩ = some (.int .i64 b.num))
  (first | go_keep | (go_split_ands; repeat' apply And.intro) <;> first | exact pw_cell_below hb2 ‹_› | exact pw_cell_below hb1 ‹_›)
  (first | (go_at_call 113; (with_reducible refine (nodeCode_calls a _).mono ?_); rintro e w1 ⟨rfl, hb1⟩) | (go_at_call 113; (with_reducible refine (nodeCode_calls b _).mono ?_); rintro e w2 ⟨rfl, hb2⟩) | (go_at_call 112; (with_reducible refine (compare_calls _ _ _).mono ?_); rintro e w3 ⟨rfl, rfl⟩))
 go_wp2
 go_ret
 exact ⟨rfl, below_step (below_step (below_drew HB.out) hb1) hb2⟩
end Go.Proofs.YtogmbeifbjgphaaGreat.R
namespace Go.Proofs.YtogmbeifbjgphaaGreat.R
open Go.RowKit Go.Proofs.YtogmbeifbjgphaaGreatV.PrintLast
set_option linter.unusedVariables false
section
variable {P : Program} {ops : Array Oper} {Q : Exit → Act → World → Prop} {md : Region.Mode} {S : World → Prop}
def wpH (P : Program) (ops : Array Oper) (Q : Exit → Act → World → Prop) (S : World → Prop) (E : Act → World → Prop) : List (Nat × Bool) → Act → World → Prop
 | [], a, w => E a w
 | (i, true) :: r, a, w => ∃ o v, ops[i]? = some o ∧ YieldsIf P ops S o v a ∧ wpH P ops Q S E r (a.put o.dst v) w
 | (i, false) :: r, a, w => ∃ o, ops[i]? = some o ∧ ∀ K : Act → World → Prop, Shut (∀ a' w', S w' → (S w' → wpH P ops Q S E r a' w') → K a' w') → if Region.wanted o (yielded ops a.tmps) = true then Oper.wp P o a w K Q else K (a.put o.dst undef) w
/-- May the operations come up so, whatever is drawn? -/
def schedB (md : Region.Mode) (ops : Array Oper) : List (Nat × Bool) → Array Bool → Bool
 | [], l => Region.ready md ops l == []
 | (i, true) :: r, l => takeB md ops [] l (l.setIfInBounds i true) i && schedB md ops r (l.setIfInBounds i true)
 | (i, false) :: r, l => readyB md ops l (l.setIfInBounds i true) i && schedB md ops r (l.setIfInBounds i true)
theorem last_of_wpH (hQ : ∀ (d : Option Tmp) (v : Value) (c : _) (a : Act) (w : World), Q (.panic c) (a.put d v) w → Q (.panic c) a w) :
 ∀ (sched : List (Nat × Bool)) (fuel : Nat) (l : Array Bool) (a : Act) (w : World), schedB md ops sched l = true → sched.length ≤ fuel → S w → wpH P ops Q S (Q .normal) sched a w → wpAnyLast P md ops Q S [] fuel l a w
 | [], fuel, l, a, w, hc, _, _, h => done_ hc h
 | (i, true) :: r, 0, l, a, w, hc, hf, _, _ => by simp at hf
 | (i, true) :: r, fuel + 1, l, a, w, hc, hf, hS, h => by
   obtain ⟨o, v, ho, hy, h⟩ := h
   simp only [schedB, Bool.and_eq_true] at hc
   exact take_ _ ho rfl hc.1 (fun c a w => hQ o.dst v c a w) hy hS rfl (last_of_wpH hQ r fuel _ _ w hc.2 (by simpa using hf) hS h)
 | (i, false) :: r, 0, l, a, w, hc, hf, _, _ => by simp at hf
 | (i, false) :: r, fuel + 1, l, a, w, hc, hf, hS, h => by
   obtain ⟨o, ho, h⟩ := h
   simp only [schedB, Bool.and_eq_true] at hc
   exact one_ _ ho rfl hc.1 (by simp) fun K hK => h K fun a' w' hS' hr => hK a' w' hS' fun hS'' => last_of_wpH hQ r fuel _ _ w' hc.2 (by simpa using hf) hS'' (hr hS'')
/-- What a call that only makes memory leaves as0 it is. -/
structure Reg (S : World → Prop) : Prop where
 keep : ∀ u u' : World, Below u.heap.size u u' → S u → S u'
/-- The region, by a list. -/
theorem region_by {id : Nat} {a : Act} {w : World} (S : World → Prop) (sched : List (Nat × Bool)) (hm : P.follows .mixedOrders = true) (hc : schedB .any ops sched (Array.replicate ops.size false) = true) (hl : sched.length = ops.size)
 (hQ : ∀ (d : Option Tmp) (v : Value) (c : _) (a : Act) (w : World), Q (.panic c) (a.put d v) w → Q (.panic c) a w) (hk : Reg S) (hS : S w) (h : ∀ u, S u → wpH P ops Q S (Q .normal) sched a u) : (Code.region id ops true).wp P Q a w := by
 have hS' : S w.drew := hk.keep w w.drew (Below.refl _ _).drew hS
 exact wp_region_last hm (last_of_wpH hQ sched ops.size _ a w.drew hc (Nat.le_of_eq hl) hS' (h _ hS'))
variable {E : Act → World → Prop} {i : Nat} {r : List (Nat × Bool)} {o : Oper} {v : Value} {a a' : Act} {w : World}
theorem region_by2 {id : Nat} {a : Act} {w : World} (S : World → Prop) (sched : List (Nat × Bool)) (hm : P.follows .mixedOrders = true) (hc : schedB .any ops sched (Array.replicate ops.size false) = true) (hl : sched.length = ops.size)
 (hQ : ∀ (d : Option Tmp) (v : Value) (c : _) (a : Act) (w : World), Q (.panic c) (a.put d v) w → Q (.panic c) a w) (hk : Reg S) (hS : S w) (h : ∀ u, S u → Below w.heap.size w u → wpH P ops Q S (Q .normal) sched a u) : (Code.region id ops true).wp P Q a w := by
 have hS' : S w.drew := hk.keep w w.drew (Below.refl _ _).drew hS
 exact wp_region_last hm (last_of_wpH hQ sched ops.size _ a w.drew hc (Nat.le_of_eq hl) hS' (h _ hS' (Below.refl _ _).drew))
/-- The last operation, behind which nothing is held of the worlds. -/
def lastE (P : Program) (ops : Array Oper) (Q : Exit → Act → World → Prop) (d : Nat) (a : Act) (w : World) : Prop :=
 ∃ o, ops[d]? = some o ∧ ∀ K : Act → World → Prop, Shut (∀ a' w', Q .normal a' w' → K a' w') → if Region.wanted o (yielded ops a.tmps) = true then Oper.wp P o a w K Q else K (a.put o.dst undef) w
def schedE (md : Region.Mode) (ops : Array Oper) (d : Nat) : List (Nat × Bool) → Array Bool → Bool
 | [], l => readyB md ops l (l.setIfInBounds d true) d && (Region.ready md ops (l.setIfInBounds d true) == [])
 | (i, true) :: r, l => takeB md ops [d] l (l.setIfInBounds i true) i && schedE md ops d r (l.setIfInBounds i true)
 | (i, false) :: r, l => (readyB md ops l (l.setIfInBounds i true) i && decide (i ≠ d)) && schedE md ops d r (l.setIfInBounds i true)
theorem last_of_wpE {d : Nat} (hQ : ∀ (d : Option Tmp) (v : Value) (c : _) (a : Act) (w : World), Q (.panic c) (a.put d v) w → Q (.panic c) a w) :
 ∀ (sched : List (Nat × Bool)) (fuel : Nat) (l : Array Bool) (a : Act) (w : World), schedE md ops d sched l = true → sched.length < fuel → S w → wpH P ops Q S (lastE P ops Q d) sched a w → wpAnyLast P md ops Q S [d] fuel l a w
 | [], 0, l, a, w, _, hf, _, _ => by simp at hf
 | [], fuel + 1, l, a, w, hc, _, _, h => by
   obtain ⟨o, ho, h⟩ := h
   simp only [schedE, Bool.and_eq_true] at hc
   exact last_ _ ho rfl hc.1 (by simp) fun K hK => h K fun a' w' hq => hK a' w' (done_ hc.2 hq)
 | (i, true) :: r, 0, l, a, w, hc, hf, _, _ => by simp at hf
 | (i, true) :: r, fuel + 1, l, a, w, hc, hf, hS, h => by
   obtain ⟨o, v, ho, hy, h⟩ := h
   simp only [schedE, Bool.and_eq_true] at hc
   exact take_ _ ho rfl hc.1 (fun c a w => hQ o.dst v c a w) hy hS rfl (last_of_wpE hQ r fuel _ _ w hc.2 (by simpa using hf) hS h)
 | (i, false) :: r, 0, l, a, w, hc, hf, _, _ => by simp at hf
 | (i, false) :: r, fuel + 1, l, a, w, hc, hf, hS, h => by
   obtain ⟨o, ho, h⟩ := h
   simp only [schedE, Bool.and_eq_true, decide_eq_true_eq] at hc
   exact one_ _ ho rfl hc.1.1 (by simp [hc.1.2]) fun K hK => h K fun a' w' hS' hr => hK a' w' hS' fun hS'' => last_of_wpE hQ r fuel _ _ w' hc.2 (by simpa using hf) hS'' (hr hS'')
/-- A region whose last operation (number d) turns what the others read. -/
theorem region_end {id : Nat} {a : Act} {w : World} (S : World → Prop) (d : Nat) (sched : List (Nat × Bool)) (hm : P.follows .mixedOrders = true) (hc : schedE .any ops d sched (Array.replicate ops.size false) = true) (hl : sched.length < ops.size)
 (hQ : ∀ (d : Option Tmp) (v : Value) (c : _) (a : Act) (w : World), Q (.panic c) (a.put d v) w → Q (.panic c) a w) (hk : Reg S) (hS : S w) (h : ∀ u, S u → Below w.heap.size w u → wpH P ops Q S (lastE P ops Q d) sched a u) : (Code.region id ops true).wp P Q a w := by
 have hS' : S w.drew := hk.keep w w.drew (Below.refl _ _).drew hS
 exact wp_region_last hm (last_of_wpE hQ sched ops.size _ a w.drew hc hl hS' (h _ hS' (Below.refl _ _).drew))
theorem h_last {d : Nat} {o : Oper} {a : Act} {w : World} (ho : ops[d]? = some o) (hw : Region.wanted o (yielded ops a.tmps) = true) (h : ∀ K : Act → World → Prop, (∀ a' w', Q .normal a' w' → K a' w') → Oper.wp P o a w K Q) : wpH P ops Q S (lastE P ops Q d) [] a w :=
 ⟨o, ho, fun K hK => by rw [if_pos hw]; exact h K hK⟩
theorem h_off (ho : ops[i]? = some o) (hw : Region.wanted o (yielded ops a.tmps) = false) (h : ∀ a', a.put o.dst undef = a' → wpH P ops Q S E r a' w) : wpH P ops Q S E ((i, true) :: r) a w :=
 ⟨o, undef, ho, .inr ⟨hw, rfl⟩, h _ rfl⟩
theorem h_on (ho : ops[i]? = some o) (hw : Region.wanted o (yielded ops a.tmps) = true) (hv : ∀ w', S w' → (execOp a.eval o).run P w' = .ok (.value v) w') (h : ∀ a', a.put o.dst v = a' → wpH P ops Q S E r a' w) : wpH P ops Q S E ((i, true) :: r) a w :=
 ⟨o, v, ho, .inl ⟨hw, hv⟩, h _ rfl⟩
theorem h_callv {f : FuncId} {fn : Func} {t : Operand} {as0 : Array Operand} {ts : Array TypeId} (hk : Reg S) (hS : S w) (hf : P.funcs[f]? = some fn) (hname : (fn.name == "runtime.NumGoroutine") = false) (hb : fn.body.isSome = true) (ho : ops[i]? = some o) (hop : o.op = .call { callee := .value t, args := as0, argTypes := ts }) {cap : Array Value} (hfv : a.eval t = .func (.func f) #[] cap)
 (hw : Region.wanted o (yielded ops a.tmps) = true) {args : Array Value} (hargs : as0.map a.eval = args) (h : Calls P f (args ++ cap) w fun e w' => ∃ v, e = .returned v ∧ Below w.heap.size w w' ∧ ∀ a', a.put o.dst v = a' → S w' → wpH P ops Q S E r a' w') : wpH P ops Q S E ((i, false) :: r) a w := by
 refine ⟨o, ho, fun K hK => ?_⟩
 have he := enters_ hf hname hb (args ++ cap) w
 refine call_ f (args ++ cap) hw rfl ?_ (h.mono fun e w' hh => ?_)
 ·unfold execOp
  simp [hop, resolve, Deferred.ofValue, invoke, hfv, hargs, he]
 ·obtain ⟨v, he, hb, hr⟩ := hh
  have hS' := hk.keep _ _ hb hS
  exact ⟨v, he, hK _ _ hS' fun _ => hr _ rfl hS'⟩
theorem h_offc (hS : S w) (ho : ops[i]? = some o) (hw : Region.wanted o (yielded ops a.tmps) = false) (h : ∀ a', a.put o.dst undef = a' → wpH P ops Q S E r a' w) : wpH P ops Q S E ((i, false) :: r) a w :=
 ⟨o, ho, fun K hK => by
  rw [hw, if_neg (by decide)]
  exact hK _ _ hS fun _ => h _ rfl⟩
theorem h_val {w1 : World} (hk : Reg S) (hS : S w) (ho : ops[i]? = some o) (hw : Region.wanted o (yielded ops a.tmps) = true) (hrun : (execOp a.eval o).run P w = .ok (.value v) w1) (hb : Below w.heap.size w w1) (h : ∀ a', a.put o.dst v = a' → S w1 → wpH P ops Q S E r a' w1) : wpH P ops Q S E ((i, false) :: r) a w :=
 ⟨o, ho, fun K hK => by
  have hS' := hk.keep _ _ hb hS
  exact value_ hw rfl hrun (hK _ _ hS' fun _ => h _ rfl hS')⟩
theorem h_end (h : Q .normal a w) : wpH P ops Q S (Q .normal) [] a w := h
theorem h_call {f : FuncId} {fn : Func} {as0 : Array Operand} {ts : Array TypeId} (hk : Reg S) (hS : S w) (hf : P.funcs[f]? = some fn) (hname : (fn.name == "runtime.NumGoroutine") = false) (hb : fn.body.isSome = true) (ho : ops[i]? = some o) (hop : o.op = .call { callee := .value (.func f), args := as0, argTypes := ts })
 (hw : Region.wanted o (yielded ops a.tmps) = true) {args : Array Value} (hargs : as0.map a.eval = args) (h : Calls P f args w fun e w' => ∃ v, e = .returned v ∧ Below w.heap.size w w' ∧ ∀ a', a.put o.dst v = a' → S w' → wpH P ops Q S E r a' w') : wpH P ops Q S E ((i, false) :: r) a w := by
 refine ⟨o, ho, fun K hK => ?_⟩
 refine goes_ hf hname hb args hw rfl hop hargs (h.mono fun e w' hh => ?_)
 obtain ⟨v, he, hb, hr⟩ := hh
 have hS' := hk.keep _ _ hb hS
 exact ⟨v, he, hK _ _ hS' fun _ => hr _ rfl hS'⟩
end
theorem gt_ {P : Prop} (h : P := by simp only [List.getElem?_toArray, List.getElem?_cons_succ, List.getElem?_cons_zero]; rfl) : P := h
theorem mp_ {P : Prop} (h : P := by simp only [List.map_toArray, List.map_cons, List.map_nil]; rfl) : P := h
end Go.Proofs.YtogmbeifbjgphaaGreat.R
namespace Go.Proofs.YtogmbeifbjgphaaGreat.R
open Go.RowKit Go.Proofs.YtogmbeifbjgphaaGreatV.PrintWords Go.Proofs.YtogmbeifbjgphaaGreatV.PrintLast Go.Proofs.YtogmbeifbjgphaaGreatV.PrintMore Go.Proofs.YtogmbeifbjgphaaGreat.M
set_option linter.unusedVariables false
set_option linter.unusedSimpArgs false
attribute [local go_sem high] eqN eqE
theorem one_eg {w W : World} {a : Eg} (h : W = w.alloc (.cells #[.int .i64 a.lab, .int .i64 a.a.lab, .int .i64 a.a.num, .int .i64 a.b.lab, .int .i64 a.b.num] 30)) :
 W.cell? ⟨w.heap.size, 0, none⟩ = some (.int .i64 a.lab) ∧ W.cell? ⟨w.heap.size, 1, none⟩ = some (.int .i64 a.a.lab) ∧ W.cell? ⟨w.heap.size, 2, none⟩ = some (.int .i64 a.a.num) ∧ W.cell? ⟨w.heap.size, 3, none⟩ = some (.int .i64 a.b.lab) ∧ W.cell? ⟨w.heap.size, 4, none⟩ = some (.int .i64 a.b.num) ∧ Below w.heap.size w W := by
 subst h
 exact ⟨by simp, by simp, by simp, by simp, by simp, below_alloc (Below.refl _ _) _⟩
/-- The tests of an edge, one behind the other. -/
theorem okE_tests (e : Eg) : (okE e = true ∧ okL e.lab = true ∧ okN e.a = true ∧ okN e.b = true ∧ codeI e.a < codeI e.b ∧ under e.a.lab e.lab = true ∧ under e.b.lab e.lab = true) ∨
 (okE e = false ∧ okL e.lab = false) ∨ (okE e = false ∧ okL e.lab = true ∧ okN e.a = false) ∨ (okE e = false ∧ okL e.lab = true ∧ okN e.a = true ∧ okN e.b = false) ∨
 (okE e = false ∧ okL e.lab = true ∧ okN e.a = true ∧ okN e.b = true ∧ decide (codeI e.a < codeI e.b) = false) ∨
 (okE e = false ∧ okL e.lab = true ∧ okN e.a = true ∧ okN e.b = true ∧ codeI e.a < codeI e.b ∧ under e.a.lab e.lab = false) ∨
 (okE e = false ∧ okL e.lab = true ∧ okN e.a = true ∧ okN e.b = true ∧ codeI e.a < codeI e.b ∧ under e.a.lab e.lab = true ∧ under e.b.lab e.lab = false) := by
 unfold okE
 cases h1 : okL e.lab
 ·exact .inr (.inl ⟨rfl, rfl⟩)
 ·cases h2 : okN e.a
  ·exact .inr (.inr (.inl ⟨rfl, rfl, rfl⟩))
  ·cases h3 : okN e.b
   ·exact .inr (.inr (.inr (.inl ⟨rfl, rfl, rfl, rfl⟩)))
   ·have e1 : codeI e.a = code e.a := by unfold codeI; rw [h2]; rfl
    have e2 : codeI e.b = code e.b := by unfold codeI; rw [h3]; rfl
    rw [e1, e2]
    by_cases h4 : code e.a < code e.b
    ·rw [decide_eq_true h4]
     cases h5 : under e.a.lab e.lab
     ·exact .inr (.inr (.inr (.inr (.inr (.inl ⟨rfl, rfl, rfl, rfl, h4, rfl⟩)))))
     ·cases h6 : under e.b.lab e.lab
      ·exact .inr (.inr (.inr (.inr (.inr (.inr ⟨rfl, rfl, rfl, rfl, h4, rfl, rfl⟩)))))
      ·exact .inl ⟨rfl, rfl, rfl, rfl, h4, rfl, rfl⟩
    ·rw [decide_eq_false h4]
     exact .inr (.inr (.inr (.inr (.inl ⟨rfl, rfl, rfl, rfl, rfl⟩))))
abbrev sEdgeOk : List (Nat × Bool) := [(0, true), (1, true), (2, false), (3, true), (4, true), (5, true), (6, false), (7, true), (8, true), (9, true), (10, true), (11, false), (12, true), (13, true), (14, true), (15, true), (17, true), (18, true), (16, false), (19, false), (20, true), (21, true), (22, true), (23, true), (24, true), (25, true), (26, true), (27, true), (28, false), (29, true), (30, true), (31, true), (32, true), (33, true), (34, true), (35, true), (36, false), (37, true), (38, true)]
theorem sEdgeOk_ok : schedB .any (opsOf Tryz.f75 1) sEdgeOk (Array.replicate (opsOf Tryz.f75 1).size false) = true := by kernel_rfl
set_option maxHeartbeats 1600000 in
set_option maxRecDepth 100000 in
theorem edgeOk_calls (x : Eg) (w : World) : Calls Tryz.prog 75 #[.agg #[.int .i64 x.lab, .int .i64 x.a.lab, .int .i64 x.a.num, .int .i64 x.b.lab, .int .i64 x.b.num]] w fun e w' => e = .returned (.bool (okE x)) ∧ Below w.heap.size w w' := by
 rcases okE_tests x with ⟨h0, h1, h2, h3, h4, h5, h6⟩ | ⟨h0, h1⟩ | ⟨h0, h1, h2⟩ | ⟨h0, h1, h2, h3⟩ | ⟨h0, h1, h2, h3, h4⟩ | ⟨h0, h1, h2, h3, h4, h5⟩ | ⟨h0, h1, h2, h3, h4, h5, h6⟩
 all_goals
  have H0 := Aside0.mk h0
  have H1 := Aside0.mk h1
  clear h0 h1
  try (have H2 := Aside0.mk h2; clear h2)
  try (have H3 := Aside0.mk h3; clear h3)
  try (have H5 := Aside0.mk h5; clear h5)
  try (have H6 := Aside0.mk h6; clear h6)
  go_enter Tryz.func75, Tryz.ntmps75
  go_wp2_with (fail)
  refine named _ ?_
  intro W hW
  obtain ⟨c0, c1, c2, c3, c4, hB⟩ := one_eg hW
  have HB := Aside0.mk hB
  clear hW hB
  have HK_ := Aside0.mk (show Reg (fun u_ => Below w.heap.size w u_ ∧ u_.cell? ⟨w.heap.size, 0, none⟩ = some (.int .i64 x.lab) ∧ u_.cell? ⟨w.heap.size, 1, none⟩ = some (.int .i64 x.a.lab) ∧ u_.cell? ⟨w.heap.size, 2, none⟩ = some (.int .i64 x.a.num) ∧ u_.cell? ⟨w.heap.size, 3, none⟩ = some (.int .i64 x.b.lab) ∧ u_.cell? ⟨w.heap.size, 4, none⟩ = some (.int .i64 x.b.num) ∧ True) from ⟨fun _ _ hb_ ⟨q_, s0_, s1_, s2_, s3_, s4_, _⟩ => ⟨below_step q_ hb_, pw_cell_below hb_ s0_, pw_cell_below hb_ s1_, pw_cell_below hb_ s2_, pw_cell_below hb_ s3_, pw_cell_below hb_ s4_, trivial⟩⟩)
  refine region_by _ sEdgeOk (by kernel_rfl) sEdgeOk_ok rfl (fun d _ _ _ _ h => by cases d <;> exact h) HK_.out ⟨HB.out, c0, c1, c2, c3, c4, trivial⟩ ?_
  intro u hS
  clear c0 c1 c2 c3 c4
  repeat (first | (refine h_off gt_ (by rfl) ?_; intro a_ ha_; (simp only [Act.put, pu1, pu2, pu3] at ha_); subst ha_) | (refine h_on (v := ?_) gt_ (by rfl) ?_ ?_; rotate_left; (· rintro w_ ⟨-, s0_, s1_, s2_, s3_, s4_, -⟩; go_simp; with_reducible rfl); intro a_ ha_; (simp only [Act.put, pu1, pu2, pu3] at ha_); subst ha_) | (refine h_offc hS gt_ (by rfl) ?_; intro a_ ha_; (simp only [Act.put, pu1, pu2, pu3] at ha_); subst ha_) | (refine h_call (f := 62) (args := #[.int .i64 x.lab]) HK_.out hS Tryz.func62 (by kernel_rfl) rfl gt_ (by rfl) (by rfl) mp_ ?_; (with_reducible refine (labelOk_calls x.lab _).mono ?_); rintro e_ u_ ⟨rfl, rfl⟩; rw [H1.out]; refine ⟨_, rfl, Below.refl _ _, fun a_ ha_ hS_ => ?_⟩; (simp only [Act.put, pu1, pu2, pu3] at ha_); subst ha_; clear hS; have hS := hS_; clear hS_) | (refine h_call (f := 74) (args := #[.agg #[.int .i64 x.a.lab, .int .i64 x.a.num]]) HK_.out hS Tryz.func74 (by kernel_rfl) rfl gt_ (by rfl) (by rfl) mp_ ?_; (with_reducible refine (nodeOk_calls x.a _).mono ?_); rintro e_ u_ ⟨rfl, hb_⟩; rw [H2.out]; refine ⟨_, rfl, hb_, fun a_ ha_ hS_ => ?_⟩; (simp only [Act.put, pu1, pu2, pu3] at ha_); subst ha_; clear hS; have hS := hS_; clear hS_; clear hb_) | (refine h_call (f := 74) (args := #[.agg #[.int .i64 x.b.lab, .int .i64 x.b.num]]) HK_.out hS Tryz.func74 (by kernel_rfl) rfl gt_ (by rfl) (by rfl) mp_ ?_; (with_reducible refine (nodeOk_calls x.b _).mono ?_); rintro e_ u_ ⟨rfl, hb_⟩; rw [H3.out]; refine ⟨_, rfl, hb_, fun a_ ha_ hS_ => ?_⟩; (simp only [Act.put, pu1, pu2, pu3] at ha_); subst ha_; clear hS; have hS := hS_; clear hS_; clear hb_) | (refine h_call (f := 113) (args := #[.agg #[.int .i64 x.a.lab, .int .i64 x.a.num]]) HK_.out hS Tryz.func113 (by kernel_rfl) rfl gt_ (by rfl) (by rfl) mp_ ?_; (with_reducible refine (nodeCode_calls x.a _).mono ?_); rintro e_ u_ ⟨rfl, hb_⟩; refine ⟨_, rfl, hb_, fun a_ ha_ hS_ => ?_⟩; (simp only [Act.put, pu1, pu2, pu3] at ha_); subst ha_; clear hS; have hS := hS_; clear hS_; clear hb_) | (refine h_call (f := 113) (args := #[.agg #[.int .i64 x.b.lab, .int .i64 x.b.num]]) HK_.out hS Tryz.func113 (by kernel_rfl) rfl gt_ (by rfl) (by rfl) mp_ ?_; (with_reducible refine (nodeCode_calls x.b _).mono ?_); rintro e_ u_ ⟨rfl, hb_⟩; refine ⟨_, rfl, hb_, fun a_ ha_ hS_ => ?_⟩; (simp only [Act.put, pu1, pu2, pu3] at ha_); subst ha_; clear hS; have hS := hS_; clear hS_; clear hb_) | (refine h_call (f := 32) (args := #[.int .i64 x.a.lab, .int .i64 x.lab]) HK_.out hS Tryz.func32 (by kernel_rfl) rfl gt_ (by rfl) (by rfl) mp_ ?_; (with_reducible refine (labelUnder_calls x.a.lab x.lab _).mono ?_); rintro e_ u_ ⟨rfl, rfl⟩; rw [H5.out]; refine ⟨_, rfl, Below.refl _ _, fun a_ ha_ hS_ => ?_⟩; (simp only [Act.put, pu1, pu2, pu3] at ha_); subst ha_; clear hS; have hS := hS_; clear hS_) | (refine h_call (f := 32) (args := #[.int .i64 x.b.lab, .int .i64 x.lab]) HK_.out hS Tryz.func32 (by kernel_rfl) rfl gt_ (by rfl) (by rfl) mp_ ?_; (with_reducible refine (labelUnder_calls x.b.lab x.lab _).mono ?_); rintro e_ u_ ⟨rfl, rfl⟩; rw [H6.out]; refine ⟨_, rfl, Below.refl _ _, fun a_ ha_ hS_ => ?_⟩; (simp only [Act.put, pu1, pu2, pu3] at ha_); subst ha_; clear hS; have hS := hS_; clear hS_))
  refine h_end ?_
  clear HK_ HB
  obtain ⟨hB_, c0, c1, c2, c3, c4, -⟩ := hS
  have HB := Aside0.mk hB_
  clear hB_
  go_wp2
  go_ret
  exact ⟨retB (by rw [H0.out]), HB.out⟩
end Go.Proofs.YtogmbeifbjgphaaGreat.R
namespace Go.Proofs.YtogmbeifbjgphaaGreat.R
open Go.RowKit Go.Proofs.YtogmbeifbjgphaaGreatV.PrintWords Go.Proofs.YtogmbeifbjgphaaGreatV.PrintLast Go.Proofs.YtogmbeifbjgphaaGreatV.PrintMore Go.Proofs.YtogmbeifbjgphaaGreat.M
set_option linter.unusedVariables false
set_option linter.unusedSimpArgs false
attribute [local go_sem high] eqN eqE
def orL : List Int → Int
 | [] => 0
 | x :: l => if x = 0 then orL l else x
theorem orL_at {l : List Int} {j : Nat} (h : ∀ i, i < j → l.getD i 0 = 0) : orL l = orL (l.drop j) := by
 induction j generalizing l with
 | zero => rfl
 | succ j ih =>
   cases l with
   | nil => rfl
   | cons x l =>
     have h0 : x = 0 := by simpa using h 0 (by omega)
     rw [List.drop_succ_cons, ← ih (fun i hi => by simpa using h (i + 1) (by omega))]
     simp [orL, h0]
set_option maxHeartbeats 800000 in
theorem or_calls (A : Option Addr) (n c : Nat) (l : List Int) (w : World) (hn : n = l.length) (hr : (Kd.int .i64).C w A n l) (hl : n ≤ 1000) : Calls Tryz.prog 126 #[.slice A n c] w fun e w' => e = .returned (.int .i64 (orL l)) ∧ w = w' := by
 subst hn
 have HR := Aside0.mk hr
 clear hr
 go_enter Tryz.func126, Tryz.ntmps126
 go_wp2
 go_loop [5, 8] (fun _ i => ∃ j : Nat, j ≤ l.length ∧ i = .int .i64 (j : Int) ∧ Aside0 (∀ i, i < j → l.getD i 0 = 0)) (fun _ i => l.length - (intOf i).toNat)
 case atStart => exact ⟨0, Nat.zero_le _, rfl, ⟨fun i hi => by omega⟩⟩
 case round =>
  obtain ⟨j, hj, rfl, HZ⟩ := hrel
  by_cases hlt : j < l.length
  ·obtain ⟨ad, e1, hx⟩ := Kd.at_int HR.out (j : Int) (by omega) (by omega)
   cases e1
   rw [Int.toNat_natCast] at hx
   have HD := Aside0.mk (show rd l (j : Int) = l.getD j 0 by unfold rd; rw [Int.toNat_natCast])
   generalize hv : rd l (j : Int) = x at hx HD
   clear hv
   by_cases h0 : x = 0
   ·subst h0
    go_wp2
    go_round
    case rel => exact ⟨j + 1, by omega, by go_num, ⟨fun i hi => by
     rcases Nat.lt_or_eq_of_le (Nat.le_of_lt_succ hi) with h1 | h1
     ·exact HZ.out i h1
     ·subst h1
      exact HD.out.symm⟩⟩
    case measure => simp [intOf]; omega
   ·have hb : (!(x == 0)) = true := by simp [h0]
    have hb2 : (x == 0) = false := by simp [h0]
    have HE := Aside0.mk (show orL l = x by
     rw [orL_at HZ.out, List.drop_eq_getElem_cons hlt]
     have : l[j] = x := by have := HD.out; simp [List.getD_eq_getElem?_getD, hlt] at this; exact this.symm
     rw [this]
     simp [orL, h0])
    go_wp2
    go_ret
    exact ⟨retI HE.out.symm, rfl⟩
  ·have hjl : j = l.length := by omega
   subst hjl
   have HE := Aside0.mk (show orL l = 0 by rw [orL_at HZ.out, List.drop_length]; rfl)
   go_wp2
   go_ret
   exact ⟨retI HE.out.symm, rfl⟩
def ordE (x y : Eg) : Int := orL [cmpI x.lab y.lab, cmpI (codeI x.a) (codeI y.a), cmpI (codeI x.b) (codeI y.b)]
theorem two_eg {w W : World} {a b : Eg} (h : W = (w.alloc (.cells #[.int .i64 a.lab, .int .i64 a.a.lab, .int .i64 a.a.num, .int .i64 a.b.lab, .int .i64 a.b.num] 30)).alloc (.cells #[.int .i64 b.lab, .int .i64 b.a.lab, .int .i64 b.a.num, .int .i64 b.b.lab, .int .i64 b.b.num] 30)) :
 W.cell? ⟨w.heap.size, 0, none⟩ = some (.int .i64 a.lab) ∧ W.cell? ⟨w.heap.size, 1, none⟩ = some (.int .i64 a.a.lab) ∧ W.cell? ⟨w.heap.size, 2, none⟩ = some (.int .i64 a.a.num) ∧ W.cell? ⟨w.heap.size, 3, none⟩ = some (.int .i64 a.b.lab) ∧ W.cell? ⟨w.heap.size, 4, none⟩ = some (.int .i64 a.b.num) ∧ W.cell? ⟨w.heap.size + 1, 0, none⟩ = some (.int .i64 b.lab) ∧ W.cell? ⟨w.heap.size + 1, 1, none⟩ = some (.int .i64 b.a.lab) ∧ W.cell? ⟨w.heap.size + 1, 2, none⟩ = some (.int .i64 b.a.num) ∧ W.cell? ⟨w.heap.size + 1, 3, none⟩ = some (.int .i64 b.b.lab) ∧ W.cell? ⟨w.heap.size + 1, 4, none⟩ = some (.int .i64 b.b.num) ∧ Below w.heap.size w W := by
 subst h
 exact ⟨by simp, by simp, by simp, by simp, by simp, by simp, by simp, by simp, by simp, by simp, below_alloc (below_alloc (Below.refl _ _) _) _⟩
theorem three_row {w : World} {g : Nat} {t : TypeId} {x y z : Int} (h : w.heap[g]? = some (.cells #[.int .i64 x, .int .i64 y, .int .i64 z] t (0, 0))) : (Kd.int .i64).C w (some ⟨g, 0, none⟩) 3 [x, y, z] := by
 refine Kd.C_of_reads (d := (0 : Int)) (h1 := fun _ => rfl) ⟨rfl, by omega, fun _ => ⟨_, rfl, fun j hj => ?_⟩⟩
 rw [add_plain, blk_cell h]
 rcases j with _ | _ | _ | j
 ·rfl
 ·rfl
 ·rfl
 ·omega
abbrev sEdgeOrder : List (Nat × Bool) := [(0, true), (1, true), (2, true), (3, true), (5, true), (6, true), (7, true), (8, true), (10, true), (11, true), (12, true), (13, true), (4, false), (9, false), (14, false), (15, false), (16, false), (17, true)]
theorem sEdgeOrder_ok : schedB .any (opsOf Tryz.f94 1) sEdgeOrder (Array.replicate (opsOf Tryz.f94 1).size false) = true := by kernel_rfl
set_option maxHeartbeats 1600000 in
set_option maxRecDepth 100000 in
theorem edgeOrder_calls (a b : Eg) (w : World) : Calls Tryz.prog 94 #[.agg #[.int .i64 a.lab, .int .i64 a.a.lab, .int .i64 a.a.num, .int .i64 a.b.lab, .int .i64 a.b.num], .agg #[.int .i64 b.lab, .int .i64 b.a.lab, .int .i64 b.a.num, .int .i64 b.b.lab, .int .i64 b.b.num]] w fun e w' => e = .returned (.int .i64 (ordE a b)) ∧ Below w.heap.size w w' := by
 go_enter Tryz.func94, Tryz.ntmps94
 go_wp2_with (fail)
 refine named _ ?_
 intro W hW
 obtain ⟨c0, c1, c2, c3, c4, c5, c6, c7, c8, c9, hB⟩ := two_eg hW
 have HB := Aside0.mk hB
 clear hW hB
 have HK_ := Aside0.mk (show Reg (fun u_ => Below w.heap.size w u_ ∧ u_.cell? ⟨w.heap.size, 0, none⟩ = some (.int .i64 a.lab) ∧ u_.cell? ⟨w.heap.size, 1, none⟩ = some (.int .i64 a.a.lab) ∧ u_.cell? ⟨w.heap.size, 2, none⟩ = some (.int .i64 a.a.num) ∧ u_.cell? ⟨w.heap.size, 3, none⟩ = some (.int .i64 a.b.lab) ∧ u_.cell? ⟨w.heap.size, 4, none⟩ = some (.int .i64 a.b.num) ∧ u_.cell? ⟨w.heap.size + 1, 0, none⟩ = some (.int .i64 b.lab) ∧ u_.cell? ⟨w.heap.size + 1, 1, none⟩ = some (.int .i64 b.a.lab) ∧ u_.cell? ⟨w.heap.size + 1, 2, none⟩ = some (.int .i64 b.a.num) ∧ u_.cell? ⟨w.heap.size + 1, 3, none⟩ = some (.int .i64 b.b.lab) ∧ u_.cell? ⟨w.heap.size + 1, 4, none⟩ = some (.int .i64 b.b.num) ∧ True) from ⟨fun _ _ hb_ ⟨q_, s0_, s1_, s2_, s3_, s4_, s5_, s6_, s7_, s8_, s9_, _⟩ => ⟨below_step q_ hb_, pw_cell_below hb_ s0_, pw_cell_below hb_ s1_, pw_cell_below hb_ s2_, pw_cell_below hb_ s3_, pw_cell_below hb_ s4_, pw_cell_below hb_ s5_, pw_cell_below hb_ s6_, pw_cell_below hb_ s7_, pw_cell_below hb_ s8_, pw_cell_below hb_ s9_, trivial⟩⟩)
 refine region_by _ sEdgeOrder (by kernel_rfl) sEdgeOrder_ok rfl (fun d _ _ _ _ h => by cases d <;> exact h) HK_.out ⟨HB.out, c0, c1, c2, c3, c4, c5, c6, c7, c8, c9, trivial⟩ ?_
 intro u hS
 clear c0 c1 c2 c3 c4 c5 c6 c7 c8 c9
 repeat (first | (refine h_off gt_ (by rfl) ?_; intro a_ ha_; (simp only [Act.put, pu1, pu2, pu3] at ha_); subst ha_) | (refine h_on (v := ?_) gt_ (by rfl) ?_ ?_; rotate_left; (· rintro w_ ⟨-, s0_, s1_, s2_, s3_, s4_, s5_, s6_, s7_, s8_, s9_, -⟩; go_simp; with_reducible rfl); intro a_ ha_; (simp only [Act.put, pu1, pu2, pu3] at ha_); subst ha_) | (refine h_offc hS gt_ (by rfl) ?_; intro a_ ha_; (simp only [Act.put, pu1, pu2, pu3] at ha_); subst ha_) | (refine h_call (f := 112) (args := #[.int .i64 a.lab, .int .i64 b.lab]) HK_.out hS Tryz.func112 (by kernel_rfl) rfl gt_ (by rfl) (by rfl) mp_ ?_; (with_reducible refine (compare_calls a.lab b.lab _).mono ?_); rintro e_ u_ ⟨rfl, rfl⟩; refine ⟨_, rfl, Below.refl _ _, fun a_ ha_ hS_ => ?_⟩; (simp only [Act.put, pu1, pu2, pu3] at ha_); subst ha_; clear hS; have hS := hS_; clear hS_) | (refine h_call (f := 59) (args := #[.agg #[.int .i64 a.a.lab, .int .i64 a.a.num], .agg #[.int .i64 b.a.lab, .int .i64 b.a.num]]) HK_.out hS Tryz.func59 (by kernel_rfl) rfl gt_ (by rfl) (by rfl) mp_ ?_; (with_reducible refine (nodeOrder_calls a.a b.a _).mono ?_); rintro e_ u_ ⟨rfl, hb_⟩; refine ⟨_, rfl, hb_, fun a_ ha_ hS_ => ?_⟩; (simp only [Act.put, pu1, pu2, pu3] at ha_); subst ha_; clear hS; have hS := hS_; clear hS_; clear hb_) | (refine h_call (f := 59) (args := #[.agg #[.int .i64 a.b.lab, .int .i64 a.b.num], .agg #[.int .i64 b.b.lab, .int .i64 b.b.num]]) HK_.out hS Tryz.func59 (by kernel_rfl) rfl gt_ (by rfl) (by rfl) mp_ ?_; (with_reducible refine (nodeOrder_calls a.b b.b _).mono ?_); rintro e_ u_ ⟨rfl, hb_⟩; refine ⟨_, rfl, hb_, fun a_ ha_ hS_ => ?_⟩; (simp only [Act.put, pu1, pu2, pu3] at ha_); subst ha_; clear hS; have hS := hS_; clear hS_; clear hb_) | (refine h_val (v := ?_) (w1 := ?_) HK_.out hS gt_ (by rfl) ?_ ?_ ?_; rotate_left 2; (· go_simp; (first | (refine And.intro ?_ ?_ <;> with_reducible rfl) | with_reducible rfl)); (· exact below_alloc (Below.refl _ _) _); intro a_ ha_ hS_; (simp only [Act.put, pu1, pu2, pu3] at ha_); subst ha_; have HQ := Aside0.mk (three_row (blk_new u_ (.cells #[.int .i64 (cmpI a.lab b.lab), .int .i64 (cmpI (codeI a.a) (codeI b.a)), .int .i64 (cmpI (codeI a.b) (codeI b.b))] 3))); clear hS; have hS := hS_; clear hS_) | (refine h_call (f := 126) (args := #[.slice (some ⟨u_.heap.size, 0, none⟩) 3 3]) HK_.out hS Tryz.func126 (by kernel_rfl) rfl gt_ (by rfl) (by rfl) mp_ ?_; (with_reducible refine (or_calls _ 3 _ [cmpI a.lab b.lab, cmpI (codeI a.a) (codeI b.a), cmpI (codeI a.b) (codeI b.b)] _ rfl HQ.out (by omega)).mono ?_); rintro e_ u_ ⟨rfl, rfl⟩; refine ⟨_, rfl, Below.refl _ _, fun a_ ha_ hS_ => ?_⟩; (simp only [Act.put, pu1, pu2, pu3] at ha_); subst ha_; clear hS; have hS := hS_; clear hS_))
 refine h_end ?_
 clear HK_ HB
 obtain ⟨hB_, c0, c1, c2, c3, c4, c5, c6, c7, c8, c9, -⟩ := hS
 have HB := Aside0.mk hB_
 clear hB_
 go_wp2
 go_ret
 exact ⟨rfl, HB.out⟩
end Go.Proofs.YtogmbeifbjgphaaGreat.R
