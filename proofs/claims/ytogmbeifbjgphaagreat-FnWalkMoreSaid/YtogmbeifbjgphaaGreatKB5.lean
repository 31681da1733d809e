/- Are nodes right, in order, and few enough of a label?; Binary search among nodes, among edges; Is the node there? What binary search tells of nodes and edges that are right. -/
import Derived.Test.YtogmbeifbjgphaaGreatKB4
namespace Go.Proofs.YtogmbeifbjgphaaGreat.R
open Go.RowKit Go.Proofs.YtogmbeifbjgphaaGreatV.PrintWords Go.Proofs.YtogmbeifbjgphaaGreatV.PrintLast Go.Proofs.YtogmbeifbjgphaaGreatV.PrintMore Go.Proofs.YtogmbeifbjgphaaGreat.M
set_option linter.unusedVariables false
set_option linter.unusedSimpArgs false
attribute [local go_sem high] eqN eqE
/-- Eight counts in a row. -/
def eight (f : Nat → Int) : Array Value := ((List.range 8).map fun a => Value.int .i64 (f a)).toArray
theorem eight_at (f : Nat → Int) {a : Nat} (h : a < 8) : (eight f)[a]? = some (.int .i64 (f a)) := by
 unfold eight
 simp [h]
theorem eight_set (f : Nat → Int) {a : Nat} (h : a < 8) (x : Int) : (eight f).setIfInBounds a (.int .i64 x) = eight (fun b => if b = a then x else f b) := by
 apply Array.ext_getElem?
 intro i
 rw [Array.getElem?_setIfInBounds]
 by_cases h8 : i < 8
 ·rw [eight_at _ h8, eight_at _ h8]
  by_cases e : a = i
  ·subst e
   simp [eight, h]
  ·rw [if_neg e, if_neg (fun e' => e e'.symm)]
 ·have hs : ∀ g : Nat → Int, (eight g).size = 8 := fun g => by simp [eight]
  have hn : ∀ g : Nat → Int, (eight g)[i]? = none := fun g => Array.getElem?_eq_none (by rw [hs]; omega)
  rw [hn, hn, if_neg (by omega)]
/-- Nodes that are right. -/
structure NsOk (l : List Nd) : Prop where
 ok : ∀ n ∈ l, okN n = true
 asc : Asc code l
 few : ∀ a, (l.countP fun n => n.lab == a) ≤ 5
open Classical in
noncomputable def nsOk (l : List Nd) : Bool := decide (NsOk l)
theorem nsOk_true {l : List Nd} : nsOk l = true ↔ NsOk l := by simp [nsOk]
theorem nsOk_false {l : List Nd} : nsOk l = false ↔ ¬ NsOk l := by simp [nsOk]
def lastC (l : List Nd) (j : Nat) : Int := if j = 0 then -1 else codeI (at_ l (j - 1))
def cntN (l : List Nd) (j : Nat) (a : Nat) : Int := ((l.take j).countP fun n => n.lab == (a : Int) : Nat)
theorem take_at {l : List Nd} {j : Nat} (h : j < l.length) : l.take (j + 1) = l.take j ++ [at_ l j] := by
 rw [List.take_succ_eq_append_getElem h, at_lt h]
theorem codeI_ok {n : Nd} (h : okN n = true) : codeI n = code n := by
 unfold codeI
 rw [if_pos h]
theorem codeI_low (n : Nd) : -1 ≤ codeI n ∧ (0 ≤ codeI n → okN n = true) := by
 unfold codeI
 split
 ·rename_i h
  have := code_rng h
  exact ⟨by omega, fun _ => h⟩
 ·exact ⟨by omega, fun h => by omega⟩
theorem NsOk.take {l : List Nd} (h : NsOk l) (j : Nat) : NsOk (l.take j) :=
 ⟨fun n hn => h.ok n (List.mem_of_mem_take hn), h.asc.sub (List.take_sublist _ _), fun a => Nat.le_trans (List.take_sublist _ _).countP_le (h.few a)⟩
theorem cntN_rng (l : List Nd) (j a : Nat) : 0 ≤ cntN l j a := by
 unfold cntN
 omega
theorem nsOk_step {l : List Nd} {j : Nat} (hj : j < l.length) (h : NsOk (l.take j)) : (codeI (at_ l j) ≤ lastC l j ∧ ¬ NsOk l) ∨
 (lastC l j < codeI (at_ l j) ∧ (0 ≤ (at_ l j).lab ∧ (at_ l j).lab < 8) ∧ ((cntN l j (at_ l j).lab.toNat = 5 ∧ ¬ NsOk l) ∨ (cntN l j (at_ l j).lab.toNat ≠ 5 ∧ cntN l j (at_ l j).lab.toNat ≤ 5 ∧ NsOk (l.take (j + 1))))) := by
 have hm : at_ l j ∈ l := at_mem hj
 by_cases hc : codeI (at_ l j) ≤ lastC l j
 ·refine .inl ⟨hc, fun hn => ?_⟩
  have hok := hn.ok _ hm
  rw [codeI_ok hok] at hc
  have := code_rng hok
  unfold lastC at hc
  split at hc
  ·omega
  ·rename_i h0
   rw [codeI_ok (hn.ok _ (at_mem (by omega)))] at hc
   rw [at_lt hj, at_lt (show j - 1 < l.length by omega)] at hc
   have := hn.asc.lt (i := j - 1) (j := j) (by omega) hj
   omega
 ·have hlow : -1 ≤ lastC l j := by
   unfold lastC
   split
   ·omega
   ·exact (codeI_low _).1
  have hok : okN (at_ l j) = true := (codeI_low _).2 (by omega)
  obtain ⟨⟨l0, l7⟩, _⟩ := okN_iff.1 hok
  refine .inr ⟨by omega, ⟨l0, by omega⟩, ?_⟩
  have hcast : (((at_ l j).lab.toNat : Nat) : Int) = (at_ l j).lab := by omega
  have hcnt : cntN l j (at_ l j).lab.toNat = ((l.take j).countP fun n => n.lab == (at_ l j).lab : Nat) := by
   unfold cntN
   rw [hcast]
  have hfew := h.few (at_ l j).lab
  by_cases h5 : cntN l j (at_ l j).lab.toNat = 5
  ·refine .inl ⟨h5, fun hn => ?_⟩
   have := (hn.take (j + 1)).few (at_ l j).lab
   rw [take_at hj, List.countP_append] at this
   simp at this
   omega
  ·refine .inr ⟨h5, by omega, ?_⟩
   rw [take_at hj]
   refine ⟨fun n hn => ?_, asc_append.2 ⟨h.asc, asc_cons.2 ⟨by simp, Asc.nil⟩, fun a ha b hb => ?_⟩, fun a => ?_⟩
   ·rcases List.mem_append.1 hn with hn | hn
    ·exact h.ok n hn
    ·obtain rfl := List.mem_singleton.1 hn
     exact hok
   ·obtain rfl := List.mem_singleton.1 hb
    obtain ⟨i, hi, rfl⟩ := List.getElem_of_mem ha
    rw [List.length_take] at hi
    have h0 : j ≠ 0 := by omega
    have hl : lastC l j = code (at_ l (j - 1)) := by
     unfold lastC
     rw [if_neg h0]
     refine codeI_ok (h.ok _ ?_)
     rw [at_lt (by omega), List.mem_take_iff_getElem]
     exact ⟨j - 1, by omega, rfl⟩
    rw [← codeI_ok hok]
    have hle := h.asc.le (i := i) (j := j - 1) (by omega) (by rw [List.length_take]; omega)
    rw [List.getElem_take, List.getElem_take] at hle
    rw [List.getElem_take]
    rw [at_lt (by omega)] at hl
    omega
   ·rw [List.countP_append]
    have := h.few a
    by_cases e : (at_ l j).lab = a
    ·subst e
     simp
     omega
    ·have e' : ((at_ l j).lab == a) = false := by simpa using e
     simp [e']
     exact this
theorem cntN_step {l : List Nd} {j : Nat} (hj : j < l.length) (h8 : 0 ≤ (at_ l j).lab ∧ (at_ l j).lab < 8) : eight (fun b => if b = (at_ l j).lab.toNat then cntN l j (at_ l j).lab.toNat + 1 else cntN l j b) = eight (cntN l (j + 1)) := by
 unfold eight
 congr 1
 apply List.map_congr_left
 intro b hb
 congr 1
 unfold cntN
 rw [take_at hj, List.countP_append]
 by_cases e : b = (at_ l j).lab.toNat
 ·subst e
  have : ((at_ l j).lab == (((at_ l j).lab.toNat : Nat) : Int)) = true := by
   rw [beq_iff_eq]
   omega
  rw [List.countP_singleton, if_pos this]
  simp only [if_true]
  omega
 ·have : ((at_ l j).lab == (b : Int)) = false := by
   rw [beq_eq_false_iff_ne]
   omega
  simp [this, e]
set_option maxHeartbeats 1600000 in
set_option maxRecDepth 100000 in
theorem nodesOk_calls (A : Option Addr) (c : Nat) (l : List Nd) (w : World) (hr : kN.C w A l.length l) : Calls Tryz.prog 72 #[.slice A l.length c] w fun e w' => e = .returned (.bool (nsOk l)) ∧ Below w.heap.size w w' := by
 have HL := Aside0.mk hr.2.1
 have HR := Aside0.mk hr
 clear hr
 have hz : (Array.replicate 8 (Value.int .i64 0)) = eight (cntN l 0) := by
  unfold eight cntN
  rfl
 clear hz
 have hl := HL.out
 go_enter Tryz.func72, Tryz.ntmps72
 go_wp2
 go_loopw [4, 6, 7, 10] (fun la _ _ i wr => ∃ j : Nat, j ≤ l.length ∧ la = .int .i64 (lastC l j) ∧ i = .int .i64 (j : Int) ∧ Aside0 (NsOk (l.take j)) ∧ Aside0 (wr.heap[w.heap.size]? = some (.cells (eight (cntN l j)) 143 (0, 0))) ∧ Aside0 (Below w.heap.size w wr)) (fun _ _ _ i _ => l.length - (intOf i).toNat)
 case atStart => exact ⟨0, Nat.zero_le _, rfl, rfl, ⟨⟨by simp, by simp [Asc], by simp⟩⟩, ⟨blk_new w (.cells #[.int .i64 0, .int .i64 0, .int .i64 0, .int .i64 0, .int .i64 0, .int .i64 0, .int .i64 0, .int .i64 0] 143)⟩, ⟨below_alloc (Below.refl _ _) _⟩⟩
 case round =>
  obtain ⟨j, hj, rfl, rfl, HN, HM, HB⟩ := hrel
  by_cases hlt : j < l.length
  ·obtain ⟨ad, e1, hx0, hx1⟩ := nd_at (Kd.C_below HR.out HB.out) j hlt
   cases e1
   have HS := Aside0.mk (cntN_step hlt)
   have hst := nsOk_step hlt HN.out
   have hlast : -1 ≤ lastC l j := by
    unfold lastC
    split
    ·omega
    ·exact (codeI_low _).1
   generalize hn : at_ l j = n at hx0 hx1 hst HS
   generalize hla : lastC l j = la at hst hlast
   have HE := Aside0.mk hn
   have HLA := Aside0.mk hla
   clear hn hla
   rcases hst with ⟨h1, h2⟩ | ⟨h1, ⟨h3, h4⟩, h5⟩
   ·have HF := Aside0.mk (nsOk_false.2 h2)
    clear h2
    go_wp2_with (first | (go_at_call 113; go_must (refine (nodeCode_calls n _).mono ?_); rintro e w1 ⟨rfl, hb⟩; have HB2 := Aside0.mk (below_step (below_alloc HB.out _) hb); clear hb))
    go_ret
    exact ⟨retB HF.out.symm, HB2.out⟩
   ·have hM := HM.out
    have hl8 : n.lab.toNat < 8 := by omega
    have hmc : wr.cell? ⟨w.heap.size, n.lab.toNat, none⟩ = some (.int .i64 (cntN l j n.lab.toNat)) := (blk_cell hM _).trans (eight_at _ hl8)
    have HMC := Aside0.mk hmc
    have hwl := blk_lt hM
    have HST := Aside0.mk (eight_set (cntN l j) hl8 (cntN l j n.lab.toNat + 1))
    clear hmc hM
    rcases h5 with ⟨h5, h6⟩ | ⟨h5, h6, h7⟩
    ·have HF := Aside0.mk (nsOk_false.2 h6)
     rw [h5] at HMC
     clear h6 h5
     go_wp2_with (first | (go_at_call 113; (refine (nodeCode_calls n _).mono ?_); rintro e w1 ⟨rfl, hb⟩; have HB2 := Aside0.mk (below_step (below_alloc HB.out _) hb); have d0 : w1.cell? ⟨wr.heap.size, 0, none⟩ = some (.int .i64 n.lab) := pw_cell_below hb (by simp); have d1 : w1.cell? ⟨wr.heap.size, 1, none⟩ = some (.int .i64 n.num) := pw_cell_below hb (by simp); have d2 : w1.cell? ⟨w.heap.size, n.lab.toNat, none⟩ = some (.int .i64 5) := pw_cell_below hb (pw_cell_below (below_alloc (Below.refl _ _) _) HMC.out); clear hb))
     go_ret
     exact ⟨retB HF.out.symm, HB2.out⟩
    ·have hbe : (cntN l j n.lab.toNat == 5) = false := beq_eq_false_iff_ne.2 h5
     have HN2 := Aside0.mk h7
     have hge := cntN_rng l j n.lab.toNat
     clear h7 h5
     go_wp2_with (first | (go_at_call 113; (refine (nodeCode_calls n _).mono ?_); rintro e w1 ⟨rfl, hb⟩; have HB2 := Aside0.mk (below_step (below_alloc HB.out _) hb); have d0 : w1.cell? ⟨wr.heap.size, 0, none⟩ = some (.int .i64 n.lab) := pw_cell_below hb (by simp); have d1 : w1.cell? ⟨wr.heap.size, 1, none⟩ = some (.int .i64 n.num) := pw_cell_below hb (by simp); have d2 : w1.cell? ⟨w.heap.size, n.lab.toNat, none⟩ = some (.int .i64 (cntN l j n.lab.toNat)) := pw_cell_below hb (pw_cell_below (below_alloc (Below.refl _ _) _) HMC.out); have HM2 := Aside0.mk (blk_below (blk_alloc HM.out _) hb); have d3 := blk_frozen HM2.out n.lab.toNat; clear hb))
     go_roundw
     case rel => exact ⟨j + 1, by omega, by rw [show lastC l (j + 1) = codeI n by unfold lastC; rw [if_neg (by omega), Nat.add_sub_cancel, HE.out]], by go_num, HN2, ⟨by rw [blk_set HM2.out, HST.out, HS.out ⟨h3, h4⟩]⟩, ⟨below_set HB2.out (Nat.le_refl _)⟩⟩
     case measure => simp [intOf]; omega
  ·have hjl : j = l.length := by omega
   subst hjl
   have HF := Aside0.mk (nsOk_true.2 (by have := HN.out; rwa [List.take_length] at this))
   go_wp2
   go_ret
   exact ⟨retB HF.out.symm, HB.out⟩
end Go.Proofs.YtogmbeifbjgphaaGreat.R
namespace Go.Proofs.YtogmbeifbjgphaaGreat.R
open Go.RowKit Go.Proofs.YtogmbeifbjgphaaGreatV.PrintWords Go.Proofs.YtogmbeifbjgphaaGreatV.PrintLast Go.Proofs.YtogmbeifbjgphaaGreatV.PrintMore Go.Proofs.YtogmbeifbjgphaaGreat.M
set_option linter.unusedVariables false
set_option linter.unusedSimpArgs false
attribute [local go_sem high] eqN eqE
/-- A list whose first i meet p and whose others do not: i meet it. -/
theorem count_at {α : Type} (p : α → Bool) (g : List α → Nat → α) (hg : ∀ (l : List α) (j : Nat) (h : j < l.length), g l j = l[j]) (l : List α) (i : Nat) (hi : i ≤ l.length) (h1 : ∀ t, t < i → p (g l t) = true) (h2 : ∀ t, i ≤ t → t < l.length → p (g l t) = false) : l.countP p = i := by
 rw [← List.take_append_drop i l, List.countP_append]
 have e1 : (l.take i).countP p = i := by
  rw [List.countP_eq_length.2, List.length_take]
  ·omega
  ·intro a ha
   obtain ⟨j, hj, rfl⟩ := List.getElem_of_mem ha
   rw [List.length_take] at hj
   rw [List.getElem_take, ← hg l j (by omega)]
   exact h1 j (by omega)
 have e2 : (l.drop i).countP p = 0 := by
  rw [List.countP_eq_zero]
  intro a ha
  obtain ⟨j, hj, rfl⟩ := List.getElem_of_mem ha
  rw [List.length_drop] at hj
  rw [List.getElem_drop, ← hg l (i + j) (by omega), h2 (i + j) (by omega) (by omega)]
  decide
 omega
theorem count_to {f : Nd → Int} {l : List Nd} {i : Nat} (hi : i ≤ l.length) (h1 : ∀ t, t < i → f (at_ l t) < 0) (h2 : ∀ t, i ≤ t → t < l.length → 0 ≤ f (at_ l t)) : l.countP (fun y => decide (f y < 0)) = i :=
 count_at _ at_ (fun _ _ h => at_lt h) l i hi (fun t ht => decide_eq_true (h1 t ht)) (fun t ht hl => decide_eq_false (Int.not_lt.2 (h2 t ht hl)))
theorem count_toE {f : Eg → Int} {l : List Eg} {i : Nat} (hi : i ≤ l.length) (h1 : ∀ t, t < i → f (eat l t) < 0) (h2 : ∀ t, i ≤ t → t < l.length → 0 ≤ f (eat l t)) : l.countP (fun y => decide (f y < 0)) = i :=
 count_at _ eat (fun _ _ h => eat_lt h) l i hi (fun t ht => decide_eq_true (h1 t ht)) (fun t ht hl => decide_eq_false (Int.not_lt.2 (h2 t ht hl)))
abbrev sBsN5 : List (Nat × Bool) := [(0, true), (1, true), (2, true), (3, true), (4, true), (5, true), (6, false), (7, true)]
theorem sBsN5_ok : schedB .any (opsOf Tryz.f88 5) sBsN5 (Array.replicate (opsOf Tryz.f88 5).size false) = true := by kernel_rfl
abbrev sBsN8 : List (Nat × Bool) := [(0, true), (1, true), (2, true), (3, true), (4, true), (5, true), (6, true), (7, true), (8, true), (9, true), (10, true), (11, false), (12, true), (13, true), (14, true), (15, true)]
theorem sBsN8_ok : schedB .any (opsOf Tryz.f88 8) sBsN8 (Array.replicate (opsOf Tryz.f88 8).size false) = true := by kernel_rfl
set_option maxHeartbeats 3200000 in
set_option maxRecDepth 100000 in
theorem bsN_calls (A : Option Addr) (c : Nat) (l : List Nd) (x : Nd) (w : World) (hr : kN.C w A l.length l) (hl : l.length ≤ 1000000) (hm : ∀ a b, a ≤ b → b < l.length → cmpI (codeI (at_ l b)) (codeI x) < 0 → cmpI (codeI (at_ l a)) (codeI x) < 0) :
 Calls Tryz.prog 88 #[.slice A l.length c, .agg #[.int .i64 x.lab, .int .i64 x.num], .func (.func 59) #[] #[]] w fun e w' => e = .returned (.tuple #[.int .i64 (l.countP (fun y => decide (cmpI (codeI (y)) (codeI x) < 0)) : Nat), .bool (decide (l.countP (fun y => decide (cmpI (codeI (y)) (codeI x) < 0)) < l.length) && decide (cmpI (codeI (at_ l (l.countP (fun y => decide (cmpI (codeI (y)) (codeI x) < 0))))) (codeI x) = 0))]) ∧ Below w.heap.size w w' := by
 have HR := Aside0.mk hr
 have HM := Aside0.mk hm
 clear hr hm
 generalize hcnt : l.countP (fun y => decide (cmpI (codeI (y)) (codeI x) < 0)) = cnt
 have HC := Aside0.mk hcnt
 clear hcnt
 generalize hfin : (decide (cnt < l.length) && decide (cmpI (codeI (at_ l cnt)) (codeI x) = 0)) = fin
 have HF := Aside0.mk hfin
 clear hfin
 go_enter Tryz.func88, Tryz.ntmps88
 go_wp2_with (fail)
 go_loopw [9, 10, 11] (fun s9 s10 _ wr => ∃ lo hi : Nat, lo ≤ hi ∧ hi ≤ l.length ∧ s9 = .int .i64 (lo : Int) ∧ s10 = .int .i64 (hi : Int) ∧ Aside0 (∀ t, t < lo → cmpI (codeI (at_ l t)) (codeI x) < 0) ∧ Aside0 (∀ t, hi ≤ t → t < l.length → 0 ≤ cmpI (codeI (at_ l t)) (codeI x)) ∧ Aside0 (wr.heap[w.heap.size]? = some (.cells #[.int .i64 x.lab, .int .i64 x.num] 28 (0, 0))) ∧ Aside0 (Below w.heap.size w wr)) (fun s9 s10 _ _ => (intOf s10 - intOf s9).toNat)
 case atStart => exact ⟨0, l.length, Nat.zero_le _, Nat.le_refl _, rfl, rfl, ⟨fun t ht => absurd ht (Nat.not_lt_zero _)⟩, ⟨fun t h1 h2 => absurd h2 (Nat.not_lt.2 h1)⟩, ⟨blk_new w (.cells #[.int .i64 x.lab, .int .i64 x.num] 28)⟩, ⟨below_alloc (Below.refl _ _) _⟩⟩
 case round =>
  obtain ⟨lo, hi, hlh, hhl, rfl, rfl, H1, H2, HX, HB⟩ := hrel
  by_cases hlt : lo < hi
  ·obtain ⟨mid, hmid⟩ : ∃ m, m = (lo + hi) / 2 := ⟨_, rfl⟩
   have hm1 : lo ≤ mid ∧ mid < hi := by omega
   have hw1 : (((lo : Int) + (hi : Int)) / 2) = (mid : Int) := by omega
   have hml : mid < l.length := by omega
   obtain ⟨ad, e1, r0, r1⟩ := nd_at (Kd.C_below HR.out HB.out) mid hml
   cases e1
   obtain ⟨t0, t1⟩ := (show wr.cell? ⟨w.heap.size, 0, none⟩ = some (.int .i64 x.lab) ∧ wr.cell? ⟨w.heap.size, 1, none⟩ = some (.int .i64 x.num) from ⟨(blk_cell HX.out 0).trans rfl, (blk_cell HX.out 1).trans rfl⟩)
   generalize hy : at_ l mid = y at r0 r1
   have HY := Aside0.mk hy
   clear hy
   have HW1 := Aside0.mk hw1
   clear hw1 hmid
   obtain ⟨v, hdb⟩ : ∃ v, decide (cmpI (codeI (y)) (codeI x) < 0) = v := ⟨_, rfl⟩
   have HDB := Aside0.mk hdb
   cases v
   all_goals
    go_wp2_with (fail)
    simp only [HW1.out]
    have HK_ := Aside0.mk (show Reg (fun u_ => Below w.heap.size w u_ ∧ u_.cell? (ad.add (mid * 2)) = some (.int .i64 y.lab) ∧ u_.cell? ⟨(ad.add (mid * 2)).block, (ad.add (mid * 2)).off + 1, none⟩ = some (.int .i64 y.num) ∧ u_.cell? ⟨w.heap.size, 0, none⟩ = some (.int .i64 x.lab) ∧ u_.cell? ⟨w.heap.size, 1, none⟩ = some (.int .i64 x.num) ∧ u_.heap[w.heap.size]? = some (.cells #[.int .i64 x.lab, .int .i64 x.num] 28 (0, 0)) ∧ True) from ⟨fun _ _ hb_ ⟨q_, s0_, s1_, s2_, s3_, e0_, _⟩ => ⟨below_step q_ hb_, pw_cell_below hb_ s0_, pw_cell_below hb_ s1_, pw_cell_below hb_ s2_, pw_cell_below hb_ s3_, blk_below e0_ hb_, trivial⟩⟩)
    refine region_by _ sBsN5 (by kernel_rfl) sBsN5_ok rfl (fun d _ _ _ _ h => by cases d <;> exact h) HK_.out ⟨HB.out, r0, r1, t0, t1, HX.out, trivial⟩ ?_
    intro u hS
    clear r0 r1 t0 t1
    repeat (first | (refine h_off gt_ (by rfl) ?_; intro a_ ha_; (simp only [Act.put, pu1, pu2, pu3] at ha_); subst ha_) | (refine h_on (v := ?_) gt_ (by rfl) ?_ ?_; rotate_left; (· rintro w_ ⟨-, s0_, s1_, s2_, s3_, -, -⟩; go_simp; with_reducible rfl); intro a_ ha_; (simp only [Act.put, pu1, pu2, pu3] at ha_); subst ha_) | (refine h_offc hS gt_ (by rfl) ?_; intro a_ ha_; (simp only [Act.put, pu1, pu2, pu3] at ha_); subst ha_) | (refine h_callv (f := 59) (args := #[.agg #[.int .i64 y.lab, .int .i64 y.num], .agg #[.int .i64 x.lab, .int .i64 x.num]]) (cap := #[]) HK_.out hS Tryz.func59 (by kernel_rfl) rfl gt_ (by rfl) (by rfl) (by rfl) mp_ ?_; (refine (nodeOrder_calls y x _).mono ?_); rintro e_ u_ ⟨rfl, hb_⟩; refine ⟨_, rfl, hb_, fun a_ ha_ hS_ => ?_⟩; (simp only [Act.put, pu1, pu2, pu3] at ha_); subst ha_; clear hS; have hS := hS_; clear hS_ hb_))
    refine h_end ?_
    clear HK_ HB HX
    obtain ⟨hB_, r0, r1, t0, t1, hE0_, -⟩ := hS
    have HB := Aside0.mk hB_
    clear hB_
    have HX := Aside0.mk hE0_
    clear hE0_
    go_wp2
    go_roundw
    case rel => first | exact ⟨mid + 1, hi, by omega, hhl, by go_num, rfl, ⟨fun t ht => HM.out t mid (by omega) hml (by rw [HY.out]; exact of_decide_eq_true HDB.out)⟩, H2, HX, HB⟩ | exact ⟨lo, mid, by omega, by omega, rfl, rfl, H1, ⟨fun t h1 h2 => Int.not_lt.1 fun h3 => by have h4 := HM.out mid t h1 h2 h3; rw [HY.out] at h4; exact of_decide_eq_false HDB.out h4⟩, HX, HB⟩
    case measure => simp [intOf]; omega
  ·obtain rfl : lo = hi := by omega
   obtain rfl : cnt = lo := by rw [← HC.out]; exact count_to hhl H1.out H2.out
   by_cases hn : cnt < l.length
   ·have hnb : decide ((cnt : Int) < (l.length : Int)) = true := decide_eq_true (by omega)
    obtain ⟨ad, e1, r0, r1⟩ := nd_at (Kd.C_below HR.out HB.out) cnt hn
    cases e1
    obtain ⟨t0, t1⟩ := (show wr.cell? ⟨w.heap.size, 0, none⟩ = some (.int .i64 x.lab) ∧ wr.cell? ⟨w.heap.size, 1, none⟩ = some (.int .i64 x.num) from ⟨(blk_cell HX.out 0).trans rfl, (blk_cell HX.out 1).trans rfl⟩)
    have HD := Aside0.mk (show decide (cnt < l.length) = true from decide_eq_true hn)
    generalize hy : at_ l cnt = y at r0 r1 HF
    clear hy
    obtain ⟨v, hdb⟩ : ∃ v, (cmpI (codeI (y)) (codeI x) == 0) = v := ⟨_, rfl⟩
    have HG := Aside0.mk (show fin = v by rw [← HF.out, HD.out, ← hdb]; rfl)
    cases v
    all_goals
     go_wp2_with (fail)
     have HK_ := Aside0.mk (show Reg (fun u_ => Below w.heap.size w u_ ∧ u_.cell? (ad.add (cnt * 2)) = some (.int .i64 y.lab) ∧ u_.cell? ⟨(ad.add (cnt * 2)).block, (ad.add (cnt * 2)).off + 1, none⟩ = some (.int .i64 y.num) ∧ u_.cell? ⟨w.heap.size, 0, none⟩ = some (.int .i64 x.lab) ∧ u_.cell? ⟨w.heap.size, 1, none⟩ = some (.int .i64 x.num) ∧ True) from ⟨fun _ _ hb_ ⟨q_, s0_, s1_, s2_, s3_, _⟩ => ⟨below_step q_ hb_, pw_cell_below hb_ s0_, pw_cell_below hb_ s1_, pw_cell_below hb_ s2_, pw_cell_below hb_ s3_, trivial⟩⟩)
     refine region_by _ sBsN8 (by kernel_rfl) sBsN8_ok rfl (fun d _ _ _ _ h => by cases d <;> exact h) HK_.out ⟨HB.out, r0, r1, t0, t1, trivial⟩ ?_
     intro u hS
     clear r0 r1 t0 t1
     repeat (first | (refine h_off gt_ (by rfl) ?_; intro a_ ha_; (simp only [Act.put, pu1, pu2, pu3] at ha_); subst ha_) | (refine h_on (v := ?_) gt_ (by rfl) ?_ ?_; rotate_left; (· rintro w_ ⟨-, s0_, s1_, s2_, s3_, -⟩; go_simp; with_reducible rfl); intro a_ ha_; (simp only [Act.put, pu1, pu2, pu3] at ha_); subst ha_) | (refine h_offc hS gt_ (by rfl) ?_; intro a_ ha_; (simp only [Act.put, pu1, pu2, pu3] at ha_); subst ha_) | (refine h_callv (f := 59) (args := #[.agg #[.int .i64 y.lab, .int .i64 y.num], .agg #[.int .i64 x.lab, .int .i64 x.num]]) (cap := #[]) HK_.out hS Tryz.func59 (by kernel_rfl) rfl gt_ (by rfl) (by rfl) (by rfl) mp_ ?_; (refine (nodeOrder_calls y x _).mono ?_); rintro e_ u_ ⟨rfl, hb_⟩; refine ⟨_, rfl, hb_, fun a_ ha_ hS_ => ?_⟩; (simp only [Act.put, pu1, pu2, pu3] at ha_); subst ha_; clear hS; have hS := hS_; clear hS_ hb_))
     refine h_end ?_
     clear HK_ HB
     obtain ⟨hB_, r0, r1, t0, t1, -⟩ := hS
     have HB := Aside0.mk hB_
     clear hB_
     go_wp2
     go_ret2
     exact ⟨by rw [HG.out]; first | done | rfl | (simp; done), HB.out⟩
   ·have hnb : decide ((cnt : Int) < (l.length : Int)) = false := decide_eq_false (by omega)
    have HG := Aside0.mk (show fin = false by rw [← HF.out, decide_eq_false hn]; rfl)
    go_wp2_with (fail)
    have HK_ := Aside0.mk (show Reg (fun u_ => Below w.heap.size w u_ ∧ True) from ⟨fun _ _ hb_ ⟨q_, _⟩ => ⟨below_step q_ hb_, trivial⟩⟩)
    refine region_by _ sBsN8 (by kernel_rfl) sBsN8_ok rfl (fun d _ _ _ _ h => by cases d <;> exact h) HK_.out ⟨HB.out, trivial⟩ ?_
    intro u hS
    repeat (first | (refine h_off gt_ (by rfl) ?_; intro a_ ha_; (simp only [Act.put, pu1, pu2, pu3] at ha_); subst ha_) | (refine h_on (v := ?_) gt_ (by rfl) ?_ ?_; rotate_left; (· rintro w_ ⟨-, -⟩; go_simp; with_reducible rfl); intro a_ ha_; (simp only [Act.put, pu1, pu2, pu3] at ha_); subst ha_) | (refine h_offc hS gt_ (by rfl) ?_; intro a_ ha_; (simp only [Act.put, pu1, pu2, pu3] at ha_); subst ha_))
    refine h_end ?_
    clear HK_ HB
    obtain ⟨hB_, -⟩ := hS
    have HB := Aside0.mk hB_
    clear hB_
    go_wp2
    go_ret2
    exact ⟨by rw [HG.out]; first | done | rfl | (simp; done), HB.out⟩

abbrev sBsE5 : List (Nat × Bool) := [(0, true), (1, true), (2, true), (3, true), (4, true), (5, true), (6, false), (7, true)]
theorem sBsE5_ok : schedB .any (opsOf Tryz.f93 5) sBsE5 (Array.replicate (opsOf Tryz.f93 5).size false) = true := by kernel_rfl
abbrev sBsE8 : List (Nat × Bool) := [(0, true), (1, true), (2, true), (3, true), (4, true), (5, true), (6, true), (7, true), (8, true), (9, true), (10, true), (11, false), (12, true), (13, true), (14, true), (15, true)]
theorem sBsE8_ok : schedB .any (opsOf Tryz.f93 8) sBsE8 (Array.replicate (opsOf Tryz.f93 8).size false) = true := by kernel_rfl
set_option maxHeartbeats 3200000 in
set_option maxRecDepth 100000 in
theorem bsE_calls (A : Option Addr) (c : Nat) (l : List Eg) (x : Eg) (w : World) (hr : kE.C w A l.length l) (hl : l.length ≤ 1000000) (hm : ∀ a b, a ≤ b → b < l.length → ordE (eat l b) x < 0 → ordE (eat l a) x < 0) :
 Calls Tryz.prog 93 #[.slice A l.length c, .agg #[.int .i64 x.lab, .int .i64 x.a.lab, .int .i64 x.a.num, .int .i64 x.b.lab, .int .i64 x.b.num], .func (.func 94) #[] #[]] w fun e w' => e = .returned (.tuple #[.int .i64 (l.countP (fun y => decide (ordE (y) x < 0)) : Nat), .bool (decide (l.countP (fun y => decide (ordE (y) x < 0)) < l.length) && decide (ordE (eat l (l.countP (fun y => decide (ordE (y) x < 0)))) x = 0))]) ∧ Below w.heap.size w w' := by
 have HR := Aside0.mk hr
 have HM := Aside0.mk hm
 clear hr hm
 generalize hcnt : l.countP (fun y => decide (ordE (y) x < 0)) = cnt
 have HC := Aside0.mk hcnt
 clear hcnt
 generalize hfin : (decide (cnt < l.length) && decide (ordE (eat l cnt) x = 0)) = fin
 have HF := Aside0.mk hfin
 clear hfin
 go_enter Tryz.func93, Tryz.ntmps93
 go_wp2_with (fail)
 go_loopw [9, 10, 11] (fun s9 s10 _ wr => ∃ lo hi : Nat, lo ≤ hi ∧ hi ≤ l.length ∧ s9 = .int .i64 (lo : Int) ∧ s10 = .int .i64 (hi : Int) ∧ Aside0 (∀ t, t < lo → ordE (eat l t) x < 0) ∧ Aside0 (∀ t, hi ≤ t → t < l.length → 0 ≤ ordE (eat l t) x) ∧ Aside0 (wr.heap[w.heap.size]? = some (.cells #[.int .i64 x.lab, .int .i64 x.a.lab, .int .i64 x.a.num, .int .i64 x.b.lab, .int .i64 x.b.num] 30 (0, 0))) ∧ Aside0 (Below w.heap.size w wr)) (fun s9 s10 _ _ => (intOf s10 - intOf s9).toNat)
 case atStart => exact ⟨0, l.length, Nat.zero_le _, Nat.le_refl _, rfl, rfl, ⟨fun t ht => absurd ht (Nat.not_lt_zero _)⟩, ⟨fun t h1 h2 => absurd h2 (Nat.not_lt.2 h1)⟩, ⟨blk_new w (.cells #[.int .i64 x.lab, .int .i64 x.a.lab, .int .i64 x.a.num, .int .i64 x.b.lab, .int .i64 x.b.num] 30)⟩, ⟨below_alloc (Below.refl _ _) _⟩⟩
 case round =>
  obtain ⟨lo, hi, hlh, hhl, rfl, rfl, H1, H2, HX, HB⟩ := hrel
  by_cases hlt : lo < hi
  ·obtain ⟨mid, hmid⟩ : ∃ m, m = (lo + hi) / 2 := ⟨_, rfl⟩
   have hm1 : lo ≤ mid ∧ mid < hi := by omega
   have hw1 : (((lo : Int) + (hi : Int)) / 2) = (mid : Int) := by omega
   have hml : mid < l.length := by omega
   obtain ⟨ad, e1, r0, r1, r2, r3, r4⟩ := eg_at (Kd.C_below HR.out HB.out) mid hml
   cases e1
   obtain ⟨t0, t1, t2, t3, t4⟩ := (show wr.cell? ⟨w.heap.size, 0, none⟩ = some (.int .i64 x.lab) ∧ wr.cell? ⟨w.heap.size, 1, none⟩ = some (.int .i64 x.a.lab) ∧ wr.cell? ⟨w.heap.size, 2, none⟩ = some (.int .i64 x.a.num) ∧ wr.cell? ⟨w.heap.size, 3, none⟩ = some (.int .i64 x.b.lab) ∧ wr.cell? ⟨w.heap.size, 4, none⟩ = some (.int .i64 x.b.num) from ⟨(blk_cell HX.out 0).trans rfl, (blk_cell HX.out 1).trans rfl, (blk_cell HX.out 2).trans rfl, (blk_cell HX.out 3).trans rfl, (blk_cell HX.out 4).trans rfl⟩)
   generalize hy : eat l mid = y at r0 r1 r2 r3 r4
   have HY := Aside0.mk hy
   clear hy
   have HW1 := Aside0.mk hw1
   clear hw1 hmid
   obtain ⟨v, hdb⟩ : ∃ v, decide (ordE (y) x < 0) = v := ⟨_, rfl⟩
   have HDB := Aside0.mk hdb
   cases v
   all_goals
    go_wp2_with (fail)
    simp only [HW1.out]
    have HK_ := Aside0.mk (show Reg (fun u_ => Below w.heap.size w u_ ∧ u_.cell? (ad.add (mid * 5)) = some (.int .i64 y.lab) ∧ u_.cell? ⟨(ad.add (mid * 5)).block, (ad.add (mid * 5)).off + 1, none⟩ = some (.int .i64 y.a.lab) ∧ u_.cell? ⟨(ad.add (mid * 5)).block, (ad.add (mid * 5)).off + 2, none⟩ = some (.int .i64 y.a.num) ∧ u_.cell? ⟨(ad.add (mid * 5)).block, (ad.add (mid * 5)).off + 3, none⟩ = some (.int .i64 y.b.lab) ∧ u_.cell? ⟨(ad.add (mid * 5)).block, (ad.add (mid * 5)).off + 4, none⟩ = some (.int .i64 y.b.num) ∧ u_.cell? ⟨w.heap.size, 0, none⟩ = some (.int .i64 x.lab) ∧ u_.cell? ⟨w.heap.size, 1, none⟩ = some (.int .i64 x.a.lab) ∧ u_.cell? ⟨w.heap.size, 2, none⟩ = some (.int .i64 x.a.num) ∧ u_.cell? ⟨w.heap.size, 3, none⟩ = some (.int .i64 x.b.lab) ∧ u_.cell? ⟨w.heap.size, 4, none⟩ = some (.int .i64 x.b.num) ∧ u_.heap[w.heap.size]? = some (.cells #[.int .i64 x.lab, .int .i64 x.a.lab, .int .i64 x.a.num, .int .i64 x.b.lab, .int .i64 x.b.num] 30 (0, 0)) ∧ True) from ⟨fun _ _ hb_ ⟨q_, s0_, s1_, s2_, s3_, s4_, s5_, s6_, s7_, s8_, s9_, e0_, _⟩ => ⟨below_step q_ hb_, pw_cell_below hb_ s0_, pw_cell_below hb_ s1_, pw_cell_below hb_ s2_, pw_cell_below hb_ s3_, pw_cell_below hb_ s4_, pw_cell_below hb_ s5_, pw_cell_below hb_ s6_, pw_cell_below hb_ s7_, pw_cell_below hb_ s8_, pw_cell_below hb_ s9_, blk_below e0_ hb_, trivial⟩⟩)
    refine region_by _ sBsE5 (by kernel_rfl) sBsE5_ok rfl (fun d _ _ _ _ h => by cases d <;> exact h) HK_.out ⟨HB.out, r0, r1, r2, r3, r4, t0, t1, t2, t3, t4, HX.out, trivial⟩ ?_
    intro u hS
    clear r0 r1 r2 r3 r4 t0 t1 t2 t3 t4
    repeat (first | (refine h_off gt_ (by rfl) ?_; intro a_ ha_; (simp only [Act.put, pu1, pu2, pu3] at ha_); subst ha_) | (refine h_on (v := ?_) gt_ (by rfl) ?_ ?_; rotate_left; (· rintro w_ ⟨-, s0_, s1_, s2_, s3_, s4_, s5_, s6_, s7_, s8_, s9_, -, -⟩; go_simp; with_reducible rfl); intro a_ ha_; (simp only [Act.put, pu1, pu2, pu3] at ha_); subst ha_) | (refine h_offc hS gt_ (by rfl) ?_; intro a_ ha_; (simp only [Act.put, pu1, pu2, pu3] at ha_); subst ha_) | (refine h_callv (f := 94) (args := #[.agg #[.int .i64 y.lab, .int .i64 y.a.lab, .int .i64 y.a.num, .int .i64 y.b.lab, .int .i64 y.b.num], .agg #[.int .i64 x.lab, .int .i64 x.a.lab, .int .i64 x.a.num, .int .i64 x.b.lab, .int .i64 x.b.num]]) (cap := #[]) HK_.out hS Tryz.func94 (by kernel_rfl) rfl gt_ (by rfl) (by rfl) (by rfl) mp_ ?_; (refine (edgeOrder_calls y x _).mono ?_); rintro e_ u_ ⟨rfl, hb_⟩; refine ⟨_, rfl, hb_, fun a_ ha_ hS_ => ?_⟩; (simp only [Act.put, pu1, pu2, pu3] at ha_); subst ha_; clear hS; have hS := hS_; clear hS_ hb_))
    refine h_end ?_
    clear HK_ HB HX
    obtain ⟨hB_, r0, r1, r2, r3, r4, t0, t1, t2, t3, t4, hE0_, -⟩ := hS
    have HB := Aside0.mk hB_
    clear hB_
    have HX := Aside0.mk hE0_
    clear hE0_
    go_wp2
    go_roundw
    case rel => first | exact ⟨mid + 1, hi, by omega, hhl, by go_num, rfl, ⟨fun t ht => HM.out t mid (by omega) hml (by rw [HY.out]; exact of_decide_eq_true HDB.out)⟩, H2, HX, HB⟩ | exact ⟨lo, mid, by omega, by omega, rfl, rfl, H1, ⟨fun t h1 h2 => Int.not_lt.1 fun h3 => by have h4 := HM.out mid t h1 h2 h3; rw [HY.out] at h4; exact of_decide_eq_false HDB.out h4⟩, HX, HB⟩
    case measure => simp [intOf]; omega
  ·obtain rfl : lo = hi := by omega
   obtain rfl : cnt = lo := by rw [← HC.out]; exact count_toE hhl H1.out H2.out
   by_cases hn : cnt < l.length
   ·have hnb : decide ((cnt : Int) < (l.length : Int)) = true := decide_eq_true (by omega)
    obtain ⟨ad, e1, r0, r1, r2, r3, r4⟩ := eg_at (Kd.C_below HR.out HB.out) cnt hn
    cases e1
    obtain ⟨t0, t1, t2, t3, t4⟩ := (show wr.cell? ⟨w.heap.size, 0, none⟩ = some (.int .i64 x.lab) ∧ wr.cell? ⟨w.heap.size, 1, none⟩ = some (.int .i64 x.a.lab) ∧ wr.cell? ⟨w.heap.size, 2, none⟩ = some (.int .i64 x.a.num) ∧ wr.cell? ⟨w.heap.size, 3, none⟩ = some (.int .i64 x.b.lab) ∧ wr.cell? ⟨w.heap.size, 4, none⟩ = some (.int .i64 x.b.num) from ⟨(blk_cell HX.out 0).trans rfl, (blk_cell HX.out 1).trans rfl, (blk_cell HX.out 2).trans rfl, (blk_cell HX.out 3).trans rfl, (blk_cell HX.out 4).trans rfl⟩)
    have HD := Aside0.mk (show decide (cnt < l.length) = true from decide_eq_true hn)
    generalize hy : eat l cnt = y at r0 r1 r2 r3 r4 HF
    clear hy
    obtain ⟨v, hdb⟩ : ∃ v, (ordE (y) x == 0) = v := ⟨_, rfl⟩
    have HG := Aside0.mk (show fin = v by rw [← HF.out, HD.out, ← hdb]; rfl)
    cases v
    all_goals
     go_wp2_with (fail)
     have HK_ := Aside0.mk (show Reg (fun u_ => Below w.heap.size w u_ ∧ u_.cell? (ad.add (cnt * 5)) = some (.int .i64 y.lab) ∧ u_.cell? ⟨(ad.add (cnt * 5)).block, (ad.add (cnt * 5)).off + 1, none⟩ = some (.int .i64 y.a.lab) ∧ u_.cell? ⟨(ad.add (cnt * 5)).block, (ad.add (cnt * 5)).off + 2, none⟩ = some (.int .i64 y.a.num) ∧ u_.cell? ⟨(ad.add (cnt * 5)).block, (ad.add (cnt * 5)).off + 3, none⟩ = some (.int .i64 y.b.lab) ∧ u_.cell? ⟨(ad.add (cnt * 5)).block, (ad.add (cnt * 5)).off + 4, none⟩ = some (.int .i64 y.b.num) ∧ u_.cell? ⟨w.heap.size, 0, none⟩ = some (.int .i64 x.lab) ∧ u_.cell? ⟨w.heap.size, 1, none⟩ = some (.int .i64 x.a.lab) ∧ u_.cell? ⟨w.heap.size, 2, none⟩ = some (.int .i64 x.a.num) ∧ u_.cell? ⟨w.heap.size, 3, none⟩ = some (.int .i64 x.b.lab) ∧ u_.cell? ⟨w.heap.size, 4, none⟩ = some (.int .i64 x.b.num) ∧ True) from ⟨fun _ _ hb_ ⟨q_, s0_, s1_, s2_, s3_, s4_, s5_, s6_, s7_, s8_, s9_, _⟩ => ⟨below_step q_ hb_, pw_cell_below hb_ s0_, pw_cell_below hb_ s1_, pw_cell_below hb_ s2_, pw_cell_below hb_ s3_, pw_cell_below hb_ s4_, pw_cell_below hb_ s5_, pw_cell_below hb_ s6_, pw_cell_below hb_ s7_, pw_cell_below hb_ s8_, pw_cell_below hb_ s9_, trivial⟩⟩)
     refine region_by _ sBsE8 (by kernel_rfl) sBsE8_ok rfl (fun d _ _ _ _ h => by cases d <;> exact h) HK_.out ⟨HB.out, r0, r1, r2, r3, r4, t0, t1, t2, t3, t4, trivial⟩ ?_
     intro u hS
     clear r0 r1 r2 r3 r4 t0 t1 t2 t3 t4
     repeat (first | (refine h_off gt_ (by rfl) ?_; intro a_ ha_; (simp only [Act.put, pu1, pu2, pu3] at ha_); subst ha_) | (refine h_on (v := ?_) gt_ (by rfl) ?_ ?_; rotate_left; (· rintro w_ ⟨-, s0_, s1_, s2_, s3_, s4_, s5_, s6_, s7_, s8_, s9_, -⟩; go_simp; with_reducible rfl); intro a_ ha_; (simp only [Act.put, pu1, pu2, pu3] at ha_); subst ha_) | (refine h_offc hS gt_ (by rfl) ?_; intro a_ ha_; (simp only [Act.put, pu1, pu2, pu3] at ha_); subst ha_) | (refine h_callv (f := 94) (args := #[.agg #[.int .i64 y.lab, .int .i64 y.a.lab, .int .i64 y.a.num, .int .i64 y.b.lab, .int .i64 y.b.num], .agg #[.int .i64 x.lab, .int .i64 x.a.lab, .int .i64 x.a.num, .int .i64 x.b.lab, .int .i64 x.b.num]]) (cap := #[]) HK_.out hS Tryz.func94 (by kernel_rfl) rfl gt_ (by rfl) (by rfl) (by rfl) mp_ ?_; (refine (edgeOrder_calls y x _).mono ?_); rintro e_ u_ ⟨rfl, hb_⟩; refine ⟨_, rfl, hb_, fun a_ ha_ hS_ => ?_⟩; (simp only [Act.put, pu1, pu2, pu3] at ha_); subst ha_; clear hS; have hS := hS_; clear hS_ hb_))
     refine h_end ?_
     clear HK_ HB
     obtain ⟨hB_, r0, r1, r2, r3, r4, t0, t1, t2, t3, t4, -⟩ := hS
     have HB := Aside0.mk hB_
     clear hB_
     go_wp2
     go_ret2
     exact ⟨by rw [HG.out]; first | done | rfl | (simp; done), HB.out⟩
   ·have hnb : decide ((cnt : Int) < (l.length : Int)) = false := decide_eq_false (by omega)
    have HG := Aside0.mk (show fin = false by rw [← HF.out, decide_eq_false hn]; rfl)
    go_wp2_with (fail)
    have HK_ := Aside0.mk (show Reg (fun u_ => Below w.heap.size w u_ ∧ True) from ⟨fun _ _ hb_ ⟨q_, _⟩ => ⟨below_step q_ hb_, trivial⟩⟩)
    refine region_by _ sBsE8 (by kernel_rfl) sBsE8_ok rfl (fun d _ _ _ _ h => by cases d <;> exact h) HK_.out ⟨HB.out, trivial⟩ ?_
    intro u hS
    repeat (first | (refine h_off gt_ (by rfl) ?_; intro a_ ha_; (simp only [Act.put, pu1, pu2, pu3] at ha_); subst ha_) | (refine h_on (v := ?_) gt_ (by rfl) ?_ ?_; rotate_left; (· rintro w_ ⟨-, -⟩; go_simp; with_reducible rfl); intro a_ ha_; (simp only [Act.put, pu1, pu2, pu3] at ha_); subst ha_) | (refine h_offc hS gt_ (by rfl) ?_; intro a_ ha_; (simp only [Act.put, pu1, pu2, pu3] at ha_); subst ha_))
    refine h_end ?_
    clear HK_ HB
    obtain ⟨hB_, -⟩ := hS
    have HB := Aside0.mk hB_
    clear hB_
    go_wp2
    go_ret2
    exact ⟨by rw [HG.out]; first | done | rfl | (simp; done), HB.out⟩

end Go.Proofs.YtogmbeifbjgphaaGreat.R
namespace Go.Proofs.YtogmbeifbjgphaaGreat.R
open Go.RowKit Go.Proofs.YtogmbeifbjgphaaGreatV.PrintWords Go.Proofs.YtogmbeifbjgphaaGreatV.PrintLast Go.Proofs.YtogmbeifbjgphaaGreatV.PrintMore Go.Proofs.YtogmbeifbjgphaaGreat.M
set_option linter.unusedVariables false
set_option linter.unusedSimpArgs false
attribute [local go_sem high] eqN eqE
theorem cmpI_lt {a b : Int} : cmpI a b < 0 ↔ a < b := by unfold cmpI; split <;> (try split) <;> omega
theorem cmpI_eq {a b : Int} : cmpI a b = 0 ↔ a = b := by unfold cmpI; split <;> (try split) <;> omega
theorem ordE_key {x y : Eg} (hx : okE x = true) (hy : okE y = true) : (ordE x y < 0 ↔ key x < key y) ∧ (ordE x y = 0 ↔ x = y) := by
 obtain ⟨l1, a1, b1, _⟩ := okE_iff.1 hx
 obtain ⟨l2, a2, b2, _⟩ := okE_iff.1 hy
 have h : (ordE x y < 0 ↔ key x < key y) ∧ (ordE x y = 0 → key x = key y) ∧ (x = y → ordE x y = 0) := by
  refine ⟨?_, ?_, ?_⟩
  ·rw [key_lt hx hy]
   unfold ordE orL orL orL orL
   rw [codeI_ok a1, codeI_ok a2, codeI_ok b1, codeI_ok b2]
   unfold cmpI
   repeat' split
   all_goals omega
  ·unfold ordE orL orL orL orL
   rw [codeI_ok a1, codeI_ok a2, codeI_ok b1, codeI_ok b2]
   unfold cmpI key
   repeat' split
   all_goals omega
  ·rintro rfl
   unfold ordE orL orL orL orL cmpI
   simp
 exact ⟨h.1, fun e => key_inj hx hy (h.2.1 e), h.2.2⟩
theorem countP_or {α : Type} {p q r : α → Bool} (h : ∀ x, p x = true → q x = true ∨ r x = true) : ∀ l : List α, l.countP p ≤ l.countP q + l.countP r
 | [] => by simp
 | a :: l => by
   have ih := countP_or h l
   rw [List.countP_cons, List.countP_cons, List.countP_cons]
   cases h1 : p a
   ·rw [if_neg (by decide)]
    omega
   ·rcases h a h1 with h2 | h2
    ·rw [if_pos rfl, h2, if_pos rfl]
     omega
    ·rw [if_pos rfl, h2, if_pos (c := (true = true)) rfl]
     omega
theorem NsOk.len {l : List Nd} (h : NsOk l) : l.length ≤ 40 := by
 have key : ∀ m : Nat, m ≤ 8 → (l.countP fun n => decide (n.lab < (m : Int))) ≤ 5 * m := by
  intro m
  induction m with
  | zero =>
    intro _
    rw [List.countP_eq_zero.2]
    ·omega
    ·intro n hn
     have := (okN_iff.1 (h.ok n hn)).1.1
     simp only [decide_eq_true_eq]
     omega
  | succ m ih =>
    intro hm
    have h1 := ih (by omega)
    have h2 := h.few (m : Int)
    have h3 : (l.countP fun n => decide (n.lab < ((m + 1 : Nat) : Int))) ≤ (l.countP fun n => decide (n.lab < (m : Int))) + (l.countP fun n => n.lab == (m : Int)) := countP_or (fun n hn => by
     simp only [decide_eq_true_eq, beq_iff_eq] at *
     omega) l
    omega
 have h8 := key 8 (Nat.le_refl _)
 rw [List.countP_eq_length.2] at h8
 ·omega
 ·intro n hn
  have := (okN_iff.1 (h.ok n hn)).1.2
  simp only [decide_eq_true_eq]
  omega
/-- How many stand ahead of it. -/
def placeN (l : List Nd) (x : Nd) : Nat := l.countP fun y => decide (code y < code x)
def placeE (l : List Eg) (x : Eg) : Nat := l.countP fun y => decide (key y < key x)
theorem found_of {α : Type} [DecidableEq α] {key : α → Int} {l : List α} (h : Asc key l) (g : List α → Nat → α) (hg : ∀ (l : List α) (j : Nat) (h : j < l.length), g l j = l[j]) (x : α) :
 (decide ((l.countP fun y => decide (key y < key x)) < l.length) && decide (g l (l.countP fun y => decide (key y < key x)) = x)) = decide (x ∈ l) := by
 rw [Bool.eq_iff_iff]
 simp only [Bool.and_eq_true, decide_eq_true_eq]
 constructor
 ·rintro ⟨h1, h2⟩
  rw [hg l _ h1] at h2
  rw [← h2]
  exact List.getElem_mem h1
 ·intro hm
  obtain ⟨i, hi, rfl⟩ := List.getElem_of_mem hm
  rw [h.place hi]
  exact ⟨hi, hg l i hi⟩
theorem bsN_ok (A : Option Addr) (c : Nat) (l : List Nd) (x : Nd) (w : World) (hr : kN.C w A l.length l) (hl : NsOk l) (hx : okN x = true) :
 Calls Tryz.prog 88 #[.slice A l.length c, .agg #[.int .i64 x.lab, .int .i64 x.num], .func (.func 59) #[] #[]] w fun e w' => e = .returned (.tuple #[.int .i64 (placeN l x : Nat), .bool (decide (x ∈ l))]) ∧ Below w.heap.size w w' := by
 have hc : ∀ y ∈ l, (cmpI (codeI y) (codeI x) < 0 ↔ code y < code x) ∧ (cmpI (codeI y) (codeI x) = 0 ↔ y = x) := fun y hy => by
  rw [codeI_ok (hl.ok y hy), codeI_ok hx, cmpI_lt, cmpI_eq]
  exact ⟨Iff.rfl, fun e => code_inj (hl.ok y hy) hx e, fun e => by rw [e]⟩
 have hcnt : (l.countP fun y => decide (cmpI (codeI y) (codeI x) < 0)) = placeN l x := by
  unfold placeN
  apply List.countP_congr
  intro y hy
  simp only [decide_eq_true_eq]
  exact (hc y hy).1
 have hfin : (decide (placeN l x < l.length) && decide (cmpI (codeI (at_ l (placeN l x))) (codeI x) = 0)) = decide (x ∈ l) := by
  rw [← found_of hl.asc at_ (fun _ _ h => at_lt h) x]
  by_cases h : placeN l x < l.length
  ·have := (hc _ (at_mem h)).2
   unfold placeN at *
   rw [decide_eq_decide.2 this]
  ·unfold placeN at *
   rw [decide_eq_false h]
   rfl
 have hh := bsN_calls A c l x w hr (by have := hl.len; omega) (fun a b hab hb h => by
  rw [(hc _ (at_mem hb)).1] at h
  rw [(hc _ (at_mem (by omega))).1]
  have := hl.asc.le hab hb
  rw [at_lt hb] at h
  rw [at_lt (by omega)]
  omega)
 rw [hcnt, hfin] at hh
 exact hh
theorem bsE_ok (A : Option Addr) (c : Nat) (l : List Eg) (x : Eg) (w : World) (hr : kE.C w A l.length l) (hl : ∀ y ∈ l, okE y = true) (ha : Asc key l) (hlen : l.length ≤ 1000000) (hx : okE x = true) :
 Calls Tryz.prog 93 #[.slice A l.length c, .agg #[.int .i64 x.lab, .int .i64 x.a.lab, .int .i64 x.a.num, .int .i64 x.b.lab, .int .i64 x.b.num], .func (.func 94) #[] #[]] w fun e w' => e = .returned (.tuple #[.int .i64 (placeE l x : Nat), .bool (decide (x ∈ l))]) ∧ Below w.heap.size w w' := by
 have hc : ∀ y ∈ l, (ordE y x < 0 ↔ key y < key x) ∧ (ordE y x = 0 ↔ y = x) := fun y hy => ordE_key (hl y hy) hx
 have hcnt : (l.countP fun y => decide (ordE y x < 0)) = placeE l x := by
  unfold placeE
  apply List.countP_congr
  intro y hy
  simp only [decide_eq_true_eq]
  exact (hc y hy).1
 have hfin : (decide (placeE l x < l.length) && decide (ordE (eat l (placeE l x)) x = 0)) = decide (x ∈ l) := by
  rw [← found_of ha eat (fun _ _ h => eat_lt h) x]
  by_cases h : placeE l x < l.length
  ·have := (hc _ (eat_mem h)).2
   unfold placeE at *
   rw [decide_eq_decide.2 this]
  ·unfold placeE at *
   rw [decide_eq_false h]
   rfl
 have hh := bsE_calls A c l x w hr hlen (fun a b hab hb h => by
  rw [(hc _ (eat_mem hb)).1] at h
  rw [(hc _ (eat_mem (by omega))).1]
  have := ha.le hab hb
  rw [eat_lt hb] at h
  rw [eat_lt (by omega)]
  omega)
 rw [hcnt, hfin] at hh
 exact hh
set_option maxHeartbeats 800000 in
theorem nodeThere_calls (A : Option Addr) (c : Nat) (l : List Nd) (x : Nd) (w : World) (hr : kN.C w A l.length l) (hl : NsOk l) (hx : okN x = true) :
 Calls Tryz.prog 95 #[.slice A l.length c, .agg #[.int .i64 x.lab, .int .i64 x.num]] w fun e w' => e = .returned (.bool (decide (x ∈ l))) ∧ Below w.heap.size w w' := by
 have HC := Aside0.mk (fun W (h : Below w.heap.size w W) => bsN_ok A c l x W (Kd.C_below hr h) hl hx)
 clear hr hl hx
 generalize decide (x ∈ l) = b at HC ⊢
 generalize placeN l x = p at HC
 go_enter Tryz.func95, Tryz.ntmps95
 go_wp2_with (first | (go_at_call 88; (refine (HC.out _ (below_alloc (Below.refl _ _) _)).mono ?_); rintro e w1 ⟨rfl, hb⟩; have HB := Aside0.mk (below_step (below_alloc (Below.refl w.heap.size w) _) hb); clear hb))
 go_ret
 exact ⟨rfl, HB.out⟩
end Go.Proofs.YtogmbeifbjgphaaGreat.R
