/- The plain functions of the program's functions, printed by a program (the kit's print.py under reprint.py): what each comes to, with no memory in sight. -/
import Derived.Test.YtcobbpghipeoeaaR0
import Derived.Test.YtcobbpghipeoeaaR1
namespace Go.Proofs.Ytcobbpghipeoeaa.R
open Go.RowKit Go.Proofs.YtcobbpghipeoeaaV.PrintWords Go.Proofs.YtcobbpghipeoeaaV.PrintLast Go.Proofs.YtcobbpghipeoeaaV.PrintMore
attribute [local go_sem] max2_int min2_int max_two min_two max_three min_three max_four min_four   -- for this text's walks alone
set_option linter.unusedVariables false
set_option linter.unusedSimpArgs false


theorem ra {α : Type} {d : Kd α} {e : Nat} {w : World} {base : Nat} {ok : Nat → Prop} {v : Value} {xs : List α} (h : d.R e w base ok v xs) (o : Obj) : d.R e (w.alloc o) base ok v xs := Kd.R_alloc h o
theorem rb {α : Type} {d : Kd α} {e : Nat} {w : World} {base : Nat} {ok : Nat → Prop} {v : Value} {xs : List α} (h : d.R e w base ok v xs) (m : Nat) : d.R e (w.drewN m) base ok v xs := Kd.R_drewN h m
theorem rc {α : Type} {d : Kd α} {e : Nat} {w : World} {base : Nat} {ok : Nat → Prop} {v : Value} {xs : List α} (h : d.R e w base ok v xs) : d.R e w.drew base ok v xs := Kd.R_drew h
theorem ba {w : World} {g : Nat} {o : Obj} (h : w.heap[g]? = some o) (n : Nat) : (w.drewN n).heap[g]? = some o := h
theorem bb {w : World} {g : Nat} {o : Obj} (h : w.heap[g]? = some o) : w.drew.heap[g]? = some o := h
theorem bc {w : World} {g : Nat} {o : Obj} (h : w.heap[g]? = some o) (o' : Obj) : (w.alloc o').heap[g]? = some o := blk_alloc h o'
abbrev tt : Bool := true
abbrev ff : Bool := false
/-! ### spec_LabelOk: function 51 -/
def spec_LabelOk.f (a0 : Int) : Option (Bool) := if a0 ≥ 0 then (some (decide (a0 ≤ 7))) else (some false)
/-! ### spec_PageOk: function 20 -/
def spec_PageOk.f (a0_0 : Int) (a0_1 : Int) : Option (Bool) := (spec_LabelOk.f a0_0).bind fun t102 => (if t102 = true then (if a0_1 ≥ 0 then (some (decide (a0_1 < 1000))) else (some false)) else (some false))
/-! ### laws_toPage: function 21 -/
def laws_toPage.f (a0_0 : Int) (a0_1 : Int) : Option (Int × Int) := some (a0_0, a0_1)
/-! ### impl_LabelOk: function 31 -/
def impl_LabelOk.f (a0 : Int) : Option (Bool) := if 0 ≤ a0 then (some (decide (a0 ≤ 7))) else (some false)
/-! ### impl_PageOk: function 22 -/
def impl_PageOk.f (a0_0 : Int) (a0_1 : Int) : Option (Bool) := (impl_LabelOk.f a0_0).bind fun t107 => (if t107 = true then (if 0 ≤ a0_1 then (some (decide (a0_1 < 1000))) else (some false)) else (some false))
/-! ### spec_PageSpan: function 23 -/
mutual
def spec_PageSpan.j0 : Nat → Int → Int → Int → List (S25) → Bool → Option ((List (S25)))
 | 0, _, _, _, _, _ => none
 | k + 1, x0, x1, x2, x7, x25 => if x25 = true then (some x7) else (spec_PageSpan.l0 k x0 x2 x7 (wrap64 (Int.tdiv x1 8)))
def spec_PageSpan.l0 : Nat → Int → Int → List (S25) → Int → Option ((List (S25)))
 | 0, _, _, _, _ => none
 | k + 1, x0, x2, x7, x8 => if (wrap64 (x8 * 8)) < x2 then (if x7.length < 8796093022208 then (spec_PageSpan.l0 k x0 x2 (x7 ++ [(⟨x0, x8⟩ : S25)]) (wrap64 (x8 + 1))) else (none)) else (some x7)
end
def spec_PageSpan.f (k : Nat) (a0 : Int) (a1 : Int) (a2 : Int) : Option ((List (S25))) := (some (([] : List (S25)) : List (S25))).bind fun y115 => ((spec_LabelOk.f a0).bind fun t118 => (if t118 = true then (if a1 < 0 then (spec_PageSpan.j0 k a0 a1 a2 y115 true) else (if a2 ≤ a1 then (spec_PageSpan.j0 k a0 a1 a2 y115 true) else (spec_PageSpan.j0 k a0 a1 a2 y115 (decide (a2 > 8000))))) else (spec_PageSpan.j0 k a0 a1 a2 y115 true)))
theorem spec_PageSpan.mono_l : ∀ k, (∀ y0 y1 y2 y3 y4, LeO (spec_PageSpan.j0 k y0 y1 y2 y3 y4) (spec_PageSpan.j0 (k + 1) y0 y1 y2 y3 y4)) ∧ (∀ y0 y1 y2 y3, LeO (spec_PageSpan.l0 k y0 y1 y2 y3) (spec_PageSpan.l0 (k + 1) y0 y1 y2 y3))
 | 0 => ⟨fun _ _ _ _ _ r h => by simp [spec_PageSpan.j0] at h, fun _ _ _ _ r h => by simp [spec_PageSpan.l0] at h⟩
 | k + 1 => by
  obtain ⟨ih0, ih1⟩ := spec_PageSpan.mono_l k
  refine ⟨?_, ?_⟩
  ·intro y0 y1 y2 y3 y4
   unfold spec_PageSpan.j0
   repeat' first
   | (with_reducible exact ih0 _ _ _ _ _)
   | (with_reducible exact ih1 _ _ _ _)
   | (with_reducible exact LeO.refl _)
   | (with_reducible exact LeO.none _)
   | (with_reducible refine LeO.ite ?_ ?_)
   | (with_reducible refine LeO.bind ?_ (fun _ => ?_))
   | exact ih0 _ _ _ _ _
   | exact ih1 _ _ _ _
   | exact LeO.none _
   | refine LeO.ite ?_ ?_
   | refine LeO.bind ?_ (fun _ => ?_)
  ·intro y0 y1 y2 y3
   unfold spec_PageSpan.l0
   repeat' first
   | (with_reducible exact ih0 _ _ _ _ _)
   | (with_reducible exact ih1 _ _ _ _)
   | (with_reducible exact LeO.refl _)
   | (with_reducible exact LeO.none _)
   | (with_reducible refine LeO.ite ?_ ?_)
   | (with_reducible refine LeO.bind ?_ (fun _ => ?_))
   | exact ih0 _ _ _ _ _
   | exact ih1 _ _ _ _
   | exact LeO.none _
   | refine LeO.ite ?_ ?_
   | refine LeO.bind ?_ (fun _ => ?_)
theorem spec_PageSpan.mono : ∀ a0 a1 a2 k, LeO (spec_PageSpan.f k a0 a1 a2) (spec_PageSpan.f (k + 1) a0 a1 a2) := by
 intro a0 a1 a2 k
 obtain ⟨ih0, ih1⟩ := spec_PageSpan.mono_l k
 unfold spec_PageSpan.f
 repeat' first
   | (with_reducible exact ih0 _ _ _ _ _)
   | (with_reducible exact ih1 _ _ _ _)
   | (with_reducible exact LeO.refl _)
   | (with_reducible exact LeO.none _)
   | (with_reducible refine LeO.ite ?_ ?_)
   | (with_reducible refine LeO.bind ?_ (fun _ => ?_))
   | exact ih0 _ _ _ _ _
   | exact ih1 _ _ _ _
   | exact LeO.none _
   | refine LeO.ite ?_ ?_
   | refine LeO.bind ?_ (fun _ => ?_)
/-! ### impl_PageSpan: function 24 -/
mutual
def impl_PageSpan.j0 : Nat → Int → Int → Int → Bool → Option ((List (S25)))
 | 0, _, _, _, _ => none
 | k + 1, x0, x1, x2, x24 => if x24 = true then (some ([] : List (S25))) else (impl_PageSpan.l0 k x0 x2 ([] : List (S25)) (wrap64 (Int.tdiv x1 8)))
def impl_PageSpan.l0 : Nat → Int → Int → List (S25) → Int → Option ((List (S25)))
 | 0, _, _, _, _ => none
 | k + 1, x0, x2, x7, x8 => if x8 ≤ (wrap64 (Int.tdiv (wrap64 (x2 - 1)) 8)) then (if x7.length < 8796093022208 then (impl_PageSpan.l0 k x0 x2 (x7 ++ [(⟨x0, x8⟩ : S25)]) (wrap64 (x8 + 1))) else (none)) else (some x7)
end
def impl_PageSpan.f (k : Nat) (a0 : Int) (a1 : Int) (a2 : Int) : Option ((List (S25))) := (impl_LabelOk.f a0).bind fun t122 => (if t122 = true then (if a1 < 0 then (impl_PageSpan.j0 k a0 a1 a2 true) else (if a2 ≤ a1 then (impl_PageSpan.j0 k a0 a1 a2 true) else (impl_PageSpan.j0 k a0 a1 a2 (decide (a2 > 8000))))) else (impl_PageSpan.j0 k a0 a1 a2 true))
theorem impl_PageSpan.mono_l : ∀ k, (∀ y0 y1 y2 y3, LeO (impl_PageSpan.j0 k y0 y1 y2 y3) (impl_PageSpan.j0 (k + 1) y0 y1 y2 y3)) ∧ (∀ y0 y1 y2 y3, LeO (impl_PageSpan.l0 k y0 y1 y2 y3) (impl_PageSpan.l0 (k + 1) y0 y1 y2 y3))
 | 0 => ⟨fun _ _ _ _ r h => by simp [impl_PageSpan.j0] at h, fun _ _ _ _ r h => by simp [impl_PageSpan.l0] at h⟩
 | k + 1 => by
  obtain ⟨ih0, ih1⟩ := impl_PageSpan.mono_l k
  refine ⟨?_, ?_⟩
  ·intro y0 y1 y2 y3
   unfold impl_PageSpan.j0
   repeat' first
   | (with_reducible exact ih0 _ _ _ _)
   | (with_reducible exact ih1 _ _ _ _)
   | (with_reducible exact LeO.refl _)
   | (with_reducible exact LeO.none _)
   | (with_reducible refine LeO.ite ?_ ?_)
   | (with_reducible refine LeO.bind ?_ (fun _ => ?_))
   | exact ih0 _ _ _ _
   | exact ih1 _ _ _ _
   | exact LeO.none _
   | refine LeO.ite ?_ ?_
   | refine LeO.bind ?_ (fun _ => ?_)
  ·intro y0 y1 y2 y3
   unfold impl_PageSpan.l0
   repeat' first
   | (with_reducible exact ih0 _ _ _ _)
   | (with_reducible exact ih1 _ _ _ _)
   | (with_reducible exact LeO.refl _)
   | (with_reducible exact LeO.none _)
   | (with_reducible refine LeO.ite ?_ ?_)
   | (with_reducible refine LeO.bind ?_ (fun _ => ?_))
   | exact ih0 _ _ _ _
   | exact ih1 _ _ _ _
   | exact LeO.none _
   | refine LeO.ite ?_ ?_
   | refine LeO.bind ?_ (fun _ => ?_)
theorem impl_PageSpan.mono : ∀ a0 a1 a2 k, LeO (impl_PageSpan.f k a0 a1 a2) (impl_PageSpan.f (k + 1) a0 a1 a2) := by
 intro a0 a1 a2 k
 obtain ⟨ih0, ih1⟩ := impl_PageSpan.mono_l k
 unfold impl_PageSpan.f
 repeat' first
   | (with_reducible exact ih0 _ _ _ _)
   | (with_reducible exact ih1 _ _ _ _)
   | (with_reducible exact LeO.refl _)
   | (with_reducible exact LeO.none _)
   | (with_reducible refine LeO.ite ?_ ?_)
   | (with_reducible refine LeO.bind ?_ (fun _ => ?_))
   | exact ih0 _ _ _ _
   | exact ih1 _ _ _ _
   | exact LeO.none _
   | refine LeO.ite ?_ ?_
   | refine LeO.bind ?_ (fun _ => ?_)
/-! ### laws_eqPage: function 52 -/
def laws_eqPage.f (a0_0 : Int) (a0_1 : Int) (a1_0 : Int) (a1_1 : Int) : Option (Bool) := if a0_0 = a1_0 then (if a0_1 = a1_1 then (some true) else (some false)) else (some false)
/-! ### laws_eqPageS: function 25 -/
def laws_eqPageS.l0 : Nat → List (S25) → List (S25) → Int → Option (Bool)
 | 0, _, _, _ => none
 | k + 1, x0, x1, x5 => if x5 < (x0.length : Int) then (if 0 ≤ x5 then (if x5 < (x1.length : Int) then ((laws_eqPage.f ((rd_T25 x0 x5).f0) ((rd_T25 x0 x5).f1) ((rd_T25 x1 x5).f0) ((rd_T25 x1 x5).f1)).bind fun t130 => (if t130 = true then (laws_eqPageS.l0 k x0 x1 (wrap64 (x5 + 1))) else (some false))) else (none)) else (none)) else (some true)
def laws_eqPageS.f (k : Nat) (l0 : List (S25)) (l1 : List (S25)) : Option (Bool) := if (l0.length : Int) = (l1.length : Int) then (laws_eqPageS.l0 k l0 l1 0) else (some false)
theorem laws_eqPageS.mono_l : ∀ k, (∀ y0 y1 y2, LeO (laws_eqPageS.l0 k y0 y1 y2) (laws_eqPageS.l0 (k + 1) y0 y1 y2))
 | 0 => fun _ _ _ r h => by simp [laws_eqPageS.l0] at h
 | k + 1 => by
  have ih0 := laws_eqPageS.mono_l k
  ·intro y0 y1 y2
   unfold laws_eqPageS.l0
   repeat' first
   | (with_reducible exact ih0 _ _ _)
   | (with_reducible exact LeO.refl _)
   | (with_reducible exact LeO.none _)
   | (with_reducible refine LeO.ite ?_ ?_)
   | (with_reducible refine LeO.bind ?_ (fun _ => ?_))
   | exact ih0 _ _ _
   | exact LeO.none _
   | refine LeO.ite ?_ ?_
   | refine LeO.bind ?_ (fun _ => ?_)
theorem laws_eqPageS.mono : ∀ a0 a1 k, LeO (laws_eqPageS.f k a0 a1) (laws_eqPageS.f (k + 1) a0 a1) := by
 intro a0 a1 k
 have ih0 := laws_eqPageS.mono_l k
 unfold laws_eqPageS.f
 repeat' first
   | (with_reducible exact ih0 _ _ _)
   | (with_reducible exact LeO.refl _)
   | (with_reducible exact LeO.none _)
   | (with_reducible refine LeO.ite ?_ ?_)
   | (with_reducible refine LeO.bind ?_ (fun _ => ?_))
   | exact ih0 _ _ _
   | exact LeO.none _
   | refine LeO.ite ?_ ?_
   | refine LeO.bind ?_ (fun _ => ?_)
/-! ### laws_markPageS: function 26 -/
def laws_markPageS.l0 : Nat → List (S25) → Int → Int → Option (Int × (List (S25)))
 | 0, _, _, _ => none
 | k + 1, x0, x1, x5 => if x5 < (x0.length : Int) then (if 0 ≤ x5 then ((some (x0.set (x5 : Int).toNat (⟨x1, (rd_T25 x0 x5).f1⟩ : S25) : List (S25))).bind fun y131 => (laws_markPageS.l0 k (y131.set (x5 : Int).toNat (⟨(rd_T25 y131 x5).f0, wrap64 (x1 + 1)⟩ : S25)) (wrap64 ((wrap64 (x1 + 1)) + 1)) (wrap64 (x5 + 1)))) else (none)) else (some (x1, x0))
def laws_markPageS.f (k : Nat) (l0 : List (S25)) (a1 : Int) : Option (Int × (List (S25))) := laws_markPageS.l0 k l0 a1 0
theorem laws_markPageS.mono_l : ∀ k, (∀ y0 y1 y2, LeO (laws_markPageS.l0 k y0 y1 y2) (laws_markPageS.l0 (k + 1) y0 y1 y2))
 | 0 => fun _ _ _ r h => by simp [laws_markPageS.l0] at h
 | k + 1 => by
  have ih0 := laws_markPageS.mono_l k
  ·intro y0 y1 y2
   unfold laws_markPageS.l0
   repeat' first
   | (with_reducible exact ih0 _ _ _)
   | (with_reducible exact LeO.refl _)
   | (with_reducible exact LeO.none _)
   | (with_reducible refine LeO.ite ?_ ?_)
   | (with_reducible refine LeO.bind ?_ (fun _ => ?_))
   | exact ih0 _ _ _
   | exact LeO.none _
   | refine LeO.ite ?_ ?_
   | refine LeO.bind ?_ (fun _ => ?_)
theorem laws_markPageS.mono : ∀ a0 a1 k, LeO (laws_markPageS.f k a0 a1) (laws_markPageS.f (k + 1) a0 a1) := by
 intro a0 a1 k
 have ih0 := laws_markPageS.mono_l k
 unfold laws_markPageS.f
 repeat' first
   | (with_reducible exact ih0 _ _ _)
   | (with_reducible exact LeO.refl _)
   | (with_reducible exact LeO.none _)
   | (with_reducible refine LeO.ite ?_ ?_)
   | (with_reducible refine LeO.bind ?_ (fun _ => ?_))
   | exact ih0 _ _ _
   | exact LeO.none _
   | refine LeO.ite ?_ ?_
   | refine LeO.bind ?_ (fun _ => ?_)
/-! ### laws_heldPageS: function 27 -/
def laws_heldPageS.l0 : Nat → List (S25) → Int → Int → Option (Int)
 | 0, _, _, _ => none
 | k + 1, x0, x1, x5 => if x5 < (x0.length : Int) then (if 0 ≤ x5 then (if ((rd_T25 x0 x5).f0) = x1 then (if ((rd_T25 x0 x5).f1) = (wrap64 (x1 + 1)) then (laws_heldPageS.l0 k x0 (wrap64 ((wrap64 (x1 + 1)) + 1)) (wrap64 (x5 + 1))) else (some (-1))) else (some (-1))) else (none)) else (some x1)
def laws_heldPageS.f (k : Nat) (l0 : List (S25)) (a1 : Int) : Option (Int) := laws_heldPageS.l0 k l0 a1 0
theorem laws_heldPageS.mono_l : ∀ k, (∀ y0 y1 y2, LeO (laws_heldPageS.l0 k y0 y1 y2) (laws_heldPageS.l0 (k + 1) y0 y1 y2))
 | 0 => fun _ _ _ r h => by simp [laws_heldPageS.l0] at h
 | k + 1 => by
  have ih0 := laws_heldPageS.mono_l k
  ·intro y0 y1 y2
   unfold laws_heldPageS.l0
   repeat' first
   | (with_reducible exact ih0 _ _ _)
   | (with_reducible exact LeO.refl _)
   | (with_reducible exact LeO.none _)
   | (with_reducible refine LeO.ite ?_ ?_)
   | (with_reducible refine LeO.bind ?_ (fun _ => ?_))
   | exact ih0 _ _ _
   | exact LeO.none _
   | refine LeO.ite ?_ ?_
   | refine LeO.bind ?_ (fun _ => ?_)
theorem laws_heldPageS.mono : ∀ a0 a1 k, LeO (laws_heldPageS.f k a0 a1) (laws_heldPageS.f (k + 1) a0 a1) := by
 intro a0 a1 k
 have ih0 := laws_heldPageS.mono_l k
 unfold laws_heldPageS.f
 repeat' first
   | (with_reducible exact ih0 _ _ _)
   | (with_reducible exact LeO.refl _)
   | (with_reducible exact LeO.none _)
   | (with_reducible refine LeO.ite ?_ ?_)
   | (with_reducible refine LeO.bind ?_ (fun _ => ?_))
   | exact ih0 _ _ _
   | exact LeO.none _
   | refine LeO.ite ?_ ?_
   | refine LeO.bind ?_ (fun _ => ?_)
/-- A state of type 81 at block g of W; what its slices lead to came in by w0. -/
def IsS81 (w0 W : World) (g : Nat) (f0 : List Int) (f1 : Int) : Prop := ∃ A0 c0, W.heap[g]? = some (.cells #[.slice A0 f0.length c0, .int .i64 f1] 81 (0, 0)) ∧ w0.heap.size ≤ g ∧ Kd.C (Kd.int .u8) w0 A0 f0.length f0
theorem IsS81.grown {w0 W : World} {g : Nat} {f0 : List Int} {f1 : Int} {W1 : World} {row : Option Nat} (h : IsS81 w0 W g f0 f1) (hw : W.grownBy W1 row) (hne : some g ≠ row) : IsS81 w0 W1 g f0 f1 := by
 obtain ⟨A0, c0, hb, hg, hr0⟩ := h
 exact ⟨A0, c0, blk_grown hb hw hne, hg, hr0⟩
theorem IsS81.own_neN {w0 W : World} {g : Nat} {f0 : List Int} {f1 : Int} {α : Type} {d : Kd α} {e : Nat} {base : Nat} {ok : Nat → Prop} {v : Value} {xs : List α} (h : IsS81 w0 W g f0 f1) (ho : Kd.N d e W base ok v xs) (ht : e ≠ 81) : some g ≠ v.ownBlock := by
 obtain ⟨A0, c0, hb, hg, hr0⟩ := h
 exact Kd.N_ne ho hb ht
theorem IsS81.fresh {w0 W : World} {g : Nat} {f0 : List Int} {f1 : Int} (h : IsS81 w0 W g f0 f1) : ∀ k, W.heap.size ≤ k → k ≠ g := by
 obtain ⟨A0, c0, hb, hg, hr0⟩ := h
 exact Kd.freshB hb
theorem IsS81.kept {w0 W : World} {g : Nat} {f0 : List Int} {f1 : Int} {W1 : World} {S : Nat → Prop} (h : IsS81 w0 W g f0 f1) (hk : Kept W W1 S) (hne : ¬ S g) : IsS81 w0 W1 g f0 f1 := by
 obtain ⟨A0, c0, hb, hg, hr0⟩ := h
 exact ⟨A0, c0, blk_kept hb hk hne, hg, hr0⟩
theorem IsS81.below {w0 W : World} {g : Nat} {f0 : List Int} {f1 : Int} {W1 : World} (h : IsS81 w0 W g f0 f1) (hw : Below W.heap.size W W1) : IsS81 w0 W1 g f0 f1 := h.grown (grown_of_below hw none) (by simp)
theorem IsS81.alloc {w0 W : World} {g : Nat} {f0 : List Int} {f1 : Int} (h : IsS81 w0 W g f0 f1) (o : Obj) : IsS81 w0 (W.alloc o) g f0 f1 := h.below (below_alloc (Below.refl _ _) o)
theorem IsS81.drewN {w0 W : World} {g : Nat} {f0 : List Int} {f1 : Int} (h : IsS81 w0 W g f0 f1) (m : Nat) : IsS81 w0 (W.drewN m) g f0 f1 := h
theorem IsS81.drew {w0 W : World} {g : Nat} {f0 : List Int} {f1 : Int} (h : IsS81 w0 W g f0 f1) : IsS81 w0 W.drew g f0 f1 := h
theorem IsS81.at_ {w0 W : World} {g : Nat} {f0 : List Int} {f1 : Int} {w' : World} {m : Nat} (hq : W.drewN m = w') (h : IsS81 w0 W g f0 f1) : IsS81 w0 w' g f0 f1 := by subst hq; exact IsS81.drewN h m
theorem IsS81.apart {w0 W : World} {g : Nat} {f0 : List Int} {f1 : Int} {α : Type} {d : Kd α} {e : Nat} {base : Nat} {ok : Nat → Prop} {v : Value} {xs : List α} (h : IsS81 w0 W g f0 f1) (ho : d.R e W base ok v xs) (ht : ∀ q, q ∈ e :: d.E → q ≠ 81) : d.R e W base (fun k => ok k ∧ k ≠ g) v xs := by
 obtain ⟨A0, c0, hb, hg, hr0⟩ := h
 exact Kd.R_types ho hb ht
theorem IsS81.own_ne {w0 W : World} {g : Nat} {f0 : List Int} {f1 : Int} {α : Type} {d : Kd α} {e : Nat} {base : Nat} {ok : Nat → Prop} {v : Value} {xs : List α} (h : IsS81 w0 W g f0 f1) (ho : d.R e W base ok v xs) (ht : e ≠ 81) : some g ≠ v.ownBlock := by
 obtain ⟨A0, c0, hb, hg, hr0⟩ := h
 exact Kd.R_ne ho hb ht
theorem IsS81.apartQ {w0 W : World} {g : Nat} {f0 : List Int} {f1 : Int} {α : Type} {d : Kd α} {e : Nat} {base : Nat} {ok : Nat → Prop} {v : Value} {xs : List α} (h : IsS81 w0 W g f0 f1) (ho : d.Q e W base ok v xs) (ht : ∀ q, q ∈ e :: d.E → q ≠ 81) : d.Q e W base (fun k => ok k ∧ k ≠ g) v xs := by
 obtain ⟨A0, c0, hb, hg, hr0⟩ := h
 exact Kd.Q_types ho hb ht
theorem IsS81.own_neQ {w0 W : World} {g : Nat} {f0 : List Int} {f1 : Int} {α : Type} {d : Kd α} {e : Nat} {base : Nat} {ok : Nat → Prop} {v : Value} {xs : List α} (h : IsS81 w0 W g f0 f1) (ho : d.Q e W base ok v xs) (ht : e ≠ 81) : some g ≠ v.ownBlock := by
 obtain ⟨A0, c0, hb, hg, hr0⟩ := h
 exact Kd.Q_ne ho hb ht
theorem IsS81.apartS {w0 W : World} {g : Nat} {f0 : List Int} {f1 : Int} {α : Type} {d : Kd α} {e : Nat} {base : Nat} {ok : Nat → Prop} {v : Value} {xs : List α} (h : IsS81 w0 W g f0 f1) (ho : d.S e W base ok v xs) (ht : ∀ q, q ∈ e :: d.E → q ≠ 81) : d.S e W base (fun k => ok k ∧ k ≠ g) v xs := by
 obtain ⟨A0, c0, hb, hg, hr0⟩ := h
 exact Kd.S_types ho hb ht
theorem IsS81.own_neS {w0 W : World} {g : Nat} {f0 : List Int} {f1 : Int} {α : Type} {d : Kd α} {e : Nat} {base : Nat} {ok : Nat → Prop} {v : Value} {xs : List α} (h : IsS81 w0 W g f0 f1) (ho : d.S e W base ok v xs) (ht : e ≠ 81) : some g ≠ v.ownBlock := by
 obtain ⟨A0, c0, hb, hg, hr0⟩ := h
 exact Kd.S_ne ho hb ht
theorem IsS81.lt {w0 W : World} {g : Nat} {f0 : List Int} {f1 : Int} (h : IsS81 w0 W g f0 f1) : g < W.heap.size := by
 obtain ⟨A0, c0, hb, hg, hr0⟩ := h
 exact blk_lt hb
theorem IsS81.ge {w0 W : World} {g : Nat} {f0 : List Int} {f1 : Int} (h : IsS81 w0 W g f0 f1) : w0.heap.size ≤ g := by
 obtain ⟨A0, c0, hb, hg, hr0⟩ := h
 exact hg
theorem IsS81.ne_blk {w0 W : World} {g : Nat} {f0 : List Int} {f1 : Int} {a : Nat} {cs : Array Value} {t : TypeId} {fr : Nat × Nat} (h : IsS81 w0 W g f0 f1) (hb2 : W.heap[a]? = some (.cells cs t fr)) (ht : t ≠ 81) : g ≠ a := by
 obtain ⟨A0, c0, hb, hg, hr0⟩ := h
 rintro rfl
 rw [hb] at hb2
 injection hb2 with hb2
 injection hb2 with _ ht2
 exact ht ht2.symm
theorem IsS81.far {w0 W : World} {g : Nat} {f0 : List Int} {f1 : Int} {p : Addr} (h : IsS81 w0 W g f0 f1) (hne : g ≠ p.block) (u : Value) : IsS81 w0 (W.setCell p u) g f0 f1 := by
 obtain ⟨A0, c0, hb, hg, hr0⟩ := h
 exact ⟨A0, c0, blk_far hb hne u, hg, hr0⟩
theorem cellS81_0 {W : World} {g : Nat} {A0 : Option Addr} {c0 : Nat} {f0 : List Int} {f1 : Int} (h : W.heap[g]? = some (.cells #[.slice A0 f0.length c0, .int .i64 f1] 81 (0, 0))) : W.cell? ⟨g, 0, none⟩ = some (.slice A0 f0.length c0) := (blk_cell h 0).trans rfl
theorem cellS81_1 {W : World} {g : Nat} {A0 : Option Addr} {c0 : Nat} {f0 : List Int} {f1 : Int} (h : W.heap[g]? = some (.cells #[.slice A0 f0.length c0, .int .i64 f1] 81 (0, 0))) : W.cell? ⟨g, 1, none⟩ = some (.int .i64 f1) := (blk_cell h 1).trans rfl
theorem IsS81.set_1 {w0 W : World} {g : Nat} {f0 : List Int} {f1 : Int} (h : IsS81 w0 W g f0 f1) (x : Int) : IsS81 w0 (W.setCell ⟨g, 1, none⟩ (.int .i64 x)) g f0 x := by
 obtain ⟨A0, c0, hb, hg, hr0⟩ := h
 exact ⟨A0, c0, by simpa using blk_set hb 1 (.int .i64 x), hg, hr0⟩
theorem IsS81.new (w0 W : World) (A0 : Option Addr) (c0 : Nat) (f0 : List Int) (f1 : Int) (hB : Below w0.heap.size w0 W) (hr0 : Kd.C (Kd.int .u8) w0 A0 f0.length f0) : IsS81 w0 (W.alloc (.cells #[.slice A0 f0.length c0, .int .i64 f1] 81)) W.heap.size f0 f1 := ⟨A0, c0, by simpa using heap_alloc_new W _, hB.size, hr0⟩

/-! ### spec_l9Open: function 53 -/
def spec_l9Open.f (l0 : List Int) : Option (List Int × Int) := if (l0.length : Int) > 2000 then (if 2000 ≤ (l0.length : Int) then (some (l0.take 2000, 0)) else (none)) else (some (l0, 0))
/-! ### spec_l9Rd_pick: function 61 -/
def spec_l9Rd_pick.j0 : Nat → Int → Bool → List Int → Int → Option (Int × Int)
 | 0, _, _, _, _ => none
 | k + 1, x1, x24, x1000, x1001 => if x24 = true then (some (0, x1001)) else (if (wrap64 (x1001 - 1)) < (x1000.length : Int) then (if 0 ≤ (wrap64 (x1001 - 1)) then (if x1 = 0 then (none) else (some (Int.tmod (wrap64 (rd x1000 (wrap64 (x1001 - 1)))) x1, x1001))) else (none)) else (if (x1000.length : Int) = 0 then (none) else (if 0 ≤ (Int.tmod (wrap64 (x1001 - 1)) (x1000.length : Int)) then (if (Int.tmod (wrap64 (x1001 - 1)) (x1000.length : Int)) < (x1000.length : Int) then (if 0 ≤ (Int.tmod (wrap64 ((wrap64 ((wrap64 (x1001 - 1)) * 7)) + 3)) (x1000.length : Int)) then (if (Int.tmod (wrap64 ((wrap64 ((wrap64 (x1001 - 1)) * 7)) + 3)) (x1000.length : Int)) < (x1000.length : Int) then (if x1 = 0 then (none) else (some (Int.tmod (Go.bits .xor .i64 (wrap64 ((wrap64 ((wrap64 ((wrap64 ((wrap64 (rd x1000 (Int.tmod (wrap64 (x1001 - 1)) (x1000.length : Int)))) * 131)) + (wrap64 ((wrap64 (rd x1000 (Int.tmod (wrap64 ((wrap64 ((wrap64 (x1001 - 1)) * 7)) + 3)) (x1000.length : Int)))) * 1117)))) + (wrap64 ((wrap64 (x1001 - 1)) * 29)))) + (wrap64 ((wrap64 (Int.tdiv (wrap64 (x1001 - 1)) (x1000.length : Int))) * 53)))) (wrap64 (Int.tdiv (wrap64 ((wrap64 ((wrap64 ((wrap64 ((wrap64 (rd x1000 (Int.tmod (wrap64 (x1001 - 1)) (x1000.length : Int)))) * 131)) + (wrap64 ((wrap64 (rd x1000 (Int.tmod (wrap64 ((wrap64 ((wrap64 (x1001 - 1)) * 7)) + 3)) (x1000.length : Int)))) * 1117)))) + (wrap64 ((wrap64 (x1001 - 1)) * 29)))) + (wrap64 ((wrap64 (Int.tdiv (wrap64 (x1001 - 1)) (x1000.length : Int))) * 53)))) 64))) x1, x1001))) else (none)) else (none)) else (none)) else (none))))
def spec_l9Rd_pick.f (k : Nat) (s0_0 : List Int) (s0_1 : Int) (a1 : Int) : Option (Int × Int) := if a1 < 1 then (spec_l9Rd_pick.j0 k a1 true s0_0 (wrap64 (s0_1 + 1))) else (spec_l9Rd_pick.j0 k a1 ((s0_0.length : Int) == 0) s0_0 (wrap64 (s0_1 + 1)))
theorem spec_l9Rd_pick.mono_l : ∀ k, (∀ y0 y1 y2 y3, LeO (spec_l9Rd_pick.j0 k y0 y1 y2 y3) (spec_l9Rd_pick.j0 (k + 1) y0 y1 y2 y3))
 | 0 => fun _ _ _ _ r h => by simp [spec_l9Rd_pick.j0] at h
 | k + 1 => by
  have ih0 := spec_l9Rd_pick.mono_l k
  ·intro y0 y1 y2 y3
   unfold spec_l9Rd_pick.j0
   repeat' first
   | (with_reducible exact ih0 _ _ _ _)
   | (with_reducible exact LeO.refl _)
   | (with_reducible exact LeO.none _)
   | (with_reducible refine LeO.ite ?_ ?_)
   | (with_reducible refine LeO.bind ?_ (fun _ => ?_))
   | exact ih0 _ _ _ _
   | exact LeO.none _
   | refine LeO.ite ?_ ?_
   | refine LeO.bind ?_ (fun _ => ?_)
theorem spec_l9Rd_pick.mono : ∀ a0 a1 a2 k, LeO (spec_l9Rd_pick.f k a0 a1 a2) (spec_l9Rd_pick.f (k + 1) a0 a1 a2) := by
 intro a0 a1 a2 k
 have ih0 := spec_l9Rd_pick.mono_l k
 unfold spec_l9Rd_pick.f
 repeat' first
   | (with_reducible exact ih0 _ _ _ _)
   | (with_reducible exact LeO.refl _)
   | (with_reducible exact LeO.none _)
   | (with_reducible refine LeO.ite ?_ ?_)
   | (with_reducible refine LeO.bind ?_ (fun _ => ?_))
   | exact ih0 _ _ _ _
   | exact LeO.none _
   | refine LeO.ite ?_ ?_
   | refine LeO.bind ?_ (fun _ => ?_)
/-! ### spec_l9Rd_num: function 55 -/
def spec_l9Rd_num.f (k : Nat) (s0_0 : List Int) (s0_1 : Int) (l1 : List Int) : Option (Int × Int) := (spec_l9Rd_pick.f k s0_0 s0_1 (l1.length : Int)).bind fun bt156 => (if 0 ≤ bt156.1 then (if bt156.1 < (l1.length : Int) then (some (rd l1 bt156.1, bt156.2)) else (none)) else (none))
theorem spec_l9Rd_num.mono : ∀ a0 a1 a2 k, LeO (spec_l9Rd_num.f k a0 a1 a2) (spec_l9Rd_num.f (k + 1) a0 a1 a2) := by
 intro a0 a1 a2 k
 unfold spec_l9Rd_num.f
 repeat' first
   | (with_reducible exact spec_l9Rd_pick.mono _ _ _ _)
   | (with_reducible exact LeO.refl _)
   | (with_reducible exact LeO.none _)
   | (with_reducible refine LeO.ite ?_ ?_)
   | (with_reducible refine LeO.bind ?_ (fun _ => ?_))
   | exact spec_l9Rd_pick.mono _ _ _ _
   | exact LeO.none _
   | refine LeO.ite ?_ ?_
   | refine LeO.bind ?_ (fun _ => ?_)
/-! ### spec_l1Label: function 54 -/
def spec_l1Label.f (k : Nat) (s0_0 : List Int) (s0_1 : Int) : Option (Int × Int) := (spec_l9Rd_pick.f k s0_0 s0_1 20).bind fun bt159 => (if bt159.1 = 0 then ((spec_l9Rd_num.f k s0_0 bt159.2 (([(-1), 8, 9223372036854775807, (-9223372036854775808)] : List Int))).bind fun bt164 => (some (bt164.1, bt164.2))) else ((spec_l9Rd_pick.f k s0_0 bt159.2 8).bind fun bt166 => (some (bt166.1, bt166.2))))
theorem spec_l1Label.mono : ∀ a0 a1 k, LeO (spec_l1Label.f k a0 a1) (spec_l1Label.f (k + 1) a0 a1) := by
 intro a0 a1 k
 unfold spec_l1Label.f
 repeat' first
   | (with_reducible exact spec_l9Rd_num.mono _ _ _ _)
   | (with_reducible exact spec_l9Rd_pick.mono _ _ _ _)
   | (with_reducible exact LeO.refl _)
   | (with_reducible exact LeO.none _)
   | (with_reducible refine LeO.ite ?_ ?_)
   | (with_reducible refine LeO.bind ?_ (fun _ => ?_))
   | exact spec_l9Rd_num.mono _ _ _ _
   | exact spec_l9Rd_pick.mono _ _ _ _
   | exact LeO.none _
   | refine LeO.ite ?_ ?_
   | refine LeO.bind ?_ (fun _ => ?_)
/-! ### spec_DrawPageSpan: function 28 -/
def spec_DrawPageSpan.f (k : Nat) (l0 : List Int) : Option (Int × Int × Int) := (spec_l9Open.f l0).bind fun bt168 => ((spec_l1Label.f k bt168.1 bt168.2).bind fun bt171 => ((spec_l9Rd_num.f k bt168.1 bt171.2 (([0, 1, 7, 8, 9, 15, 30, (-1)] : List Int))).bind fun bt176 => ((spec_l9Rd_num.f k bt168.1 bt176.2 (([1, 2, 7, 8, 9, 20, 0, (-3), 9000] : List Int))).bind fun bt181 => (some (bt171.1, bt176.1, wrap64 (bt176.1 + bt181.1))))))
theorem spec_DrawPageSpan.mono : ∀ a0 k, LeO (spec_DrawPageSpan.f k a0) (spec_DrawPageSpan.f (k + 1) a0) := by
 intro a0 k
 unfold spec_DrawPageSpan.f
 repeat' first
   | (with_reducible exact spec_l1Label.mono _ _ _)
   | (with_reducible exact spec_l9Rd_num.mono _ _ _ _)
   | (with_reducible exact LeO.refl _)
   | (with_reducible exact LeO.none _)
   | (with_reducible refine LeO.ite ?_ ?_)
   | (with_reducible refine LeO.bind ?_ (fun _ => ?_))
   | exact spec_l1Label.mono _ _ _
   | exact spec_l9Rd_num.mono _ _ _ _
   | exact LeO.none _
   | refine LeO.ite ?_ ?_
   | refine LeO.bind ?_ (fun _ => ?_)
/-! ### laws_wpPages: function 29 -/
def laws_wpPages.l0 : Nat → List (S25) → List (S25) → Int → Option (Bool)
 | 0, _, _, _ => none
 | k + 1, x0, x1, x5 => if x5 < (x0.length : Int) then (if 0 ≤ x5 then (if x5 < (x1.length : Int) then (if (!(((rd_T25 x0 x5).f0) == ((rd_T25 x1 x5).f0)) || (!(((rd_T25 x0 x5).f1) == ((rd_T25 x1 x5).f1)))) = true then (some false) else (laws_wpPages.l0 k x0 x1 (wrap64 (x5 + 1)))) else (none)) else (none)) else (some true)
def laws_wpPages.f (k : Nat) (l0 : List (S25)) (l1 : List (S25)) : Option (Bool) := if (l0.length : Int) = (l1.length : Int) then (laws_wpPages.l0 k l0 l1 0) else (some false)
theorem laws_wpPages.mono_l : ∀ k, (∀ y0 y1 y2, LeO (laws_wpPages.l0 k y0 y1 y2) (laws_wpPages.l0 (k + 1) y0 y1 y2))
 | 0 => fun _ _ _ r h => by simp [laws_wpPages.l0] at h
 | k + 1 => by
  have ih0 := laws_wpPages.mono_l k
  ·intro y0 y1 y2
   unfold laws_wpPages.l0
   repeat' first
   | (with_reducible exact ih0 _ _ _)
   | (with_reducible exact LeO.refl _)
   | (with_reducible exact LeO.none _)
   | (with_reducible refine LeO.ite ?_ ?_)
   | (with_reducible refine LeO.bind ?_ (fun _ => ?_))
   | exact ih0 _ _ _
   | exact LeO.none _
   | refine LeO.ite ?_ ?_
   | refine LeO.bind ?_ (fun _ => ?_)
theorem laws_wpPages.mono : ∀ a0 a1 k, LeO (laws_wpPages.f k a0 a1) (laws_wpPages.f (k + 1) a0 a1) := by
 intro a0 a1 k
 have ih0 := laws_wpPages.mono_l k
 unfold laws_wpPages.f
 repeat' first
   | (with_reducible exact ih0 _ _ _)
   | (with_reducible exact LeO.refl _)
   | (with_reducible exact LeO.none _)
   | (with_reducible refine LeO.ite ?_ ?_)
   | (with_reducible refine LeO.bind ?_ (fun _ => ?_))
   | exact ih0 _ _ _
   | exact LeO.none _
   | refine LeO.ite ?_ ?_
   | refine LeO.bind ?_ (fun _ => ?_)
/-! ### spec_DrawPageOk: function 30 -/
def spec_DrawPageOk.f (k : Nat) (l0 : List Int) : Option (Int × Int) := (spec_l9Open.f l0).bind fun bt218 => ((spec_l1Label.f k bt218.1 bt218.2).bind fun bt221 => ((spec_l9Rd_num.f k bt218.1 bt221.2 (([0, 1, 5, 999, 1000, (-1)] : List Int))).bind fun bt226 => (some (bt221.1, bt226.1))))
theorem spec_DrawPageOk.mono : ∀ a0 k, LeO (spec_DrawPageOk.f k a0) (spec_DrawPageOk.f (k + 1) a0) := by
 intro a0 k
 unfold spec_DrawPageOk.f
 repeat' first
   | (with_reducible exact spec_l1Label.mono _ _ _)
   | (with_reducible exact spec_l9Rd_num.mono _ _ _ _)
   | (with_reducible exact LeO.refl _)
   | (with_reducible exact LeO.none _)
   | (with_reducible refine LeO.ite ?_ ?_)
   | (with_reducible refine LeO.bind ?_ (fun _ => ?_))
   | exact spec_l1Label.mono _ _ _
   | exact spec_l9Rd_num.mono _ _ _ _
   | exact LeO.none _
   | refine LeO.ite ?_ ?_
   | refine LeO.bind ?_ (fun _ => ?_)
/-! ### laws_szPageS: function 49 -/
def laws_szPageS.f (l0 : List (S23)) (a1 : Int) : Option (Int) := if (wrap64 (a1 - (l0.length : Int))) < 0 then (some (-1)) else (some (wrap64 (a1 - (l0.length : Int))))
/-! ### laws_szPool: function 32 -/
def laws_szPool.f (a0_0 : Int) (l0_1 : List (S23)) (a1 : Int) : Option (Int) := (laws_szPageS.f l0_1 a1).bind fun t250 => (if t250 < 0 then (some (-1)) else (some t250))
/-! ### spec_PoolSame: function 33 -/
mutual
def spec_PoolSame.j0 : Nat → Bool → Int → List (S25) → Int → List (S25) → Option (Bool)
 | 0, _, _, _, _, _ => none
 | k + 1, x19, x252000, x252001, x253000, x253001 => if x19 = true then (some false) else (spec_PoolSame.l0 k 0 x252000 x252001 x253000 x253001)
def spec_PoolSame.l0 : Nat → Int → Int → List (S25) → Int → List (S25) → Option (Bool)
 | 0, _, _, _, _, _ => none
 | k + 1, x5, x252000, x252001, x253000, x253001 => if x5 < (x252001.length : Int) then (if 0 ≤ x5 then (if x5 < (x253001.length : Int) then (if (!(((rd_T25 x252001 x5).f0) == ((rd_T25 x253001 x5).f0)) || (!(((rd_T25 x252001 x5).f1) == ((rd_T25 x253001 x5).f1)))) = true then (some false) else (spec_PoolSame.l0 k (wrap64 (x5 + 1)) x252000 x252001 x253000 x253001)) else (none)) else (none)) else (some true)
end
def spec_PoolSame.f (k : Nat) (a0_0 : Int) (l0_1 : List (S25)) (a1_0 : Int) (l1_1 : List (S25)) : Option (Bool) := if a0_0 = a1_0 then (spec_PoolSame.j0 k ((l0_1.length : Int) != (l1_1.length : Int)) a0_0 l0_1 a1_0 l1_1) else (spec_PoolSame.j0 k true a0_0 l0_1 a1_0 l1_1)
theorem spec_PoolSame.mono_l : ∀ k, (∀ y0 y1 y2 y3 y4, LeO (spec_PoolSame.j0 k y0 y1 y2 y3 y4) (spec_PoolSame.j0 (k + 1) y0 y1 y2 y3 y4)) ∧ (∀ y0 y1 y2 y3 y4, LeO (spec_PoolSame.l0 k y0 y1 y2 y3 y4) (spec_PoolSame.l0 (k + 1) y0 y1 y2 y3 y4))
 | 0 => ⟨fun _ _ _ _ _ r h => by simp [spec_PoolSame.j0] at h, fun _ _ _ _ _ r h => by simp [spec_PoolSame.l0] at h⟩
 | k + 1 => by
  obtain ⟨ih0, ih1⟩ := spec_PoolSame.mono_l k
  refine ⟨?_, ?_⟩
  ·intro y0 y1 y2 y3 y4
   unfold spec_PoolSame.j0
   repeat' first
   | (with_reducible exact ih0 _ _ _ _ _)
   | (with_reducible exact ih1 _ _ _ _ _)
   | (with_reducible exact LeO.refl _)
   | (with_reducible exact LeO.none _)
   | (with_reducible refine LeO.ite ?_ ?_)
   | (with_reducible refine LeO.bind ?_ (fun _ => ?_))
   | exact ih0 _ _ _ _ _
   | exact ih1 _ _ _ _ _
   | exact LeO.none _
   | refine LeO.ite ?_ ?_
   | refine LeO.bind ?_ (fun _ => ?_)
  ·intro y0 y1 y2 y3 y4
   unfold spec_PoolSame.l0
   repeat' first
   | (with_reducible exact ih0 _ _ _ _ _)
   | (with_reducible exact ih1 _ _ _ _ _)
   | (with_reducible exact LeO.refl _)
   | (with_reducible exact LeO.none _)
   | (with_reducible refine LeO.ite ?_ ?_)
   | (with_reducible refine LeO.bind ?_ (fun _ => ?_))
   | exact ih0 _ _ _ _ _
   | exact ih1 _ _ _ _ _
   | exact LeO.none _
   | refine LeO.ite ?_ ?_
   | refine LeO.bind ?_ (fun _ => ?_)
theorem spec_PoolSame.mono : ∀ a0 a1 a2 a3 k, LeO (spec_PoolSame.f k a0 a1 a2 a3) (spec_PoolSame.f (k + 1) a0 a1 a2 a3) := by
 intro a0 a1 a2 a3 k
 obtain ⟨ih0, ih1⟩ := spec_PoolSame.mono_l k
 unfold spec_PoolSame.f
 repeat' first
   | (with_reducible exact ih0 _ _ _ _ _)
   | (with_reducible exact ih1 _ _ _ _ _)
   | (with_reducible exact LeO.refl _)
   | (with_reducible exact LeO.none _)
   | (with_reducible refine LeO.ite ?_ ?_)
   | (with_reducible refine LeO.bind ?_ (fun _ => ?_))
   | exact ih0 _ _ _ _ _
   | exact ih1 _ _ _ _ _
   | exact LeO.none _
   | refine LeO.ite ?_ ?_
   | refine LeO.bind ?_ (fun _ => ?_)
/-! ### laws_toPageS: function 50 -/
def laws_toPageS.l0 : Nat → List (S23) → List (S25) → Int → Option ((List (S25)))
 | 0, _, _, _ => none
 | k + 1, x0, x3, x4 => if x4 < (x0.length : Int) then (if 0 ≤ x4 then ((laws_toPage.f ((rd_T23 x0 x4).f0) ((rd_T23 x0 x4).f1)).bind fun bt259 => (if x4 < (x3.length : Int) then (laws_toPageS.l0 k x0 (x3.set (x4 : Int).toNat (⟨bt259.1, bt259.2⟩ : S25)) (wrap64 (x4 + 1))) else (none))) else (none)) else (some x3)
def laws_toPageS.f (k : Nat) (l0 : List (S23)) : Option ((List (S25))) := if 0 ≤ (l0.length : Int) then (if ((l0.length : Int) : Int).toNat ≤ 17592186044416 then (laws_toPageS.l0 k l0 (List.replicate ((l0.length : Int) : Int).toNat z25) 0) else (none)) else (none)
theorem laws_toPageS.mono_l : ∀ k, (∀ y0 y1 y2, LeO (laws_toPageS.l0 k y0 y1 y2) (laws_toPageS.l0 (k + 1) y0 y1 y2))
 | 0 => fun _ _ _ r h => by simp [laws_toPageS.l0] at h
 | k + 1 => by
  have ih0 := laws_toPageS.mono_l k
  ·intro y0 y1 y2
   unfold laws_toPageS.l0
   repeat' first
   | (with_reducible exact ih0 _ _ _)
   | (with_reducible exact LeO.refl _)
   | (with_reducible exact LeO.none _)
   | (with_reducible refine LeO.ite ?_ ?_)
   | (with_reducible refine LeO.bind ?_ (fun _ => ?_))
   | exact ih0 _ _ _
   | exact LeO.none _
   | refine LeO.ite ?_ ?_
   | refine LeO.bind ?_ (fun _ => ?_)
theorem laws_toPageS.mono : ∀ a0 k, LeO (laws_toPageS.f k a0) (laws_toPageS.f (k + 1) a0) := by
 intro a0 k
 have ih0 := laws_toPageS.mono_l k
 unfold laws_toPageS.f
 repeat' first
   | (with_reducible exact ih0 _ _ _)
   | (with_reducible exact LeO.refl _)
   | (with_reducible exact LeO.none _)
   | (with_reducible refine LeO.ite ?_ ?_)
   | (with_reducible refine LeO.bind ?_ (fun _ => ?_))
   | exact ih0 _ _ _
   | exact LeO.none _
   | refine LeO.ite ?_ ?_
   | refine LeO.bind ?_ (fun _ => ?_)
/-! ### laws_toPool: function 34 -/
def laws_toPool.f (k : Nat) (a0_0 : Int) (l0_1 : List (S23)) : Option (Int × (List (S25))) := (laws_toPageS.f k l0_1).bind fun t265 => (some (a0_0, t265))
theorem laws_toPool.mono : ∀ a0 a1 k, LeO (laws_toPool.f k a0 a1) (laws_toPool.f (k + 1) a0 a1) := by
 intro a0 a1 k
 unfold laws_toPool.f
 repeat' first
   | (with_reducible exact laws_toPageS.mono _ _)
   | (with_reducible exact LeO.refl _)
   | (with_reducible exact LeO.none _)
   | (with_reducible refine LeO.ite ?_ ?_)
   | (with_reducible refine LeO.bind ?_ (fun _ => ?_))
   | exact laws_toPageS.mono _ _
   | exact LeO.none _
   | refine LeO.ite ?_ ?_
   | refine LeO.bind ?_ (fun _ => ?_)
/-! ### impl_Page_56: function 56 -/
def impl_Page_56.l0 : Nat → List (S25) → List (S25) → Int → Int → Option (Bool)
 | 0, _, _, _, _ => none
 | k + 1, x0, x1, x12, x13 => if x13 < x12 then (if 0 ≤ x13 then (if x13 < (x0.length : Int) then (if x13 < (x1.length : Int) then (if (!(((rd_T25 x0 x13).f0) == ((rd_T25 x1 x13).f0)) || (!(((rd_T25 x0 x13).f1) == ((rd_T25 x1 x13).f1)))) = true then (some false) else (impl_Page_56.l0 k x0 x1 x12 (wrap64 (x13 + 1)))) else (none)) else (none)) else (none)) else (some true)
def impl_Page_56.f (k : Nat) (l0 : List (S25)) (l1 : List (S25)) : Option (Bool) := if (l0.length : Int) = (l1.length : Int) then (impl_Page_56.l0 k l0 l1 (l0.length : Int) 0) else (some false)
theorem impl_Page_56.mono_l : ∀ k, (∀ y0 y1 y2 y3, LeO (impl_Page_56.l0 k y0 y1 y2 y3) (impl_Page_56.l0 (k + 1) y0 y1 y2 y3))
 | 0 => fun _ _ _ _ r h => by simp [impl_Page_56.l0] at h
 | k + 1 => by
  have ih0 := impl_Page_56.mono_l k
  ·intro y0 y1 y2 y3
   unfold impl_Page_56.l0
   repeat' first
   | (with_reducible exact ih0 _ _ _ _)
   | (with_reducible exact LeO.refl _)
   | (with_reducible exact LeO.none _)
   | (with_reducible refine LeO.ite ?_ ?_)
   | (with_reducible refine LeO.bind ?_ (fun _ => ?_))
   | exact ih0 _ _ _ _
   | exact LeO.none _
   | refine LeO.ite ?_ ?_
   | refine LeO.bind ?_ (fun _ => ?_)
theorem impl_Page_56.mono : ∀ a0 a1 k, LeO (impl_Page_56.f k a0 a1) (impl_Page_56.f (k + 1) a0 a1) := by
 intro a0 a1 k
 have ih0 := impl_Page_56.mono_l k
 unfold impl_Page_56.f
 repeat' first
   | (with_reducible exact ih0 _ _ _ _)
   | (with_reducible exact LeO.refl _)
   | (with_reducible exact LeO.none _)
   | (with_reducible refine LeO.ite ?_ ?_)
   | (with_reducible refine LeO.bind ?_ (fun _ => ?_))
   | exact ih0 _ _ _ _
   | exact LeO.none _
   | refine LeO.ite ?_ ?_
   | refine LeO.bind ?_ (fun _ => ?_)
/-! ### impl_PoolSame: function 35 -/
def impl_PoolSame.f (k : Nat) (a0_0 : Int) (l0_1 : List (S25)) (a1_0 : Int) (l1_1 : List (S25)) : Option (Bool) := if a0_0 = a1_0 then ((impl_Page_56.f k l0_1 l1_1).bind fun t272 => (some t272)) else (some false)
theorem impl_PoolSame.mono : ∀ a0 a1 a2 a3 k, LeO (impl_PoolSame.f k a0 a1 a2 a3) (impl_PoolSame.f (k + 1) a0 a1 a2 a3) := by
 intro a0 a1 a2 a3 k
 unfold impl_PoolSame.f
 repeat' first
   | (with_reducible exact impl_Page_56.mono _ _ _)
   | (with_reducible exact LeO.refl _)
   | (with_reducible exact LeO.none _)
   | (with_reducible refine LeO.ite ?_ ?_)
   | (with_reducible refine LeO.bind ?_ (fun _ => ?_))
   | exact impl_Page_56.mono _ _ _
   | exact LeO.none _
   | refine LeO.ite ?_ ?_
   | refine LeO.bind ?_ (fun _ => ?_)
/-! ### laws_eqPool: function 36 -/
def laws_eqPool.f (k : Nat) (a0_0 : Int) (l0_1 : List (S25)) (a1_0 : Int) (l1_1 : List (S25)) : Option (Bool) := if a0_0 = a1_0 then ((laws_eqPageS.f k l0_1 l1_1).bind fun t275 => (if t275 = true then (some true) else (some false))) else (some false)
theorem laws_eqPool.mono : ∀ a0 a1 a2 a3 k, LeO (laws_eqPool.f k a0 a1 a2 a3) (laws_eqPool.f (k + 1) a0 a1 a2 a3) := by
 intro a0 a1 a2 a3 k
 unfold laws_eqPool.f
 repeat' first
   | (with_reducible exact laws_eqPageS.mono _ _ _)
   | (with_reducible exact LeO.refl _)
   | (with_reducible exact LeO.none _)
   | (with_reducible refine LeO.ite ?_ ?_)
   | (with_reducible refine LeO.bind ?_ (fun _ => ?_))
   | exact laws_eqPageS.mono _ _ _
   | exact LeO.none _
   | refine LeO.ite ?_ ?_
   | refine LeO.bind ?_ (fun _ => ?_)
/-! ### spec_l5At: function 57 -/
def spec_l5At.l0 : Nat → List (S25) → Int → Int → Int → Option (Int)
 | 0, _, _, _, _ => none
 | k + 1, x0, x5, x311000, x311001 => if x5 < (x0.length : Int) then (if 0 ≤ x5 then (if (((rd_T25 x0 x5).f0) == x311000 && (((rd_T25 x0 x5).f1) == x311001)) = true then (some x5) else (spec_l5At.l0 k x0 (wrap64 (x5 + 1)) x311000 x311001)) else (none)) else (some (-1))
def spec_l5At.f (k : Nat) (l0 : List (S25)) (a1_0 : Int) (a1_1 : Int) : Option (Int) := spec_l5At.l0 k l0 0 a1_0 a1_1
theorem spec_l5At.mono_l : ∀ k, (∀ y0 y1 y2 y3, LeO (spec_l5At.l0 k y0 y1 y2 y3) (spec_l5At.l0 (k + 1) y0 y1 y2 y3))
 | 0 => fun _ _ _ _ r h => by simp [spec_l5At.l0] at h
 | k + 1 => by
  have ih0 := spec_l5At.mono_l k
  ·intro y0 y1 y2 y3
   unfold spec_l5At.l0
   repeat' first
   | (with_reducible exact ih0 _ _ _ _)
   | (with_reducible exact LeO.refl _)
   | (with_reducible exact LeO.none _)
   | (with_reducible refine LeO.ite ?_ ?_)
   | (with_reducible refine LeO.bind ?_ (fun _ => ?_))
   | exact ih0 _ _ _ _
   | exact LeO.none _
   | refine LeO.ite ?_ ?_
   | refine LeO.bind ?_ (fun _ => ?_)
theorem spec_l5At.mono : ∀ a0 a1 a2 k, LeO (spec_l5At.f k a0 a1 a2) (spec_l5At.f (k + 1) a0 a1 a2) := by
 intro a0 a1 a2 k
 have ih0 := spec_l5At.mono_l k
 unfold spec_l5At.f
 repeat' first
   | (with_reducible exact ih0 _ _ _ _)
   | (with_reducible exact LeO.refl _)
   | (with_reducible exact LeO.none _)
   | (with_reducible refine LeO.ite ?_ ?_)
   | (with_reducible refine LeO.bind ?_ (fun _ => ?_))
   | exact ih0 _ _ _ _
   | exact LeO.none _
   | refine LeO.ite ?_ ?_
   | refine LeO.bind ?_ (fun _ => ?_)
/-! ### spec_PoolOk: function 37 -/
mutual
def spec_PoolOk.j0 : Nat → Bool → Int → List (S25) → Option (Bool)
 | 0, _, _, _ => none
 | k + 1, x19, x313000, x313001 => if x19 = true then (some false) else (spec_PoolOk.l0 k 0 x313000 x313001)
def spec_PoolOk.l0 : Nat → Int → Int → List (S25) → Option (Bool)
 | 0, _, _, _ => none
 | k + 1, x3, x313000, x313001 => if x3 < (x313001.length : Int) then (if 0 ≤ x3 then ((spec_PageOk.f ((rd_T25 x313001 x3).f0) ((rd_T25 x313001 x3).f1)).bind fun t314 => (if t314 = true then (if x3 ≤ (x313001.length : Int) then ((spec_l5At.f k (x313001.take (x3 : Int).toNat) ((rd_T25 x313001 x3).f0) ((rd_T25 x313001 x3).f1)).bind fun t320 => (if t320 ≥ 0 then (some false) else (spec_PoolOk.l0 k (wrap64 (x3 + 1)) x313000 x313001))) else (none)) else (some false))) else (none)) else (some true)
end
def spec_PoolOk.f (k : Nat) (a0_0 : Int) (l0_1 : List (S25)) : Option (Bool) := if a0_0 < 0 then (spec_PoolOk.j0 k true a0_0 l0_1) else (if a0_0 > 12 then (spec_PoolOk.j0 k true a0_0 l0_1) else (spec_PoolOk.j0 k (decide ((l0_1.length : Int) > a0_0)) a0_0 l0_1))
theorem spec_PoolOk.mono_l : ∀ k, (∀ y0 y1 y2, LeO (spec_PoolOk.j0 k y0 y1 y2) (spec_PoolOk.j0 (k + 1) y0 y1 y2)) ∧ (∀ y0 y1 y2, LeO (spec_PoolOk.l0 k y0 y1 y2) (spec_PoolOk.l0 (k + 1) y0 y1 y2))
 | 0 => ⟨fun _ _ _ r h => by simp [spec_PoolOk.j0] at h, fun _ _ _ r h => by simp [spec_PoolOk.l0] at h⟩
 | k + 1 => by
  obtain ⟨ih0, ih1⟩ := spec_PoolOk.mono_l k
  refine ⟨?_, ?_⟩
  ·intro y0 y1 y2
   unfold spec_PoolOk.j0
   repeat' first
   | (with_reducible exact ih0 _ _ _)
   | (with_reducible exact ih1 _ _ _)
   | (with_reducible exact spec_l5At.mono _ _ _ _)
   | (with_reducible exact LeO.refl _)
   | (with_reducible exact LeO.none _)
   | (with_reducible refine LeO.ite ?_ ?_)
   | (with_reducible refine LeO.bind ?_ (fun _ => ?_))
   | exact ih0 _ _ _
   | exact ih1 _ _ _
   | exact spec_l5At.mono _ _ _ _
   | exact LeO.none _
   | refine LeO.ite ?_ ?_
   | refine LeO.bind ?_ (fun _ => ?_)
  ·intro y0 y1 y2
   unfold spec_PoolOk.l0
   repeat' first
   | (with_reducible exact ih0 _ _ _)
   | (with_reducible exact ih1 _ _ _)
   | (with_reducible exact spec_l5At.mono _ _ _ _)
   | (with_reducible exact LeO.refl _)
   | (with_reducible exact LeO.none _)
   | (with_reducible refine LeO.ite ?_ ?_)
   | (with_reducible refine LeO.bind ?_ (fun _ => ?_))
   | exact ih0 _ _ _
   | exact ih1 _ _ _
   | exact spec_l5At.mono _ _ _ _
   | exact LeO.none _
   | refine LeO.ite ?_ ?_
   | refine LeO.bind ?_ (fun _ => ?_)
theorem spec_PoolOk.mono : ∀ a0 a1 k, LeO (spec_PoolOk.f k a0 a1) (spec_PoolOk.f (k + 1) a0 a1) := by
 intro a0 a1 k
 obtain ⟨ih0, ih1⟩ := spec_PoolOk.mono_l k
 unfold spec_PoolOk.f
 repeat' first
   | (with_reducible exact ih0 _ _ _)
   | (with_reducible exact ih1 _ _ _)
   | (with_reducible exact spec_l5At.mono _ _ _ _)
   | (with_reducible exact LeO.refl _)
   | (with_reducible exact LeO.none _)
   | (with_reducible refine LeO.ite ?_ ?_)
   | (with_reducible refine LeO.bind ?_ (fun _ => ?_))
   | exact ih0 _ _ _
   | exact ih1 _ _ _
   | exact spec_l5At.mono _ _ _ _
   | exact LeO.none _
   | refine LeO.ite ?_ ?_
   | refine LeO.bind ?_ (fun _ => ?_)
/-! ### impl_Page_67: function 67 -/
def impl_Page_67.l0 : Nat → List (S25) → Int → Int → Int → Int → Option (Int)
 | 0, _, _, _, _, _ => none
 | k + 1, x0, x7, x8, x322000, x322001 => if x8 < x7 then (if 0 ≤ x8 then (if x8 < (x0.length : Int) then (if (x322000 == ((rd_T25 x0 x8).f0) && (x322001 == ((rd_T25 x0 x8).f1))) = true then (some x8) else (impl_Page_67.l0 k x0 x7 (wrap64 (x8 + 1)) x322000 x322001)) else (none)) else (none)) else (some (-1))
def impl_Page_67.f (k : Nat) (l0 : List (S25)) (a1_0 : Int) (a1_1 : Int) : Option (Int) := impl_Page_67.l0 k l0 (l0.length : Int) 0 a1_0 a1_1
theorem impl_Page_67.mono_l : ∀ k, (∀ y0 y1 y2 y3 y4, LeO (impl_Page_67.l0 k y0 y1 y2 y3 y4) (impl_Page_67.l0 (k + 1) y0 y1 y2 y3 y4))
 | 0 => fun _ _ _ _ _ r h => by simp [impl_Page_67.l0] at h
 | k + 1 => by
  have ih0 := impl_Page_67.mono_l k
  ·intro y0 y1 y2 y3 y4
   unfold impl_Page_67.l0
   repeat' first
   | (with_reducible exact ih0 _ _ _ _ _)
   | (with_reducible exact LeO.refl _)
   | (with_reducible exact LeO.none _)
   | (with_reducible refine LeO.ite ?_ ?_)
   | (with_reducible refine LeO.bind ?_ (fun _ => ?_))
   | exact ih0 _ _ _ _ _
   | exact LeO.none _
   | refine LeO.ite ?_ ?_
   | refine LeO.bind ?_ (fun _ => ?_)
theorem impl_Page_67.mono : ∀ a0 a1 a2 k, LeO (impl_Page_67.f k a0 a1 a2) (impl_Page_67.f (k + 1) a0 a1 a2) := by
 intro a0 a1 a2 k
 have ih0 := impl_Page_67.mono_l k
 unfold impl_Page_67.f
 repeat' first
   | (with_reducible exact ih0 _ _ _ _ _)
   | (with_reducible exact LeO.refl _)
   | (with_reducible exact LeO.none _)
   | (with_reducible refine LeO.ite ?_ ?_)
   | (with_reducible refine LeO.bind ?_ (fun _ => ?_))
   | exact ih0 _ _ _ _ _
   | exact LeO.none _
   | refine LeO.ite ?_ ?_
   | refine LeO.bind ?_ (fun _ => ?_)
/-! ### impl_Page_58: function 58 -/
def impl_Page_58.f (k : Nat) (l0 : List (S25)) (a1_0 : Int) (a1_1 : Int) : Option (Bool) := (impl_Page_67.f k l0 a1_0 a1_1).bind fun t324 => (some (decide (t324 ≥ 0)))
theorem impl_Page_58.mono : ∀ a0 a1 a2 k, LeO (impl_Page_58.f k a0 a1 a2) (impl_Page_58.f (k + 1) a0 a1 a2) := by
 intro a0 a1 a2 k
 unfold impl_Page_58.f
 repeat' first
   | (with_reducible exact impl_Page_67.mono _ _ _ _)
   | (with_reducible exact LeO.refl _)
   | (with_reducible exact LeO.none _)
   | (with_reducible refine LeO.ite ?_ ?_)
   | (with_reducible refine LeO.bind ?_ (fun _ => ?_))
   | exact impl_Page_67.mono _ _ _ _
   | exact LeO.none _
   | refine LeO.ite ?_ ?_
   | refine LeO.bind ?_ (fun _ => ?_)
/-! ### impl_PoolOk: function 38 -/
mutual
def impl_PoolOk.j0 : Nat → Bool → Int → List (S25) → Option (Bool)
 | 0, _, _, _ => none
 | k + 1, x20, x326000, x326001 => if x20 = true then (some false) else (impl_PoolOk.l0 k x326001 (x326001.length : Int) 0 x326000 x326001)
def impl_PoolOk.l0 : Nat → List (S25) → Int → Int → Int → List (S25) → Option (Bool)
 | 0, _, _, _, _, _ => none
 | k + 1, x22, x23, x24, x326000, x326001 => if x24 < x23 then (if 0 ≤ x24 then (if x24 < (x22.length : Int) then ((impl_PageOk.f ((rd_T25 x22 x24).f0) ((rd_T25 x22 x24).f1)).bind fun t328 => (if t328 = true then (if x24 ≤ (x326001.length : Int) then ((impl_Page_58.f k (x326001.take (x24 : Int).toNat) ((rd_T25 x22 x24).f0) ((rd_T25 x22 x24).f1)).bind fun t333 => (if t333 = true then (some false) else (impl_PoolOk.l0 k x22 x23 (wrap64 (x24 + 1)) x326000 x326001))) else (none)) else (some false))) else (none)) else (none)) else (some true)
end
def impl_PoolOk.f (k : Nat) (a0_0 : Int) (l0_1 : List (S25)) : Option (Bool) := if a0_0 < 0 then (impl_PoolOk.j0 k true a0_0 l0_1) else (if a0_0 > 12 then (impl_PoolOk.j0 k true a0_0 l0_1) else (impl_PoolOk.j0 k (decide ((l0_1.length : Int) > a0_0)) a0_0 l0_1))
theorem impl_PoolOk.mono_l : ∀ k, (∀ y0 y1 y2, LeO (impl_PoolOk.j0 k y0 y1 y2) (impl_PoolOk.j0 (k + 1) y0 y1 y2)) ∧ (∀ y0 y1 y2 y3 y4, LeO (impl_PoolOk.l0 k y0 y1 y2 y3 y4) (impl_PoolOk.l0 (k + 1) y0 y1 y2 y3 y4))
 | 0 => ⟨fun _ _ _ r h => by simp [impl_PoolOk.j0] at h, fun _ _ _ _ _ r h => by simp [impl_PoolOk.l0] at h⟩
 | k + 1 => by
  obtain ⟨ih0, ih1⟩ := impl_PoolOk.mono_l k
  refine ⟨?_, ?_⟩
  ·intro y0 y1 y2
   unfold impl_PoolOk.j0
   repeat' first
   | (with_reducible exact ih0 _ _ _)
   | (with_reducible exact ih1 _ _ _ _ _)
   | (with_reducible exact impl_Page_58.mono _ _ _ _)
   | (with_reducible exact LeO.refl _)
   | (with_reducible exact LeO.none _)
   | (with_reducible refine LeO.ite ?_ ?_)
   | (with_reducible refine LeO.bind ?_ (fun _ => ?_))
   | exact ih0 _ _ _
   | exact ih1 _ _ _ _ _
   | exact impl_Page_58.mono _ _ _ _
   | exact LeO.none _
   | refine LeO.ite ?_ ?_
   | refine LeO.bind ?_ (fun _ => ?_)
  ·intro y0 y1 y2 y3 y4
   unfold impl_PoolOk.l0
   repeat' first
   | (with_reducible exact ih0 _ _ _)
   | (with_reducible exact ih1 _ _ _ _ _)
   | (with_reducible exact impl_Page_58.mono _ _ _ _)
   | (with_reducible exact LeO.refl _)
   | (with_reducible exact LeO.none _)
   | (with_reducible refine LeO.ite ?_ ?_)
   | (with_reducible refine LeO.bind ?_ (fun _ => ?_))
   | exact ih0 _ _ _
   | exact ih1 _ _ _ _ _
   | exact impl_Page_58.mono _ _ _ _
   | exact LeO.none _
   | refine LeO.ite ?_ ?_
   | refine LeO.bind ?_ (fun _ => ?_)
theorem impl_PoolOk.mono : ∀ a0 a1 k, LeO (impl_PoolOk.f k a0 a1) (impl_PoolOk.f (k + 1) a0 a1) := by
 intro a0 a1 k
 obtain ⟨ih0, ih1⟩ := impl_PoolOk.mono_l k
 unfold impl_PoolOk.f
 repeat' first
   | (with_reducible exact ih0 _ _ _)
   | (with_reducible exact ih1 _ _ _ _ _)
   | (with_reducible exact impl_Page_58.mono _ _ _ _)
   | (with_reducible exact LeO.refl _)
   | (with_reducible exact LeO.none _)
   | (with_reducible refine LeO.ite ?_ ?_)
   | (with_reducible refine LeO.bind ?_ (fun _ => ?_))
   | exact ih0 _ _ _
   | exact ih1 _ _ _ _ _
   | exact impl_Page_58.mono _ _ _ _
   | exact LeO.none _
   | refine LeO.ite ?_ ?_
   | refine LeO.bind ?_ (fun _ => ?_)
/-! ### spec_l5Use: function 62 -/
def spec_l5Use.l0 : Nat → List (S25) → Int → Int → Int → List (S25) → Option (Int × (List (S25)) × Bool)
 | 0, _, _, _, _, _ => none
 | k + 1, x6, x7, x8, x353000, x353001 => if x8 < (x353001.length : Int) then (if x8 = x7 then (spec_l5Use.l0 k x6 x7 (wrap64 (x8 + 1)) x353000 x353001) else (if 0 ≤ x8 then (if x6.length < 8796093022208 then (spec_l5Use.l0 k (x6 ++ [(⟨(rd_T25 x353001 x8).f0, (rd_T25 x353001 x8).f1⟩ : S25)]) x7 (wrap64 (x8 + 1)) x353000 x353001) else (none)) else (none))) else (if (x6.length : Int) > x353000 then (if 0 ≤ x353000 then (if x353000 ≤ (x6.length : Int) then (some (x353000, (x6.take (x353000 : Int).toNat), decide (x7 ≥ 0))) else (none)) else (none)) else (some (x353000, x6, decide (x7 ≥ 0))))
def spec_l5Use.f (k : Nat) (a0_0 : Int) (l0_1 : List (S25)) (a1_0 : Int) (a1_1 : Int) : Option (Int × (List (S25)) × Bool) := (spec_l5At.f k l0_1 a1_0 a1_1).bind fun t358 => (spec_l5Use.l0 k (([(⟨a1_0, a1_1⟩ : S25)] : List (S25))) t358 0 a0_0 l0_1)
theorem spec_l5Use.mono_l : ∀ k, (∀ y0 y1 y2 y3 y4, LeO (spec_l5Use.l0 k y0 y1 y2 y3 y4) (spec_l5Use.l0 (k + 1) y0 y1 y2 y3 y4))
 | 0 => fun _ _ _ _ _ r h => by simp [spec_l5Use.l0] at h
 | k + 1 => by
  have ih0 := spec_l5Use.mono_l k
  ·intro y0 y1 y2 y3 y4
   unfold spec_l5Use.l0
   repeat' first
   | (with_reducible exact ih0 _ _ _ _ _)
   | (with_reducible exact spec_l5At.mono _ _ _ _)
   | (with_reducible exact LeO.refl _)
   | (with_reducible exact LeO.none _)
   | (with_reducible refine LeO.ite ?_ ?_)
   | (with_reducible refine LeO.bind ?_ (fun _ => ?_))
   | exact ih0 _ _ _ _ _
   | exact spec_l5At.mono _ _ _ _
   | exact LeO.none _
   | refine LeO.ite ?_ ?_
   | refine LeO.bind ?_ (fun _ => ?_)
theorem spec_l5Use.mono : ∀ a0 a1 a2 a3 k, LeO (spec_l5Use.f k a0 a1 a2 a3) (spec_l5Use.f (k + 1) a0 a1 a2 a3) := by
 intro a0 a1 a2 a3 k
 have ih0 := spec_l5Use.mono_l k
 unfold spec_l5Use.f
 repeat' first
   | (with_reducible exact ih0 _ _ _ _ _)
   | (with_reducible exact spec_l5At.mono _ _ _ _)
   | (with_reducible exact LeO.refl _)
   | (with_reducible exact LeO.none _)
   | (with_reducible refine LeO.ite ?_ ?_)
   | (with_reducible refine LeO.bind ?_ (fun _ => ?_))
   | exact ih0 _ _ _ _ _
   | exact spec_l5At.mono _ _ _ _
   | exact LeO.none _
   | refine LeO.ite ?_ ?_
   | refine LeO.bind ?_ (fun _ => ?_)
/-! ### spec_l5All: function 59 -/
def spec_l5All.l0 : Nat → List (S25) → Int → Int → Int → List (S25) → Option (Int × (List (S25)) × Int)
 | 0, _, _, _, _, _ => none
 | k + 1, x1, x6, x7, x367000, x367001 => if x7 < (x1.length : Int) then (if 0 ≤ x7 then ((spec_l5Use.f k x367000 x367001 ((rd_T25 x1 x7).f0) ((rd_T25 x1 x7).f1)).bind fun bt369 => (if bt369.2.2 = true then (spec_l5All.l0 k x1 x6 (wrap64 (x7 + 1)) bt369.1 bt369.2.1) else (spec_l5All.l0 k x1 (wrap64 (x6 + 1)) (wrap64 (x7 + 1)) bt369.1 bt369.2.1))) else (none)) else ((some (([] : List (S25)) : List (S25))).bind fun y374 => (if y374.length + x367001.length < 8796093022208 then (some (x367000, (y374 ++ x367001), x6)) else (none)))
def spec_l5All.f (k : Nat) (a0_0 : Int) (l0_1 : List (S25)) (l1 : List (S25)) : Option (Int × (List (S25)) × Int) := spec_l5All.l0 k l1 0 0 a0_0 l0_1
theorem spec_l5All.mono_l : ∀ k, (∀ y0 y1 y2 y3 y4, LeO (spec_l5All.l0 k y0 y1 y2 y3 y4) (spec_l5All.l0 (k + 1) y0 y1 y2 y3 y4))
 | 0 => fun _ _ _ _ _ r h => by simp [spec_l5All.l0] at h
 | k + 1 => by
  have ih0 := spec_l5All.mono_l k
  ·intro y0 y1 y2 y3 y4
   unfold spec_l5All.l0
   repeat' first
   | (with_reducible exact ih0 _ _ _ _ _)
   | (with_reducible exact spec_l5Use.mono _ _ _ _ _)
   | (with_reducible exact LeO.refl _)
   | (with_reducible exact LeO.none _)
   | (with_reducible refine LeO.ite ?_ ?_)
   | (with_reducible refine LeO.bind ?_ (fun _ => ?_))
   | exact ih0 _ _ _ _ _
   | exact spec_l5Use.mono _ _ _ _ _
   | exact LeO.none _
   | refine LeO.ite ?_ ?_
   | refine LeO.bind ?_ (fun _ => ?_)
theorem spec_l5All.mono : ∀ a0 a1 a2 k, LeO (spec_l5All.f k a0 a1 a2) (spec_l5All.f (k + 1) a0 a1 a2) := by
 intro a0 a1 a2 k
 have ih0 := spec_l5All.mono_l k
 unfold spec_l5All.f
 repeat' first
   | (with_reducible exact ih0 _ _ _ _ _)
   | (with_reducible exact spec_l5Use.mono _ _ _ _ _)
   | (with_reducible exact LeO.refl _)
   | (with_reducible exact LeO.none _)
   | (with_reducible refine LeO.ite ?_ ?_)
   | (with_reducible refine LeO.bind ?_ (fun _ => ?_))
   | exact ih0 _ _ _ _ _
   | exact spec_l5Use.mono _ _ _ _ _
   | exact LeO.none _
   | refine LeO.ite ?_ ?_
   | refine LeO.bind ?_ (fun _ => ?_)
/-! ### spec_l5Page: function 64 -/
def spec_l5Page.f (k : Nat) (s0_0 : List Int) (s0_1 : Int) : Option (Int × Int × Int) := (spec_l9Rd_pick.f k s0_0 s0_1 3).bind fun bt381 => ((spec_l9Rd_pick.f k s0_0 bt381.2 4).bind fun bt383 => (some (bt381.1, bt383.1, bt383.2)))
theorem spec_l5Page.mono : ∀ a0 a1 k, LeO (spec_l5Page.f k a0 a1) (spec_l5Page.f (k + 1) a0 a1) := by
 intro a0 a1 k
 unfold spec_l5Page.f
 repeat' first
   | (with_reducible exact spec_l9Rd_pick.mono _ _ _ _)
   | (with_reducible exact LeO.refl _)
   | (with_reducible exact LeO.none _)
   | (with_reducible refine LeO.ite ?_ ?_)
   | (with_reducible refine LeO.bind ?_ (fun _ => ?_))
   | exact spec_l9Rd_pick.mono _ _ _ _
   | exact LeO.none _
   | refine LeO.ite ?_ ?_
   | refine LeO.bind ?_ (fun _ => ?_)
/-! ### spec_l5Pages: function 60 -/
mutual
def spec_l5Pages.l0 : Nat → List (S25) → Int → List Int → Int → Option ((List (S25)) × Int)
 | 0, _, _, _, _ => none
 | k + 1, x3, x4, x1000, x1001 => if x4 > 0 then ((spec_l5Page.f k x1000 x1001).bind fun bt390 => (if x3.length < 8796093022208 then (spec_l5Pages.l0 k (x3 ++ [(⟨bt390.1, bt390.2.1⟩ : S25)]) (wrap64 (x4 - 1)) x1000 bt390.2.2) else (none))) else (if (x3.length : Int) > 0 then ((spec_l9Rd_pick.f k x1000 x1001 20).bind fun bt396 => (spec_l5Pages.j1 k x3 (bt396.1 == 0) x1000 bt396.2)) else (spec_l5Pages.j1 k x3 false x1000 x1001))
def spec_l5Pages.j1 : Nat → List (S25) → Bool → List Int → Int → Option ((List (S25)) × Int)
 | 0, _, _, _, _ => none
 | k + 1, x3, x24, x1000, x1001 => if x24 = true then ((spec_l9Rd_num.f k x1000 x1001 (([8, (-1), 0] : List Int))).bind fun bt401 => ((spec_l9Rd_num.f k x1000 bt401.2 (([(-1), 1000, 999] : List Int))).bind fun bt406 => (if 0 < (x3.length : Int) then (some ((x3.set (0 : Int).toNat (⟨bt401.1, bt406.1⟩ : S25)), bt406.2)) else (none)))) else (some (x3, x1001))
end
def spec_l5Pages.f (k : Nat) (s0_0 : List Int) (s0_1 : Int) : Option ((List (S25)) × Int) := (spec_l9Rd_pick.f k s0_0 s0_1 24).bind fun bt388 => (spec_l5Pages.l0 k (([] : List (S25))) bt388.1 s0_0 bt388.2)
theorem spec_l5Pages.mono_l : ∀ k, (∀ y0 y1 y2 y3, LeO (spec_l5Pages.l0 k y0 y1 y2 y3) (spec_l5Pages.l0 (k + 1) y0 y1 y2 y3)) ∧ (∀ y0 y1 y2 y3, LeO (spec_l5Pages.j1 k y0 y1 y2 y3) (spec_l5Pages.j1 (k + 1) y0 y1 y2 y3))
 | 0 => ⟨fun _ _ _ _ r h => by simp [spec_l5Pages.l0] at h, fun _ _ _ _ r h => by simp [spec_l5Pages.j1] at h⟩
 | k + 1 => by
  obtain ⟨ih0, ih1⟩ := spec_l5Pages.mono_l k
  refine ⟨?_, ?_⟩
  ·intro y0 y1 y2 y3
   unfold spec_l5Pages.l0
   repeat' first
   | (with_reducible exact ih0 _ _ _ _)
   | (with_reducible exact ih1 _ _ _ _)
   | (with_reducible exact spec_l5Page.mono _ _ _)
   | (with_reducible exact spec_l9Rd_num.mono _ _ _ _)
   | (with_reducible exact spec_l9Rd_pick.mono _ _ _ _)
   | (with_reducible exact LeO.refl _)
   | (with_reducible exact LeO.none _)
   | (with_reducible refine LeO.ite ?_ ?_)
   | (with_reducible refine LeO.bind ?_ (fun _ => ?_))
   | exact ih0 _ _ _ _
   | exact ih1 _ _ _ _
   | exact spec_l5Page.mono _ _ _
   | exact spec_l9Rd_num.mono _ _ _ _
   | exact spec_l9Rd_pick.mono _ _ _ _
   | exact LeO.none _
   | refine LeO.ite ?_ ?_
   | refine LeO.bind ?_ (fun _ => ?_)
  ·intro y0 y1 y2 y3
   unfold spec_l5Pages.j1
   repeat' first
   | (with_reducible exact ih0 _ _ _ _)
   | (with_reducible exact ih1 _ _ _ _)
   | (with_reducible exact spec_l5Page.mono _ _ _)
   | (with_reducible exact spec_l9Rd_num.mono _ _ _ _)
   | (with_reducible exact spec_l9Rd_pick.mono _ _ _ _)
   | (with_reducible exact LeO.refl _)
   | (with_reducible exact LeO.none _)
   | (with_reducible refine LeO.ite ?_ ?_)
   | (with_reducible refine LeO.bind ?_ (fun _ => ?_))
   | exact ih0 _ _ _ _
   | exact ih1 _ _ _ _
   | exact spec_l5Page.mono _ _ _
   | exact spec_l9Rd_num.mono _ _ _ _
   | exact spec_l9Rd_pick.mono _ _ _ _
   | exact LeO.none _
   | refine LeO.ite ?_ ?_
   | refine LeO.bind ?_ (fun _ => ?_)
theorem spec_l5Pages.mono : ∀ a0 a1 k, LeO (spec_l5Pages.f k a0 a1) (spec_l5Pages.f (k + 1) a0 a1) := by
 intro a0 a1 k
 obtain ⟨ih0, ih1⟩ := spec_l5Pages.mono_l k
 unfold spec_l5Pages.f
 repeat' first
   | (with_reducible exact ih0 _ _ _ _)
   | (with_reducible exact ih1 _ _ _ _)
   | (with_reducible exact spec_l5Page.mono _ _ _)
   | (with_reducible exact spec_l9Rd_num.mono _ _ _ _)
   | (with_reducible exact spec_l9Rd_pick.mono _ _ _ _)
   | (with_reducible exact LeO.refl _)
   | (with_reducible exact LeO.none _)
   | (with_reducible refine LeO.ite ?_ ?_)
   | (with_reducible refine LeO.bind ?_ (fun _ => ?_))
   | exact ih0 _ _ _ _
   | exact ih1 _ _ _ _
   | exact spec_l5Page.mono _ _ _
   | exact spec_l9Rd_num.mono _ _ _ _
   | exact spec_l9Rd_pick.mono _ _ _ _
   | exact LeO.none _
   | refine LeO.ite ?_ ?_
   | refine LeO.bind ?_ (fun _ => ?_)
/-! ### spec_l5Pool: function 63 -/
def spec_l5Pool.f (k : Nat) (s0_0 : List Int) (s0_1 : Int) : Option (Int × (List (S25)) × Int) := (spec_l9Rd_num.f k s0_0 s0_1 (([2, 3, 4, 1, 0, 6, 12] : List Int))).bind fun bt413 => ((spec_l5Pages.f k s0_0 bt413.2).bind fun bt416 => ((spec_l5All.f k bt413.1 ([] : List (S25)) bt416.1).bind fun bt420 => ((spec_l9Rd_pick.f k s0_0 bt416.2 40).bind fun bt425 => (if bt425.1 = 0 then ((spec_l9Rd_num.f k s0_0 bt425.2 (([(-1), 13, wrap64 (bt420.1 - 1)] : List Int))).bind fun bt430 => (some (bt430.1, bt420.2.1, bt430.2))) else (if bt425.1 = 1 then (if bt420.2.1.length + bt420.2.1.length < 8796093022208 then (some (bt420.1, (bt420.2.1 ++ bt420.2.1), bt425.2)) else (none)) else (if bt425.1 = 2 then (if bt420.2.1.length < 8796093022208 then (some (bt420.1, (bt420.2.1 ++ [(⟨9, 0⟩ : S25)]), bt425.2)) else (none)) else (some (bt420.1, bt420.2.1, bt425.2))))))))
theorem spec_l5Pool.mono : ∀ a0 a1 k, LeO (spec_l5Pool.f k a0 a1) (spec_l5Pool.f (k + 1) a0 a1) := by
 intro a0 a1 k
 unfold spec_l5Pool.f
 repeat' first
   | (with_reducible exact spec_l5All.mono _ _ _ _)
   | (with_reducible exact spec_l5Pages.mono _ _ _)
   | (with_reducible exact spec_l9Rd_num.mono _ _ _ _)
   | (with_reducible exact spec_l9Rd_pick.mono _ _ _ _)
   | (with_reducible exact LeO.refl _)
   | (with_reducible exact LeO.none _)
   | (with_reducible refine LeO.ite ?_ ?_)
   | (with_reducible refine LeO.bind ?_ (fun _ => ?_))
   | exact spec_l5All.mono _ _ _ _
   | exact spec_l5Pages.mono _ _ _
   | exact spec_l9Rd_num.mono _ _ _ _
   | exact spec_l9Rd_pick.mono _ _ _ _
   | exact LeO.none _
   | refine LeO.ite ?_ ?_
   | refine LeO.bind ?_ (fun _ => ?_)
/-! ### spec_DrawPoolOk: function 40 -/
def spec_DrawPoolOk.f (k : Nat) (l0 : List Int) : Option (Int × (List (S25))) := (spec_l9Open.f l0).bind fun bt439 => ((spec_l5Pool.f k bt439.1 bt439.2).bind fun bt442 => (some (bt442.1, bt442.2.1)))
theorem spec_DrawPoolOk.mono : ∀ a0 k, LeO (spec_DrawPoolOk.f k a0) (spec_DrawPoolOk.f (k + 1) a0) := by
 intro a0 k
 unfold spec_DrawPoolOk.f
 repeat' first
   | (with_reducible exact spec_l5Pool.mono _ _ _)
   | (with_reducible exact LeO.refl _)
   | (with_reducible exact LeO.none _)
   | (with_reducible refine LeO.ite ?_ ?_)
   | (with_reducible refine LeO.bind ?_ (fun _ => ?_))
   | exact spec_l5Pool.mono _ _ _
   | exact LeO.none _
   | refine LeO.ite ?_ ?_
   | refine LeO.bind ?_ (fun _ => ?_)
/-! ### spec_DrawPoolUse: function 41 -/
def spec_DrawPoolUse.f (k : Nat) (l0 : List Int) : Option (Int × (List (S25)) × Int × Int) := (spec_l9Open.f l0).bind fun bt490 => ((spec_l5Pool.f k bt490.1 bt490.2).bind fun bt493 => ((spec_l9Rd_pick.f k bt490.1 bt493.2.2 20).bind fun bt499 => (if bt499.1 = 0 then (some (bt493.1, bt493.2.1, 8, 0)) else ((spec_l5Page.f k bt490.1 bt499.2).bind fun bt501 => (some (bt493.1, bt493.2.1, bt501.1, bt501.2.1))))))
theorem spec_DrawPoolUse.mono : ∀ a0 k, LeO (spec_DrawPoolUse.f k a0) (spec_DrawPoolUse.f (k + 1) a0) := by
 intro a0 k
 unfold spec_DrawPoolUse.f
 repeat' first
   | (with_reducible exact spec_l5Page.mono _ _ _)
   | (with_reducible exact spec_l5Pool.mono _ _ _)
   | (with_reducible exact spec_l9Rd_pick.mono _ _ _ _)
   | (with_reducible exact LeO.refl _)
   | (with_reducible exact LeO.none _)
   | (with_reducible refine LeO.ite ?_ ?_)
   | (with_reducible refine LeO.bind ?_ (fun _ => ?_))
   | exact spec_l5Page.mono _ _ _
   | exact spec_l5Pool.mono _ _ _
   | exact spec_l9Rd_pick.mono _ _ _ _
   | exact LeO.none _
   | refine LeO.ite ?_ ?_
   | refine LeO.bind ?_ (fun _ => ?_)
/-! ### spec_PoolUse: function 43 -/
def spec_PoolUse.f (k : Nat) (a0_0 : Int) (l0_1 : List (S25)) (a1_0 : Int) (a1_1 : Int) : Option (Int × (List (S25)) × Bool) := (spec_PoolOk.f k a0_0 l0_1).bind fun t507 => (if t507 = true then ((spec_PageOk.f a1_0 a1_1).bind fun t508 => (if t508 = true then ((spec_l5Use.f k a0_0 l0_1 a1_0 a1_1).bind fun bt509 => (some (bt509.1, bt509.2.1, bt509.2.2))) else (some (0, ([] : List (S25)), false)))) else (some (0, ([] : List (S25)), false)))
theorem spec_PoolUse.mono : ∀ a0 a1 a2 a3 k, LeO (spec_PoolUse.f k a0 a1 a2 a3) (spec_PoolUse.f (k + 1) a0 a1 a2 a3) := by
 intro a0 a1 a2 a3 k
 unfold spec_PoolUse.f
 repeat' first
   | (with_reducible exact spec_PoolOk.mono _ _ _)
   | (with_reducible exact spec_l5Use.mono _ _ _ _ _)
   | (with_reducible exact LeO.refl _)
   | (with_reducible exact LeO.none _)
   | (with_reducible refine LeO.ite ?_ ?_)
   | (with_reducible refine LeO.bind ?_ (fun _ => ?_))
   | exact spec_PoolOk.mono _ _ _
   | exact spec_l5Use.mono _ _ _ _ _
   | exact LeO.none _
   | refine LeO.ite ?_ ?_
   | refine LeO.bind ?_ (fun _ => ?_)
/-! ### spec_DrawPoolAll: function 44 -/
def spec_DrawPoolAll.f (k : Nat) (l0 : List Int) : Option (Int × (List (S25)) × (List (S25))) := (spec_l9Open.f l0).bind fun bt594 => ((spec_l5Pool.f k bt594.1 bt594.2).bind fun bt597 => ((spec_l5Pages.f k bt594.1 bt597.2.2).bind fun bt603 => (some (bt597.1, bt597.2.1, bt603.1))))
theorem spec_DrawPoolAll.mono : ∀ a0 k, LeO (spec_DrawPoolAll.f k a0) (spec_DrawPoolAll.f (k + 1) a0) := by
 intro a0 k
 unfold spec_DrawPoolAll.f
 repeat' first
   | (with_reducible exact spec_l5Pages.mono _ _ _)
   | (with_reducible exact spec_l5Pool.mono _ _ _)
   | (with_reducible exact LeO.refl _)
   | (with_reducible exact LeO.none _)
   | (with_reducible refine LeO.ite ?_ ?_)
   | (with_reducible refine LeO.bind ?_ (fun _ => ?_))
   | exact spec_l5Pages.mono _ _ _
   | exact spec_l5Pool.mono _ _ _
   | exact LeO.none _
   | refine LeO.ite ?_ ?_
   | refine LeO.bind ?_ (fun _ => ?_)
/-! ### spec_PoolAll: function 46 -/
def spec_PoolAll.l0 : Nat → List (S25) → Int → Int → List (S25) → Option (Int × (List (S25)) × Int)
 | 0, _, _, _, _ => none
 | k + 1, x1, x6, x608000, x608001 => if x6 < (x1.length : Int) then (if 0 ≤ x6 then ((spec_PageOk.f ((rd_T25 x1 x6).f0) ((rd_T25 x1 x6).f1)).bind fun t611 => (if t611 = true then (spec_PoolAll.l0 k x1 (wrap64 (x6 + 1)) x608000 x608001) else (some (0, ([] : List (S25)), 0)))) else (none)) else ((spec_l5All.f k x608000 x608001 x1).bind fun bt612 => (some (bt612.1, bt612.2.1, bt612.2.2)))
def spec_PoolAll.f (k : Nat) (a0_0 : Int) (l0_1 : List (S25)) (l1 : List (S25)) : Option (Int × (List (S25)) × Int) := (spec_PoolOk.f k a0_0 l0_1).bind fun t609 => (if t609 = true then (spec_PoolAll.l0 k l1 0 a0_0 l0_1) else (some (0, ([] : List (S25)), 0)))
theorem spec_PoolAll.mono_l : ∀ k, (∀ y0 y1 y2 y3, LeO (spec_PoolAll.l0 k y0 y1 y2 y3) (spec_PoolAll.l0 (k + 1) y0 y1 y2 y3))
 | 0 => fun _ _ _ _ r h => by simp [spec_PoolAll.l0] at h
 | k + 1 => by
  have ih0 := spec_PoolAll.mono_l k
  ·intro y0 y1 y2 y3
   unfold spec_PoolAll.l0
   repeat' first
   | (with_reducible exact ih0 _ _ _ _)
   | (with_reducible exact spec_PoolOk.mono _ _ _)
   | (with_reducible exact spec_l5All.mono _ _ _ _)
   | (with_reducible exact LeO.refl _)
   | (with_reducible exact LeO.none _)
   | (with_reducible refine LeO.ite ?_ ?_)
   | (with_reducible refine LeO.bind ?_ (fun _ => ?_))
   | exact ih0 _ _ _ _
   | exact spec_PoolOk.mono _ _ _
   | exact spec_l5All.mono _ _ _ _
   | exact LeO.none _
   | refine LeO.ite ?_ ?_
   | refine LeO.bind ?_ (fun _ => ?_)
theorem spec_PoolAll.mono : ∀ a0 a1 a2 k, LeO (spec_PoolAll.f k a0 a1 a2) (spec_PoolAll.f (k + 1) a0 a1 a2) := by
 intro a0 a1 a2 k
 have ih0 := spec_PoolAll.mono_l k
 unfold spec_PoolAll.f
 repeat' first
   | (with_reducible exact ih0 _ _ _ _)
   | (with_reducible exact spec_PoolOk.mono _ _ _)
   | (with_reducible exact spec_l5All.mono _ _ _ _)
   | (with_reducible exact LeO.refl _)
   | (with_reducible exact LeO.none _)
   | (with_reducible refine LeO.ite ?_ ?_)
   | (with_reducible refine LeO.bind ?_ (fun _ => ?_))
   | exact ih0 _ _ _ _
   | exact spec_PoolOk.mono _ _ _
   | exact spec_l5All.mono _ _ _ _
   | exact LeO.none _
   | refine LeO.ite ?_ ?_
   | refine LeO.bind ?_ (fun _ => ?_)
/-! ### laws_markPool: function 47 -/
def laws_markPool.f (k : Nat) (a0_0 : Int) (l0_1 : List (S25)) (a1 : Int) : Option (Int × (List (S25))) := (laws_markPageS.f k l0_1 a1).bind fun bt755 => (some (bt755.1, bt755.2))
theorem laws_markPool.mono : ∀ a0 a1 a2 k, LeO (laws_markPool.f k a0 a1 a2) (laws_markPool.f (k + 1) a0 a1 a2) := by
 intro a0 a1 a2 k
 unfold laws_markPool.f
 repeat' first
   | (with_reducible exact laws_markPageS.mono _ _ _)
   | (with_reducible exact LeO.refl _)
   | (with_reducible exact LeO.none _)
   | (with_reducible refine LeO.ite ?_ ?_)
   | (with_reducible refine LeO.bind ?_ (fun _ => ?_))
   | exact laws_markPageS.mono _ _ _
   | exact LeO.none _
   | refine LeO.ite ?_ ?_
   | refine LeO.bind ?_ (fun _ => ?_)
/-! ### laws_heldPool: function 48 -/
def laws_heldPool.f (k : Nat) (a0_0 : Int) (l0_1 : List (S25)) (a1 : Int) : Option (Int) := (laws_heldPageS.f k l0_1 a1).bind fun t758 => (if t758 < 0 then (some (-1)) else (some t758))
theorem laws_heldPool.mono : ∀ a0 a1 a2 k, LeO (laws_heldPool.f k a0 a1 a2) (laws_heldPool.f (k + 1) a0 a1 a2) := by
 intro a0 a1 a2 k
 unfold laws_heldPool.f
 repeat' first
   | (with_reducible exact laws_heldPageS.mono _ _ _)
   | (with_reducible exact LeO.refl _)
   | (with_reducible exact LeO.none _)
   | (with_reducible refine LeO.ite ?_ ?_)
   | (with_reducible refine LeO.bind ?_ (fun _ => ?_))
   | exact laws_heldPageS.mono _ _ _
   | exact LeO.none _
   | refine LeO.ite ?_ ?_
   | refine LeO.bind ?_ (fun _ => ?_)
end Go.Proofs.Ytcobbpghipeoeaa.R
