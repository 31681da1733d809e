/- slices.Delete at nodes, at edges; slices.DeleteFunc at edges: those that have a node go; slices.DeleteFunc at edges, the walk. -/
import Derived.Test.YtogmbeifbjgphaaGreatKB7
namespace Go.Proofs.YtogmbeifbjgphaaGreat.R
open Go.RowKit Go.Proofs.YtogmbeifbjgphaaGreatV.PrintWords Go.Proofs.YtogmbeifbjgphaaGreatV.PrintLast Go.Proofs.YtogmbeifbjgphaaGreatV.PrintMore Go.Proofs.YtogmbeifbjgphaaGreat.M
set_option linter.unusedVariables false
set_option linter.unusedSimpArgs false
attribute [local go_sem high] eqN eqE
theorem zoneN (m : Nat) : ∀ u ∈ (Builtin.zeroCells (Value.agg #[.int .i64 0, .int .i64 0]).cells m).toList, u.oneCell' = true := Kd.reps_one (R := fun (x : Unit) c => c = (Value.agg #[.int .i64 0, .int .i64 0]).cells.toList) (Kd.reps_zeros (z0 := ()) rfl (by decide) rfl m) (by decide) (fun _ _ hp => by subst hp; decide)
theorem zoneE (m : Nat) : ∀ u ∈ (Builtin.zeroCells (Value.agg #[.int .i64 0, .int .i64 0, .int .i64 0, .int .i64 0, .int .i64 0]).cells m).toList, u.oneCell' = true := Kd.reps_one (R := fun (x : Unit) c => c = (Value.agg #[.int .i64 0, .int .i64 0, .int .i64 0, .int .i64 0, .int .i64 0]).cells.toList) (Kd.reps_zeros (z0 := ()) rfl (by decide) rfl m) (by decide) (fun _ _ hp => by subst hp; decide)
theorem grown_of {w u : World} (h : Below w.heap.size w u) (r : Option Nat) : w.grownBy u r := ⟨h.os, h.tape, h.output, h.size, fun k hk _ => h.block k hk⟩
theorem grown_then {w u v : World} {r : Option Nat} (h : w.grownBy u r) (h' : u.grownBy v r) : w.grownBy v r :=
 ⟨h'.os.trans h.os, h'.tape.trans h.tape, h'.output.trans h.output, Nat.le_trans h.size h'.size, fun k hk hr => (h'.block k (Nat.lt_of_lt_of_le hk h.size) hr).trans (h.block k hk hr)⟩
abbrev sDelN : List (Nat × Bool) := [(0, true), (1, true), (2, true), (3, true), (4, true), (5, true), (6, false), (7, true)]
theorem sDelN_ok : schedB .any (opsOf Tryz.f90 5) sDelN (Array.replicate (opsOf Tryz.f90 5).size false) = true := by kernel_rfl
set_option maxHeartbeats 3200000 in
set_option maxRecDepth 100000 in
theorem delN_calls (base g n c k : Nat) (l : List Nd) (w : World) (hr : kN.R 28 w base (fun _ => True) (.slice (some ⟨g, 0, none⟩) n c) l) (hk : k < n) (hl : n ≤ 1000000) :
 Calls Tryz.prog 90 #[.slice (some ⟨g, 0, none⟩) n c, .int .i64 (k : Int), .int .i64 ((k : Int) + 1)] w fun e w' => e = .returned (.slice (some ⟨g, 0, none⟩) (n - 1) c) ∧ kN.R 28 w' base (fun _ => True) (.slice (some ⟨g, 0, none⟩) (n - 1) c) (l.eraseIdx k) ∧ w.grownBy w' (some g) := by
 have hnc : n ≤ c := by
  obtain ⟨_, _, _, _, _, _, _, h, _⟩ := flat_open flatN.1 hr
  exact h
 have hbase : base ≤ w.heap.size := by
  obtain ⟨_, _, _, _, _, hb, hh, _⟩ := flat_open flatN.1 hr
  have := blk_lt hh
  omega
 have HR := Aside0.mk hr
 have HBB := Aside0.mk hbase
 have HU := Aside0.mk (Below.refl w.heap.size w)
 clear hr hbase
 have p1 : ((k : Int) == (k : Int) + 1) = false := beq_eq_false_iff_ne.2 (by omega)
 have p2 : (0 : Int) ≤ (k : Int) + 1 := by omega
 have p3 : (k : Int) + 1 ≤ (n : Int) := by omega
 have p4 : k + 1 ≤ n := hk
 have p5 : k ≤ n := by omega
 have p6 : k ≤ c := by omega
 have p7 : n - 1 ≤ n := by omega
 have p8 : ((n - 1 : Nat) : Int) ≤ (n : Int) := by omega
 have p9 : ¬ c = n - 1 := by omega
 have pa : n - (n - 1) = 1 := by omega
 by_cases hck : c = k + 1
 ·have HA := Aside0.mk (show some (⟨g, 0, none⟩ : Addr) = (if c = k + 1 then some (⟨g, 0, none⟩ : Addr) else (some (⟨g, 0, none⟩ : Addr)).map (·.add ((k + 1) * kN.sz))) from (if_pos hck).symm)
  have q : (c = k + 1) = True := eq_true hck
  clear hck
  go_enter Tryz.func90, Tryz.ntmps90
  go_wp2_with (fail)
  have HK_ := Aside0.mk (show Reg (fun _ => True) from ⟨fun _ _ _ _ => trivial⟩)
  refine region_by2 (fun _ => True) sDelN (by kernel_rfl) sDelN_ok rfl (fun d _ _ _ _ h => by cases d <;> exact h) HK_.out trivial ?_
  intro u hS hbu_
  have HRx_ := Aside0.mk (Kd.R_below HR.out hbu_)
  clear HR
  have HR := Aside0.mk HRx_.out
  clear HRx_
  have HUx_ := Aside0.mk (below_step HU.out hbu_)
  clear HU
  have HU := Aside0.mk HUx_.out
  clear HUx_
  clear hbu_
  repeat (first | (refine h_off gt_ (by rfl) ?_; intro a_ ha_; (simp only [Act.put, pu1, pu2, pu3] at ha_); subst ha_) | (refine h_on (v := ?_) gt_ (by rfl) ?_ ?_; rotate_left; (· rintro w_ -; go_simp; with_reducible rfl); intro a_ ha_; (simp only [Act.put, pu1, pu2, pu3] at ha_); subst ha_) | (refine h_offc hS gt_ (by rfl) ?_; intro a_ ha_; (simp only [Act.put, pu1, pu2, pu3] at ha_); subst ha_))
  refine ⟨_, gt_, fun K_ hK_ => ?_⟩
  refine Kd.R_delete_step kN base (by rfl) _ _ 23 28 rfl Tryz.underlying23 (by kernel_rfl) rfl rfl HA.out rfl HR.out hk (Below.refl base _) (Nat.le_trans HBB.out HU.out.size) fun w1 hr1 hb1 hg1 => hK_ _ _ trivial fun _ => ?_
  have HR1 := Aside0.mk hr1
  have HG1 := Aside0.mk (grown_then (grown_of HU.out _) hg1)
  clear hr1 hg1 hb1 HU
  simp only [Act.put, pu1, pu2, pu3]
  refine h_on (v := ?_) gt_ (by rfl) ?_ ?_
  rotate_left
  ·rintro w_ -
   go_simp
   with_reducible rfl
  intro a_ ha_
  simp only [Act.put, pu1, pu2, pu3] at ha_
  subst ha_
  refine h_end ?_
  clear HK_ hS
  go_wp2_with (first | ((with_reducible refine gate_builtin (b := .clear) rfl ?_); go_must (refine clear_tail flatN rfl _ 23 rfl Tryz.underlying23 (.agg #[(.int .i64 0), (.int .i64 0)]) 16 infoN rfl zoneN (off := (n - 1) * 2) (m := 1) rfl rfl HR1.out (by omega) (by omega) ?_); intro w2 hr2 hg2; have HR2 := Aside0.mk hr2; have HG2 := Aside0.mk (grown_then HG1.out hg2); clear hr2 hg2))
  go_ret
  exact ⟨rfl, HR2.out, HG2.out⟩
 ·have HA := Aside0.mk (show some (⟨g, (k + 1) * 2, none⟩ : Addr) = (if c = k + 1 then some (⟨g, 0, none⟩ : Addr) else (some (⟨g, 0, none⟩ : Addr)).map (·.add ((k + 1) * kN.sz))) from by rw [if_neg hck]; exact congrArg some (add_plain g ((k + 1) * 2)).symm)
  have q := hck
  clear hck
  go_enter Tryz.func90, Tryz.ntmps90
  go_wp2_with (fail)
  have HK_ := Aside0.mk (show Reg (fun _ => True) from ⟨fun _ _ _ _ => trivial⟩)
  refine region_by2 (fun _ => True) sDelN (by kernel_rfl) sDelN_ok rfl (fun d _ _ _ _ h => by cases d <;> exact h) HK_.out trivial ?_
  intro u hS hbu_
  have HRx_ := Aside0.mk (Kd.R_below HR.out hbu_)
  clear HR
  have HR := Aside0.mk HRx_.out
  clear HRx_
  have HUx_ := Aside0.mk (below_step HU.out hbu_)
  clear HU
  have HU := Aside0.mk HUx_.out
  clear HUx_
  clear hbu_
  repeat (first | (refine h_off gt_ (by rfl) ?_; intro a_ ha_; (simp only [Act.put, pu1, pu2, pu3] at ha_); subst ha_) | (refine h_on (v := ?_) gt_ (by rfl) ?_ ?_; rotate_left; (· rintro w_ -; go_simp; with_reducible rfl); intro a_ ha_; (simp only [Act.put, pu1, pu2, pu3] at ha_); subst ha_) | (refine h_offc hS gt_ (by rfl) ?_; intro a_ ha_; (simp only [Act.put, pu1, pu2, pu3] at ha_); subst ha_))
  refine ⟨_, gt_, fun K_ hK_ => ?_⟩
  refine Kd.R_delete_step kN base (by rfl) _ _ 23 28 rfl Tryz.underlying23 (by kernel_rfl) rfl rfl HA.out rfl HR.out hk (Below.refl base _) (Nat.le_trans HBB.out HU.out.size) fun w1 hr1 hb1 hg1 => hK_ _ _ trivial fun _ => ?_
  have HR1 := Aside0.mk hr1
  have HG1 := Aside0.mk (grown_then (grown_of HU.out _) hg1)
  clear hr1 hg1 hb1 HU
  simp only [Act.put, pu1, pu2, pu3]
  refine h_on (v := ?_) gt_ (by rfl) ?_ ?_
  rotate_left
  ·rintro w_ -
   go_simp
   with_reducible rfl
  intro a_ ha_
  simp only [Act.put, pu1, pu2, pu3] at ha_
  subst ha_
  refine h_end ?_
  clear HK_ hS
  go_wp2_with (first | ((with_reducible refine gate_builtin (b := .clear) rfl ?_); go_must (refine clear_tail flatN rfl _ 23 rfl Tryz.underlying23 (.agg #[(.int .i64 0), (.int .i64 0)]) 16 infoN rfl zoneN (off := (n - 1) * 2) (m := 1) rfl rfl HR1.out (by omega) (by omega) ?_); intro w2 hr2 hg2; have HR2 := Aside0.mk hr2; have HG2 := Aside0.mk (grown_then HG1.out hg2); clear hr2 hg2))
  go_ret
  exact ⟨rfl, HR2.out, HG2.out⟩
abbrev sDelE : List (Nat × Bool) := [(0, true), (1, true), (2, true), (3, true), (4, true), (5, true), (6, false), (7, true)]
theorem sDelE_ok : schedB .any (opsOf Tryz.f97 5) sDelE (Array.replicate (opsOf Tryz.f97 5).size false) = true := by kernel_rfl
set_option maxHeartbeats 3200000 in
set_option maxRecDepth 100000 in
theorem delE_calls (base g n c k : Nat) (l : List Eg) (w : World) (hr : kE.R 30 w base (fun _ => True) (.slice (some ⟨g, 0, none⟩) n c) l) (hk : k < n) (hl : n ≤ 1000000) :
 Calls Tryz.prog 97 #[.slice (some ⟨g, 0, none⟩) n c, .int .i64 (k : Int), .int .i64 ((k : Int) + 1)] w fun e w' => e = .returned (.slice (some ⟨g, 0, none⟩) (n - 1) c) ∧ kE.R 30 w' base (fun _ => True) (.slice (some ⟨g, 0, none⟩) (n - 1) c) (l.eraseIdx k) ∧ w.grownBy w' (some g) := by
 have hnc : n ≤ c := by
  obtain ⟨_, _, _, _, _, _, _, h, _⟩ := flat_open flatE.1 hr
  exact h
 have hbase : base ≤ w.heap.size := by
  obtain ⟨_, _, _, _, _, hb, hh, _⟩ := flat_open flatE.1 hr
  have := blk_lt hh
  omega
 have HR := Aside0.mk hr
 have HBB := Aside0.mk hbase
 have HU := Aside0.mk (Below.refl w.heap.size w)
 clear hr hbase
 have p1 : ((k : Int) == (k : Int) + 1) = false := beq_eq_false_iff_ne.2 (by omega)
 have p2 : (0 : Int) ≤ (k : Int) + 1 := by omega
 have p3 : (k : Int) + 1 ≤ (n : Int) := by omega
 have p4 : k + 1 ≤ n := hk
 have p5 : k ≤ n := by omega
 have p6 : k ≤ c := by omega
 have p7 : n - 1 ≤ n := by omega
 have p8 : ((n - 1 : Nat) : Int) ≤ (n : Int) := by omega
 have p9 : ¬ c = n - 1 := by omega
 have pa : n - (n - 1) = 1 := by omega
 by_cases hck : c = k + 1
 ·have HA := Aside0.mk (show some (⟨g, 0, none⟩ : Addr) = (if c = k + 1 then some (⟨g, 0, none⟩ : Addr) else (some (⟨g, 0, none⟩ : Addr)).map (·.add ((k + 1) * kE.sz))) from (if_pos hck).symm)
  have q : (c = k + 1) = True := eq_true hck
  clear hck
  go_enter Tryz.func97, Tryz.ntmps97
  go_wp2_with (fail)
  have HK_ := Aside0.mk (show Reg (fun _ => True) from ⟨fun _ _ _ _ => trivial⟩)
  refine region_by2 (fun _ => True) sDelE (by kernel_rfl) sDelE_ok rfl (fun d _ _ _ _ h => by cases d <;> exact h) HK_.out trivial ?_
  intro u hS hbu_
  have HRx_ := Aside0.mk (Kd.R_below HR.out hbu_)
  clear HR
  have HR := Aside0.mk HRx_.out
  clear HRx_
  have HUx_ := Aside0.mk (below_step HU.out hbu_)
  clear HU
  have HU := Aside0.mk HUx_.out
  clear HUx_
  clear hbu_
  repeat (first | (refine h_off gt_ (by rfl) ?_; intro a_ ha_; (simp only [Act.put, pu1, pu2, pu3] at ha_); subst ha_) | (refine h_on (v := ?_) gt_ (by rfl) ?_ ?_; rotate_left; (· rintro w_ -; go_simp; with_reducible rfl); intro a_ ha_; (simp only [Act.put, pu1, pu2, pu3] at ha_); subst ha_) | (refine h_offc hS gt_ (by rfl) ?_; intro a_ ha_; (simp only [Act.put, pu1, pu2, pu3] at ha_); subst ha_))
  refine ⟨_, gt_, fun K_ hK_ => ?_⟩
  refine Kd.R_delete_step kE base (by rfl) _ _ 24 30 rfl Tryz.underlying24 (by kernel_rfl) rfl rfl HA.out rfl HR.out hk (Below.refl base _) (Nat.le_trans HBB.out HU.out.size) fun w1 hr1 hb1 hg1 => hK_ _ _ trivial fun _ => ?_
  have HR1 := Aside0.mk hr1
  have HG1 := Aside0.mk (grown_then (grown_of HU.out _) hg1)
  clear hr1 hg1 hb1 HU
  simp only [Act.put, pu1, pu2, pu3]
  refine h_on (v := ?_) gt_ (by rfl) ?_ ?_
  rotate_left
  ·rintro w_ -
   go_simp
   with_reducible rfl
  intro a_ ha_
  simp only [Act.put, pu1, pu2, pu3] at ha_
  subst ha_
  refine h_end ?_
  clear HK_ hS
  go_wp2_with (first | ((with_reducible refine gate_builtin (b := .clear) rfl ?_); go_must (refine clear_tail flatE rfl _ 24 rfl Tryz.underlying24 (.agg #[(.int .i64 0), (.int .i64 0), (.int .i64 0), (.int .i64 0), (.int .i64 0)]) 40 infoE rfl zoneE (off := (n - 1) * 5) (m := 1) rfl rfl HR1.out (by omega) (by omega) ?_); intro w2 hr2 hg2; have HR2 := Aside0.mk hr2; have HG2 := Aside0.mk (grown_then HG1.out hg2); clear hr2 hg2))
  go_ret
  exact ⟨rfl, HR2.out, HG2.out⟩
 ·have HA := Aside0.mk (show some (⟨g, (k + 1) * 5, none⟩ : Addr) = (if c = k + 1 then some (⟨g, 0, none⟩ : Addr) else (some (⟨g, 0, none⟩ : Addr)).map (·.add ((k + 1) * kE.sz))) from by rw [if_neg hck]; exact congrArg some (add_plain g ((k + 1) * 5)).symm)
  have q := hck
  clear hck
  go_enter Tryz.func97, Tryz.ntmps97
  go_wp2_with (fail)
  have HK_ := Aside0.mk (show Reg (fun _ => True) from ⟨fun _ _ _ _ => trivial⟩)
  refine region_by2 (fun _ => True) sDelE (by kernel_rfl) sDelE_ok rfl (fun d _ _ _ _ h => by cases d <;> exact h) HK_.out trivial ?_
  intro u hS hbu_
  have HRx_ := Aside0.mk (Kd.R_below HR.out hbu_)
  clear HR
  have HR := Aside0.mk HRx_.out
  clear HRx_
  have HUx_ := Aside0.mk (below_step HU.out hbu_)
  clear HU
  have HU := Aside0.mk HUx_.out
  clear HUx_
  clear hbu_
  repeat (first | (refine h_off gt_ (by rfl) ?_; intro a_ ha_; (simp only [Act.put, pu1, pu2, pu3] at ha_); subst ha_) | (refine h_on (v := ?_) gt_ (by rfl) ?_ ?_; rotate_left; (· rintro w_ -; go_simp; with_reducible rfl); intro a_ ha_; (simp only [Act.put, pu1, pu2, pu3] at ha_); subst ha_) | (refine h_offc hS gt_ (by rfl) ?_; intro a_ ha_; (simp only [Act.put, pu1, pu2, pu3] at ha_); subst ha_))
  refine ⟨_, gt_, fun K_ hK_ => ?_⟩
  refine Kd.R_delete_step kE base (by rfl) _ _ 24 30 rfl Tryz.underlying24 (by kernel_rfl) rfl rfl HA.out rfl HR.out hk (Below.refl base _) (Nat.le_trans HBB.out HU.out.size) fun w1 hr1 hb1 hg1 => hK_ _ _ trivial fun _ => ?_
  have HR1 := Aside0.mk hr1
  have HG1 := Aside0.mk (grown_then (grown_of HU.out _) hg1)
  clear hr1 hg1 hb1 HU
  simp only [Act.put, pu1, pu2, pu3]
  refine h_on (v := ?_) gt_ (by rfl) ?_ ?_
  rotate_left
  ·rintro w_ -
   go_simp
   with_reducible rfl
  intro a_ ha_
  simp only [Act.put, pu1, pu2, pu3] at ha_
  subst ha_
  refine h_end ?_
  clear HK_ hS
  go_wp2_with (first | ((with_reducible refine gate_builtin (b := .clear) rfl ?_); go_must (refine clear_tail flatE rfl _ 24 rfl Tryz.underlying24 (.agg #[(.int .i64 0), (.int .i64 0), (.int .i64 0), (.int .i64 0), (.int .i64 0)]) 40 infoE rfl zoneE (off := (n - 1) * 5) (m := 1) rfl rfl HR1.out (by omega) (by omega) ?_); intro w2 hr2 hg2; have HR2 := Aside0.mk hr2; have HG2 := Aside0.mk (grown_then HG1.out hg2); clear hr2 hg2))
  go_ret
  exact ⟨rfl, HR2.out, HG2.out⟩
end Go.Proofs.YtogmbeifbjgphaaGreat.R
namespace Go.Proofs.YtogmbeifbjgphaaGreat.R
open Go.RowKit Go.Proofs.YtogmbeifbjgphaaGreatV.PrintWords Go.Proofs.YtogmbeifbjgphaaGreatV.PrintLast Go.Proofs.YtogmbeifbjgphaaGreatV.PrintMore Go.Proofs.YtogmbeifbjgphaaGreat.M
set_option linter.unusedVariables false
set_option linter.unusedSimpArgs false
attribute [local go_sem high] eqN eqE
/-- Is the node an end of the edge? -/
def endB (n : Nd) (x : Eg) : Bool := decide (x.a = n) || decide (x.b = n)
set_option maxHeartbeats 800000 in
theorem ends_calls (x : Eg) (n : Nd) (h : Nat) (w : World) (h0 : w.cell? ⟨h, 0, none⟩ = some (.int .i64 n.lab)) (h1 : w.cell? ⟨h, 1, none⟩ = some (.int .i64 n.num)) :
 Calls Tryz.prog 92 #[.agg #[.int .i64 x.lab, .int .i64 x.a.lab, .int .i64 x.a.num, .int .i64 x.b.lab, .int .i64 x.b.num], .pointer (some ⟨h, 0, none⟩)] w fun e w' => e = .returned (.bool (endB n x)) ∧ Below w.heap.size w w' := by
 have c0 : (w.alloc (.cells #[.int .i64 x.lab, .int .i64 x.a.lab, .int .i64 x.a.num, .int .i64 x.b.lab, .int .i64 x.b.num] 30)).cell? ⟨h, 0, none⟩ = some (.int .i64 n.lab) := pw_cell_below (below_alloc (Below.refl _ _) _) h0
 have c1 : (w.alloc (.cells #[.int .i64 x.lab, .int .i64 x.a.lab, .int .i64 x.a.num, .int .i64 x.b.lab, .int .i64 x.b.num] 30)).cell? ⟨h, 1, none⟩ = some (.int .i64 n.num) := pw_cell_below (below_alloc (Below.refl _ _) _) h1
 clear h0 h1
 by_cases ha : x.a = n
 ·have hz : (x.a.lab == n.lab && (x.a.num == n.num)) = true := (nd_eq x.a n).trans (decide_eq_true ha)
  have HG := Aside0.mk (show endB n x = true by simp [endB, ha])
  clear ha
  go_enter Tryz.func92, Tryz.ntmps92
  go_wp2
  go_ret
  exact ⟨retB HG.out.symm, below_alloc (Below.refl _ _) _⟩
 ·have hz : (x.a.lab == n.lab && (x.a.num == n.num)) = false := (nd_eq x.a n).trans (decide_eq_false ha)
  have HG := Aside0.mk (show endB n x = (x.b.lab == n.lab && (x.b.num == n.num)) by rw [nd_eq]; simp [endB, ha])
  clear ha
  go_enter Tryz.func92, Tryz.ntmps92
  go_wp2
  go_ret
  exact ⟨retB HG.out.symm, below_alloc (Below.refl _ _) _⟩
set_option maxHeartbeats 3200000 in
set_option maxRecDepth 100000 in
theorem index_calls (A : Option Addr) (c : Nat) (l : List Eg) (n : Nd) (h : Nat) (w : World) (hr : kE.C w A l.length l) (hl : l.length ≤ 1000000) (h0 : w.cell? ⟨h, 0, none⟩ = some (.int .i64 n.lab)) (h1 : w.cell? ⟨h, 1, none⟩ = some (.int .i64 n.num)) :
 Calls Tryz.prog 125 #[.slice A l.length c, .func (.func 92) #[] #[.pointer (some ⟨h, 0, none⟩)]] w fun e w' => ((∃ j : Nat, j < l.length ∧ endB n (eat l j) = true ∧ (∀ t, t < j → endB n (eat l t) = false) ∧ e = .returned (.int .i64 (j : Int))) ∨ (∀ t, t < l.length → endB n (eat l t) = false) ∧ e = .returned (.int .i64 (-1))) ∧ Below w.heap.size w w' := by
 have HR := Aside0.mk hr
 have HL := Aside0.mk hl
 have HC0 := Aside0.mk h0
 have HC1 := Aside0.mk h1
 clear hr h0 h1
 go_enter Tryz.func125, Tryz.ntmps125
 go_wp2_with (fail)
 go_loopw [8, 5] (fun s8 _ wr => ∃ j : Nat, j ≤ l.length ∧ s8 = .int .i64 (j : Int) ∧ Aside0 (∀ t, t < j → endB n (eat l t) = false) ∧ Aside0 (Below w.heap.size w wr)) (fun s8 _ _ => (l.length - intOf s8).toNat)
 case atStart => exact ⟨0, Nat.zero_le _, rfl, ⟨fun t ht => absurd ht (Nat.not_lt_zero _)⟩, ⟨Below.refl _ _⟩⟩
 case round =>
  obtain ⟨j, hj, rfl, H1, HB⟩ := hrel
  by_cases hlt : j < l.length
  ·obtain ⟨ad, e1, r0, r1, r2, r3, r4⟩ := eg_at (Kd.C_below HR.out HB.out) j hlt
   cases e1
   generalize hx : eat l j = x at r0 r1 r2 r3 r4
   have HX := Aside0.mk hx
   clear hx
   cases hb : endB n x with
   | true =>
     have HE := Aside0.mk hb
     clear hb
     go_wp2_with (first | (go_at_call 92; (refine (ends_calls x n h _ (pw_cell_below HB.out HC0.out) (pw_cell_below HB.out HC1.out)).mono ?_); rintro e w1 ⟨rfl, hb⟩; rw [HE.out]; have HB2 := Aside0.mk (below_step HB.out hb); clear hb))
     go_ret
     exact ⟨.inl ⟨j, hlt, by rw [HX.out]; exact HE.out, H1.out, rfl⟩, HB2.out⟩
   | false =>
     have HE := Aside0.mk hb
     clear hb
     go_wp2_with (first | (go_at_call 92; (refine (ends_calls x n h _ (pw_cell_below HB.out HC0.out) (pw_cell_below HB.out HC1.out)).mono ?_); rintro e w1 ⟨rfl, hb⟩; rw [HE.out]; have HB2 := Aside0.mk (below_step HB.out hb); clear hb))
     go_roundw
     case rel => exact ⟨j + 1, by omega, by go_num, ⟨fun t ht => by
      rcases Nat.lt_succ_iff_lt_or_eq.1 ht with h | rfl
      ·exact H1.out t h
      ·rw [HX.out]; exact HE.out⟩, HB2⟩
     case measure => simp [intOf]; omega
  ·go_wp2_with (fail)
   go_ret
   exact ⟨.inr ⟨fun t ht => H1.out t (by omega), rfl⟩, HB.out⟩
end Go.Proofs.YtogmbeifbjgphaaGreat.R
namespace Go.Proofs.YtogmbeifbjgphaaGreat.R
open Go.RowKit Go.Proofs.YtogmbeifbjgphaaGreatV.PrintWords Go.Proofs.YtogmbeifbjgphaaGreatV.PrintLast Go.Proofs.YtogmbeifbjgphaaGreatV.PrintMore Go.Proofs.YtogmbeifbjgphaaGreat.M
set_option linter.unusedVariables false
set_option linter.unusedSimpArgs false
attribute [local go_sem high] eqN eqE
section
variable {P : Program} {ops : Array Oper} {rest : List Oper} {o : Oper} {a : Act} {Q : Exit → Act → World → Prop}
/-- An edge is stored into a row of edges. -/
theorem store_eg {W : World} {base g n cap : Nat} {e : TypeId} {xs : List Eg} (i : Nat) (x : Eg) (hN : o.dst = none) (hgd : o.guard = none) (t : TypeId) (p y : Operand) (ho : o.op = .store t p y) (haddr : a.eval p = .pointer (some ⟨g, i * 5, none⟩)) (hx : a.eval y = .agg #[.int .i64 x.lab, .int .i64 x.a.lab, .int .i64 x.a.num, .int .i64 x.b.lab, .int .i64 x.b.num]) (ht : (P.info? t).map (·.size) = some 5)
 (HO : kE.R e W base (fun _ => True) (.slice (some ⟨g, 0, none⟩) n cap) xs) (hi : i < n) (h : ∀ w1, kE.R e w1 base (fun _ => True) (.slice (some ⟨g, 0, none⟩) n cap) (xs.set i x) → W.grownBy w1 (some g) → wpList P ops Q rest a w1) : wpList P ops Q (o :: rest) a W := by
 obtain ⟨hn, hnc, hC⟩ := Kd.R_reads' HO
 obtain ⟨ad, e1, r0, r1, r2, r3, r4⟩ := eg_at hC i (by omega)
 cases e1
 rw [add_plain] at r0 r1 r2 r3 r4
 have HO2 := R_okE HO (ok' := fun k => True) (fun k _ => trivial)
 refine Kd.R_store kE (w0 := W) base hN hgd t p y ho e (i : Int) 0 xs x (.agg #[.int .i64 x.lab, .int .i64 x.a.lab, .int .i64 x.a.num, .int .i64 x.b.lab, .int .i64 x.b.num]) (cE x) (cE (eat xs i)) (fun _ => True) (fun k => k ≠ g) haddr (by simp [kE, Kd.iso, Kd.pair, kN]; try rfl) hx rfl ht (by simp [Value.oneCell']) HO2 (by omega) (by omega) rfl ?_ (Nat.le_refl 5) (kE_mkM _ _ _ x) (fun k hk => ⟨trivial, hk⟩) (Below.refl _ _) fun w1 h1 h2 h3 => h w1 (by simpa using h1) h3
 intro j u hj
 show W.cell? ⟨g, (i : Int).toNat * 5 + j, none⟩ = some u
 rw [Int.toNat_natCast]
 match j, hj with
 | 0, hj => injection hj with hj; subst hj; exact r0
 | 1, hj => injection hj with hj; subst hj; exact r1
 | 2, hj => injection hj with hj; subst hj; exact r2
 | 3, hj => injection hj with hj; subst hj; exact r3
 | 4, hj => injection hj with hj; subst hj; exact r4
end
theorem take_set {β : Type} {l : List β} {i : Nat} {x : β} (h : i < l.length) : (l.set i x).take (i + 1) = l.take i ++ [x] := by
 rw [List.take_add_one, List.take_set_of_le (Nat.le_refl _)]
 simp [h]
theorem drop_cons {l : List Eg} {j : Nat} (h : j < l.length) : l.drop j = eat l j :: l.drop (j + 1) := by
 rw [List.drop_eq_getElem_cons h, eat_lt h]
theorem take_snoc {l : List Eg} {j : Nat} (h : j < l.length) : l.take (j + 1) = l.take j ++ [eat l j] := by
 rw [List.take_add_one, List.getElem?_eq_getElem h, eat_lt h]
 rfl
theorem eat_drop {l m : List Eg} {j : Nat} (h : l.drop j = m.drop j) (hj : j < m.length) : eat l j = eat m j := by
 unfold eat
 rw [List.getD_eq_getElem?_getD, List.getD_eq_getElem?_getD, show l[j]? = (l.drop j)[0]? by rw [List.getElem?_drop]; rfl, show m[j]? = (m.drop j)[0]? by rw [List.getElem?_drop]; rfl, h]
theorem cell_grown {w wr : World} {row : Option Nat} {b i : Nat} {v : Value} (h : w.cell? ⟨b, i, none⟩ = some v) (hg : w.grownBy wr row) (hne : some b ≠ row) : wr.cell? ⟨b, i, none⟩ = some v :=
 (World.cell?_of_block (a := ⟨b, i, none⟩) (hg.block b (World.block_lt_of_cell? w _ h) hne)).trans h
theorem filter_none {l : List Eg} {n : Nd} (h : ∀ t, t < l.length → endB n (eat l t) = false) : l.filter (fun x => !endB n x) = l := by
 rw [List.filter_eq_self]
 intro x hx
 obtain ⟨j, hj, rfl⟩ := List.getElem_of_mem hx
 have := h j hj
 rw [eat_lt hj] at this
 rw [this]
 rfl
theorem filter_first {l : List Eg} {n : Nd} {j : Nat} (hj : j < l.length) (h : ∀ t, t < j → endB n (eat l t) = false) (ht : endB n (eat l j) = true) : (l.take (j + 1)).filter (fun x => !endB n x) = l.take j := by
 rw [take_snoc hj, List.filter_append, filter_none]
 ·simp [ht]
 ·intro t h2
  rw [List.length_take] at h2
  have h3 := h t (by omega)
  unfold eat at *
  rw [List.getD_eq_getElem?_getD] at *
  rw [List.getElem?_take, if_pos (by omega)]
  exact h3
theorem own_addr {e : TypeId} {w : World} {base n c : Nat} {ok : Nat → Prop} {A : Option Addr} {xs : List Eg} (h : kE.R e w base ok (.slice A n c) xs) (hn : 0 < n) : ∃ g, A = some ⟨g, 0, none⟩ := by
 obtain ⟨h0, cs, hown, hr⟩ := h
 rcases hown.2 with ⟨hv, _⟩ | ⟨g', cap, cur, hv, -⟩
 ·injection hv with _ hn' _
  omega
 ·injection hv with ha _ _
  exact ⟨g', ha⟩
theorem row_take {e : TypeId} {w : World} {base g n c m : Nat} {xs : List Eg} (h : kE.R e w base (fun _ => True) (.slice (some ⟨g, 0, none⟩) n c) xs) (hm : m ≤ n) : kE.R e w base (fun _ => True) (.slice (some ⟨g, 0, none⟩) m c) (xs.take m) := by
 obtain ⟨cs, cur, hn, hr, hcl, hb, hh, hnc, hcm, hcs, htk⟩ := flat_open flatE.1 h
 refine flat_close flatE (Kd.reps_take hr (by omega)) (by rw [List.length_take]; omega) hb hh (by omega) hcm hcs ?_
 rw [← htk, List.take_take]
 congr 1
 exact (Nat.min_eq_left (Nat.mul_le_mul_right _ hm)).symm
set_option maxHeartbeats 3200000 in
set_option maxRecDepth 100000 in
theorem delF_calls (base : Nat) (A : Option Addr) (c : Nat) (l : List Eg) (n : Nd) (h : Nat) (w : World) (hr : kE.R 30 w base (fun _ => True) (.slice A l.length c) l) (hl : l.length ≤ 1000000) (h0 : w.cell? ⟨h, 0, none⟩ = some (.int .i64 n.lab)) (h1 : w.cell? ⟨h, 1, none⟩ = some (.int .i64 n.num)) (hne : ∀ k, (Value.slice A l.length c).ownBlock = some k → k ≠ h) :
 Calls Tryz.prog 91 #[.slice A l.length c, .func (.func 92) #[] #[.pointer (some ⟨h, 0, none⟩)]] w fun e w' => ∃ m, e = .returned (.slice A m c) ∧ m = (l.filter (fun x => !endB n x)).length ∧ kE.R 30 w' base (fun _ => True) (.slice A m c) (l.filter (fun x => !endB n x)) ∧ w.grownBy w' (Value.slice A l.length c).ownBlock := by
 have HR := Aside0.mk hr
 have HL := Aside0.mk hl
 have HC0 := Aside0.mk h0
 have HC1 := Aside0.mk h1
 have HN := Aside0.mk hne
 have HC := Aside0.mk (Kd.R_reads' hr).2.2
 clear hr h0 h1 hne
 go_enter Tryz.func91, Tryz.ntmps91
 go_wp2_with (first | (go_at_call 125; (refine (index_calls A c l n h _ HC.out HL.out HC0.out HC1.out).mono ?_); rintro e w1 ⟨⟨j0, hj0, hp0, hq0, rfl⟩ | ⟨hq0, rfl⟩, hb⟩ <;> have HB := Aside0.mk hb <;> have HQ := Aside0.mk hq0 <;> clear hb hq0))
 ·obtain ⟨g, rfl⟩ := own_addr HR.out (by omega)
  have hgh : g ≠ h := HN.out g rfl
  clear HC HN
  rw [show ((j0 : Int) == -1) = false from beq_eq_false_iff_ne.2 (by omega)]
  go_loopw [5, 6, 7] (fun s5 s6 _ wr => ∃ (i j : Nat) (xs : List Eg), i < j ∧ j ≤ l.length ∧ s5 = .int .i64 (i : Int) ∧ s6 = .int .i64 (j : Int) ∧ Aside0 (kE.R 30 wr base (fun _ => True) (.slice (some ⟨g, 0, none⟩) l.length c) xs) ∧ Aside0 (xs.take i = (l.take j).filter (fun x => !endB n x)) ∧ Aside0 (xs.drop j = l.drop j) ∧ Aside0 (w.grownBy wr (some g))) (fun _ s6 _ _ => (l.length - intOf s6).toNat)
  case atStart => exact ⟨j0, j0 + 1, l, by omega, by omega, rfl, by go_num, ⟨Kd.R_below HR.out HB.out⟩, ⟨(filter_first hj0 HQ.out hp0).symm⟩, ⟨rfl⟩, ⟨grown_of HB.out _⟩⟩
  case round =>
   obtain ⟨i, j, xs, hij, hjl, rfl, rfl, HX, H1, H2, HG⟩ := hrel
   have HXL := Aside0.mk (Kd.R_reads' HX.out).1
   have hlc : l.length ≤ c := (Kd.R_reads' HX.out).2.1
   by_cases hlt : j < l.length
   ·obtain ⟨ad, e1, r0, r1, r2, r3, r4⟩ := eg_at (Kd.R_reads' HX.out).2.2 j (by have := HXL.out; omega)
    cases e1
    rw [eat_drop H2.out hlt] at r0 r1 r2 r3 r4
    simp only [add_plain] at r0 r1 r2 r3 r4
    have HD := Aside0.mk (show xs.drop (j + 1) = l.drop (j + 1) by
     have h2 := H2.out
     rw [drop_cons hlt, drop_cons (by have := HXL.out; omega)] at h2
     exact (List.cons.inj h2).2)
    have HT := Aside0.mk (take_snoc hlt)
    generalize hx : eat l j = x at r0 r1 r2 r3 r4 HT
    clear hx
    cases hb : endB n x with
    | true =>
      have HE := Aside0.mk hb
      clear hb
      go_wp2_with (first | (go_at_call 92; (refine (ends_calls x n h _ (pw_cell_below (below_alloc (Below.refl _ _) _) (cell_grown HC0.out HG.out (fun e => hgh (Option.some.inj e).symm))) (pw_cell_below (below_alloc (Below.refl _ _) _) (cell_grown HC1.out HG.out (fun e => hgh (Option.some.inj e).symm)))).mono ?_); rintro e w2 ⟨rfl, hb⟩; rw [HE.out]; have HB2 := Aside0.mk (below_step (below_alloc (Below.refl wr.heap.size wr) _) hb); clear hb))
      go_roundw
      case rel => exact ⟨i, j + 1, xs, by omega, by omega, rfl, by go_num, ⟨Kd.R_below HX.out HB2.out⟩, ⟨by rw [HT.out, List.filter_append, H1.out, show [x].filter (fun x => !endB n x) = [] by simp [HE.out], List.append_nil]⟩, HD, ⟨grown_then HG.out (grown_of HB2.out _)⟩⟩
      case measure => simp [intOf]; omega
    | false =>
      have HE := Aside0.mk hb
      clear hb
      go_wp2_with (first | (go_at_call 92; (refine (ends_calls x n h _ (pw_cell_below (below_alloc (Below.refl _ _) _) (cell_grown HC0.out HG.out (fun e => hgh (Option.some.inj e).symm))) (pw_cell_below (below_alloc (Below.refl _ _) _) (cell_grown HC1.out HG.out (fun e => hgh (Option.some.inj e).symm)))).mono ?_); rintro e w2 ⟨rfl, hb⟩; rw [HE.out]; have HB2 := Aside0.mk (below_step (below_alloc (Below.refl wr.heap.size wr) _) hb); have d0 : w2.cell? ⟨wr.heap.size, 0, none⟩ = some (.int .i64 x.lab) := pw_cell_below hb (by simp); have d1 : w2.cell? ⟨wr.heap.size, 1, none⟩ = some (.int .i64 x.a.lab) := pw_cell_below hb (by simp); have d2 : w2.cell? ⟨wr.heap.size, 2, none⟩ = some (.int .i64 x.a.num) := pw_cell_below hb (by simp); have d3 : w2.cell? ⟨wr.heap.size, 3, none⟩ = some (.int .i64 x.b.lab) := pw_cell_below hb (by simp); have d4 : w2.cell? ⟨wr.heap.size, 4, none⟩ = some (.int .i64 x.b.num) := pw_cell_below hb (by simp); clear hb) | ((with_reducible refine gate_store (p := 33) rfl ?_); go_must (refine store_eg i x rfl rfl 30 _ _ rfl rfl rfl (by kernel_rfl) (Kd.R_below HX.out HB2.out) (by omega) ?_); intro w3 hr3 hg3; have HX3 := Aside0.mk hr3; have HG3 := Aside0.mk (grown_then HG.out (grown_then (grown_of HB2.out _) hg3)); clear hr3 hg3))
      go_roundw
      case rel => exact ⟨i + 1, j + 1, xs.set i x, by omega, by omega, by go_num, by go_num, HX3, ⟨by rw [HT.out, List.filter_append, ← H1.out, show [x].filter (fun x => !endB n x) = [x] by simp [HE.out], take_set (by have := HXL.out; omega)]⟩, ⟨by rw [List.drop_set_of_lt (by omega)]; exact HD.out⟩, HG3⟩
      case measure => simp [intOf]; omega
   ·obtain rfl : j = l.length := by omega
    have HR4 := Aside0.mk (row_take HX.out (m := i) (by omega))
    have HL4 := Aside0.mk (show (xs.take i).length = i by have := HXL.out; rw [List.length_take]; omega)
    have HF := Aside0.mk (show xs.take i = l.filter (fun x => !endB n x) by rw [H1.out, List.take_length])
    have p1 : i ≤ l.length := by omega
    have p2 : ¬ c = i := by omega
    have p3 : i ≤ c := by omega
    go_wp2_with (first | ((with_reducible refine gate_builtin (b := .clear) rfl ?_); go_must (refine clear_tail flatE rfl _ 24 rfl Tryz.underlying24 (.agg #[(.int .i64 0), (.int .i64 0), (.int .i64 0), (.int .i64 0), (.int .i64 0)]) 40 infoE rfl zoneE (off := i * 5) (m := l.length - i) rfl rfl HR4.out (by omega) (by omega) ?_); intro w4 hr4 hg4; have HR5 := Aside0.mk hr4; have HG4 := Aside0.mk (grown_then HG.out hg4); clear hr4 hg4))
    go_ret
    exact ⟨i, rfl, by rw [← HF.out]; exact HL4.out.symm, by rw [← HF.out]; exact HR5.out, HG4.out⟩
 ·have hf := filter_none HQ.out
  have HF := Aside0.mk hf
  go_ret
  exact ⟨_, rfl, by rw [HF.out], by rw [HF.out]; exact Kd.R_below HR.out HB.out, grown_of HB.out _⟩
end Go.Proofs.YtogmbeifbjgphaaGreat.R
