/- Are edges right, in order, few enough of a label, and between nodes that are there?; Is a graph right? Are two graphs one?; The builtin copy into a row of the call's own that is as long as its source, for elements of any number of cells. No condition beyond the two rows; make([]T, n) leaves a row whose room is its length; Lists of nodes and of edges: copies, and whether two are one; Whether two graphs are one; a graph in new memory; the label of what is done. -/
import Derived.Laws.CopyOwn
import Derived.Test.YtogmbeifbjgphaaGreatKBV
import Derived.Test.YtogmbeifbjgphaaGreatKB5
namespace Go.Proofs.YtogmbeifbjgphaaGreat.R
open Go.RowKit Go.Proofs.YtogmbeifbjgphaaGreatV.PrintWords Go.Proofs.YtogmbeifbjgphaaGreatV.PrintLast Go.Proofs.YtogmbeifbjgphaaGreatV.PrintMore Go.Proofs.YtogmbeifbjgphaaGreat.M
set_option linter.unusedVariables false
set_option linter.unusedSimpArgs false
attribute [local go_sem high] eqN eqE
structure EsOk (ns : List Nd) (l : List Eg) : Prop where
 ok : ∀ e ∈ l, okE e = true
 asc : Asc key l
 few : ∀ a, (l.countP fun e => e.lab == a) ≤ 7
 ends : ∀ e ∈ l, e.a ∈ ns ∧ e.b ∈ ns
open Classical in
noncomputable def esOk (ns : List Nd) (l : List Eg) : Bool := decide (EsOk ns l)
theorem esOk_true {ns : List Nd} {l : List Eg} : esOk ns l = true ↔ EsOk ns l := by simp [esOk]
theorem esOk_false {ns : List Nd} {l : List Eg} : esOk ns l = false ↔ ¬ EsOk ns l := by simp [esOk]
def cntE (l : List Eg) (j : Nat) (a : Nat) : Int := ((l.take j).countP fun n => n.lab == (a : Int) : Nat)
theorem take_eat {l : List Eg} {j : Nat} (h : j < l.length) : l.take (j + 1) = l.take j ++ [eat l j] := by
 rw [List.take_succ_eq_append_getElem h, eat_lt h]
theorem EsOk.take {ns : List Nd} {l : List Eg} (h : EsOk ns l) (j : Nat) : EsOk ns (l.take j) :=
 ⟨fun n hn => h.ok n (List.mem_of_mem_take hn), h.asc.sub (List.take_sublist _ _), fun a => Nat.le_trans (List.take_sublist _ _).countP_le (h.few a), fun e he => h.ends e (List.mem_of_mem_take he)⟩
theorem cntE_rng (l : List Eg) (j a : Nat) : 0 ≤ cntE l j a := by
 unfold cntE
 omega
theorem esOk_step {ns : List Nd} {l : List Eg} {j : Nat} (hj : j < l.length) (h : EsOk ns (l.take j)) :
 (okE (eat l j) = false ∧ ¬ EsOk ns l) ∨
 (okE (eat l j) = true ∧ (0 ≤ (eat l j).lab ∧ (eat l j).lab < 8) ∧ okN (eat l j).a = true ∧ okN (eat l j).b = true ∧
  ((cntE l j (eat l j).lab.toNat = 7 ∧ ¬ EsOk ns l) ∨
   (cntE l j (eat l j).lab.toNat ≠ 7 ∧ cntE l j (eat l j).lab.toNat ≤ 7 ∧
    ((0 < j ∧ 0 ≤ ordE (eat l (j - 1)) (eat l j) ∧ ¬ EsOk ns l) ∨
     ((0 < j → ordE (eat l (j - 1)) (eat l j) < 0) ∧
      (((eat l j).a ∉ ns ∧ ¬ EsOk ns l) ∨ ((eat l j).a ∈ ns ∧ (eat l j).b ∉ ns ∧ ¬ EsOk ns l) ∨ ((eat l j).a ∈ ns ∧ (eat l j).b ∈ ns ∧ EsOk ns (l.take (j + 1))))))))) := by
 have hm : eat l j ∈ l := eat_mem hj
 cases hok : okE (eat l j)
 ·exact .inl ⟨rfl, fun hn => by rw [hn.ok _ hm] at hok; cases hok⟩
 ·obtain ⟨⟨l0, l7⟩, a1, b1, _⟩ := okE_iff.1 hok
  refine .inr ⟨rfl, ⟨l0, by omega⟩, a1, b1, ?_⟩
  have hcast : (((eat l j).lab.toNat : Nat) : Int) = (eat l j).lab := by omega
  have hcnt : cntE l j (eat l j).lab.toNat = ((l.take j).countP fun n => n.lab == (eat l j).lab : Nat) := by
   unfold cntE
   rw [hcast]
  have hfew := h.few (eat l j).lab
  by_cases h5 : cntE l j (eat l j).lab.toNat = 7
  ·refine .inl ⟨h5, fun hn => ?_⟩
   have := (hn.take (j + 1)).few (eat l j).lab
   rw [take_eat hj, List.countP_append] at this
   simp at this
   omega
  ·refine .inr ⟨h5, by omega, ?_⟩
   by_cases hor : 0 < j ∧ 0 ≤ ordE (eat l (j - 1)) (eat l j)
   ·refine .inl ⟨hor.1, hor.2, fun hn => ?_⟩
    have hk := (ordE_key (hn.ok _ (eat_mem (show j - 1 < l.length by omega))) hok).1
    have := hn.asc.lt (i := j - 1) (j := j) (by omega) hj
    rw [← eat_lt hj, ← eat_lt (show j - 1 < l.length by omega)] at this
    have := hk.2 this
    omega
   ·refine .inr ⟨fun h0 => Int.not_le.1 fun h1 => hor ⟨h0, h1⟩, ?_⟩
    by_cases ha : (eat l j).a ∈ ns
    ·by_cases hb : (eat l j).b ∈ ns
     ·refine .inr (.inr ⟨ha, hb, ?_⟩)
      rw [take_eat hj]
      refine ⟨fun n hn => ?_, asc_append.2 ⟨h.asc, asc_cons.2 ⟨by simp, Asc.nil⟩, fun a ha b hb => ?_⟩, fun a => ?_, fun e he => ?_⟩
      ·rcases List.mem_append.1 hn with hn | hn
       ·exact h.ok n hn
       ·obtain rfl := List.mem_singleton.1 hn
        exact hok
      ·obtain rfl := List.mem_singleton.1 hb
       obtain ⟨i, hi, rfl⟩ := List.getElem_of_mem ha
       rw [List.length_take] at hi
       have hjm : eat l (j - 1) ∈ l.take j := by
        rw [eat_lt (by omega), List.mem_take_iff_getElem]
        exact ⟨j - 1, by omega, rfl⟩
       have hk := (ordE_key (h.ok _ hjm) hok).1.1 (Int.not_le.1 fun h1 => hor ⟨by omega, h1⟩)
       have hle := h.asc.le (i := i) (j := j - 1) (by omega) (by rw [List.length_take]; omega)
       rw [List.getElem_take, List.getElem_take] at hle
       rw [List.getElem_take]
       rw [eat_lt (show j - 1 < l.length by omega)] at hk
       omega
      ·rw [List.countP_append]
       have := h.few a
       by_cases e : (eat l j).lab = a
       ·subst e
        simp
        omega
       ·have e' : ((eat l j).lab == a) = false := by simpa using e
        simp [e']
        exact this
      ·rcases List.mem_append.1 he with he | he
       ·exact h.ends e he
       ·obtain rfl := List.mem_singleton.1 he
        exact ⟨ha, hb⟩
     ·exact .inr (.inl ⟨ha, hb, fun hn => hb (hn.ends _ hm).2⟩)
    ·exact .inl ⟨ha, fun hn => ha (hn.ends _ hm).1⟩
theorem cntE_step {l : List Eg} {j : Nat} (hj : j < l.length) (h8 : 0 ≤ (eat l j).lab ∧ (eat l j).lab < 8) : eight (fun b => if b = (eat l j).lab.toNat then cntE l j (eat l j).lab.toNat + 1 else cntE l j b) = eight (cntE l (j + 1)) := by
 unfold eight
 congr 1
 apply List.map_congr_left
 intro b hb
 congr 1
 unfold cntE
 rw [take_eat hj, List.countP_append]
 by_cases e : b = (eat l j).lab.toNat
 ·subst e
  have : ((eat l j).lab == (((eat l j).lab.toNat : Nat) : Int)) = true := by
   rw [beq_iff_eq]
   omega
  rw [List.countP_singleton, if_pos this]
  simp only [if_true]
  omega
 ·have : ((eat l j).lab == (b : Int)) = false := by
   rw [beq_eq_false_iff_ne]
   omega
  simp [this, e]
theorem five_cells {w : World} {g : Nat} {t : TypeId} {x : Eg} (h : w.heap[g]? = some (.cells #[.int .i64 x.lab, .int .i64 x.a.lab, .int .i64 x.a.num, .int .i64 x.b.lab, .int .i64 x.b.num] t (0, 0))) : w.cell? ⟨g, 0, none⟩ = some (.int .i64 x.lab) ∧ w.cell? ⟨g, 1, none⟩ = some (.int .i64 x.a.lab) ∧ w.cell? ⟨g, 2, none⟩ = some (.int .i64 x.a.num) ∧ w.cell? ⟨g, 3, none⟩ = some (.int .i64 x.b.lab) ∧ w.cell? ⟨g, 4, none⟩ = some (.int .i64 x.b.num) :=
 ⟨(blk_cell h 0).trans rfl, (blk_cell h 1).trans rfl, (blk_cell h 2).trans rfl, (blk_cell h 3).trans rfl, (blk_cell h 4).trans rfl⟩
abbrev sEdgesOk : List (Nat × Bool) := [(0, true), (1, true), (2, true), (3, true), (4, true), (5, true), (6, true), (7, true), (8, true), (9, false), (10, true), (11, true)]
theorem sEdgesOk_ok : schedB .any (opsOf Tryz.f73 7) sEdgesOk (Array.replicate (opsOf Tryz.f73 7).size false) = true := by kernel_rfl
set_option maxHeartbeats 6400000 in
set_option maxRecDepth 100000 in
theorem edgesOk_calls (A : Option Addr) (c : Nat) (l : List Eg) (A2 : Option Addr) (c2 : Nat) (ns : List Nd) (w : World) (hr : kE.C w A l.length l) (hr2 : kN.C w A2 ns.length ns) (hns : NsOk ns) : Calls Tryz.prog 73 #[.slice A l.length c, .slice A2 ns.length c2] w fun e w' => e = .returned (.bool (esOk ns l)) ∧ Below w.heap.size w w' := by
 have HL := Aside0.mk hr.2.1
 have HR := Aside0.mk hr
 have HT := Aside0.mk (fun (x : Nd) (W : World) (h : Below w.heap.size w W) (hx : okN x = true) => nodeThere_calls A2 c2 ns x W (Kd.C_below hr2 h) hns hx)
 clear hr hr2 hns
 have hl := HL.out
 go_enter Tryz.func73, Tryz.ntmps73
 go_wp2
 go_loopw [6, 7, 10] (fun _ _ i wr => ∃ j : Nat, j ≤ l.length ∧ i = .int .i64 (j : Int) ∧ Aside0 (EsOk ns (l.take j)) ∧ Aside0 (wr.heap[w.heap.size]? = some (.cells (eight (cntE l j)) 143 (0, 0))) ∧ Aside0 (Below w.heap.size w wr)) (fun _ _ i _ => l.length - (intOf i).toNat)
 case atStart => exact ⟨0, Nat.zero_le _, rfl, ⟨⟨by simp, by simp [Asc], by simp, by simp⟩⟩, ⟨blk_new w (.cells #[.int .i64 0, .int .i64 0, .int .i64 0, .int .i64 0, .int .i64 0, .int .i64 0, .int .i64 0, .int .i64 0] 143)⟩, ⟨below_alloc (Below.refl _ _) _⟩⟩
 case round =>
  obtain ⟨j, hj, rfl, HN, HM, HB⟩ := hrel
  by_cases hlt : j < l.length
  ·obtain ⟨ad, e1, r0, r1, r2, r3, r4⟩ := eg_at (Kd.C_below HR.out HB.out) j hlt
   cases e1
   have HS := Aside0.mk (cntE_step hlt)
   have hst := esOk_step hlt HN.out
   have HPV : Aside0 (∃ y p, y = eat l (j - 1) ∧ p < l.length ∧ (0 < j → IntKind.i64.wrap ((j : Int) - 1) = (p : Int)) ∧ ∀ W, Below w.heap.size w W → W.cell? (ad.add (p * 5)) = some (.int .i64 y.lab) ∧ W.cell? ⟨(ad.add (p * 5)).block, (ad.add (p * 5)).off + 1, none⟩ = some (.int .i64 y.a.lab) ∧ W.cell? ⟨(ad.add (p * 5)).block, (ad.add (p * 5)).off + 2, none⟩ = some (.int .i64 y.a.num) ∧ W.cell? ⟨(ad.add (p * 5)).block, (ad.add (p * 5)).off + 3, none⟩ = some (.int .i64 y.b.lab) ∧ W.cell? ⟨(ad.add (p * 5)).block, (ad.add (p * 5)).off + 4, none⟩ = some (.int .i64 y.b.num)) := ⟨⟨_, j - 1, rfl, by omega, fun h0 => by rw [IntKind.wrap_i64]; omega, fun W hW => by
    obtain ⟨ad', e1, q⟩ := eg_at (Kd.C_below HR.out hW) (j - 1) (by omega)
    cases e1
    exact q⟩⟩
   generalize hn : eat l j = x at r0 r1 r2 r3 r4 hst HS
   have HE := Aside0.mk hn
   clear hn
   rcases hst with ⟨h1, h2⟩ | ⟨h1, ⟨h3, h4⟩, ha1, hb1, h5⟩
   ·have HF := Aside0.mk (esOk_false.2 h2)
    have H1 := Aside0.mk h1
    clear h2 h1
    go_wp2_with (first | (go_at_call 75; (refine (edgeOk_calls x _).mono ?_); rintro e w1 ⟨rfl, hb⟩; rw [H1.out]; have HB2 := Aside0.mk (below_step (below_alloc HB.out _) hb); clear hb))
    go_ret
    exact ⟨retB HF.out.symm, HB2.out⟩
   ·have H1 := Aside0.mk h1
    have HA1 := Aside0.mk ha1
    have HB1 := Aside0.mk hb1
    have hl8 : x.lab.toNat < 8 := by omega
    have hmc : wr.cell? ⟨w.heap.size, x.lab.toNat, none⟩ = some (.int .i64 (cntE l j x.lab.toNat)) := (blk_cell HM.out _).trans (eight_at _ hl8)
    have HMC := Aside0.mk hmc
    have HST := Aside0.mk (eight_set (cntE l j) hl8 (cntE l j x.lab.toNat + 1))
    have hge := cntE_rng l j x.lab.toNat
    clear hmc h1 ha1 hb1
    rcases h5 with ⟨h5, h6⟩ | ⟨h5, h6, h7⟩
    ·have HF := Aside0.mk (esOk_false.2 h6)
     rw [h5] at HMC
     clear h6 h5
     go_wp2_with (first | (go_at_call 75; (refine (edgeOk_calls x _).mono ?_); rintro e w1 ⟨rfl, hb⟩; rw [H1.out]; have HB2 := Aside0.mk (below_step (below_alloc HB.out _) hb); have HM2 := Aside0.mk (blk_below (blk_alloc HM.out _) hb); have HX2 := Aside0.mk (blk_below (blk_new wr (.cells #[.int .i64 x.lab, .int .i64 x.a.lab, .int .i64 x.a.num, .int .i64 x.b.lab, .int .i64 x.b.num] 30)) hb); obtain ⟨c0, c1, c2, c3, c4⟩ := five_cells HX2.out; have d2 : w1.cell? ⟨w.heap.size, x.lab.toNat, none⟩ = some (.int .i64 7) := pw_cell_below hb (pw_cell_below (below_alloc (Below.refl _ _) _) HMC.out); clear hb))
     go_ret
     exact ⟨retB HF.out.symm, HB2.out⟩
    ·have hbe : (cntE l j x.lab.toNat == 7) = false := beq_eq_false_iff_ne.2 h5
     clear h5
     obtain ⟨y, p, hy, hp, hpw, hq⟩ := HPV.out
     rw [← hy] at h7
     have HPW := Aside0.mk hpw
     have HQ := Aside0.mk hq
     clear hpw hq hy
     rcases h7 with ⟨h7, h8, h9⟩ | ⟨h7, ⟨h8, h9⟩ | ⟨h8, h9, h10⟩ | ⟨h8, h9, h10⟩⟩
     all_goals first
     | (have h8b : decide (0 ≤ ordE y x) = true := decide_eq_true h8
        have HF := Aside0.mk (esOk_false.2 h9)
        have hj1 := h7)
     | (have HF := Aside0.mk (esOk_false.2 h9)
        have HDA := Aside0.mk (decide_eq_false h8))
     | (have HF := Aside0.mk (esOk_false.2 h10)
        have HDA := Aside0.mk (decide_eq_true h8)
        have HDB := Aside0.mk (decide_eq_false h9)
        clear h10)
     | (have HN2 := Aside0.mk h10
        have HDA := Aside0.mk (decide_eq_true h8)
        have HDB := Aside0.mk (decide_eq_true h9)
        clear h10)
     all_goals clear h8 h9
     all_goals first | (have h_ := hj1; clear h_) | by_cases hj1 : 0 < j
     all_goals
      first | have hj0 : decide ((j : Int) > 0) = true := decide_eq_true (by omega) | have hj0 : decide ((j : Int) > 0) = false := decide_eq_false (by omega)
      try have h8b : decide (0 ≤ ordE y x) = false := decide_eq_false (by have := h7 hj1; omega)
      clear h7
      go_wp2_with (first | (go_at_call 75; (refine (edgeOk_calls x _).mono ?_); rintro e w1 ⟨rfl, hb⟩; rw [H1.out]; have HB2 := Aside0.mk (below_step (below_alloc HB.out _) hb); have HM2 := Aside0.mk (blk_below (blk_alloc HM.out _) hb); have HX2 := Aside0.mk (blk_below (blk_new wr (.cells #[.int .i64 x.lab, .int .i64 x.a.lab, .int .i64 x.a.num, .int .i64 x.b.lab, .int .i64 x.b.num] 30)) hb); obtain ⟨c0, c1, c2, c3, c4⟩ := five_cells HX2.out; have d2 : w1.cell? ⟨w.heap.size, x.lab.toNat, none⟩ = some (.int .i64 (cntE l j x.lab.toNat)) := pw_cell_below hb (pw_cell_below (below_alloc (Below.refl _ _) _) HMC.out); clear hb))
      obtain ⟨p0, p1, p2, p3, p4⟩ := HQ.out _ HB2.out
      have HB := HB2
      clear HB2
      have HD2 := Aside0.mk d2
      clear d2
      try have hpw := HPW.out hj1
      have HK_ := Aside0.mk (show Reg (fun u_ => Below w.heap.size w u_ ∧ u_.cell? ⟨wr.heap.size, 0, none⟩ = some (.int .i64 x.lab) ∧ u_.cell? ⟨wr.heap.size, 1, none⟩ = some (.int .i64 x.a.lab) ∧ u_.cell? ⟨wr.heap.size, 2, none⟩ = some (.int .i64 x.a.num) ∧ u_.cell? ⟨wr.heap.size, 3, none⟩ = some (.int .i64 x.b.lab) ∧ u_.cell? ⟨wr.heap.size, 4, none⟩ = some (.int .i64 x.b.num) ∧ u_.cell? (ad.add (p * 5)) = some (.int .i64 y.lab) ∧ u_.cell? ⟨(ad.add (p * 5)).block, (ad.add (p * 5)).off + 1, none⟩ = some (.int .i64 y.a.lab) ∧ u_.cell? ⟨(ad.add (p * 5)).block, (ad.add (p * 5)).off + 2, none⟩ = some (.int .i64 y.a.num) ∧ u_.cell? ⟨(ad.add (p * 5)).block, (ad.add (p * 5)).off + 3, none⟩ = some (.int .i64 y.b.lab) ∧ u_.cell? ⟨(ad.add (p * 5)).block, (ad.add (p * 5)).off + 4, none⟩ = some (.int .i64 y.b.num) ∧ u_.heap[w.heap.size]? = some (.cells (eight (cntE l j)) 143 (0, 0)) ∧ u_.heap[wr.heap.size]? = some (.cells #[.int .i64 x.lab, .int .i64 x.a.lab, .int .i64 x.a.num, .int .i64 x.b.lab, .int .i64 x.b.num] 30 (0, 0)) ∧ u_.cell? ⟨w.heap.size, x.lab.toNat, none⟩ = some (.int .i64 (cntE l j x.lab.toNat)) ∧ True) from ⟨fun _ _ hb_ ⟨q_, s0_, s1_, s2_, s3_, s4_, s5_, s6_, s7_, s8_, s9_, e0_, e1_, e2_, _⟩ => ⟨below_step q_ hb_, pw_cell_below hb_ s0_, pw_cell_below hb_ s1_, pw_cell_below hb_ s2_, pw_cell_below hb_ s3_, pw_cell_below hb_ s4_, pw_cell_below hb_ s5_, pw_cell_below hb_ s6_, pw_cell_below hb_ s7_, pw_cell_below hb_ s8_, pw_cell_below hb_ s9_, blk_below e0_ hb_, blk_below e1_ hb_, pw_cell_below hb_ e2_, trivial⟩⟩)
      refine region_by _ sEdgesOk (by kernel_rfl) sEdgesOk_ok rfl (fun d _ _ _ _ h => by cases d <;> exact h) HK_.out ⟨HB.out, c0, c1, c2, c3, c4, p0, p1, p2, p3, p4, HM2.out, HX2.out, HD2.out, trivial⟩ ?_
      intro u hS
      clear c0 c1 c2 c3 c4 p0 p1 p2 p3 p4
      repeat (first | (refine h_off gt_ (by rfl) ?_; intro a_ ha_; (simp only [Act.put, pu1, pu2, pu3] at ha_); subst ha_) | (refine h_on (v := ?_) gt_ (by rfl) ?_ ?_; rotate_left; (· rintro w_ ⟨-, s0_, s1_, s2_, s3_, s4_, s5_, s6_, s7_, s8_, s9_, -, -, -, -⟩; go_simp; with_reducible rfl); intro a_ ha_; (simp only [Act.put, pu1, pu2, pu3] at ha_); subst ha_) | (refine h_offc hS gt_ (by rfl) ?_; intro a_ ha_; (simp only [Act.put, pu1, pu2, pu3] at ha_); subst ha_) | (refine h_call (f := 94) (args := #[.agg #[.int .i64 y.lab, .int .i64 y.a.lab, .int .i64 y.a.num, .int .i64 y.b.lab, .int .i64 y.b.num], .agg #[.int .i64 x.lab, .int .i64 x.a.lab, .int .i64 x.a.num, .int .i64 x.b.lab, .int .i64 x.b.num]]) HK_.out hS Tryz.func94 (by kernel_rfl) rfl gt_ (by rfl) (by rfl) mp_ ?_; (with_reducible refine (edgeOrder_calls y x _).mono ?_); rintro e_ u_ ⟨rfl, hb_⟩; refine ⟨_, rfl, hb_, fun a_ ha_ hS_ => ?_⟩; (simp only [Act.put, pu1, pu2, pu3] at ha_); subst ha_; clear hS; have hS := hS_; clear hS_; clear hb_))
      refine h_end ?_
      clear HK_ HB HM2 HX2 HD2
      obtain ⟨hB_, c0, c1, c2, c3, c4, p0, p1, p2, p3, p4, hE0_, hE1_, hE2_, -⟩ := hS
      have HB := Aside0.mk hB_
      clear hB_
      have HM2 := Aside0.mk hE0_
      clear hE0_
      have HX2 := Aside0.mk hE1_
      clear hE1_
      have HD2 := Aside0.mk hE2_
      clear hE2_
      try clear hpw
      go_wp2_with (first | (go_at_call 95; ((with_reducible refine (HT.out x.a _ HB.out HA1.out).mono ?_); rintro e w3 ⟨rfl, hb⟩; rw [HDA.out]; have HB3 := Aside0.mk (below_step HB.out hb); have HM3 := Aside0.mk (blk_below HM2.out hb); have HX3 := Aside0.mk (blk_below HX2.out hb); clear c0 c1 c2 c3 c4; obtain ⟨c0, c1, c2, c3, c4⟩ := five_cells HX3.out; have d3 : w3.cell? ⟨w.heap.size, x.lab.toNat, none⟩ = _ := (blk_cell HM3.out _).trans (eight_at _ hl8); have f3 := blk_frozen HM3.out x.lab.toNat; clear hb)) | (go_at_call 95; ((with_reducible refine (HT.out x.b _ HB3.out HB1.out).mono ?_); rintro e w4 ⟨rfl, hb⟩; rw [HDB.out]; have HB4 := Aside0.mk (below_step HB3.out hb); have HM4 := Aside0.mk (blk_below HM3.out hb); have HX4 := Aside0.mk (blk_below HX3.out hb); clear c0 c1 c2 c3 c4; obtain ⟨c0, c1, c2, c3, c4⟩ := five_cells HX4.out; have d4 : w4.cell? ⟨w.heap.size, x.lab.toNat, none⟩ = _ := (blk_cell HM4.out _).trans (eight_at _ hl8); have f4 := blk_frozen HM4.out x.lab.toNat; clear hb)))
      first
      | (go_ret
         first | exact ⟨retB HF.out.symm, HB4.out⟩ | exact ⟨retB HF.out.symm, HB3.out⟩ | exact ⟨retB HF.out.symm, HB.out⟩)
      | (go_roundw
         case rel => exact ⟨j + 1, by omega, by go_num, HN2, ⟨by rw [blk_set HM4.out, HST.out, HS.out ⟨h3, h4⟩]⟩, ⟨below_set HB4.out (Nat.le_refl _)⟩⟩
         case measure => simp [intOf]; omega)
  ·have hjl : j = l.length := by omega
   subst hjl
   have HF := Aside0.mk (esOk_true.2 (by have := HN.out; rwa [List.take_length] at this))
   go_wp2
   go_ret
   exact ⟨retB HF.out.symm, HB.out⟩
end Go.Proofs.YtogmbeifbjgphaaGreat.R
namespace Go.Proofs.YtogmbeifbjgphaaGreat.R
open Go.RowKit Go.Proofs.YtogmbeifbjgphaaGreatV.PrintWords Go.Proofs.YtogmbeifbjgphaaGreatV.PrintLast Go.Proofs.YtogmbeifbjgphaaGreatV.PrintMore Go.Proofs.YtogmbeifbjgphaaGreat.M
set_option linter.unusedVariables false
set_option linter.unusedSimpArgs false
attribute [local go_sem high] eqN eqE
theorem okG_parts (ns : List Nd) (es : List Eg) : okG ns es = (nsOk ns && esOk ns es) := by
 rw [Bool.eq_iff_iff, okG_true, Bool.and_eq_true, nsOk_true, esOk_true]
 exact ⟨fun h => ⟨⟨h.nok, h.nasc, h.nfew⟩, ⟨h.eok, h.easc, h.efew, h.ends⟩⟩, fun h => ⟨h.1.ok, h.1.asc, h.1.few, h.2.ok, h.2.asc, h.2.few, h.2.ends⟩⟩
set_option maxHeartbeats 800000 in
theorem graphOk_calls (A : Option Addr) (c : Nat) (ns : List Nd) (A2 : Option Addr) (c2 : Nat) (es : List Eg) (w : World) (hr : kN.C w A ns.length ns) (hr2 : kE.C w A2 es.length es) : Calls Tryz.prog 29 #[.agg #[.slice A ns.length c, .slice A2 es.length c2]] w fun e w' => e = .returned (.bool (okG ns es)) ∧ Below w.heap.size w w' := by
 rw [okG_parts]
 have HR := Aside0.mk hr
 have HR2 := Aside0.mk hr2
 clear hr hr2
 cases h : nsOk ns with
 | false =>
   have H := Aside0.mk h
   clear h
   go_enter Tryz.func29, Tryz.ntmps29
   go_wp2_with (first | (go_at_call 72; (refine (nodesOk_calls A c ns _ (Kd.C_alloc HR.out _)).mono ?_); rintro e w1 ⟨rfl, hb⟩; rw [H.out]; have HB := Aside0.mk (below_step (below_alloc (Below.refl w.heap.size w) _) hb); clear hb))
   go_ret
   exact ⟨retB (by simp), HB.out⟩
 | true =>
   have H := Aside0.mk h
   have HN := Aside0.mk (nsOk_true.1 h)
   clear h
   go_enter Tryz.func29, Tryz.ntmps29
   go_wp2_with (first | (go_at_call 72; (refine (nodesOk_calls A c ns _ (Kd.C_alloc HR.out _)).mono ?_); rintro e w1 ⟨rfl, hb⟩; rw [H.out]; have HB := Aside0.mk (below_step (below_alloc (Below.refl w.heap.size w) _) hb); have c0 : w1.cell? ⟨w.heap.size, 0, none⟩ = some (.slice A ns.length c) := pw_cell_below hb (by simp); have c1 : w1.cell? ⟨w.heap.size, 1, none⟩ = some (.slice A2 es.length c2) := pw_cell_below hb (by simp); clear hb) | (go_at_call 73; (refine (edgesOk_calls A2 c2 es A c ns _ (Kd.C_below HR2.out HB.out) (Kd.C_below HR.out HB.out) HN.out).mono ?_); rintro e w2 ⟨rfl, hb⟩; have HB2 := Aside0.mk (below_step HB.out hb); clear hb))
   go_ret
   exact ⟨retB (by simp), HB2.out⟩
end Go.Proofs.YtogmbeifbjgphaaGreat.R
namespace Go.Proofs.YtogmbeifbjgphaaGreat.Cp
open Go.RowKit Go.Proofs.YtogmbeifbjgphaaGreatV.PrintWords Go.Proofs.YtogmbeifbjgphaaGreatV.PrintLast Go.Proofs.YtogmbeifbjgphaaGreatV.PrintMore

open Kd
theorem run_copy_k {P : Program} (w : World) (dT sT ty elem : TypeId) (k g dLen dCap : Nat) (a : Addr) (sLen sCap m : Nat) (cur : Array Value) (t : TypeId) (cs : List Value)
 (hu : P.underlying dT = some (.slice elem)) (hs : (P.info? elem).map (·.size) = some k)
 (hg : w.heap[g]? = some (.cells cur t (0, 0))) (hm : Nat.min sLen dLen = m) (hn : cs.length = m * k)
 (hsrc : ∀ j v, cs[j]? = some v → w.cell? (a.add j) = some v) (hfit : cs.length ≤ cur.size) (h1 : ∀ v ∈ cs, v.oneCell' = true) :
 (Builtin.copy_ #[dT, sT] ty #[.slice (some ⟨g, 0, none⟩) dLen dCap, .slice (some a) sLen sCap]).run P w =
  .ok (goInt m) (w.setRow g (cs ++ cur.toList.drop cs.length).toArray) := by
 have hl := run_loadCells_list (P := P) w a cs hsrc
 have hst := run_storeCells_at P g 0 t cs 0 cur w hg (by simpa using hfit) h1
 cases hq : P.info? elem with
 | none => simp [hq] at hs
 | some i =>
   have hi : i.size = k := by simpa [hq] using hs
   rw [hn] at hl
   simp only [Nat.add_zero, Nat.zero_add, List.take_zero, List.nil_append] at hst
   simp [Builtin.copy_, run_underlying hu, Builtin.lenOf, Builtin.firstCells, sizeOf, typeInfo, hq, hi, hm, hl, hst]

section
variable {P : Program} {ops : Array Oper} {rest : List Oper} {o : Oper} {a : Act} {Q : Exit → Act → World → Prop} {α : Type}
/-- copy(dst, src) over the whole of dst, a row of the call's own that is as long as src and not empty. -/
theorem R_copy (d : Kd α) {w0 W : World} (base : Nat) (e : Nat) (hgd : o.guard = none) (x y : Operand) (t t2 : TypeId)
 (ho : o.op = .call { callee := .builtin .copy, args := #[x, y], argTypes := #[t, t2] }) (hu : P.underlying t = some (.slice e))
 (hs : (P.info? e).map (·.size) = some d.sz) (v : Value) (zs xs : List α) (A : Option Addr) (c : Nat) (hv : a.eval x = v) (hy : a.eval y = .slice A xs.length c)
 (hl : zs.length = xs.length) (hpos : 0 < xs.length) {ok : Nat → Prop} (hR : d.R e W base ok v zs) (hC : d.C W A xs.length xs)
 (hKM : ∀ x c, d.K W x c → ∀ W' ok', d.M W' base ok' x c) (HB : Below base w0 W)
 (h : ∀ w1, d.R e w1 base ok v xs → Below base w0 w1 → wpList P ops Q rest (a.put o.dst (goInt xs.length)) w1) : wpList P ops Q (o :: rest) a W := by
 obtain ⟨hok, inner, hown, hrep⟩ := hR
 obtain ⟨ad, rfl, -⟩ := hC.2.2 hpos
 obtain ⟨cs, hcs, hcell⟩ := ReadsRow.inner_ hC
 obtain ⟨hil, hown⟩ := hown
 rcases hown with ⟨rfl, h0⟩ | ⟨g, cap, cur, rfl, hbg, hg, hcap, hmax, hsz, htake⟩
 ·omega
 have hcl : cs.length = xs.length * d.sz := hcs.1
 have hcur : xs.length * d.sz ≤ cur.size := by rw [hsz]; exact Nat.mul_le_mul_right _ (by omega)
 have h1 : ∀ u ∈ cs, u.oneCell' = true := by
  by_cases hz : 0 < d.sz
  ·exact reps_one hcs hz (fun _ _ hp => d.K_one hp)
  ·have : cs.length = 0 := by rw [hcl, Nat.eq_zero_of_not_pos hz, Nat.mul_zero]
   rw [List.eq_nil_of_length_eq_zero this]; simp
 have hrun := run_copy_k (P := P) W t t2 o.type e d.sz g xs.length cap ad xs.length c xs.length cur e cs hu hs hg (Nat.min_self _) hcl hcell (by omega) h1
 rw [hl] at hv
 refine event_run (w1 := W.setRow g (cs ++ cur.toList.drop cs.length).toArray) (v := goInt xs.length) hgd ?_ (h _ ⟨hok, cs, ⟨hcl, .inr ⟨g, cap, (cs ++ cur.toList.drop cs.length).toArray, by rw [hl], hbg, setRow_heap W g cur _ e (0, 0) hg, by omega, hmax, ?_, ?_⟩⟩, hcs.imp_ (fun p q hp => hKM p q hp _ _)⟩ (below_setRow HB hbg _))
 ·simp [execOp, ho, resolve, invoke, builtin, hv, hy, hrun, Result.andThen]
 ·simp; omega
 ·rw [← hcl]
  exact List.take_left ..
end
end Go.Proofs.YtogmbeifbjgphaaGreat.Cp
namespace Go.Proofs.YtogmbeifbjgphaaGreat.R
open Go.RowKit Go.Proofs.YtogmbeifbjgphaaGreatV.PrintWords Go.Proofs.YtogmbeifbjgphaaGreatV.PrintLast Go.Proofs.YtogmbeifbjgphaaGreatV.PrintMore Go.Proofs.YtogmbeifbjgphaaGreat.M
set_option linter.unusedVariables false
set_option linter.unusedSimpArgs false
section
variable {P : Program} {ops : Array Oper} {rest : List Oper} {o : Oper} {a : Act} {Q : Exit → Act → World → Prop} {α : Type}
theorem make_row (d : Kd α) {w0 W : World} (base e : Nat) (hgd : o.guard = none) (t : TypeId) (x y : Operand) (ho : o.op = .makeSlice t x y) (m : Nat) (hx : a.eval x = .int .i64 (m : Int)) (hy : a.eval y = .int .i64 (m : Int))
 (ht : P.underlying t = some (.slice e)) (z : Value) (bytes : Nat) (hinfo : (P.info? e).map (fun i => (i.zero, i.size, i.bytes)) = some (some z, d.sz, bytes)) (hz : z.cells.size = d.sz) (hs0 : 0 < d.sz) (hb0 : 0 < bytes)
 (z0 : α) (hzero : ∀ ok' : Nat → Prop, d.M W base ok' z0 z.cells.toList) (hl : m * bytes ≤ 281474976710656) (HB : Below base w0 W) (hbase : base ≤ W.heap.size)
 (h : ∀ w1, d.R e w1 base (fun _ => True) (.slice (some ⟨W.heap.size, 0, none⟩) m m) (List.replicate m z0) → Below base w0 w1 → wpList P ops Q rest (a.put o.dst (.slice (some ⟨W.heap.size, 0, none⟩) m m)) w1) : wpList P ops Q (o :: rest) a W := by
 obtain ⟨i0, hi, hzz⟩ := Option.map_eq_some_iff.1 hinfo
 simp only [Prod.mk.injEq] at hzz
 obtain ⟨hz0, hz1, hz2⟩ := hzz
 have hm : m ≤ 281474976710656 := Nat.le_trans (Nat.le_mul_of_pos_right _ hb0) hl
 have hr := run_make (P := P) W t e i0 z ht hi hz0 .i64 .i64 (m : Int) (m : Int) (by omega) (by omega)
  (by
   have h3 : ((i0.bytes * m : Nat) : Int) ≤ 281474976710656 := by rw [hz2, Nat.mul_comm]; omega
   rwa [Int.natCast_mul] at h3) (by omega)
 simp only [Int.toNat_natCast] at hr
 rw [hz1] at hr
 have hrep := Kd.reps_made hz hs0 (hzero fun k => True ∧ k ≠ W.heap.size) m
 refine Kd.event_run (w1 := W.alloc (.cells (madeCells z.cells (m * d.sz)) e)) hgd (by rw [show execOp a.eval o = (do let v ← Instr.makeSlice t (a.eval x) (a.eval y); pure (.value v)) from by simp only [execOp, ho]]; rw [hx, hy]; simp [hr]) (h _ ⟨fun k hk => trivial, (madeCells z.cells (m * d.sz)).toList, ?_, ?_⟩ (HB.alloc hbase _))
 ·have h2 := World.ownsRow_lit (base := base) (e := e) (size := d.sz) W (madeCells z.cells (m * d.sz)) m hbase (by simp [maxLen]; omega) (by simpa using hrep.1)
  simpa using h2
 ·refine hrep.imp_ (fun p c hp => d.M_mono (fun k hk => ⟨trivial, fun he => ?_⟩) (Kd.M_below (d.M_bound hp) (below_alloc (Below.refl _ _) _)))
  exact hk.1.2 (by simpa [Value.ownBlock] using he)
end
end Go.Proofs.YtogmbeifbjgphaaGreat.R
namespace Go.Proofs.YtogmbeifbjgphaaGreat.R
open Go.RowKit Go.Proofs.YtogmbeifbjgphaaGreatV.PrintWords Go.Proofs.YtogmbeifbjgphaaGreatV.PrintLast Go.Proofs.YtogmbeifbjgphaaGreatV.PrintMore Go.Proofs.YtogmbeifbjgphaaGreat.M
set_option linter.unusedVariables false
set_option linter.unusedSimpArgs false
attribute [local go_sem high] eqN eqE
set_option maxHeartbeats 800000 in
set_option maxRecDepth 100000 in
theorem copyN_calls (A : Option Addr) (c : Nat) (l : List Nd) (w : World) (hr : kN.C w A l.length l) (hc : l.length ≤ c) (hl : l.length ≤ 1099511627776) :
 Calls Tryz.prog 86 #[.slice A l.length c] w fun e w' => ∃ A' : Option Addr, e = .returned (.slice A' l.length l.length) ∧ kN.R 28 w' w.heap.size (fun _ => True) (.slice A' l.length l.length) l ∧ Below w.heap.size w w' := by
 by_cases h0 : l.length = 0
 ·obtain rfl := List.eq_nil_of_length_eq_zero h0
  go_enter Tryz.func86, Tryz.ntmps86
  go_wp2
  go_ret
  exact ⟨none, rfl, Kd.R_nil _ _ _ _ _, Below.refl _ _⟩
 ·have z1 : ((l.length : Int) == 0) = false := by rw [beq_eq_false_iff_ne]; omega
  have HR := Aside0.mk hr
  have HL := Aside0.mk hl
  have HP := Aside0.mk (Nat.pos_of_ne_zero h0)
  clear hr hc hl h0
  go_enter Tryz.func86, Tryz.ntmps86
  go_wp2_with (first | ((with_reducible refine gate_dst (N := 9) rfl ?_); refine make_row kN _ 28 rfl 23 _ _ rfl l.length rfl rfl Tryz.underlying23 (.agg #[(.int .i64 0), (.int .i64 0)]) 16 infoN rfl (by decide) (by omega) zN (fun _ => kN_mkM _ _ _ zN) (by have := HL.out; omega) (Below.refl _ _) (Nat.le_refl _) ?_; intro w1 ho1 hb1; have HO1 := Aside0.mk ho1; have HB1 := Aside0.mk hb1; clear ho1 hb1) | ((with_reducible refine gate_builtin (b := .copy) rfl ?_); refine Cp.R_copy kN (w0 := w) w.heap.size 28 rfl (.tmp 10) (.tmp 11) 23 23 rfl Tryz.underlying23 (by kernel_rfl) _ (List.replicate l.length zN) l A c rfl rfl (by simp) HP.out HO1.out (Kd.C_below HR.out HB1.out) (fun x c h W' ok' => kN_KM x c _ h W' _ ok') HB1.out ?_; intro w2 ho2 hb2; have HO2 := Aside0.mk ho2; have HB2 := Aside0.mk hb2; clear ho2 hb2))
  go_ret
  exact ⟨_, rfl, HO2.out, HB2.out⟩
set_option maxHeartbeats 800000 in
set_option maxRecDepth 100000 in
theorem copyE_calls (A : Option Addr) (c : Nat) (l : List Eg) (w : World) (hr : kE.C w A l.length l) (hc : l.length ≤ c) (hl : l.length ≤ 1099511627776) :
 Calls Tryz.prog 87 #[.slice A l.length c] w fun e w' => ∃ A' : Option Addr, e = .returned (.slice A' l.length l.length) ∧ kE.R 30 w' w.heap.size (fun _ => True) (.slice A' l.length l.length) l ∧ Below w.heap.size w w' := by
 by_cases h0 : l.length = 0
 ·obtain rfl := List.eq_nil_of_length_eq_zero h0
  go_enter Tryz.func87, Tryz.ntmps87
  go_wp2
  go_ret
  exact ⟨none, rfl, Kd.R_nil _ _ _ _ _, Below.refl _ _⟩
 ·have z1 : ((l.length : Int) == 0) = false := by rw [beq_eq_false_iff_ne]; omega
  have HR := Aside0.mk hr
  have HL := Aside0.mk hl
  have HP := Aside0.mk (Nat.pos_of_ne_zero h0)
  clear hr hc hl h0
  go_enter Tryz.func87, Tryz.ntmps87
  go_wp2_with (first | ((with_reducible refine gate_dst (N := 9) rfl ?_); refine make_row kE _ 30 rfl 24 _ _ rfl l.length rfl rfl Tryz.underlying24 (.agg #[(.int .i64 0), (.int .i64 0), (.int .i64 0), (.int .i64 0), (.int .i64 0)]) 40 infoE rfl (by decide) (by omega) zE (fun _ => kE_mkM _ _ _ zE) (by have := HL.out; omega) (Below.refl _ _) (Nat.le_refl _) ?_; intro w1 ho1 hb1; have HO1 := Aside0.mk ho1; have HB1 := Aside0.mk hb1; clear ho1 hb1) | ((with_reducible refine gate_builtin (b := .copy) rfl ?_); refine Cp.R_copy kE (w0 := w) w.heap.size 30 rfl (.tmp 10) (.tmp 11) 24 24 rfl Tryz.underlying24 (by kernel_rfl) _ (List.replicate l.length zE) l A c rfl rfl (by simp) HP.out HO1.out (Kd.C_below HR.out HB1.out) (fun x c h W' ok' => kE_KM x c _ h W' _ ok') HB1.out ?_; intro w2 ho2 hb2; have HO2 := Aside0.mk ho2; have HB2 := Aside0.mk hb2; clear ho2 hb2))
  go_ret
  exact ⟨_, rfl, HO2.out, HB2.out⟩
end Go.Proofs.YtogmbeifbjgphaaGreat.R
namespace Go.Proofs.YtogmbeifbjgphaaGreat.R
open Go.RowKit Go.Proofs.YtogmbeifbjgphaaGreatV.PrintWords Go.Proofs.YtogmbeifbjgphaaGreatV.PrintLast Go.Proofs.YtogmbeifbjgphaaGreatV.PrintMore Go.Proofs.YtogmbeifbjgphaaGreat.M
set_option linter.unusedVariables false
set_option linter.unusedSimpArgs false
attribute [local go_sem high] eqN eqE
section
variable {P : Program} {ops : Array Oper} {Q : Exit → Act → World → Prop} {S : World → Prop} {E : Act → World → Prop} {i : Nat} {r : List (Nat × Bool)} {o : Oper} {v : Value} {a : Act} {w w1 : World}
end
/-- A struct is stored into a block. -/
theorem h_row {P : Program} {ops : Array Oper} {Q : Exit → Act → World → Prop} {S : World → Prop} {E : Act → World → Prop} {i : Nat} {r : List (Nat × Bool)} {o : Oper} {a : Act} {w : World} {ty : TypeId} {x y : Operand} (g : Nat) (cells : Array Value) (t : TypeId) (old : Array Value) (hg : w.heap[g]? = some (.cells old t (0, 0)))
 (ho : ops[i]? = some o) (hw : Region.wanted o (yielded ops a.tmps) = true) (hop : o.op = .store ty x y) (hx : a.eval x = .pointer (some ⟨g, 0, none⟩)) (hy : a.eval y = .agg cells) (hi : (P.info? ty).map (·.size) = some cells.size)
 (hold : old.size = cells.size) (h1 : cells.all (·.oneCell') = true) (hS : S (w.setRow g cells)) (h : ∀ a', a.put o.dst undef = a' → wpH P ops Q S E r a' (w.setRow g cells)) : wpH P ops Q S E ((i, false) :: r) a w :=
 ⟨o, ho, fun K hK => by
  rw [hw, if_pos rfl]
  exact wp_store_row ty x y hop g cells hx hy t old hg hi hold h1 (hK _ _ hS fun _ => h _ rfl)⟩
/-- Rows of nodes, of edges: what is asked of the blocks is asked of the row's own block alone. -/
theorem R_okN {e : TypeId} {w : World} {base : Nat} {ok ok' : Nat → Prop} {v : Value} {xs : List Nd} (h : kN.R e w base ok v xs) (hk : ∀ k, v.ownBlock = some k → ok' k) : kN.R e w base ok' v xs := by
 obtain ⟨h0, inner, ho, hr⟩ := h
 exact ⟨hk, inner, ho, hr.imp_ fun p c hp => kN_KM p c w (kN.K_of_M hp) w base _⟩
theorem R_okE {e : TypeId} {w : World} {base : Nat} {ok ok' : Nat → Prop} {v : Value} {xs : List Eg} (h : kE.R e w base ok v xs) (hk : ∀ k, v.ownBlock = some k → ok' k) : kE.R e w base ok' v xs := by
 obtain ⟨h0, inner, ho, hr⟩ := h
 exact ⟨hk, inner, ho, hr.imp_ fun p c hp => kE_KM p c w (kE.K_of_M hp) w base _⟩
theorem grown_setRow (w : World) (g : Nat) (cs : Array Value) : w.grownBy (w.setRow g cs) (some g) := ⟨rfl, rfl, rfl, by simp, fun k _ hk => setRow_other w g k cs (fun e => hk (by rw [e]))⟩
/-- A row stays where another block, or none, has been written. -/
theorem R_farN {e : TypeId} {w w1 : World} {base : Nat} {ok : Nat → Prop} {v : Value} {xs : List Nd} (h : kN.R e w base ok v xs) {row : Option Nat} (hg : w.grownBy w1 row) (hk : ∀ k, v.ownBlock = some k → some k ≠ row) : kN.R e w1 base ok v xs :=
 Kd.R_mono (Kd.R_grown (R_okN h (ok' := fun k => ok k ∧ some k ≠ row) fun k hv => ⟨h.1 k hv, hk k hv⟩) hg fun _ h => h.2) fun _ h => h.1
theorem R_farE {e : TypeId} {w w1 : World} {base : Nat} {ok : Nat → Prop} {v : Value} {xs : List Eg} (h : kE.R e w base ok v xs) {row : Option Nat} (hg : w.grownBy w1 row) (hk : ∀ k, v.ownBlock = some k → some k ≠ row) : kE.R e w1 base ok v xs :=
 Kd.R_mono (Kd.R_grown (R_okE h (ok' := fun k => ok k ∧ some k ≠ row) fun k hv => ⟨h.1 k hv, hk k hv⟩) hg fun _ h => h.2) fun _ h => h.1
/-- No block is both rows'. -/
def Off (u v : Value) : Prop := ∀ k, u.ownBlock = some k → v.ownBlock ≠ some k
abbrev sGc : List (Nat × Bool) := [(0, true), (1, true), (3, true), (4, true), (2, false), (5, false), (6, true), (7, false)]
theorem sGc_ok : schedB .any (opsOf Tryz.f37 1) sGc (Array.replicate (opsOf Tryz.f37 1).size false) = true := by kernel_rfl
set_option maxHeartbeats 800000 in
theorem graphCopy_calls (A : Option Addr) (c : Nat) (ns : List Nd) (A2 : Option Addr) (c2 : Nat) (es : List Eg) (w : World) (hr : kN.C w A ns.length ns) (hr2 : kE.C w A2 es.length es) (hc : ns.length ≤ c) (hc2 : es.length ≤ c2) (hn : ns.length ≤ 1000000) (he : es.length ≤ 1000000) :
 Calls Tryz.prog 37 #[.agg #[.slice A ns.length c, .slice A2 es.length c2]] w fun e w' => ∃ B B2 : Option Addr, e = .returned (.agg #[.slice B ns.length ns.length, .slice B2 es.length es.length]) ∧ kN.R 28 w' w.heap.size (fun _ => True) (.slice B ns.length ns.length) ns ∧ kE.R 30 w' w.heap.size (fun _ => True) (.slice B2 es.length es.length) es ∧ Off (.slice B ns.length ns.length) (.slice B2 es.length es.length) ∧ Below w.heap.size w w' := by
 have HR := Aside0.mk hr
 have HR2 := Aside0.mk hr2
 have HN := Aside0.mk hn
 have HE := Aside0.mk he
 have HC := Aside0.mk hc
 have HC2 := Aside0.mk hc2
 clear hr hr2 hn he hc hc2
 go_enter Tryz.func37, Tryz.ntmps37
 go_wp2_with (fail)
 refine named _ ?_
 intro W hW
 have c0 : W.cell? ⟨w.heap.size, 0, none⟩ = some (.slice A ns.length c) := by subst hW; simp
 have c1 : W.cell? ⟨w.heap.size, 1, none⟩ = some (.slice A2 es.length c2) := by subst hW; simp
 have HG := Aside0.mk (show W.heap[w.heap.size + 1]? = some (.cells #[.slice none 0 0, .slice none 0 0] 26 (0, 0)) by subst hW; exact (by simpa using heap_alloc_new (w.alloc (.cells #[.slice A ns.length c, .slice A2 es.length c2] 26)) (.cells #[.slice none 0 0, .slice none 0 0] 26)))
 have HB := Aside0.mk (show Below w.heap.size w W by subst hW; exact below_alloc (below_alloc (Below.refl _ _) _) _)
 clear hW
 have HK_ := Aside0.mk (show Reg (fun u_ => Below w.heap.size w u_ ∧ u_.cell? ⟨w.heap.size, 0, none⟩ = some (.slice A ns.length c) ∧ u_.cell? ⟨w.heap.size, 1, none⟩ = some (.slice A2 es.length c2) ∧ True) from ⟨fun _ _ hb_ ⟨q_, s0_, s1_, _⟩ => ⟨below_step q_ hb_, pw_cell_below hb_ s0_, pw_cell_below hb_ s1_, trivial⟩⟩)
 refine region_by2 _ sGc (by kernel_rfl) sGc_ok rfl (fun d _ _ _ _ h => by cases d <;> exact h) HK_.out ⟨HB.out, c0, c1, trivial⟩ ?_
 intro u hS hbu_
 have HGx_ := Aside0.mk (blk_below HG.out hbu_)
 clear HG
 have HG := Aside0.mk HGx_.out
 clear HGx_
 clear hbu_
 clear c0 c1
 repeat (first | (refine h_off gt_ (by rfl) ?_; intro a_ ha_; (simp only [Act.put, pu1, pu2, pu3] at ha_); subst ha_) | (refine h_on (v := ?_) gt_ (by rfl) ?_ ?_; rotate_left; (· rintro w_ ⟨-, s0_, s1_, -⟩; go_simp; with_reducible rfl); intro a_ ha_; (simp only [Act.put, pu1, pu2, pu3] at ha_); subst ha_) | (refine h_offc hS gt_ (by rfl) ?_; intro a_ ha_; (simp only [Act.put, pu1, pu2, pu3] at ha_); subst ha_) | (refine h_call (f := 86) (args := #[.slice A ns.length c]) HK_.out hS Tryz.func86 (by kernel_rfl) rfl gt_ (by rfl) (by rfl) mp_ ?_; (refine (copyN_calls A c ns _ (Kd.C_below HR.out hS.1) HC.out (by have := HN.out; omega)).mono ?_); rintro e_ u_ ⟨B, rfl, hr_, hb_⟩; have HL := Aside0.mk (Kd.R_lower hr_ (Nat.succ_le_of_lt (blk_lt HG.out))); clear hr_; have HGx_ := Aside0.mk (blk_below HG.out hb_); clear HG; have HG := Aside0.mk HGx_.out; clear HGx_; refine ⟨_, rfl, hb_, fun a_ ha_ hS_ => ?_⟩; (simp only [Act.put, pu1, pu2, pu3] at ha_); subst ha_; clear hS; have hS := hS_; clear hS_ hb_) | (refine h_call (f := 87) (args := #[.slice A2 es.length c2]) HK_.out hS Tryz.func87 (by kernel_rfl) rfl gt_ (by rfl) (by rfl) mp_ ?_; (refine (copyE_calls A2 c2 es _ (Kd.C_below HR2.out hS.1) HC2.out (by have := HE.out; omega)).mono ?_); rintro e_ u_ ⟨B2, rfl, hr_, hb_⟩; have HO := Aside0.mk (show Off (.slice B ns.length ns.length) (.slice B2 es.length es.length) from fun k h1 h2 => by have h3 := Kd.R_lt HL.out k h1; have h4 := Kd.R_base hr_ k h2; omega); have HL2 := Aside0.mk (Kd.R_lower hr_ (Nat.succ_le_of_lt (blk_lt HG.out))); clear hr_; have HGx_ := Aside0.mk (blk_below HG.out hb_); clear HG; have HG := Aside0.mk HGx_.out; clear HGx_; have HLx_ := Aside0.mk (Kd.R_below HL.out hb_); clear HL; have HL := Aside0.mk HLx_.out; clear HLx_; refine ⟨_, rfl, hb_, fun a_ ha_ hS_ => ?_⟩; (simp only [Act.put, pu1, pu2, pu3] at ha_); subst ha_; clear hS; have hS := hS_; clear hS_ hb_))
 refine h_row (w.heap.size + 1) #[.slice B ns.length ns.length, .slice B2 es.length es.length] _ _ HG.out gt_ (by rfl) rfl rfl rfl (by kernel_rfl) rfl (by simp [Value.oneCell']) ⟨below_setRow hS.1 (by omega) _, ?_, ?_, trivial⟩ ?_
 ·exact (cell_setRow_other _ _ _ _ (by simp)).trans hS.2.1
 ·exact (cell_setRow_other _ _ _ _ (by simp)).trans hS.2.2.1
 intro a_ ha_
 simp only [Act.put] at ha_
 subst ha_
 have HG2 := Aside0.mk (setRow_heap _ _ _ #[.slice B ns.length ns.length, .slice B2 es.length es.length] _ _ HG.out)
 have HB2 := Aside0.mk (below_setRow hS.1 (show w.heap.size ≤ w.heap.size + 1 by omega) #[.slice B ns.length ns.length, .slice B2 es.length es.length])
 have HL3 := Aside0.mk (R_farN HL.out (grown_setRow _ (w.heap.size + 1) #[.slice B ns.length ns.length, .slice B2 es.length es.length]) fun k hk he => by have := Kd.R_base HL.out k hk; injection he; omega)
 have HL4 := Aside0.mk (R_farE HL2.out (grown_setRow _ (w.heap.size + 1) #[.slice B ns.length ns.length, .slice B2 es.length es.length]) fun k hk he => by have := Kd.R_base HL2.out k hk; injection he; omega)
 clear hS HL HL2 HG HK_ HB
 refine h_end ?_
 go_wp2
 refine bodyPost_ret (results_cell_row rfl _ _ (w.heap.size + 1) _ #[.slice B ns.length ns.length, .slice B2 es.length es.length] (0, 0) _ rfl HG2.out Tryz.underlying26 rfl (by kernel_rfl)) rfl ⟨B, B2, rfl, Kd.R_lower HL3.out (by omega), Kd.R_lower HL4.out (by omega), HO.out, HB2.out⟩
end Go.Proofs.YtogmbeifbjgphaaGreat.R
