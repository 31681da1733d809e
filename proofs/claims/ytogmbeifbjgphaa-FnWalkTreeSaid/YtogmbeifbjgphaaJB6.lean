/- Are edges right, in order, few enough of a label, and between nodes that are there?; Is a graph right? Are two graphs one?; Whether two graphs are one; a graph in new memory; the label of what is done; Rows of structs without pointers: a longer row in new memory (append; append of zeros), copies into a row; clear of what lies behind a row; slices.Delete at nodes, at edges; slices.DeleteFunc at edges: those that have a node go; slices.DeleteFunc at edges, the walk; A graph of the call's own: a node is put in; A graph of the call's own: an edge is put in; A graph of the call's own: a node, an edge is taken away; What is done to a graph, in the words of the model. -/
import Derived.ArgAppend
import Derived.Laws.CopyOwn
import Derived.Test.YtogmbeifbjgphaaJBV
import Derived.Test.YtogmbeifbjgphaaJB5
namespace Go.Proofs.Ytogmbeifbjgphaa.R
open Go.RowKit Go.Proofs.YtogmbeifbjgphaaV.PrintWords Go.Proofs.YtogmbeifbjgphaaV.PrintLast Go.Proofs.YtogmbeifbjgphaaV.PrintMore Go.Proofs.Ytogmbeifbjgphaa.M
set_option linter.unusedVariables false
set_option linter.unusedSimpArgs false
attribute [local go_sem high] eqN eqE
structure EsOk (ns : List Nd) (l : List Eg) : Prop where
  ok : ∀ e ∈ l, okE e = true
  asc : Asc key l
  few : ∀ a, (l.countP fun e => e.lab == a) ≤ 7
  ends : ∀ e ∈ l, e.a ∈ ns ∧ e.b ∈ ns
open Classical in
noncomputable def esOk (ns : List Nd) (l : List Eg) : Bool := decide (EsOk ns l)
theorem esOk_true {ns : List Nd} {l : List Eg} : esOk ns l = true ↔ EsOk ns l := by simp [esOk]
theorem esOk_false {ns : List Nd} {l : List Eg} : esOk ns l = false ↔ ¬ EsOk ns l := by simp [esOk]
def cntE (l : List Eg) (j : Nat) (a : Nat) : Int := ((l.take j).countP fun n => n.lab == (a : Int) : Nat)
theorem take_eat {l : List Eg} {j : Nat} (h : j < l.length) : l.take (j + 1) = l.take j ++ [eat l j] := by
  rw [List.take_succ_eq_append_getElem h, eat_lt h]
theorem EsOk.take {ns : List Nd} {l : List Eg} (h : EsOk ns l) (j : Nat) : EsOk ns (l.take j) :=
  ⟨fun n hn => h.ok n (List.mem_of_mem_take hn), h.asc.sub (List.take_sublist _ _), fun a => Nat.le_trans (List.take_sublist _ _).countP_le (h.few a), fun e he => h.ends e (List.mem_of_mem_take he)⟩
theorem cntE_rng (l : List Eg) (j a : Nat) : 0 ≤ cntE l j a := by
  unfold cntE
  omega
theorem esOk_step {ns : List Nd} {l : List Eg} {j : Nat} (hj : j < l.length) (h : EsOk ns (l.take j)) :
    (okE (eat l j) = false ∧ ¬ EsOk ns l) ∨
    (okE (eat l j) = true ∧ (0 ≤ (eat l j).lab ∧ (eat l j).lab < 8) ∧ okN (eat l j).a = true ∧ okN (eat l j).b = true ∧
      ((cntE l j (eat l j).lab.toNat = 7 ∧ ¬ EsOk ns l) ∨
       (cntE l j (eat l j).lab.toNat ≠ 7 ∧ cntE l j (eat l j).lab.toNat ≤ 7 ∧
        ((0 < j ∧ 0 ≤ ordE (eat l (j - 1)) (eat l j) ∧ ¬ EsOk ns l) ∨
         ((0 < j → ordE (eat l (j - 1)) (eat l j) < 0) ∧
          (((eat l j).a ∉ ns ∧ ¬ EsOk ns l) ∨ ((eat l j).a ∈ ns ∧ (eat l j).b ∉ ns ∧ ¬ EsOk ns l) ∨ ((eat l j).a ∈ ns ∧ (eat l j).b ∈ ns ∧ EsOk ns (l.take (j + 1))))))))) := by
  have hm : eat l j ∈ l := eat_mem hj
  cases hok : okE (eat l j)
  · exact .inl ⟨rfl, fun hn => by rw [hn.ok _ hm] at hok; cases hok⟩
  · obtain ⟨⟨l0, l7⟩, a1, b1, _⟩ := okE_iff.1 hok
    refine .inr ⟨rfl, ⟨l0, by omega⟩, a1, b1, ?_⟩
    have hcast : (((eat l j).lab.toNat : Nat) : Int) = (eat l j).lab := by omega
    have hcnt : cntE l j (eat l j).lab.toNat = ((l.take j).countP fun n => n.lab == (eat l j).lab : Nat) := by
      unfold cntE
      rw [hcast]
    have hfew := h.few (eat l j).lab
    by_cases h5 : cntE l j (eat l j).lab.toNat = 7
    · refine .inl ⟨h5, fun hn => ?_⟩
      have := (hn.take (j + 1)).few (eat l j).lab
      rw [take_eat hj, List.countP_append] at this
      simp at this
      omega
    · refine .inr ⟨h5, by omega, ?_⟩
      by_cases hor : 0 < j ∧ 0 ≤ ordE (eat l (j - 1)) (eat l j)
      · refine .inl ⟨hor.1, hor.2, fun hn => ?_⟩
        have hk := (ordE_key (hn.ok _ (eat_mem (show j - 1 < l.length by omega))) hok).1
        have := hn.asc.lt (i := j - 1) (j := j) (by omega) hj
        rw [← eat_lt hj, ← eat_lt (show j - 1 < l.length by omega)] at this
        have := hk.2 this
        omega
      · refine .inr ⟨fun h0 => Int.not_le.1 fun h1 => hor ⟨h0, h1⟩, ?_⟩
        by_cases ha : (eat l j).a ∈ ns
        · by_cases hb : (eat l j).b ∈ ns
          · refine .inr (.inr ⟨ha, hb, ?_⟩)
            rw [take_eat hj]
            refine ⟨fun n hn => ?_, asc_append.2 ⟨h.asc, asc_cons.2 ⟨by simp, Asc.nil⟩, fun a ha b hb => ?_⟩, fun a => ?_, fun e he => ?_⟩
            · rcases List.mem_append.1 hn with hn | hn
              · exact h.ok n hn
              · obtain rfl := List.mem_singleton.1 hn
                exact hok
            · obtain rfl := List.mem_singleton.1 hb
              obtain ⟨i, hi, rfl⟩ := List.getElem_of_mem ha
              rw [List.length_take] at hi
              have hjm : eat l (j - 1) ∈ l.take j := by
                rw [eat_lt (by omega), List.mem_take_iff_getElem]
                exact ⟨j - 1, by omega, rfl⟩
              have hk := (ordE_key (h.ok _ hjm) hok).1.1 (Int.not_le.1 fun h1 => hor ⟨by omega, h1⟩)
              have hle := h.asc.le (i := i) (j := j - 1) (by omega) (by rw [List.length_take]; omega)
              rw [List.getElem_take, List.getElem_take] at hle
              rw [List.getElem_take]
              rw [eat_lt (show j - 1 < l.length by omega)] at hk
              omega
            · rw [List.countP_append]
              have := h.few a
              by_cases e : (eat l j).lab = a
              · subst e
                simp
                omega
              · have e' : ((eat l j).lab == a) = false := by simpa using e
                simp [e']
                exact this
            · rcases List.mem_append.1 he with he | he
              · exact h.ends e he
              · obtain rfl := List.mem_singleton.1 he
                exact ⟨ha, hb⟩
          · exact .inr (.inl ⟨ha, hb, fun hn => hb (hn.ends _ hm).2⟩)
        · exact .inl ⟨ha, fun hn => ha (hn.ends _ hm).1⟩
theorem cntE_step {l : List Eg} {j : Nat} (hj : j < l.length) (h8 : 0 ≤ (eat l j).lab ∧ (eat l j).lab < 8) : eight (fun b => if b = (eat l j).lab.toNat then cntE l j (eat l j).lab.toNat + 1 else cntE l j b) = eight (cntE l (j + 1)) := by
  unfold eight
  congr 1
  apply List.map_congr_left
  intro b hb
  congr 1
  unfold cntE
  rw [take_eat hj, List.countP_append]
  by_cases e : b = (eat l j).lab.toNat
  · subst e
    have : ((eat l j).lab == (((eat l j).lab.toNat : Nat) : Int)) = true := by
      rw [beq_iff_eq]
      omega
    rw [List.countP_singleton, if_pos this]
    simp only [if_true]
    omega
  · have : ((eat l j).lab == (b : Int)) = false := by
      rw [beq_eq_false_iff_ne]
      omega
    simp [this, e]
theorem five_cells {w : World} {g : Nat} {t : TypeId} {x : Eg} (h : w.heap[g]? = some (.cells #[.int .i64 x.lab, .int .i64 x.a.lab, .int .i64 x.a.num, .int .i64 x.b.lab, .int .i64 x.b.num] t (0, 0))) : w.cell? ⟨g, 0, none⟩ = some (.int .i64 x.lab) ∧ w.cell? ⟨g, 1, none⟩ = some (.int .i64 x.a.lab) ∧ w.cell? ⟨g, 2, none⟩ = some (.int .i64 x.a.num) ∧ w.cell? ⟨g, 3, none⟩ = some (.int .i64 x.b.lab) ∧ w.cell? ⟨g, 4, none⟩ = some (.int .i64 x.b.num) :=
  ⟨(blk_cell h 0).trans rfl, (blk_cell h 1).trans rfl, (blk_cell h 2).trans rfl, (blk_cell h 3).trans rfl, (blk_cell h 4).trans rfl⟩
abbrev sEdgesOk : List (Nat × Bool) := [(0, true), (1, true), (2, true), (3, true), (4, true), (5, true), (6, true), (7, true), (8, true), (9, false), (10, true), (11, true)]
theorem sEdgesOk_ok : schedB .any (opsOf Try.f108 7) sEdgesOk (Array.replicate (opsOf Try.f108 7).size false) = true := by kernel_rfl
set_option maxHeartbeats 6400000 in
set_option maxRecDepth 100000 in
theorem edgesOk_calls (A : Option Addr) (c : Nat) (l : List Eg) (A2 : Option Addr) (c2 : Nat) (ns : List Nd) (w : World) (hr : kE.C w A l.length l) (hr2 : kN.C w A2 ns.length ns) (hns : NsOk ns) : Calls Try.prog 108 #[.slice A l.length c, .slice A2 ns.length c2] w fun e w' => e = .returned (.bool (esOk ns l)) ∧ Below w.heap.size w w' := by
  have HL := Aside0.mk hr.2.1
  have HR := Aside0.mk hr
  have HT := Aside0.mk (fun (x : Nd) (W : World) (h : Below w.heap.size w W) (hx : okN x = true) => nodeThere_calls A2 c2 ns x W (Kd.C_below hr2 h) hns hx)
  clear hr hr2 hns
  have hl := HL.out
  go_enter Try.func108, Try.ntmps108
  go_wp2
  go_loopw [6, 7, 10] (fun _ _ i wr => ∃ j : Nat, j ≤ l.length ∧ i = .int .i64 (j : Int) ∧ Aside0 (EsOk ns (l.take j)) ∧ Aside0 (wr.heap[w.heap.size]? = some (.cells (eight (cntE l j)) 164 (0, 0))) ∧ Aside0 (Below w.heap.size w wr)) (fun _ _ i _ => l.length - (intOf i).toNat)
  case atStart => exact ⟨0, Nat.zero_le _, rfl, ⟨⟨by simp, by simp [Asc], by simp, by simp⟩⟩, ⟨blk_new w (.cells #[.int .i64 0, .int .i64 0, .int .i64 0, .int .i64 0, .int .i64 0, .int .i64 0, .int .i64 0, .int .i64 0] 164)⟩, ⟨below_alloc (Below.refl _ _) _⟩⟩
  case round =>
    obtain ⟨j, hj, rfl, HN, HM, HB⟩ := hrel
    by_cases hlt : j < l.length
    · obtain ⟨ad, e1, r0, r1, r2, r3, r4⟩ := eg_at (Kd.C_below HR.out HB.out) j hlt
      cases e1
      have HS := Aside0.mk (cntE_step hlt)
      have hst := esOk_step hlt HN.out
      have HPV : Aside0 (∃ y p, y = eat l (j - 1) ∧ p < l.length ∧ (0 < j → IntKind.i64.wrap ((j : Int) - 1) = (p : Int)) ∧ ∀ W, Below w.heap.size w W → W.cell? (ad.add (p * 5)) = some (.int .i64 y.lab) ∧ W.cell? ⟨(ad.add (p * 5)).block, (ad.add (p * 5)).off + 1, none⟩ = some (.int .i64 y.a.lab) ∧ W.cell? ⟨(ad.add (p * 5)).block, (ad.add (p * 5)).off + 2, none⟩ = some (.int .i64 y.a.num) ∧ W.cell? ⟨(ad.add (p * 5)).block, (ad.add (p * 5)).off + 3, none⟩ = some (.int .i64 y.b.lab) ∧ W.cell? ⟨(ad.add (p * 5)).block, (ad.add (p * 5)).off + 4, none⟩ = some (.int .i64 y.b.num)) := ⟨⟨_, j - 1, rfl, by omega, fun h0 => by rw [IntKind.wrap_i64]; omega, fun W hW => by
        obtain ⟨ad', e1, q⟩ := eg_at (Kd.C_below HR.out hW) (j - 1) (by omega)
        cases e1
        exact q⟩⟩
      generalize hn : eat l j = x at r0 r1 r2 r3 r4 hst HS
      have HE := Aside0.mk hn
      clear hn
      rcases hst with ⟨h1, h2⟩ | ⟨h1, ⟨h3, h4⟩, ha1, hb1, h5⟩
      · have HF := Aside0.mk (esOk_false.2 h2)
        have H1 := Aside0.mk h1
        clear h2 h1
        go_wp2_with (first | (go_at_call 109; (refine (edgeOk_calls x _).mono ?_); rintro e w1 ⟨rfl, hb⟩; rw [H1.out]; have HB2 := Aside0.mk (below_step (below_alloc HB.out _) hb); clear hb))
        go_ret
        exact ⟨retB HF.out.symm, HB2.out⟩
      · have H1 := Aside0.mk h1
        have HA1 := Aside0.mk ha1
        have HB1 := Aside0.mk hb1
        have hl8 : x.lab.toNat < 8 := by omega
        have hmc : wr.cell? ⟨w.heap.size, x.lab.toNat, none⟩ = some (.int .i64 (cntE l j x.lab.toNat)) := (blk_cell HM.out _).trans (eight_at _ hl8)
        have HMC := Aside0.mk hmc
        have HST := Aside0.mk (eight_set (cntE l j) hl8 (cntE l j x.lab.toNat + 1))
        have hge := cntE_rng l j x.lab.toNat
        clear hmc h1 ha1 hb1
        rcases h5 with ⟨h5, h6⟩ | ⟨h5, h6, h7⟩
        · have HF := Aside0.mk (esOk_false.2 h6)
          rw [h5] at HMC
          clear h6 h5
          go_wp2_with (first | (go_at_call 109; (refine (edgeOk_calls x _).mono ?_); rintro e w1 ⟨rfl, hb⟩; rw [H1.out]; have HB2 := Aside0.mk (below_step (below_alloc HB.out _) hb); have HM2 := Aside0.mk (blk_below (blk_alloc HM.out _) hb); have HX2 := Aside0.mk (blk_below (blk_new wr (.cells #[.int .i64 x.lab, .int .i64 x.a.lab, .int .i64 x.a.num, .int .i64 x.b.lab, .int .i64 x.b.num] 30)) hb); obtain ⟨c0, c1, c2, c3, c4⟩ := five_cells HX2.out; have d2 : w1.cell? ⟨w.heap.size, x.lab.toNat, none⟩ = some (.int .i64 7) := pw_cell_below hb (pw_cell_below (below_alloc (Below.refl _ _) _) HMC.out); clear hb))
          go_ret
          exact ⟨retB HF.out.symm, HB2.out⟩
        · have hbe : (cntE l j x.lab.toNat == 7) = false := beq_eq_false_iff_ne.2 h5
          clear h5
          obtain ⟨y, p, hy, hp, hpw, hq⟩ := HPV.out
          rw [← hy] at h7
          have HPW := Aside0.mk hpw
          have HQ := Aside0.mk hq
          clear hpw hq hy
          rcases h7 with ⟨h7, h8, h9⟩ | ⟨h7, ⟨h8, h9⟩ | ⟨h8, h9, h10⟩ | ⟨h8, h9, h10⟩⟩
          all_goals first
          | (have h8b : decide (0 ≤ ordE y x) = true := decide_eq_true h8
             have HF := Aside0.mk (esOk_false.2 h9)
             have hj1 := h7)
          | (have HF := Aside0.mk (esOk_false.2 h9)
             have HDA := Aside0.mk (decide_eq_false h8))
          | (have HF := Aside0.mk (esOk_false.2 h10)
             have HDA := Aside0.mk (decide_eq_true h8)
             have HDB := Aside0.mk (decide_eq_false h9)
             clear h10)
          | (have HN2 := Aside0.mk h10
             have HDA := Aside0.mk (decide_eq_true h8)
             have HDB := Aside0.mk (decide_eq_true h9)
             clear h10)
          all_goals clear h8 h9
          all_goals first | (have h_ := hj1; clear h_) | by_cases hj1 : 0 < j
          all_goals
            first | have hj0 : decide ((j : Int) > 0) = true := decide_eq_true (by omega) | have hj0 : decide ((j : Int) > 0) = false := decide_eq_false (by omega)
            try have h8b : decide (0 ≤ ordE y x) = false := decide_eq_false (by have := h7 hj1; omega)
            clear h7
            go_wp2_with (first | (go_at_call 109; (refine (edgeOk_calls x _).mono ?_); rintro e w1 ⟨rfl, hb⟩; rw [H1.out]; have HB2 := Aside0.mk (below_step (below_alloc HB.out _) hb); have HM2 := Aside0.mk (blk_below (blk_alloc HM.out _) hb); have HX2 := Aside0.mk (blk_below (blk_new wr (.cells #[.int .i64 x.lab, .int .i64 x.a.lab, .int .i64 x.a.num, .int .i64 x.b.lab, .int .i64 x.b.num] 30)) hb); obtain ⟨c0, c1, c2, c3, c4⟩ := five_cells HX2.out; have d2 : w1.cell? ⟨w.heap.size, x.lab.toNat, none⟩ = some (.int .i64 (cntE l j x.lab.toNat)) := pw_cell_below hb (pw_cell_below (below_alloc (Below.refl _ _) _) HMC.out); clear hb))
            obtain ⟨p0, p1, p2, p3, p4⟩ := HQ.out _ HB2.out
            have HB := HB2
            clear HB2
            have HD2 := Aside0.mk d2
            clear d2
            try have hpw := HPW.out hj1
            have HK_ := Aside0.mk (show Reg (fun u_ => Below w.heap.size w u_ ∧ u_.cell? ⟨wr.heap.size, 0, none⟩ = some (.int .i64 x.lab) ∧ u_.cell? ⟨wr.heap.size, 1, none⟩ = some (.int .i64 x.a.lab) ∧ u_.cell? ⟨wr.heap.size, 2, none⟩ = some (.int .i64 x.a.num) ∧ u_.cell? ⟨wr.heap.size, 3, none⟩ = some (.int .i64 x.b.lab) ∧ u_.cell? ⟨wr.heap.size, 4, none⟩ = some (.int .i64 x.b.num) ∧ u_.cell? (ad.add (p * 5)) = some (.int .i64 y.lab) ∧ u_.cell? ⟨(ad.add (p * 5)).block, (ad.add (p * 5)).off + 1, none⟩ = some (.int .i64 y.a.lab) ∧ u_.cell? ⟨(ad.add (p * 5)).block, (ad.add (p * 5)).off + 2, none⟩ = some (.int .i64 y.a.num) ∧ u_.cell? ⟨(ad.add (p * 5)).block, (ad.add (p * 5)).off + 3, none⟩ = some (.int .i64 y.b.lab) ∧ u_.cell? ⟨(ad.add (p * 5)).block, (ad.add (p * 5)).off + 4, none⟩ = some (.int .i64 y.b.num) ∧ u_.heap[w.heap.size]? = some (.cells (eight (cntE l j)) 164 (0, 0)) ∧ u_.heap[wr.heap.size]? = some (.cells #[.int .i64 x.lab, .int .i64 x.a.lab, .int .i64 x.a.num, .int .i64 x.b.lab, .int .i64 x.b.num] 30 (0, 0)) ∧ u_.cell? ⟨w.heap.size, x.lab.toNat, none⟩ = some (.int .i64 (cntE l j x.lab.toNat)) ∧ True) from ⟨fun _ _ hb_ ⟨q_, s0_, s1_, s2_, s3_, s4_, s5_, s6_, s7_, s8_, s9_, e0_, e1_, e2_, _⟩ => ⟨below_step q_ hb_, pw_cell_below hb_ s0_, pw_cell_below hb_ s1_, pw_cell_below hb_ s2_, pw_cell_below hb_ s3_, pw_cell_below hb_ s4_, pw_cell_below hb_ s5_, pw_cell_below hb_ s6_, pw_cell_below hb_ s7_, pw_cell_below hb_ s8_, pw_cell_below hb_ s9_, blk_below e0_ hb_, blk_below e1_ hb_, pw_cell_below hb_ e2_, trivial⟩⟩)
            refine region_by _ sEdgesOk (by kernel_rfl) sEdgesOk_ok rfl (fun d _ _ _ _ h => by cases d <;> exact h) HK_.out ⟨HB.out, c0, c1, c2, c3, c4, p0, p1, p2, p3, p4, HM2.out, HX2.out, HD2.out, trivial⟩ ?_
            intro u hS
            clear c0 c1 c2 c3 c4 p0 p1 p2 p3 p4
            repeat (first | (refine h_off gt_ (by rfl) ?_; intro a_ ha_; (simp only [Act.put, List.setIfInBounds_toArray, List.set_cons_zero, List.set_cons_succ] at ha_); subst ha_) | (refine h_on (v := ?_) gt_ (by rfl) ?_ ?_; rotate_left; (· rintro w_ ⟨-, s0_, s1_, s2_, s3_, s4_, s5_, s6_, s7_, s8_, s9_, -, -, -, -⟩; go_simp; with_reducible rfl); intro a_ ha_; (simp only [Act.put, List.setIfInBounds_toArray, List.set_cons_zero, List.set_cons_succ] at ha_); subst ha_) | (refine h_offc hS gt_ (by rfl) ?_; intro a_ ha_; (simp only [Act.put, List.setIfInBounds_toArray, List.set_cons_zero, List.set_cons_succ] at ha_); subst ha_) | (refine h_call (f := 167) (args := #[.agg #[.int .i64 y.lab, .int .i64 y.a.lab, .int .i64 y.a.num, .int .i64 y.b.lab, .int .i64 y.b.num], .agg #[.int .i64 x.lab, .int .i64 x.a.lab, .int .i64 x.a.num, .int .i64 x.b.lab, .int .i64 x.b.num]]) HK_.out hS Try.func167 (by kernel_rfl) rfl gt_ (by rfl) (by rfl) mp_ ?_; (with_reducible refine (edgeOrder_calls y x _).mono ?_); rintro e_ u_ ⟨rfl, hb_⟩; refine ⟨_, rfl, hb_, fun a_ ha_ hS_ => ?_⟩; (simp only [Act.put, List.setIfInBounds_toArray, List.set_cons_zero, List.set_cons_succ] at ha_); subst ha_; clear hS; have hS := hS_; clear hS_; clear hb_))
            refine h_end ?_
            clear HK_ HB HM2 HX2 HD2
            obtain ⟨hB_, c0, c1, c2, c3, c4, p0, p1, p2, p3, p4, hE0_, hE1_, hE2_, -⟩ := hS
            have HB := Aside0.mk hB_
            clear hB_
            have HM2 := Aside0.mk hE0_
            clear hE0_
            have HX2 := Aside0.mk hE1_
            clear hE1_
            have HD2 := Aside0.mk hE2_
            clear hE2_
            try clear hpw
            go_wp2_with (first | (go_at_call 168; ((with_reducible refine (HT.out x.a _ HB.out HA1.out).mono ?_); rintro e w3 ⟨rfl, hb⟩; rw [HDA.out]; have HB3 := Aside0.mk (below_step HB.out hb); have HM3 := Aside0.mk (blk_below HM2.out hb); have HX3 := Aside0.mk (blk_below HX2.out hb); clear c0 c1 c2 c3 c4; obtain ⟨c0, c1, c2, c3, c4⟩ := five_cells HX3.out; have d3 : w3.cell? ⟨w.heap.size, x.lab.toNat, none⟩ = _ := (blk_cell HM3.out _).trans (eight_at _ hl8); have f3 := blk_frozen HM3.out x.lab.toNat; clear hb)) | (go_at_call 168; ((with_reducible refine (HT.out x.b _ HB3.out HB1.out).mono ?_); rintro e w4 ⟨rfl, hb⟩; rw [HDB.out]; have HB4 := Aside0.mk (below_step HB3.out hb); have HM4 := Aside0.mk (blk_below HM3.out hb); have HX4 := Aside0.mk (blk_below HX3.out hb); clear c0 c1 c2 c3 c4; obtain ⟨c0, c1, c2, c3, c4⟩ := five_cells HX4.out; have d4 : w4.cell? ⟨w.heap.size, x.lab.toNat, none⟩ = _ := (blk_cell HM4.out _).trans (eight_at _ hl8); have f4 := blk_frozen HM4.out x.lab.toNat; clear hb)))
            first
            | (go_ret
               first | exact ⟨retB HF.out.symm, HB4.out⟩ | exact ⟨retB HF.out.symm, HB3.out⟩ | exact ⟨retB HF.out.symm, HB.out⟩)
            | (go_roundw
               case rel => exact ⟨j + 1, by omega, by go_num, HN2, ⟨by rw [blk_set HM4.out, HST.out, HS.out ⟨h3, h4⟩]⟩, ⟨below_set HB4.out (Nat.le_refl _)⟩⟩
               case measure => simp [intOf]; omega)
    · have hjl : j = l.length := by omega
      subst hjl
      have HF := Aside0.mk (esOk_true.2 (by have := HN.out; rwa [List.take_length] at this))
      go_wp2
      go_ret
      exact ⟨retB HF.out.symm, HB.out⟩
end Go.Proofs.Ytogmbeifbjgphaa.R
namespace Go.Proofs.Ytogmbeifbjgphaa.R
open Go.RowKit Go.Proofs.YtogmbeifbjgphaaV.PrintWords Go.Proofs.YtogmbeifbjgphaaV.PrintLast Go.Proofs.YtogmbeifbjgphaaV.PrintMore Go.Proofs.Ytogmbeifbjgphaa.M
set_option linter.unusedVariables false
set_option linter.unusedSimpArgs false
attribute [local go_sem high] eqN eqE
theorem okG_parts (ns : List Nd) (es : List Eg) : okG ns es = (nsOk ns && esOk ns es) := by
  rw [Bool.eq_iff_iff, okG_true, Bool.and_eq_true, nsOk_true, esOk_true]
  exact ⟨fun h => ⟨⟨h.nok, h.nasc, h.nfew⟩, ⟨h.eok, h.easc, h.efew, h.ends⟩⟩, fun h => ⟨h.1.ok, h.1.asc, h.1.few, h.2.ok, h.2.asc, h.2.few, h.2.ends⟩⟩
set_option maxHeartbeats 800000 in
theorem graphOk_calls (A : Option Addr) (c : Nat) (ns : List Nd) (A2 : Option Addr) (c2 : Nat) (es : List Eg) (w : World) (hr : kN.C w A ns.length ns) (hr2 : kE.C w A2 es.length es) : Calls Try.prog 36 #[.agg #[.slice A ns.length c, .slice A2 es.length c2]] w fun e w' => e = .returned (.bool (okG ns es)) ∧ Below w.heap.size w w' := by
  rw [okG_parts]
  have HR := Aside0.mk hr
  have HR2 := Aside0.mk hr2
  clear hr hr2
  cases h : nsOk ns with
  | false =>
    have H := Aside0.mk h
    clear h
    go_enter Try.func36, Try.ntmps36
    go_wp2_with (first | (go_at_call 107; (refine (nodesOk_calls A c ns _ (Kd.C_alloc HR.out _)).mono ?_); rintro e w1 ⟨rfl, hb⟩; rw [H.out]; have HB := Aside0.mk (below_step (below_alloc (Below.refl w.heap.size w) _) hb); clear hb))
    go_ret
    exact ⟨retB (by simp), HB.out⟩
  | true =>
    have H := Aside0.mk h
    have HN := Aside0.mk (nsOk_true.1 h)
    clear h
    go_enter Try.func36, Try.ntmps36
    go_wp2_with (first | (go_at_call 107; (refine (nodesOk_calls A c ns _ (Kd.C_alloc HR.out _)).mono ?_); rintro e w1 ⟨rfl, hb⟩; rw [H.out]; have HB := Aside0.mk (below_step (below_alloc (Below.refl w.heap.size w) _) hb); have c0 : w1.cell? ⟨w.heap.size, 0, none⟩ = some (.slice A ns.length c) := pw_cell_below hb (by simp); have c1 : w1.cell? ⟨w.heap.size, 1, none⟩ = some (.slice A2 es.length c2) := pw_cell_below hb (by simp); clear hb) | (go_at_call 108; (refine (edgesOk_calls A2 c2 es A c ns _ (Kd.C_below HR2.out HB.out) (Kd.C_below HR.out HB.out) HN.out).mono ?_); rintro e w2 ⟨rfl, hb⟩; have HB2 := Aside0.mk (below_step HB.out hb); clear hb))
    go_ret
    exact ⟨retB (by simp), HB2.out⟩
end Go.Proofs.Ytogmbeifbjgphaa.R
namespace Go.Proofs.Ytogmbeifbjgphaa.R
open Go.RowKit Go.Proofs.YtogmbeifbjgphaaV.PrintWords Go.Proofs.YtogmbeifbjgphaaV.PrintLast Go.Proofs.YtogmbeifbjgphaaV.PrintMore Go.Proofs.Ytogmbeifbjgphaa.M
set_option linter.unusedVariables false
set_option linter.unusedSimpArgs false
attribute [local go_sem high] eqN eqE
section
variable {P : Program} {ops : Array Oper} {Q : Exit → Act → World → Prop} {S : World → Prop} {E : Act → World → Prop} {i : Nat} {r : List (Nat × Bool)} {o : Oper} {v : Value} {a : Act} {w w1 : World}
end
/-- A struct is stored into a block. -/
theorem h_row {P : Program} {ops : Array Oper} {Q : Exit → Act → World → Prop} {S : World → Prop} {E : Act → World → Prop} {i : Nat} {r : List (Nat × Bool)} {o : Oper} {a : Act} {w : World} {ty : TypeId} {x y : Operand} (g : Nat) (cells : Array Value) (t : TypeId) (old : Array Value) (hg : w.heap[g]? = some (.cells old t (0, 0)))
    (ho : ops[i]? = some o) (hw : Region.wanted o (yielded ops a.tmps) = true) (hop : o.op = .store ty x y) (hx : a.eval x = .pointer (some ⟨g, 0, none⟩)) (hy : a.eval y = .agg cells) (hi : (P.info? ty).map (·.size) = some cells.size)
    (hold : old.size = cells.size) (h1 : cells.all (·.oneCell') = true) (hS : S (w.setRow g cells)) (h : ∀ a', a.put o.dst undef = a' → wpH P ops Q S E r a' (w.setRow g cells)) : wpH P ops Q S E ((i, false) :: r) a w :=
  ⟨o, ho, fun K hK => by
    rw [hw, if_pos rfl]
    exact wp_store_row ty x y hop g cells hx hy t old hg hi hold h1 (hK _ _ hS fun _ => h _ rfl)⟩
/-- Rows of nodes, of edges: what is asked of the blocks is asked of the row's own block alone. -/
theorem R_okN {e : TypeId} {w : World} {base : Nat} {ok ok' : Nat → Prop} {v : Value} {xs : List Nd} (h : kN.R e w base ok v xs) (hk : ∀ k, v.ownBlock = some k → ok' k) : kN.R e w base ok' v xs := by
  obtain ⟨h0, inner, ho, hr⟩ := h
  exact ⟨hk, inner, ho, hr.imp_ fun p c hp => kN_KM p c w (kN.K_of_M hp) w base _⟩
theorem R_okE {e : TypeId} {w : World} {base : Nat} {ok ok' : Nat → Prop} {v : Value} {xs : List Eg} (h : kE.R e w base ok v xs) (hk : ∀ k, v.ownBlock = some k → ok' k) : kE.R e w base ok' v xs := by
  obtain ⟨h0, inner, ho, hr⟩ := h
  exact ⟨hk, inner, ho, hr.imp_ fun p c hp => kE_KM p c w (kE.K_of_M hp) w base _⟩
theorem grown_setRow (w : World) (g : Nat) (cs : Array Value) : w.grownBy (w.setRow g cs) (some g) := ⟨rfl, rfl, rfl, by simp, fun k _ hk => setRow_other w g k cs (fun e => hk (by rw [e]))⟩
/-- A row stays where another block, or none, has been written. -/
theorem R_farN {e : TypeId} {w w1 : World} {base : Nat} {ok : Nat → Prop} {v : Value} {xs : List Nd} (h : kN.R e w base ok v xs) {row : Option Nat} (hg : w.grownBy w1 row) (hk : ∀ k, v.ownBlock = some k → some k ≠ row) : kN.R e w1 base ok v xs :=
  Kd.R_mono (Kd.R_grown (R_okN h (ok' := fun k => ok k ∧ some k ≠ row) fun k hv => ⟨h.1 k hv, hk k hv⟩) hg fun _ h => h.2) fun _ h => h.1
theorem R_farE {e : TypeId} {w w1 : World} {base : Nat} {ok : Nat → Prop} {v : Value} {xs : List Eg} (h : kE.R e w base ok v xs) {row : Option Nat} (hg : w.grownBy w1 row) (hk : ∀ k, v.ownBlock = some k → some k ≠ row) : kE.R e w1 base ok v xs :=
  Kd.R_mono (Kd.R_grown (R_okE h (ok' := fun k => ok k ∧ some k ≠ row) fun k hv => ⟨h.1 k hv, hk k hv⟩) hg fun _ h => h.2) fun _ h => h.1
/-- No block is both rows'. -/
def Off (u v : Value) : Prop := ∀ k, u.ownBlock = some k → v.ownBlock ≠ some k
end Go.Proofs.Ytogmbeifbjgphaa.R
namespace Go.Proofs.Ytogmbeifbjgphaa.R
open Go.RowKit Go.Proofs.YtogmbeifbjgphaaV.PrintWords Go.Proofs.YtogmbeifbjgphaaV.PrintLast Go.Proofs.YtogmbeifbjgphaaV.PrintMore Go.Proofs.Ytogmbeifbjgphaa.M
set_option linter.unusedVariables false
set_option linter.unusedSimpArgs false
/-- A kind whose cells tell no addresses. -/
def Flat {α : Type} (d : Kd α) : Prop := 0 < d.sz ∧ ∀ (x : α) (c : List Value) (W : World), d.K W x c → ∀ (W' : World) (base : Nat) (ok' : Nat → Prop), d.M W' base ok' x c
theorem flatN : Flat kN := ⟨by decide, fun x c W h W' base ok' => kN_KM x c W h W' base ok'⟩
theorem flatE : Flat kE := ⟨by decide, fun x c W h W' base ok' => kE_KM x c W h W' base ok'⟩
section
variable {α : Type} {d : Kd α}
theorem flat_R (hf : Flat d) {w W : World} {base n : Nat} {e : TypeId} {v : Value} {xs : List α} {cs : List Value} (hown : w.ownsRow base e d.sz v n cs) (hr : Reps (d.K W) d.sz xs cs) (hn : xs.length = n) : d.R e w base (fun _ => True) v xs :=
  ⟨fun _ _ => trivial, cs, by subst hn; exact hown, hr.imp_ fun p c hp => hf.2 p c W hp _ _ _⟩
variable {P : Program} {ops : Array Oper} {rest : List Oper} {o : Oper} {a : Act} {Q : Exit → Act → World → Prop}
end
end Go.Proofs.Ytogmbeifbjgphaa.R
namespace Go.Proofs.Ytogmbeifbjgphaa.R
open Go.RowKit Go.Proofs.YtogmbeifbjgphaaV.PrintWords Go.Proofs.YtogmbeifbjgphaaV.PrintLast Go.Proofs.YtogmbeifbjgphaaV.PrintMore Go.Proofs.Ytogmbeifbjgphaa.M
set_option linter.unusedVariables false
set_option linter.unusedSimpArgs false
section
variable {α : Type} {d : Kd α} {P : Program} {ops : Array Oper} {rest : List Oper} {o : Oper} {a : Act} {Q : Exit → Act → World → Prop}
/-- A row, opened. -/
theorem flat_open {w : World} {base g n c : Nat} {e : TypeId} {ok : Nat → Prop} {xs : List α} (hpos : 0 < d.sz) (h : d.R e w base ok (.slice (some ⟨g, 0, none⟩) n c) xs) :
    ∃ cs cur, xs.length = n ∧ Reps (d.K w) d.sz xs cs ∧ cs.length = n * d.sz ∧ base ≤ g ∧ w.heap[g]? = some (.cells cur e (0, 0)) ∧ n ≤ c ∧ c ≤ maxLen ∧ cur.size = c * d.sz ∧ cur.toList.take (n * d.sz) = cs := by
  obtain ⟨h0, cs, hown, hr⟩ := h
  have hK : Reps (d.K w) d.sz xs cs := hr.imp_ fun p c hp => d.K_of_M hp
  rcases hown.2 with ⟨hv, _⟩ | ⟨g', cap, cur, hv, hb, hh, hnc, hcm, hcs, ht⟩
  · cases hv
  · injection hv with ha hn hc
    injection ha with ha
    injection ha with hg
    subst hg; subst hc
    rw [← hn] at hnc ht
    refine ⟨cs, cur, hn.symm, hK, by rw [hr.1, hn], hb, hh, hnc, hcm, hcs, ht⟩
theorem flat_close (hf : Flat d) {w W : World} {base g n c : Nat} {e : TypeId} {xs : List α} {cs : List Value} {cur : Array Value} (hr : Reps (d.K W) d.sz xs cs) (hn : xs.length = n) (hb : base ≤ g) (hh : w.heap[g]? = some (.cells cur e (0, 0))) (hnc : n ≤ c) (hcm : c ≤ maxLen) (hcs : cur.size = c * d.sz) (ht : cur.toList.take (n * d.sz) = cs) :
    d.R e w base (fun _ => True) (.slice (some ⟨g, 0, none⟩) n c) xs :=
  flat_R hf ⟨by rw [hr.1, hn], .inr ⟨g, c, cur, rfl, hb, hh, hnc, hcm, hcs, ht⟩⟩ hr hn
theorem clear_tail (hf : Flat d) {W : World} {base g n c : Nat} {e : TypeId} {ok : Nat → Prop} {xs : List α} (hgd : o.guard = none) (s : Operand) (t : TypeId) (ho : o.op = .call { callee := .builtin .clear, args := #[s], argTypes := #[t] })
    (ht : P.underlying t = some (.slice e)) (z : Value) (bytes : Nat) (hinfo : (P.info? e).map (fun i => (i.zero, i.size, i.bytes)) = some (some z, d.sz, bytes)) (hz : z.cells.size = d.sz) (h1 : ∀ m, ∀ u ∈ (Builtin.zeroCells z.cells m).toList, u.oneCell' = true)
    {off m c2 : Nat} (hs : a.eval s = .slice (some ⟨g, off, none⟩) m c2) (hoff : off = n * d.sz) (HO : d.R e W base ok (.slice (some ⟨g, 0, none⟩) n c) xs) (hm : 0 < m) (hfit : n + m ≤ c)
    (h : ∀ w1, d.R e w1 base (fun _ => True) (.slice (some ⟨g, 0, none⟩) n c) xs → W.grownBy w1 (some g) → wpList P ops Q rest (a.put o.dst (.tuple #[])) w1) : wpList P ops Q (o :: rest) a W := by
  obtain ⟨cs, cur, hn, hr, hcl, hb, hh, hnc, hcm, hcs, htk⟩ := flat_open hf.1 HO
  obtain ⟨i0, hi, hzz⟩ := Option.map_eq_some_iff.1 hinfo
  simp only [Prod.mk.injEq] at hzz
  obtain ⟨hz0, hz1, hz2⟩ := hzz
  subst hoff
  have hzl : (Builtin.zeroCells z.cells m).toList.length = m * d.sz := by rw [Array.length_toList, size_zeroCells, hz]
  have hle : n * d.sz + m * d.sz ≤ c * d.sz := by rw [← Nat.add_mul]; exact Nat.mul_le_mul_right _ hfit
  have hct : cur.toList.length = c * d.sz := by rw [Array.length_toList, hcs]
  have hst := run_storeCells_at P g (n * d.sz) e (Builtin.zeroCells z.cells m).toList 0 cur W hh (by rw [hzl]; omega) (h1 m)
  simp only [Nat.add_zero] at hst
  have hrun : (Builtin.clear_ #[t] o.type #[.slice (some ⟨g, n * d.sz, none⟩) m c2]).run P W = .ok (.tuple #[]) (W.setRow g (splice cur.toList (n * d.sz) (Builtin.zeroCells z.cells m).toList).toArray) := by
    obtain ⟨m', rfl⟩ : ∃ m', m = m' + 1 := ⟨m - 1, by omega⟩
    simp [Builtin.clear_, run_underlying ht, zeroValue, typeInfo, hi, hz0, hst, splice]
  refine wpList_plain hgd fun K hK => ?_
  unfold Oper.wp execOp
  simp only [ho, resolve, invoke, builtin, Sem.run_bind, Sem.run_pure, Result.andThen_ok, List.map_toArray, List.map_cons, List.map_nil, hs, hrun]
  have hsl : (splice cur.toList (n * d.sz) (Builtin.zeroCells z.cells m).toList).length = c * d.sz := by rw [length_splice _ _ _ (by omega), hct]
  refine hK _ _ (h _ (flat_close hf hr hn hb (setRow_heap _ _ _ _ _ _ hh) hnc hcm (by rw [List.size_toArray, hsl]) ?_) (grown_setRow _ _ _))
  show (splice cur.toList (n * d.sz) (Builtin.zeroCells z.cells m).toList).take (n * d.sz) = cs
  rw [← htk]
  unfold splice
  exact List.take_left' (by rw [List.length_take]; omega)
end
end Go.Proofs.Ytogmbeifbjgphaa.R
namespace Go.Proofs.Ytogmbeifbjgphaa.R
open Go.RowKit Go.Proofs.YtogmbeifbjgphaaV.PrintWords Go.Proofs.YtogmbeifbjgphaaV.PrintLast Go.Proofs.YtogmbeifbjgphaaV.PrintMore Go.Proofs.Ytogmbeifbjgphaa.M
set_option linter.unusedVariables false
set_option linter.unusedSimpArgs false
attribute [local go_sem high] eqN eqE
theorem zoneN (m : Nat) : ∀ u ∈ (Builtin.zeroCells (Value.agg #[.int .i64 0, .int .i64 0]).cells m).toList, u.oneCell' = true := Kd.reps_one (R := fun (x : Unit) c => c = (Value.agg #[.int .i64 0, .int .i64 0]).cells.toList) (Kd.reps_zeros (z0 := ()) rfl (by decide) rfl m) (by decide) (fun _ _ hp => by subst hp; decide)
theorem grown_of {w u : World} (h : Below w.heap.size w u) (r : Option Nat) : w.grownBy u r := ⟨h.os, h.tape, h.output, h.size, fun k hk _ => h.block k hk⟩
theorem grown_then {w u v : World} {r : Option Nat} (h : w.grownBy u r) (h' : u.grownBy v r) : w.grownBy v r :=
  ⟨h'.os.trans h.os, h'.tape.trans h.tape, h'.output.trans h.output, Nat.le_trans h.size h'.size, fun k hk hr => (h'.block k (Nat.lt_of_lt_of_le hk h.size) hr).trans (h.block k hk hr)⟩
end Go.Proofs.Ytogmbeifbjgphaa.R
namespace Go.Proofs.Ytogmbeifbjgphaa.R
open Go.RowKit Go.Proofs.YtogmbeifbjgphaaV.PrintWords Go.Proofs.YtogmbeifbjgphaaV.PrintLast Go.Proofs.YtogmbeifbjgphaaV.PrintMore Go.Proofs.Ytogmbeifbjgphaa.M
set_option linter.unusedVariables false
set_option linter.unusedSimpArgs false
attribute [local go_sem high] eqN eqE
/-- Is the node an end of the edge? -/
def endB (n : Nd) (x : Eg) : Bool := decide (x.a = n) || decide (x.b = n)
end Go.Proofs.Ytogmbeifbjgphaa.R
namespace Go.Proofs.Ytogmbeifbjgphaa.R
open Go.RowKit Go.Proofs.YtogmbeifbjgphaaV.PrintWords Go.Proofs.YtogmbeifbjgphaaV.PrintLast Go.Proofs.YtogmbeifbjgphaaV.PrintMore Go.Proofs.Ytogmbeifbjgphaa.M
set_option linter.unusedVariables false
set_option linter.unusedSimpArgs false
attribute [local go_sem high] eqN eqE
section
variable {P : Program} {ops : Array Oper} {rest : List Oper} {o : Oper} {a : Act} {Q : Exit → Act → World → Prop}
end
theorem take_set {β : Type} {l : List β} {i : Nat} {x : β} (h : i < l.length) : (l.set i x).take (i + 1) = l.take i ++ [x] := by
  rw [List.take_add_one, List.take_set_of_le (Nat.le_refl _)]
  simp [h]
theorem take_snoc {l : List Eg} {j : Nat} (h : j < l.length) : l.take (j + 1) = l.take j ++ [eat l j] := by
  rw [List.take_add_one, List.getElem?_eq_getElem h, eat_lt h]
  rfl
theorem cell_grown {w wr : World} {row : Option Nat} {b i : Nat} {v : Value} (h : w.cell? ⟨b, i, none⟩ = some v) (hg : w.grownBy wr row) (hne : some b ≠ row) : wr.cell? ⟨b, i, none⟩ = some v :=
  (World.cell?_of_block (a := ⟨b, i, none⟩) (hg.block b (World.block_lt_of_cell? w _ h) hne)).trans h
end Go.Proofs.Ytogmbeifbjgphaa.R
namespace Go.Proofs.Ytogmbeifbjgphaa.R
open Go.RowKit Go.Proofs.YtogmbeifbjgphaaV.PrintWords Go.Proofs.YtogmbeifbjgphaaV.PrintLast Go.Proofs.YtogmbeifbjgphaaV.PrintMore Go.Proofs.Ytogmbeifbjgphaa.M
set_option linter.unusedVariables false
set_option linter.unusedSimpArgs false
attribute [local go_sem high] eqN eqE
theorem grown_setCell (w : World) (g i : Nat) (v : Value) : w.grownBy (w.setCell ⟨g, i, none⟩ v) (some g) := ⟨rfl, rfl, rfl, by simp, fun k _ hk => Below.heap_setCell w ⟨g, i, none⟩ v k (fun e => hk (by rw [e]))⟩
theorem one_rowN {w : World} {g : Nat} {t : TypeId} {x : Nd} (h : w.heap[g]? = some (.cells #[.int .i64 x.lab, .int .i64 x.num] t (0, 0))) : kN.C w (some ⟨g, 0, none⟩) 1 [x] := by
  refine ⟨rfl, by omega, fun _ => ⟨_, rfl, fun j p hj => ?_⟩⟩
  obtain ⟨rfl, rfl⟩ : j = 0 ∧ x = p := by
    match j, hj with
    | 0, hj => exact ⟨rfl, Option.some.inj hj⟩
  refine ⟨cN x, rfl, kN_mk w x, fun i u hi => ?_⟩
  rw [Nat.zero_mul, Nat.zero_add, add_plain, blk_cell h i]
  simpa using hi
theorem one_rowE {w : World} {g : Nat} {t : TypeId} {x : Eg} (h : w.heap[g]? = some (.cells #[.int .i64 x.lab, .int .i64 x.a.lab, .int .i64 x.a.num, .int .i64 x.b.lab, .int .i64 x.b.num] t (0, 0))) : kE.C w (some ⟨g, 0, none⟩) 1 [x] := by
  refine ⟨rfl, by omega, fun _ => ⟨_, rfl, fun j p hj => ?_⟩⟩
  obtain ⟨rfl, rfl⟩ : j = 0 ∧ x = p := by
    match j, hj with
    | 0, hj => exact ⟨rfl, Option.some.inj hj⟩
  refine ⟨cE x, rfl, kE_mk w x, fun i u hi => ?_⟩
  rw [Nat.zero_mul, Nat.zero_add, add_plain, blk_cell h i]
  simpa using hi
/-- A graph of the call's own: the block that holds its two lists, and the lists, each in its own memory. -/
structure Own (w : World) (base G : Nat) (A : Option Addr) (c : Nat) (ns : List Nd) (B : Option Addr) (d : Nat) (es : List Eg) : Prop where
  blk : w.heap[G]? = some (.cells #[.slice A ns.length c, .slice B es.length d] 26 (0, 0))
  rn : kN.R 28 w base (fun _ => True) (.slice A ns.length c) ns
  re : kE.R 30 w base (fun _ => True) (.slice B es.length d) es
  off : Off (.slice A ns.length c) (.slice B es.length d)
  gn : ∀ k, (Value.slice A ns.length c).ownBlock = some k → k ≠ G
  ge : ∀ k, (Value.slice B es.length d).ownBlock = some k → k ≠ G
  gb : base ≤ G
section
variable {w u : World} {base G : Nat} {A B A' B' : Option Addr} {c d c' d' : Nat} {ns ns' : List Nd} {es es' : List Eg}
theorem Own.below (h : Own w base G A c ns B d es) (hb : Below w.heap.size w u) : Own u base G A c ns B d es := ⟨blk_below h.blk hb, Kd.R_below h.rn hb, Kd.R_below h.re hb, h.off, h.gn, h.ge, h.gb⟩
theorem Own.cN (h : Own w base G A c ns B d es) : kN.C w A ns.length ns := (Kd.R_reads' h.rn).2.2
theorem Own.cE (h : Own w base G A c ns B d es) : kE.C w B es.length es := (Kd.R_reads' h.re).2.2
theorem Own.c0 (h : Own w base G A c ns B d es) : w.cell? ⟨G, 0, none⟩ = some (.slice A ns.length c) := (blk_cell h.blk 0).trans rfl
theorem Own.c1 (h : Own w base G A c ns B d es) : w.cell? ⟨G, 1, none⟩ = some (.slice B es.length d) := (blk_cell h.blk 1).trans rfl
theorem Own.base_le (h : Own w base G A c ns B d es) : base ≤ w.heap.size := by
  have := blk_lt h.blk
  have := h.gb
  omega
end
section
variable {P : Program} {ops : Array Oper} {Q : Exit → Act → World → Prop} {S : World → Prop} {i : Nat} {r : List (Nat × Bool)} {o : Oper} {v : Value} {a : Act} {w : World}
/-- A slice is stored into a cell. -/
theorem wp_cell {K : Act → World → Prop} {ty : TypeId} {x y : Operand} (g k : Nat) (A : Option Addr) (n c : Nat) (hop : o.op = .store ty x y) (hx : a.eval x = .pointer (some ⟨g, k, none⟩)) (hy : a.eval y = .slice A n c) (hc : ∃ u, w.cell? ⟨g, k, none⟩ = some u) (hf : w.frozen? ⟨g, k, none⟩ = false) (hi : (P.info? ty).map (·.size) = some 1)
    (h : K (a.put o.dst undef) (w.setCell ⟨g, k, none⟩ (.slice A n c))) : o.wp P a w K Q := by
  obtain ⟨u, hc⟩ := hc
  have hrun : (execOp a.eval o).run P w = .ok .skip (w.setCell ⟨g, k, none⟩ (.slice A n c)) := by
    simp only [execOp, hop, hx, hy]
    go_simp
    obtain ⟨i0, hi0, hs⟩ := Option.map_eq_some_iff.1 hi
    simp [sizeOf, typeInfo, hi0, hs, hc, hf]
  unfold Oper.wp
  rw [hrun]
  exact h
end
theorem count_snoc {ns : List Nd} {j : Nat} (h : j < ns.length) (a : Int) : ((ns.take (j + 1)).countP fun n => n.lab == a) = ((ns.take j).countP fun n => n.lab == a) + (if (at_ ns j).lab == a then 1 else 0) := by
  rw [List.take_add_one, List.getElem?_eq_getElem h, at_lt h, List.countP_append]
  simp [List.countP_cons]
/-- How it ends; which nodes there are then. -/
def putNC (ns : List Nd) (x : Nd) : Int := if x ∈ ns then 2 else if 5 ≤ (ns.countP fun n => n.lab == x.lab) then 4 else 0
def putNN (ns : List Nd) (x : Nd) : List Nd := if putNC ns x = 0 then ins code ns x else ns
end Go.Proofs.Ytogmbeifbjgphaa.R
namespace Go.Proofs.Ytogmbeifbjgphaa.R
open Go.RowKit Go.Proofs.YtogmbeifbjgphaaV.PrintWords Go.Proofs.YtogmbeifbjgphaaV.PrintLast Go.Proofs.YtogmbeifbjgphaaV.PrintMore Go.Proofs.Ytogmbeifbjgphaa.M
set_option linter.unusedVariables false
set_option linter.unusedSimpArgs false
attribute [local go_sem high] eqN eqE
theorem count_snocE {es : List Eg} {j : Nat} (h : j < es.length) (a : Int) : ((es.take (j + 1)).countP fun n => n.lab == a) = ((es.take j).countP fun n => n.lab == a) + (if (eat es j).lab == a then 1 else 0) := by
  rw [List.take_add_one, List.getElem?_eq_getElem h, eat_lt h, List.countP_append]
  simp [List.countP_cons]
def putEC (ns : List Nd) (es : List Eg) (x : Eg) : Int := if x ∈ es then 2 else if x.a ∈ ns ∧ x.b ∈ ns then (if 7 ≤ (es.countP fun e => e.lab == x.lab) then 4 else 0) else 3
def putEE (ns : List Nd) (es : List Eg) (x : Eg) : List Eg := if putEC ns es x = 0 then ins key es x else es
end Go.Proofs.Ytogmbeifbjgphaa.R
namespace Go.Proofs.Ytogmbeifbjgphaa.R
open Go.RowKit Go.Proofs.YtogmbeifbjgphaaV.PrintWords Go.Proofs.YtogmbeifbjgphaaV.PrintLast Go.Proofs.YtogmbeifbjgphaaV.PrintMore Go.Proofs.Ytogmbeifbjgphaa.M
set_option linter.unusedVariables false
set_option linter.unusedSimpArgs false
attribute [local go_sem high] eqN eqE
theorem own_addrN {e : TypeId} {w : World} {base n c : Nat} {ok : Nat → Prop} {A : Option Addr} {xs : List Nd} (h : kN.R e w base ok (.slice A n c) xs) (hn : 0 < n) : ∃ g, A = some ⟨g, 0, none⟩ := by
  obtain ⟨h0, cs, hown, hr⟩ := h
  rcases hown.2 with ⟨hv, _⟩ | ⟨g', cap, cur, hv, -⟩
  · injection hv with _ hn' _
    omega
  · injection hv with ha _ _
    exact ⟨g', ha⟩
theorem own_len (A : Option Addr) (n m c : Nat) : (Value.slice A n c).ownBlock = (Value.slice A m c).ownBlock := by cases A <;> rfl
section
variable {w w2 : World} {base G g : Nat} {A B : Option Addr} {c d m : Nat} {ns ns2 : List Nd} {es es2 : List Eg}
theorem Own.blkN (h : Own w base G A c ns B d es) (hg : w.grownBy w2 (Value.slice A ns.length c).ownBlock) : w2.heap[G]? = some (.cells #[.slice A ns.length c, .slice B es.length d] 26 (0, 0)) := (hg.block G (blk_lt h.blk) (fun e => h.gn G e.symm rfl)).trans h.blk
theorem Own.blkE (h : Own w base G A c ns B d es) (hg : w.grownBy w2 (Value.slice B es.length d).ownBlock) : w2.heap[G]? = some (.cells #[.slice A ns.length c, .slice B es.length d] 26 (0, 0)) := (hg.block G (blk_lt h.blk) (fun e => h.ge G e.symm rfl)).trans h.blk
end
def takeNC (ns : List Nd) (x : Nd) : Int := if x ∈ ns then 0 else 3
def takeNN (ns : List Nd) (x : Nd) : List Nd := if x ∈ ns then ns.filter (fun n => decide (n ≠ x)) else ns
def takeNE (ns : List Nd) (es : List Eg) (x : Nd) : List Eg := if x ∈ ns then es.filter (fun e => !endB x e) else es
def takeEC (es : List Eg) (x : Eg) : Int := if x ∈ es then 0 else 3
def takeEE (es : List Eg) (x : Eg) : List Eg := if x ∈ es then es.filter (fun e => decide (e ≠ x)) else es
end Go.Proofs.Ytogmbeifbjgphaa.R
namespace Go.Proofs.Ytogmbeifbjgphaa.R
open Go.RowKit Go.Proofs.YtogmbeifbjgphaaV.PrintWords Go.Proofs.YtogmbeifbjgphaaV.PrintLast Go.Proofs.YtogmbeifbjgphaaV.PrintMore Go.Proofs.Ytogmbeifbjgphaa.M
set_option linter.unusedVariables false
set_option linter.unusedSimpArgs false
theorem do1 {ns : List Nd} {es : List Eg} {n : Nd} {x : Eg} (h : okG ns es = true) (hl : 0 ≤ opLabel ⟨1, n, x⟩) : doN ns es ⟨1, n, x⟩ = putNN ns n ∧ doE ns es ⟨1, n, x⟩ = es ∧ doC ns es ⟨1, n, x⟩ = putNC ns n := by
  have he : endOf ns es ⟨1, n, x⟩ = putNC ns n := by simp [endOf, putNC]
  refine ⟨?_, ?_, ?_⟩
  · unfold doN putNN
    rw [if_pos h, he]
    by_cases h0 : putNC ns n = 0
    · rw [if_pos ⟨hl, h0⟩, if_pos h0]
      simp [nodesAfter]
    · rw [if_neg (fun h => h0 h.2), if_neg h0]
  · unfold doE
    rw [if_pos h]
    split
    · simp [edgesAfter]
    · rfl
  · unfold doC
    rw [if_pos h, if_pos hl, he]
theorem do2 {ns : List Nd} {es : List Eg} {n : Nd} {x : Eg} (h : okG ns es = true) (hl : 0 ≤ opLabel ⟨2, n, x⟩) : doN ns es ⟨2, n, x⟩ = ns ∧ doE ns es ⟨2, n, x⟩ = putEE ns es x ∧ doC ns es ⟨2, n, x⟩ = putEC ns es x := by
  have he : endOf ns es ⟨2, n, x⟩ = putEC ns es x := by simp [endOf, putEC]
  refine ⟨?_, ?_, ?_⟩
  · unfold doN
    rw [if_pos h]
    split
    · simp [nodesAfter]
    · rfl
  · unfold doE putEE
    rw [if_pos h, he]
    by_cases h0 : putEC ns es x = 0
    · rw [if_pos ⟨hl, h0⟩, if_pos h0]
      simp [edgesAfter]
    · rw [if_neg (fun h => h0 h.2), if_neg h0]
  · unfold doC
    rw [if_pos h, if_pos hl, he]
theorem do3 {ns : List Nd} {es : List Eg} {n : Nd} {x : Eg} (h : okG ns es = true) (hl : 0 ≤ opLabel ⟨3, n, x⟩) : doN ns es ⟨3, n, x⟩ = ns ∧ doE ns es ⟨3, n, x⟩ = takeEE es x ∧ doC ns es ⟨3, n, x⟩ = takeEC es x := by
  have he : endOf ns es ⟨3, n, x⟩ = takeEC es x := by simp [endOf, takeEC]
  refine ⟨?_, ?_, ?_⟩
  · unfold doN
    rw [if_pos h]
    split
    · simp [nodesAfter]
    · rfl
  · unfold doE takeEE
    rw [if_pos h, he]
    unfold takeEC
    by_cases h0 : x ∈ es
    · rw [if_pos h0, if_pos h0, if_pos ⟨hl, rfl⟩]
      simp [edgesAfter]
    · rw [if_neg h0, if_neg h0, if_neg (fun h => by simp at h)]
  · unfold doC
    rw [if_pos h, if_pos hl, he]
theorem do4 {ns : List Nd} {es : List Eg} {n : Nd} {x : Eg} (h : okG ns es = true) (hl : 0 ≤ opLabel ⟨4, n, x⟩) : doN ns es ⟨4, n, x⟩ = takeNN ns n ∧ doE ns es ⟨4, n, x⟩ = takeNE ns es n ∧ doC ns es ⟨4, n, x⟩ = takeNC ns n := by
  have he : endOf ns es ⟨4, n, x⟩ = takeNC ns n := by simp [endOf, takeNC]
  refine ⟨?_, ?_, ?_⟩
  · unfold doN takeNN
    rw [if_pos h, he]
    unfold takeNC
    by_cases h0 : n ∈ ns
    · rw [if_pos h0, if_pos h0, if_pos ⟨hl, rfl⟩]
      simp [nodesAfter]
    · rw [if_neg h0, if_neg h0, if_neg (fun h => by simp at h)]
  · unfold doE takeNE
    rw [if_pos h, he]
    unfold takeNC
    by_cases h0 : n ∈ ns
    · rw [if_pos h0, if_pos h0, if_pos ⟨hl, rfl⟩]
      simp only [edgesAfter]
      rw [if_neg (by decide), if_neg (by decide), if_pos (by trivial)]
      apply List.filter_congr
      intro e _
      simp [endB]
    · rw [if_neg h0, if_neg h0, if_neg (fun h => by simp at h)]
  · unfold doC
    rw [if_pos h, if_pos hl, he]
theorem do_form {ns : List Nd} {es : List Eg} {op : M.Op} (h : okG ns es = true) (hl : opLabel op < 0) : doN ns es op = ns ∧ doE ns es op = es ∧ doC ns es op = 1 := by
  have : ¬ 0 ≤ opLabel op := by omega
  simp [doN, doE, doC, h, this]
theorem EsOk.len {ns : List Nd} {l : List Eg} (h : EsOk ns l) : l.length ≤ 56 := by
  have key : ∀ m : Nat, m ≤ 8 → (l.countP fun n => decide (n.lab < (m : Int))) ≤ 7 * m := by
    intro m
    induction m with
    | zero =>
      intro _
      rw [List.countP_eq_zero.2]
      · omega
      · intro n hn
        have := (okE_iff.1 (h.ok n hn)).1.1
        simp only [decide_eq_true_eq]
        omega
    | succ m ih =>
      intro hm
      have h1 := ih (by omega)
      have h2 := h.few (m : Int)
      have h3 : (l.countP fun n => decide (n.lab < ((m + 1 : Nat) : Int))) ≤ (l.countP fun n => decide (n.lab < (m : Int))) + (l.countP fun n => n.lab == (m : Int)) := countP_or (fun n hn => by
        simp only [decide_eq_true_eq, beq_iff_eq] at *
        omega) l
      omega
  have h8 := key 8 (Nat.le_refl _)
  rw [List.countP_eq_length.2] at h8
  · omega
  · intro n hn
    have := (okE_iff.1 (h.ok n hn)).1.2
    simp only [decide_eq_true_eq]
    omega
/-- A graph that is read. -/
structure GR (w : World) (A : Option Addr) (c : Nat) (ns : List Nd) (B : Option Addr) (d : Nat) (es : List Eg) : Prop where
  cn : kN.C w A ns.length ns
  ce : kE.C w B es.length es
  hc : ns.length ≤ c
  hd : es.length ≤ d
theorem GR.below {w u : World} {A B : Option Addr} {c d : Nat} {ns : List Nd} {es : List Eg} (h : GR w A c ns B d es) (hb : Below w.heap.size w u) : GR u A c ns B d es := ⟨Kd.C_below h.cn hb, Kd.C_below h.ce hb, h.hc, h.hd⟩
theorem Own.gr {w : World} {base G : Nat} {A B : Option Addr} {c d : Nat} {ns : List Nd} {es : List Eg} (h : Own w base G A c ns B d es) : GR w A c ns B d es := ⟨h.cN, h.cE, (Kd.R_reads' h.rn).2.1, (Kd.R_reads' h.re).2.1⟩
theorem gr_nil (w : World) : GR w none 0 [] none 0 [] := ⟨⟨rfl, by decide, fun h => absurd h (Nat.lt_irrefl 0)⟩, ⟨rfl, by decide, fun h => absurd h (Nat.lt_irrefl 0)⟩, Nat.le_refl _, Nat.le_refl _⟩
end Go.Proofs.Ytogmbeifbjgphaa.R
