/- The pool functions that keep their list behind a pointer (use, PoolUse, PoolAll, and copyList below them) come to what the plain functions useL, hasP, allL tell. PoolAll: of fewer than 2^40 pages. -/
import Derived.Test.YtcobbpghipeoeaaF
import Derived.Test.YtcobbpghipeoeaaC58
import Derived.Test.YtcobbpghipeoeaaCp
import Derived.WalkSpells
import Derived.Deep.RegionWith
namespace Go.Proofs.Ytcobbpghipeoeaa.R
open Go.RowKit Go.Proofs.YtcobbpghipeoeaaV.PrintWords Go.Proofs.YtcobbpghipeoeaaV.PrintLast Go.Proofs.YtcobbpghipeoeaaV.PrintMore
attribute [local go_sem] max2_int min2_int max_two min_two max_three min_three max_four min_four
attribute [local go_sem high] eqA25
set_option linter.unusedVariables false
set_option linter.unusedSimpArgs false

theorem k25_KM (x : S25) (c : List Value) (W : World) (h : k25.K W x c) (W' : World) (base : Nat) (ok' : Nat → Prop) : k25.M W' base ok' x c := by
  obtain rfl := k25_open h
  exact k25_mkM _ _ _ x
set_option maxHeartbeats 800000 in
set_option maxRecDepth 100000 in
theorem copyP_calls (A : Option Addr) (n c : Nat) (l : List S25) (w : World) (hn : n = l.length) (hr : Kd.C k25 w A l.length l) (hc : l.length ≤ c) (hl : l.length ≤ 1099511627776) :
    Calls Try.prog 66 #[.slice A n c] w fun e w' => ∃ v : Value, e = .returned v ∧ Kd.R k25 25 w' w.heap.size (fun _ => True) v l ∧ Below w.heap.size w w' := by
  subst hn
  by_cases h0 : l.length = 0
  · obtain rfl := List.eq_nil_of_length_eq_zero h0
    go_enter Try.func66, Try.ntmps66
    go_wp2
    go_ret
    exact ⟨_, rfl, Kd.R_nil _ _ _ _ _, Below.refl _ _⟩
  · have z1 : ((l.length : Int) == 0) = false := by rw [beq_eq_false_iff_ne]; omega
    have HR := Aside0.mk hr
    have HL := Aside0.mk hl
    have HP := Aside0.mk (Nat.pos_of_ne_zero h0)
    clear hr hc hl h0
    go_enter Try.func66, Try.ntmps66
    go_wp2_with (first | ((with_reducible refine gate_dst (N := 9) rfl ?_); refine Kd.R_make k25 _ 25 rfl (N := 9) rfl 28 _ _ rfl (l.length : Int) rfl rfl Try.underlying28 (.agg #[(.int .i64 0), (.int .i64 0)]) 16 info25 rfl (by decide) (by omega) z25 (ok := fun _ => True) (okp := fun _ => True) (k25_mkM _ _ _ z25) (fun _ hk => hk) trivial (by omega) (by have := HL.out; omega) (Below.refl _ _) (Nat.le_refl _) ?_; intro v1 w1 ho1 hb1 hg1 hn1; clear hg1 hn1; have HO1 := Aside0.mk ho1; have HB1 := Aside0.mk hb1; clear ho1 hb1) | ((with_reducible refine gate_builtin (b := .copy) rfl ?_); refine Cp.R_copy k25 (w0 := w) w.heap.size 25 rfl (.tmp 10) (.tmp 11) 28 28 rfl Try.underlying28 (by kernel_rfl) v1 (List.replicate (l.length : Int).toNat z25) l A c rfl rfl (by simp) HP.out HO1.out (Kd.C_below HR.out HB1.out) (fun x c h W' ok' => k25_KM x c _ h W' _ ok') HB1.out ?_; intro w2 ho2 hb2; have HO2 := Aside0.mk ho2; have HB2 := Aside0.mk hb2; clear ho2 hb2))
    go_ret
    exact ⟨_, rfl, HO2.out, HB2.out⟩

/-- Is it this page? -/
def isP (x p : S25) : Bool := x.f0 == p.f0 && (x.f1 == p.f1)
/-- Is the page in the list? -/
def hasP (l : List S25) (p : S25) : Bool := l.any fun x => isP x p
/-- The page ahead of all others of the list. -/
def accP (l : List S25) (p : S25) : List S25 := p :: l.filter fun x => !isP x p
/-- The list behind a use of the page, where s have room. -/
def useL (s : Int) (l : List S25) (p : S25) : List S25 := (accP l p).take s.toNat
theorem accP_snoc (l : List S25) (x p : S25) : accP (l ++ [x]) p = if isP x p = true then accP l p else accP l p ++ [x] := by
  unfold accP
  rw [List.filter_append]
  cases h : isP x p <;> simp [List.filter_cons, h]
theorem accP_le (l : List S25) (p : S25) : (accP l p).length ≤ l.length + 1 := by
  unfold accP
  have := List.length_filter_le (fun x => !isP x p) l
  simp only [List.length_cons]; omega
theorem take_snoc' (l : List S25) (j : Nat) (h : j < l.length) : l.take (j + 1) = l.take j ++ [rd_T25 l (j : Int)] := by
  rw [List.take_succ_eq_append_getElem h]
  unfold rd_T25
  simp [List.getD_eq_getElem?_getD, List.getElem?_eq_getElem h]
theorem wrap_next {i : Nat} (h : i < 1125899906842624) : wrap64 ((i : Int) + 1) = ((i + 1 : Nat) : Int) := by unfold wrap64; omega
theorem rd_drop (l : List S25) (j : Nat) (h : j < l.length) : l.drop j = rd_T25 l (j : Int) :: l.drop (j + 1) := by
  rw [List.drop_eq_getElem_cons h]
  unfold rd_T25
  simp [List.getD_eq_getElem?_getD, List.getElem?_eq_getElem h]
theorem isP_comm (x p : S25) : (p.f0 == x.f0 && (p.f1 == x.f1)) = isP x p := by
  unfold isP
  rw [Bool.beq_comm (a := p.f0), Bool.beq_comm (a := p.f1)]
theorem index_tells (l : List S25) (p : S25) (hl : l.length ≤ 1099511627776) : ∀ (d j : Nat), j + d = l.length →
    ∃ i : Int, (decide (i ≥ 0) = (l.drop j).any fun x => isP x p) ∧ ∀ k, d < k → impl_Page_67.l0 k l (l.length : Int) (j : Int) p.f0 p.f1 = some i := by
  intro d
  induction d with
  | zero =>
    intro j hj
    refine ⟨-1, by rw [List.drop_of_length_le (by omega)]; rfl, fun k hk => ?_⟩
    obtain ⟨k, rfl⟩ : ∃ m, k = m + 1 := ⟨k - 1, by omega⟩
    simp only [impl_Page_67.l0]
    rw [if_neg (by omega)]
  | succ d ih =>
    intro j hj
    have hlt : j < l.length := by omega
    cases hb : isP (rd_T25 l (j : Int)) p with
    | true =>
      refine ⟨(j : Int), by rw [rd_drop l j hlt, List.any_cons, hb]; simp, fun k hk => ?_⟩
      obtain ⟨k, rfl⟩ : ∃ m, k = m + 1 := ⟨k - 1, by omega⟩
      simp only [impl_Page_67.l0]
      rw [if_pos (by omega), if_pos (by omega), if_pos (by omega), isP_comm, hb, if_pos rfl]
    | false =>
      obtain ⟨i, hi, h⟩ := ih (j + 1) (by omega)
      refine ⟨i, by rw [rd_drop l j hlt, List.any_cons, hb, Bool.false_or]; exact hi, fun k hk => ?_⟩
      obtain ⟨k, rfl⟩ : ∃ m, k = m + 1 := ⟨k - 1, by omega⟩
      simp only [impl_Page_67.l0]
      rw [if_pos (by omega), if_pos (by omega), if_pos (by omega), isP_comm, hb, if_neg (by decide), wrap_next (by omega)]
      exact h k (by omega)
theorem contains_ev (l : List S25) (p : S25) (hl : l.length ≤ 1099511627776) (k : Nat) (hk : l.length < k) : impl_Page_58.f k l p.f0 p.f1 = some (hasP l p) := by
  obtain ⟨i, hi, h⟩ := index_tells l p hl l.length 0 (by omega)
  unfold impl_Page_58.f impl_Page_67.f
  have := h k hk
  rw [Int.natCast_zero] at this
  rw [this, Option.bind_some, hi]
  rfl
theorem contains_tells (l : List S25) (p : S25) (hl : l.length ≤ 1099511627776) : ∃ k, impl_Page_58.f k l p.f0 p.f1 = some (hasP l p) := ⟨_, contains_ev l p hl (l.length + 1) (by omega)⟩
theorem quiet0 {P : Program} {f : FuncId} {args : Array Value} {w : World} {n : Nat} {v : Value}
    (h : Calls P f args (w.drewN n) fun e w' => e = .returned v ∧ Drawn0 (w.drewN n) w') : Calls P f args (w.drewN n) fun e w'' => e = .returned v ∧ ∃ m, w'' = w.drewN m :=
  h.mono fun _ _ ⟨he, ⟨m, hm⟩⟩ => ⟨he, n + m, by rw [hm, World.drewN_drewN]⟩
theorem use_end {g : Nat} {m : Int} {A : Option Addr} {n c : Nat} {w w2 w3 : World} {v3 : Value} {x : List S25} {b : Bool}
    (hg : w.heap[g]? = some (.cells #[.int .i64 m, .slice A n c] 46 (0, 0))) (hb2 : Below w.heap.size w w2) (hs : w.heap.size ≤ w2.heap.size)
    (ho : Kd.R k25 25 w3 w2.heap.size (fun _ => True) v3 x) (hb3 : Below w2.heap.size w2 w3) :
    ∃ v : Value, Ending.returned (.bool b) = .returned (.bool b) ∧ Aside0 ((w3.setCell ⟨g, 1, none⟩ v3).heap[g]? = some (.cells #[.int .i64 m, v] 46 (0, 0))) ∧ Aside0 (Kd.R k25 25 (w3.setCell ⟨g, 1, none⟩ v3) w.heap.size (fun _ => True) v x) ∧ Aside0 (KeepBut w (w3.setCell ⟨g, 1, none⟩ v3) g none) ∧ Aside0 (∀ B, B ≤ g → B ≤ w.heap.size → Below B w (w3.setCell ⟨g, 1, none⟩ v3)) := by
  have hb : Below w.heap.size w w3 := below_step hb2 hb3
  have hg3 := blk_below hg hb
  refine ⟨v3, rfl, ⟨blk_put hg3 1 v3 rfl⟩, ⟨Kd.R_set (Kd.R_lower ho hs) hg3 ?_ 1 v3⟩, ⟨KeepBut.set_ (KeepBut.of_below hb g none) 1 v3⟩, ⟨fun B h1 h2 => (hb.mono h2).setCell h1 _⟩⟩
  intro q hq
  have h25 : q = 25 := by simpa [k25, Kd.iso, Kd.pair, Kd.int, Kd.scalar] using hq
  omega
set_option maxHeartbeats 1600000 in
set_option maxRecDepth 100000 in
theorem use_calls (g : Nat) (s : Int) (A : Option Addr) (c : Nat) (l : List S25) (p : S25) (w : World)
    (hg : w.heap[g]? = some (.cells #[.int .i64 s, .slice A l.length c] 46 (0, 0))) (hr : Kd.C k25 w A l.length l) (hc : l.length ≤ c) (hl : l.length ≤ 1000000000) (hs : 0 ≤ s) :
    Calls Try.prog 65 #[.pointer (some ⟨g, 0, none⟩), .agg #[.int .i64 p.f0, .int .i64 p.f1]] w fun e w' => ∃ v : Value, e = .returned (.bool (hasP l p)) ∧ Aside0 (w'.heap[g]? = some (.cells #[.int .i64 s, v] 46 (0, 0))) ∧ Aside0 (Kd.R k25 25 w' w.heap.size (fun _ => True) v (useL s l p)) ∧ Aside0 (KeepBut w w' g none) ∧ Aside0 (∀ B, B ≤ g → B ≤ w.heap.size → Below B w w') := by
  obtain ⟨kc, hkc⟩ := contains_tells l p (by omega)
  obtain ⟨m, rfl⟩ := Int.eq_ofNat_of_zero_le hs
  have HKC := Aside0.mk hkc
  have HR := Aside0.mk hr
  have HC := Aside0.mk hc
  have HG := Aside0.mk hg
  have HS := Aside0.mk hs
  have hu46 := Try.underlying46
  have hu25 := Try.underlying25
  have hgc0 : w.cell? ⟨g, 0, none⟩ = some (.int .i64 (m : Int)) := (blk_cell hg 0).trans rfl
  have hgc1 : w.cell? ⟨g, 1, none⟩ = some (.slice A l.length c) := (blk_cell hg 1).trans rfl
  have hgl : g < w.heap.size := blk_lt hg
  have hgn : g ≠ w.heap.size := Nat.ne_of_lt hgl
  clear hkc hr hc hg hs
  go_enter Try.func65, Try.ntmps65
  go_wp2_with (fail)
  go_loopw [5, 16] (fun v i wr => ∃ j : Nat, Aside0 (j ≤ l.length) ∧ i = .int .i64 (j : Int) ∧ Aside0 (Kd.R k25 25 wr w.heap.size (fun k => k ≠ w.heap.size) v (accP (l.take j) p)) ∧ Aside0 (wr.heap[w.heap.size]? = some (.cells #[.int .i64 p.f0, .int .i64 p.f1] 25 (0, 0))) ∧ Aside0 (Below w.heap.size w wr)) (fun _ i _ => l.length - (intOf i).toNat)
  case atStart =>
    refine ⟨0, ⟨Nat.zero_le _⟩, rfl, ⟨?_⟩, ⟨?_⟩, ⟨below_alloc (below_alloc (Below.refl _ _) _) _⟩⟩
    · refine ⟨fun k hk => ?_, ?_⟩
      · have : w.heap.size + 1 = k := by simpa [Value.ownBlock] using hk
        omega
      · have h2 := OwnRow.lit (R := k25.M ((w.alloc (.cells #[.int .i64 p.f0, .int .i64 p.f1] 25)).alloc (.cells #[.int .i64 p.f0, .int .i64 p.f1] 25)) w.heap.size (fun k => k ≠ w.heap.size ∧ some k ≠ (Value.slice (some ⟨w.heap.size + 1, 0, none⟩) 1 1).ownBlock)) (e := 25) (size := 2) (w.alloc (.cells #[.int .i64 p.f0, .int .i64 p.f1] 25)) w.heap.size (ps := [p]) (inner := [.int .i64 p.f0, .int .i64 p.f1]) (Reps.c2 (k25_mkM _ _ _ p) (Reps.none _ _)) (by simp) (by simp)
        have h3 : (2 : Nat) = k25.sz := rfl
        rw [h3] at h2
        simpa [accP] using h2
    · exact blk_alloc (blk_new _ _) _
  case round =>
    obtain ⟨j, HJ, rfl, HO, HP, HB⟩ := hrel
    by_cases hlt : j < l.length
    · obtain ⟨ad, e1, hx0, hx1⟩ := at_T25 HR.out (j : Int) (by omega) (by omega)
      cases e1
      rw [Int.toNat_natCast] at hx0 hx1
      replace hx0 := (HB.out.cell (World.block_lt_of_cell? w _ hx0)).trans hx0
      replace hx1 := (HB.out.cell (World.block_lt_of_cell? w _ hx1)).trans hx1
      have hp0 : wr.cell? ⟨w.heap.size, 0, none⟩ = some (.int .i64 p.f0) := (blk_cell HP.out 0).trans rfl
      have hp1 : wr.cell? ⟨w.heap.size, 1, none⟩ = some (.int .i64 p.f1) := (blk_cell HP.out 1).trans rfl
      have hpl : w.heap.size < wr.heap.size := blk_lt HP.out
      cases hb : isP (rd_T25 l (j : Int)) p
      · have hne : (!((rd_T25 l (j : Int)).f0 == p.f0) || !((rd_T25 l (j : Int)).f1 == p.f1)) = true := by unfold isP at hb; cases h1 : ((rd_T25 l (j : Int)).f0 == p.f0) <;> simp_all
        have HBn := Aside0.mk hb
        clear hb
        have hle := accP_le (l.take j) p
        have hlt2 := List.length_take_le j l
        go_wp2_with (first | ((with_reducible refine gate_builtin (b := .append) (xs := #[.tmp 23, .tmp 25]) rfl ?_); at_builtin; go_must (refine Kd.R_append k25 (w0 := w) w.heap.size rfl (.tmp 23) (.tmp 25) 28 25 (.agg #[(.int .i64 0), (.int .i64 0)]) 16 rfl Try.underlying28 info25 rfl (by decide) (by omega) u5 (accP (l.take j) p) (rd_T25 l (j : Int)) [.int .i64 ((rd_T25 l (j : Int)).f0), .int .i64 ((rd_T25 l (j : Int)).f1)] (fun k => k ≠ w.heap.size) (fun _ => False) rfl ?aX ?aP (fun _ hk => hk.elim) ?aF ?aO ?aB ?aS ?aL ?_); (case aX => first | rfl | (simp [Act.eval]; done) | (go_simp; done)); (case aP => exact k25_mkM _ _ _ (rd_T25 l (j : Int))); (case aB => exact below_alloc HB.out _); (case aF => intro k hk; show k ≠ w.heap.size; simp only [World.size_alloc] at hk; omega); (case aO => exact Kd.R_alloc HO.out _); (case aS => exact below_size (below_alloc HB.out _)); (case aL => omega); intro v2 w2 ho hb hg hat; have HO2 := Aside0.mk ho; have HB2 := Aside0.mk hb; have HP2 := Aside0.mk (blk_grown (blk_alloc HP.out _) hg (fun e_ => (HO.out.1 _ e_.symm) rfl)); clear ho hb hg hat))
        go_roundw
        case rel => exact ⟨j + 1, ⟨by omega⟩, by go_num, ⟨by rw [take_snoc' l j hlt, accP_snoc, if_neg (by rw [HBn.out]; decide)]; exact HO2.out⟩, HP2, HB2⟩
        case measure => simp [intOf]; omega
      · have hne : (!((rd_T25 l (j : Int)).f0 == p.f0) || !((rd_T25 l (j : Int)).f1 == p.f1)) = false := by unfold isP at hb; cases h1 : ((rd_T25 l (j : Int)).f0 == p.f0) <;> simp_all
        have HBn := Aside0.mk hb
        clear hb
        go_wp2_with (fail)
        go_roundw
        case rel => exact ⟨j + 1, ⟨by omega⟩, by go_num, ⟨by rw [take_snoc' l j hlt, accP_snoc, if_pos HBn.out]; exact Kd.R_alloc HO.out _⟩, ⟨blk_alloc HP.out _⟩, ⟨below_alloc HB.out _⟩⟩
        case measure => simp [intOf]; omega
    · have hjl : j = l.length := by have := HJ.out; omega
      subst hjl
      rw [List.take_length] at HO
      obtain ⟨A5, c5, rfl, hl5, hC5⟩ := Kd.R_reads HO.out
      have hgr0 : wr.cell? ⟨g, 0, none⟩ = some (.int .i64 (m : Int)) := (HB.out.cell (World.block_lt_of_cell? w _ hgc0)).trans hgc0
      have hgr1 : wr.cell? ⟨g, 1, none⟩ = some (.slice A l.length c) := (HB.out.cell (World.block_lt_of_cell? w _ hgc1)).trans hgc1
      have hp0 : wr.cell? ⟨w.heap.size, 0, none⟩ = some (.int .i64 p.f0) := (blk_cell HP.out 0).trans rfl
      have hp1 : wr.cell? ⟨w.heap.size, 1, none⟩ = some (.int .i64 p.f1) := (blk_cell HP.out 1).trans rfl
      clear hgc0 hgc1
      go_wp2_with (fail)
      go_region_with (go_at_call 58; refine (impl_Page_58.calls kc A c l p.f0 p.f1 (hasP l p) _ (Kd.C_drewN (Kd.C_below HR.out HB.out) _) HC.out HKC.out).mono ?_; rintro e w2 ⟨rfl, hb2⟩; have hgs0 : w2.cell? ⟨g, 0, none⟩ = some (.int .i64 (m : Int)) := (hb2.cell (World.block_lt_of_cell? wr _ hgr0)).trans hgr0; have hgs1 : w2.cell? ⟨g, 1, none⟩ = some (.slice A l.length c) := (hb2.cell (World.block_lt_of_cell? wr _ hgr1)).trans hgr1; have HB2 := Aside0.mk (below_step HB.out (show Below wr.heap.size wr w2 from ⟨hb2.os, hb2.tape, hb2.output, hb2.size, hb2.block⟩)); have HBg := Aside0.mk (show Below wr.heap.size wr w2 from ⟨hb2.os, hb2.tape, hb2.output, hb2.size, hb2.block⟩); clear hb2)
      all_goals
        have HLE := Aside0.mk (accP_le l p)
        have HOs := Aside0.mk (Kd.R_below HO.out HBg.out)
        have hgz := Aside0.mk (blk_below HG.out HB2.out)
        have hsz := Aside0.mk HB2.out.size
        by_cases hsl : m < (accP l p).length
        · have hmc : m ≤ c5 := by omega
          go_wp2_with (first | (go_at_call 66; go_must (refine (copyP_calls A5 m c5 ((accP l p).take m) _ (by rw [List.length_take]; omega) (Kd.R_reads' (Kd.R_take (m := m) HOs.out (by omega))).2.2 (by rw [List.length_take]; omega) (by have := HLE.out; rw [List.length_take]; omega)).mono ?_); rintro e w3 ⟨v3, rfl, ho3, hb3⟩; obtain ⟨A6, c6, rfl, _, _⟩ := Kd.R_reads ho3; have hz0 : w3.frozen? ⟨g, 1, none⟩ = false := blk_frozen (blk_below hgz.out hb3) 1; have hz1 : w3.cell? ⟨g, 1, none⟩ = some (.slice A l.length c) := (blk_cell (blk_below hgz.out hb3) 1).trans rfl; have HO3 := Aside0.mk ho3; have HB3 := Aside0.mk hb3; clear ho3 hb3))
          go_ret
          exact use_end HG.out HB2.out hsz.out (show Kd.R k25 25 w3 w2.heap.size (fun _ => True) _ (useL m l p) from by have z_ := HO3.out; rw [List.length_take] at z_; exact z_) HB3.out
        · have hmc : (accP l p).length ≤ m := by omega
          go_wp2_with (first | (go_at_call 66; go_must (refine (copyP_calls A5 _ c5 (accP l p) _ rfl (Kd.R_reads' HOs.out).2.2 (by omega) (by have := HLE.out; omega)).mono ?_); rintro e w3 ⟨v3, rfl, ho3, hb3⟩; obtain ⟨A6, c6, rfl, _, _⟩ := Kd.R_reads ho3; have hz0 : w3.frozen? ⟨g, 1, none⟩ = false := blk_frozen (blk_below hgz.out hb3) 1; have hz1 : w3.cell? ⟨g, 1, none⟩ = some (.slice A l.length c) := (blk_cell (blk_below hgz.out hb3) 1).trans rfl; have HO3 := Aside0.mk ho3; have HB3 := Aside0.mk hb3; clear ho3 hb3))
          go_ret
          exact use_end HG.out HB2.out hsz.out (show Kd.R k25 25 w3 w2.heap.size (fun _ => True) _ (useL m l p) from by unfold useL; rw [List.take_of_length_le (by simpa using hmc)]; exact HO3.out) HB3.out
end Go.Proofs.Ytcobbpghipeoeaa.R
