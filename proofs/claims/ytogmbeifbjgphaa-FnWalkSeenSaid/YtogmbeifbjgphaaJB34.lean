/- impl.peel: takes away what has few near that stay; impl.WalkCore. -/
import Derived.Test.YtogmbeifbjgphaaJB33
namespace Go.Proofs.Ytogmbeifbjgphaa.R
open Go.RowKit Go.Proofs.YtogmbeifbjgphaaV.PrintWords Go.Proofs.YtogmbeifbjgphaaV.PrintLast Go.Proofs.YtogmbeifbjgphaaV.PrintMore Go.Proofs.Ytogmbeifbjgphaa.M
set_option linter.unusedVariables false
set_option linter.unusedSimpArgs false
attribute [local go_sem high] eqN eqE
def flag : Value → Nat
  | .bool true => 1
  | _ => 0
def isT : Value → Bool
  | .bool b => b
  | _ => false
/-- How many of a row stay. -/
def trues (w : World) (g : Nat) : Nat :=
  match w.heap[g]? with
  | some (.cells cs _ _) => cs.toList.countP isT
  | _ => 0
theorem trues_eq {t : TypeId} {w : World} {g : Nat} {l : List Bool} (h : Rw Value.bool t w g l) : trues w g = l.countP id := by
  unfold trues
  rw [show w.heap[g]? = _ from h]
  simp only [List.countP_map]
  rfl
theorem cnt_set : ∀ {l : List Bool} {j : Nat}, gb l j = true → (l.set j false).countP id + 1 = l.countP id
  | [], j, h => by simp [gb] at h
  | b :: l, 0, h => by
    have h1 : b = true := by simpa [gb] using h
    subst h1
    simp
  | b :: l, j + 1, h => by
    have := cnt_set (l := l) (j := j) (by simpa [gb] using h)
    simp only [List.set_cons_succ, List.countP_cons]
    omega
/-- Those ahead of j that stay have k or more near them. -/
def Quiet (adj : Nat → Nat → Bool) (n k j : Nat) (l : List Bool) : Prop := ∀ i, i < j → gb l i = true → k ≤ degS adj n (gb l) i
theorem Quiet.next {adj : Nat → Nat → Bool} {n k j : Nat} {l : List Bool} (h : Quiet adj n k j l) (hx : gb l j = true → k ≤ degS adj n (gb l) j) : Quiet adj n k (j + 1) l := fun i hi ht => by
  rcases Nat.lt_or_eq_of_le (Nat.le_of_lt_succ hi) with h1 | h1
  · exact h i h1 ht
  · subst h1
    exact hx ht
section
variable {P : Program} {o : Oper} {Q : Exit → Act → World → Prop} {a : Act} {w : World}
theorem wp_cellB {K : Act → World → Prop} {ty : TypeId} {x y : Operand} (g j : Nat) (b : Bool) (hop : o.op = .store ty x y) (hx : a.eval x = .pointer (some ⟨g, j, none⟩)) (hy : a.eval y = .bool b) (hc : ∃ u, w.cell? ⟨g, j, none⟩ = some u) (hf : w.frozen? ⟨g, j, none⟩ = false) (hi : (P.info? ty).map (·.size) = some 1)
    (h : K (a.put o.dst undef) (w.setCell ⟨g, j, none⟩ (.bool b))) : o.wp P a w K Q := by
  obtain ⟨u, hc⟩ := hc
  have hrun : (execOp a.eval o).run P w = .ok .skip (w.setCell ⟨g, j, none⟩ (.bool b)) := by
    simp only [execOp, hop, hx, hy]
    go_simp
    obtain ⟨i0, hi0, hs⟩ := Option.map_eq_some_iff.1 hi
    simp [sizeOf, typeInfo, hi0, hs, hc, hf]
  unfold Oper.wp
  rw [hrun]
  exact h
end
theorem countStays_as (q : List Nat) (n g : Nat) (l : List Bool) (cd : Nat) (A : Option Addr) (c : Nat) (w : World) (hq : (Kd.int .i64).C w A (zs q).length (zs q)) (hr : Rw Value.bool 4 w g l) (hl : l.length = n) (hn : ∀ v ∈ q, v < n) (h1 : q.length ≤ 1000) (hc : q.countP (gb l) = cd) :
    Calls Try.prog 190 #[.slice A (zs q).length c, .slice (some ⟨g, 0, none⟩) n n] w fun e w' => e = .returned (.int .i64 (cd : Int)) ∧ Below w.heap.size w w' := by
  rw [← hc]
  exact countStays_calls q n g l A c w hq hr hl hn h1
theorem gb_get {l : List Bool} {k : Nat} (h : k < l.length) : gb l k = l[k] := by simp [gb, List.getD_eq_getElem?_getD, h]
theorem take_snB {l : List Bool} {k : Nat} (h : k < l.length) : l.take (k + 1) = l.take k ++ [gb l k] := by rw [List.take_succ_eq_append_getElem h, gb_get h]
set_option maxHeartbeats 3200000 in
set_option maxRecDepth 100000 in
theorem idxBool_calls (g n : Nat) (l : List Bool) (w : World) (hx : Rw Value.bool 4 w g l) (hl : l.length = n) (h1 : n ≤ 1000) :
    Calls Try.prog 220 #[.slice (some ⟨g, 0, none⟩) n n, .bool true] w fun e w' => (∃ r : Int, e = .returned (.int .i64 r) ∧ (0 ≤ r ↔ true ∈ l)) ∧ Below w.heap.size w w' := by
  have HX := Aside0.mk hx
  have HL := Aside0.mk hl
  have H1 := Aside0.mk h1
  have HB := Aside0.mk (Below.refl w.heap.size w)
  clear hx hl h1
  go_enter Try.func220, Try.ntmps220
  go_wp2_with (fail)
  go_loopw [5, 8] (fun _ s8 wr => ∃ k : Nat, k ≤ n ∧ s8 = .int .i64 (k : Int) ∧ true ∉ l.take k ∧ Below w.heap.size w wr) (fun _ s8 _ => (n - intOf s8).toNat)
  case atStart => exact ⟨0, Nat.zero_le _, rfl, by simp, HB.out⟩
  case round =>
    clear HB
    obtain ⟨k, hk_, rfl, hn_, hb_⟩ := hrel
    have HK := Aside0.mk hk_
    have HN := Aside0.mk hn_
    have HB := Aside0.mk hb_
    clear hk_ hn_ hb_
    by_cases hlt : k < n
    · have hkl : (k : Int) < (n : Int) := by omega
      have hk1 : (k : Int) < 1000 := by have := H1.out; omega
      have HKT := Aside0.mk hlt
      have hkk : k < l.length := by have := HL.out; omega
      have HTK := Aside0.mk (take_snB hkk)
      have HIN := Aside0.mk (show gb l k ∈ l by rw [gb_get hkk]; exact List.getElem_mem hkk)
      have r0 := pw_cell_below HB.out (gb_at HX.out (v := k) hkk)
      obtain ⟨y, hy⟩ : ∃ y, gb l k = y := ⟨_, rfl⟩
      rw [hy] at r0 HTK HIN
      clear hlt hy hkk
      cases y
      · go_wp2_with (fail)
        go_roundw
        case rel => exact ⟨k + 1, HKT.out, by go_num, by rw [HTK.out, List.mem_append, List.mem_singleton]; exact fun h => h.elim HN.out (by intro h; cases h), HB.out⟩
        case measure => have := HKT.out; simp [intOf]; omega
      · go_wp2_with (fail)
        go_ret
        exact ⟨⟨(k : Int), rfl, fun _ => HIN.out, fun _ => by omega⟩, HB.out⟩
    · have hkl : ¬ (k : Int) < (n : Int) := by omega
      have HM := Aside0.mk (show true ∉ l by rw [← List.take_of_length_le (show l.length ≤ k by have := HL.out; omega)]; exact HN.out)
      clear hlt
      go_wp2_with (fail)
      go_ret
      exact ⟨⟨-1, rfl, fun h => absurd h (by decide), fun h => absurd h HM.out⟩, HB.out⟩
set_option maxHeartbeats 3200000 in
set_option maxRecDepth 100000 in
theorem anyBool_calls (g n : Nat) (l : List Bool) (v : Bool) (w : World) (hx : Rw Value.bool 4 w g l) (hl : l.length = n) (h1 : n ≤ 1000) (hv : decide (true ∈ l) = v) :
    Calls Try.prog 191 #[.slice (some ⟨g, 0, none⟩) n n, .bool true] w fun e w' => e = .returned (.bool v) ∧ Below w.heap.size w w' := by
  have HX := Aside0.mk hx
  have HL := Aside0.mk hl
  have H1 := Aside0.mk h1
  have HV := Aside0.mk hv
  have HB := Aside0.mk (Below.refl w.heap.size w)
  clear hx hl h1 hv
  go_enter Try.func191, Try.ntmps191
  go_wp2_with (first | (go_at_call 220; go_must ((refine (idxBool_calls g n l _ HX.out HL.out H1.out).mono ?_); rintro e u_ ⟨⟨r, rfl, hr2⟩, hb⟩; have HRX := Aside0.mk hr2; replace HB := Aside0.mk (below_step HB.out hb); clear hr2 hb)))
  go_ret
  exact ⟨by
    rw [← HV.out]
    exact congrArg (fun b => Ending.returned (Value.bool b)) (decide_eq_decide.2 HRX.out), HB.out⟩
theorem kcL_len (adj : Nat → Nat → Bool) (n k : Nat) : (kcL adj n k).length = n := by simp [kcL]
def PeO (adj : Nat → Nat → Bool) (n k g : Nat) (W0 w : World) (s7 : Value) (wr : World) : Prop :=
  ∃ (b : Bool) (l : List Bool), s7 = .bool b ∧ Rw Value.bool 4 wr g l ∧ Peel adj n k l ∧ (b = false → Quiet adj n k n l) ∧ w.grownBy wr (some g) ∧ Below W0.heap.size W0 wr
def PeI (adj : Nat → Nat → Bool) (n k g : Nat) (W0 w : World) (lo : List Bool) (s7 s12 : Value) (wr : World) : Prop :=
  ∃ (j : Nat) (b : Bool) (l : List Bool), j ≤ n ∧ s7 = .bool b ∧ s12 = .int .i64 (j : Int) ∧ Rw Value.bool 4 wr g l ∧ Peel adj n k l ∧ (b = false → l = lo ∧ Quiet adj n k j l) ∧ (b = true → l.countP id < lo.countP id) ∧ l.countP id ≤ lo.countP id ∧ w.grownBy wr (some g) ∧ Below W0.heap.size W0 wr
set_option maxHeartbeats 12800000 in
set_option maxRecDepth 100000 in
theorem peel_calls (adj : Nat → Nat → Bool) (n k g : Nat) (l : List Bool) (v : Bool) (adN : Addr) (c : Nat) (W0 w : World) (hL : (Kd.slice 3 (Kd.int .i64)).C W0 (some adN) n ((List.range n).map (nearZ adj n))) (hB : Below W0.heap.size W0 w) (hr : Rw Value.bool 4 w g l) (hg : W0.heap.size ≤ g) (hn : n ≤ 1000) (hk : k ≤ 1000) (hp : Peel adj n k l) (hv : decide (true ∈ kcL adj n k) = v) :
    Calls Try.prog 136 #[.slice (some adN) n c, .slice (some ⟨g, 0, none⟩) n n, .int .i64 (k : Int)] w fun e w' => e = .returned (.bool v) ∧ Rw Value.bool 4 w' g (kcL adj n k) ∧ w.grownBy w' (some g) := by
  have HLL := Aside0.mk hL
  have HB := Aside0.mk hB
  have HR := Aside0.mk hr
  have HG := Aside0.mk hg
  have HN := Aside0.mk hn
  have HP := Aside0.mk hp
  have HV := Aside0.mk hv
  have HGR := Aside0.mk (World.grownBy.refl w (some g))
  have hnn : (n : Int) ≤ 1000 := by omega
  have hkk : (k : Int) ≤ 1000 := by omega
  clear hL hB hr hg hn hk hp hv
  go_enter Try.func136, Try.ntmps136
  go_wp2_with (fail)
  go_loopw [7, 8, 12] (fun s7 _ _ wr => PeO adj n k g W0 w s7 wr) (fun s7 _ _ wr => trues wr g + flag s7)
  case atStart => exact ⟨true, l, rfl, HR.out, HP.out, (by intro h; cases h), HGR.out, HB.out⟩
  case round =>
    clear HB HR HP HGR l
    obtain ⟨b, l, rfl, hr_, hp_, hq_, hgr_, hb_⟩ := hrel
    have HR := Aside0.mk hr_
    have HP := Aside0.mk hp_
    have HGR := Aside0.mk hgr_
    have HB := Aside0.mk hb_
    have HQ := Aside0.mk hq_
    have HT := Aside0.mk (trues_eq hr_)
    clear hr_ hp_ hq_ hgr_ hb_
    cases b
    · obtain rfl := kcL_of HP.out.len (fun v _ => HP.out.done (HQ.out rfl) v)
      clear HT
      go_wp2_with (first | (go_at_call 191; go_must ((refine (anyBool_calls g n (kcL adj n k) v _ HR.out (kcL_len adj n k) (by have := HN.out; omega) HV.out).mono ?_); rintro e u_ ⟨rfl, hb⟩; replace HR := Aside0.mk (HR.out.below hb); replace HGR := Aside0.mk (grown_trans HGR.out (grown_of_below hb (some g))); replace HB := Aside0.mk (below_step HB.out hb); clear hb)))
      go_ret
      exact ⟨rfl, HR.out, HGR.out⟩
    · go_wp2_with (fail)
      go_loopw [7, 8, 12] (fun s7 _ s12 wr => PeI adj n k g W0 w l s7 s12 wr) (fun _ _ s12 _ => (n - intOf s12).toNat)
      case atStart => exact ⟨0, false, l, Nat.zero_le _, rfl, rfl, HR.out, HP.out, fun _ => ⟨rfl, fun i hi => absurd hi (Nat.not_lt_zero _)⟩, (by intro h; cases h), Nat.le_refl _, HGR.out, HB.out⟩
      case round =>
        clear HB HR HP HGR HQ
        have HLO := Aside0.mk (show ∃ x, l = x from ⟨_, rfl⟩)
        obtain ⟨j, b, m, hj, rfl, rfl, hr_, hp_, hf_, ht_, hc_, hgr_, hb_⟩ := hrel
        have HJ := Aside0.mk hj
        have HR := Aside0.mk hr_
        have HP := Aside0.mk hp_
        have HF := Aside0.mk hf_
        have HC := Aside0.mk ht_
        have HCL := Aside0.mk hc_
        have HGR := Aside0.mk hgr_
        have HB := Aside0.mk hb_
        clear hj hr_ hp_ hf_ ht_ hc_ hgr_ hb_ HLO
        by_cases hlt : j < n
        · have hjn : (j : Int) < (n : Int) := by omega
          have hj1 : (j : Int) < 1000 := by omega
          have HJN := Aside0.mk hlt
          obtain ⟨adM, AR, cR, eM, rM, hRl, hRC⟩ := row_at HLL.out j hlt
          cases eM
          rw [rows_get hlt, nearZ_zs] at rM hRl hRC
          have HRC := Aside0.mk hRC
          have rM := pw_cell_below HB.out rM
          obtain ⟨x, hx⟩ : ∃ x, gb m j = x := ⟨_, rfl⟩
          have k0 := gb_at HR.out (v := j) (by rw [HP.out.len]; exact hlt)
          rw [hx] at k0
          have HX := Aside0.mk hx
          clear hlt hRl hRC hx
          cases x
          · go_wp2_with (fail)
            go_roundw
            case rel => exact ⟨j + 1, b, m, HJN.out, rfl, by go_num, HR.out, HP.out, (fun e => ⟨(HF.out e).1, (HF.out e).2.next (fun h => by rw [HX.out] at h; cases h)⟩), HC.out, HCL.out, HGR.out, HB.out⟩
            case measure => have := HJN.out; simp [intOf]; omega
          · obtain ⟨cd, hcd⟩ : ∃ cd, (nearI adj n j).countP (gb m) = cd := ⟨_, rfl⟩
            have HCD := Aside0.mk hcd
            have HDG := Aside0.mk (show degS adj n (gb m) j = cd by rw [← deg_near, ← hcd])
            clear hcd
            by_cases hck : (cd : Int) < (k : Int)
            · have HST := Aside0.mk (HP.out.strike HJN.out (by have := HDG.out; omega))
              have HCS := Aside0.mk (cnt_set HX.out)
              go_wp2_with (first | (go_at_call 190; go_must ((refine (countStays_as (nearI adj n j) n g m cd AR cR _ (Kd.C_below HRC.out HB.out) HR.out HP.out.len (fun v hv => (nearI_mem.1 hv).1) (by have := nearI_few adj n j; have := HN.out; omega) HCD.out).mono ?_); rintro e u_ ⟨rfl, hb⟩; replace HR := Aside0.mk (HR.out.below hb); replace HGR := Aside0.mk (grown_trans HGR.out (grown_of_below hb (some g))); replace HB := Aside0.mk (below_step HB.out hb); clear hb)) | ((with_reducible refine gate_store (p := 31) rfl ?_); go_must ((refine wpList_plain rfl fun K_ hK_ => wp_cellB g j false rfl rfl rfl (HR.out.has j (by rw [HP.out.len]; exact HJN.out)) (HR.out.frozen _) (by kernel_rfl) (hK_ _ _ ?_)); refine named _ ?_; intro wz hwz; have hg_ : World.grownBy _ wz (some g) := hwz ▸ grown_setCell _ _ _ _; replace HR := Aside0.mk (show Rw Value.bool 4 wz g _ from hwz ▸ HR.out.set j false); replace HGR := Aside0.mk (grown_trans HGR.out hg_); replace HB := Aside0.mk (HB.out.grown hg_ HB.out.size (fun k hk => by have := Option.some.inj hk; have := HG.out; omega)); clear hwz hg_)))
              go_roundw
              case rel => exact ⟨j + 1, true, m.set j false, HJN.out, rfl, by go_num, HR.out, HST.out, (by intro h; cases h), (fun _ => by have := HCS.out; have := HCL.out; omega), (by have := HCS.out; have := HCL.out; omega), HGR.out, HB.out⟩
              case measure => have := HJN.out; simp [intOf]; omega
            · go_wp2_with (first | (go_at_call 190; go_must ((refine (countStays_as (nearI adj n j) n g m cd AR cR _ (Kd.C_below HRC.out HB.out) HR.out HP.out.len (fun v hv => (nearI_mem.1 hv).1) (by have := nearI_few adj n j; have := HN.out; omega) HCD.out).mono ?_); rintro e u_ ⟨rfl, hb⟩; replace HR := Aside0.mk (HR.out.below hb); replace HGR := Aside0.mk (grown_trans HGR.out (grown_of_below hb (some g))); replace HB := Aside0.mk (below_step HB.out hb); clear hb)))
              go_roundw
              case rel => exact ⟨j + 1, b, m, HJN.out, rfl, by go_num, HR.out, HP.out, (fun e => ⟨(HF.out e).1, (HF.out e).2.next (fun _ => by have := HDG.out; omega)⟩), HC.out, HCL.out, HGR.out, HB.out⟩
              case measure => have := HJN.out; simp [intOf]; omega
        · have hjn : ¬ (j : Int) < (n : Int) := by omega
          obtain rfl : j = n := by have := HJ.out; omega
          clear hlt
          go_wp2_with (fail)
          go_roundw
          case rel => exact ⟨b, m, rfl, HR.out, HP.out, (fun e => (HF.out e).2), HGR.out, HB.out⟩
          case measure =>
            show trues _ g + flag (.bool b) < trues _ g + flag (.bool true)
            rw [trues_eq HR.out, HT.out]
            cases b
            · have := HCL.out
              show _ + 0 < _ + 1
              omega
            · have := HC.out rfl
              show _ + 1 < _ + 1
              omega
end Go.Proofs.Ytogmbeifbjgphaa.R
namespace Go.Proofs.Ytogmbeifbjgphaa.R
open Go.RowKit Go.Proofs.YtogmbeifbjgphaaV.PrintWords Go.Proofs.YtogmbeifbjgphaaV.PrintLast Go.Proofs.YtogmbeifbjgphaaV.PrintMore Go.Proofs.Ytogmbeifbjgphaa.M
set_option linter.unusedVariables false
set_option linter.unusedSimpArgs false
attribute [local go_sem high] eqN eqE
theorem filledB {n : Nat} {xs : List Bool} (h1 : xs.length = n) (h2 : ∀ j, j < n → gb xs j = true) : xs = List.replicate n true := by
  apply List.ext_getElem (by simp [h1])
  intro i h3 h4
  have := h2 i (by omega)
  rw [gb_get h3] at this
  simp [this]
theorem kc_gb {adj : Nat → Nat → Bool} {n k v : Nat} (h : v < n) : gb (kcL adj n k) v = kc adj n k v := by
  unfold gb kcL
  simp [List.getD_eq_getElem?_getD, h]
theorem kc_any {adj : Nat → Nat → Bool} {n k : Nat} : true ∈ kcL adj n k ↔ ∃ v, v < n ∧ Kc adj n k v := by
  unfold kcL
  rw [List.mem_map]
  exact ⟨fun ⟨v, h1, h2⟩ => ⟨v, List.mem_range.1 h1, kc_iff.1 h2⟩, fun ⟨v, h1, h2⟩ => ⟨v, List.mem_range.2 h1, kc_iff.2 h2⟩⟩
def WcF (n g6 g7 : Nat) (W1 : World) (s28 : Value) (wr : World) : Prop :=
  ∃ (k : Nat) (xs : List Bool), k ≤ n ∧ xs.length = n ∧ (∀ j, j < k → gb xs j = true) ∧ s28 = .int .i64 (k : Int) ∧ Rw Value.bool 4 wr g7 xs ∧ Rw (Value.int .i64) 3 wr g6 (List.replicate n 0) ∧ Below W1.heap.size W1 wr
def WcO (adj : Nat → Nat → Bool) (n g6 g7 : Nat) (W1 : World) (s7 : Value) (wr : World) : Prop :=
  ∃ (k : Nat) (l : List Bool), k ≤ n ∧ s7 = .int .i64 ((k + 1 : Nat) : Int) ∧ Peel adj n (k + 1) l ∧ Rw Value.bool 4 wr g7 l ∧ Rw (Value.int .i64) 3 wr g6 (coreU adj n k) ∧ Below W1.heap.size W1 wr
def WcI (adj : Nat → Nat → Bool) (n g6 g7 k : Nat) (W1 : World) (s43 : Value) (wr : World) : Prop :=
  ∃ j : Nat, j ≤ n ∧ s43 = .int .i64 (j : Int) ∧ Rw Value.bool 4 wr g7 (kcL adj n (k + 1)) ∧ Rw (Value.int .i64) 3 wr g6 (coreV adj n k j) ∧ Below W1.heap.size W1 wr
theorem gb_kc {adj : Nat → Nat → Bool} {n k : Nat} (v : Nat) : gb (kcL adj n k) v = kc adj n k v := by
  by_cases h : v < n
  · exact kc_gb h
  · have h1 : kc adj n k v = false := Bool.eq_false_iff.2 fun h2 => h (kc_iff.1 h2).lt
    rw [h1]
    unfold gb
    rw [List.getD_eq_getElem?_getD, List.getElem?_eq_none (by rw [kcL_len]; omega)]
    rfl
set_option maxHeartbeats 12800000 in
set_option maxRecDepth 100000 in
theorem walkCore_calls (A : Option Addr) (c : Nat) (ns : List Nd) (B : Option Addr) (d : Nat) (es : List Eg) (w : World) (hr : GR w A c ns B d es) :
    Calls Try.prog 63 #[.agg #[.slice A ns.length c, .slice B es.length d]] w fun e w' => RetI w.heap.size (wCore ns es) e w' ∧ Below w.heap.size w w' := by
  have HR := Aside0.mk hr
  clear hr
  obtain ⟨v, hv⟩ : ∃ v, okG ns es = v := ⟨_, rfl⟩
  have HOK := Aside0.mk hv
  clear hv
  obtain ⟨L0, HB⟩ := al1 w #[.slice A ns.length c, .slice B es.length d] 26
  cases v
  · have HW := Aside0.mk (show wCore ns es = [] from if_neg fun h => by rw [HOK.out] at h; cases h)
    go_enter Try.func63, Try.ntmps63
    go_wp2_with (first | (go_at_call 36; go_must ((refine (graphOk_calls A c ns B d es _ (Kd.C_below HR.out.cn HB.out) (Kd.C_below HR.out.ce HB.out)).mono ?_); rintro e u_ ⟨rfl, hb⟩; rw [HOK.out]; replace HB := Aside0.mk (below_step HB.out hb); replace L0 := Aside0.mk (blk_below L0.out hb); (try clear c0 c1); obtain ⟨c0, c1⟩ := cs2 (L0.out); clear hb)))
    go_ret
    exact ⟨RetI.nil _ _ HW.out, HB.out⟩
  · have HOG := Aside0.mk (okG_true.1 HOK.out)
    have HLN := Aside0.mk (NsOk.mk HOG.out.nok HOG.out.nasc HOG.out.nfew).len
    have HW := Aside0.mk (show wCore ns es = coreL (adjI ns es) ns.length from if_pos HOK.out)
    by_cases hz : ns.length = 0
    · have hzi : (ns.length : Int) = 0 := by omega
      have HWN := Aside0.mk (show wCore ns es = [] from List.eq_nil_of_length_eq_zero (by rw [HW.out, coreL_length, hz]))
      clear hz
      go_enter Try.func63, Try.ntmps63
      go_wp2_with (first | (go_at_call 36; go_must ((refine (graphOk_calls A c ns B d es _ (Kd.C_below HR.out.cn HB.out) (Kd.C_below HR.out.ce HB.out)).mono ?_); rintro e u_ ⟨rfl, hb⟩; rw [HOK.out]; replace HB := Aside0.mk (below_step HB.out hb); replace L0 := Aside0.mk (blk_below L0.out hb); (try clear c0 c1); obtain ⟨c0, c1⟩ := cs2 (L0.out); clear hb)))
      go_ret
      exact ⟨RetI.nil _ _ HWN.out, HB.out⟩
    · have hzi : ¬ (ns.length : Int) = 0 := by omega
      have hnn : (ns.length : Int) ≤ 40 := by have := HLN.out; omega
      clear hz
      go_enter Try.func63, Try.ntmps63
      go_wp2_with (first | (go_at_call 36; go_must ((refine (graphOk_calls A c ns B d es _ (Kd.C_below HR.out.cn HB.out) (Kd.C_below HR.out.ce HB.out)).mono ?_); rintro e u_ ⟨rfl, hb⟩; rw [HOK.out]; replace HB := Aside0.mk (below_step HB.out hb); replace L0 := Aside0.mk (blk_below L0.out hb); (try clear c0 c1); obtain ⟨c0, c1⟩ := cs2 (L0.out); clear hb)) | (go_at_call 129; go_must ((refine (nearPlaces_ad A c ns B d es _ (HR.out.below HB.out) HOG.out).mono ?_); rintro e W1 ⟨adN, rfl, hcn_, hb⟩; have HNP := Aside0.mk hcn_; clear hcn_; replace HB := Aside0.mk (below_step HB.out hb); replace L0 := Aside0.mk (blk_below L0.out hb); (try clear c0 c1); obtain ⟨c0, c1⟩ := cs2 (L0.out); clear hb)) | ((with_reducible refine gate_dst (N := 22) rfl ?_); go_must (refine make_raw rfl 58 _ _ rfl ns.length rfl rfl Try.underlying58 (.int .i64 0) 8 (by kernel_rfl) rfl (by decide) (by have := HLN.out; omega) ?_; intro g6 u_ hge_ hblk_ hb; have HG6 := Aside0.mk hge_; have HRC := Aside0.mk (show Rw (Value.int .i64) 3 u_ g6 (List.replicate ns.length 0) by unfold Rw; rw [List.map_replicate]; exact hblk_); have HBW := HB; clear HB; have HB := Aside0.mk hb; clear hge_ hblk_ hb L0 c0 c1)) | ((with_reducible refine gate_dst (N := 25) rfl ?_); go_must (refine make_raw rfl 124 _ _ rfl ns.length rfl rfl Try.underlying124 (.bool false) 1 (by kernel_rfl) rfl (by decide) (by have := HLN.out; omega) ?_; intro g7 u_ hge_ hblk_ hb; have HG7 := Aside0.mk (show g6 < g7 from Nat.lt_of_lt_of_le (blk_lt HRC.out) hge_); have HRS := Aside0.mk (show Rw Value.bool 4 u_ g7 (List.replicate ns.length false) by unfold Rw; rw [List.map_replicate]; exact hblk_); replace HRC := Aside0.mk (HRC.out.below hb); replace HB := Aside0.mk (below_step HB.out hb); clear hge_ hblk_ hb)))
      go_loopw [6, 28] (fun _ s28 wr => WcF ns.length g6 g7 W1 s28 wr) (fun _ s28 _ => (ns.length - intOf s28).toNat)
      case atStart => exact ⟨0, _, Nat.zero_le _, by simp, fun j hj => absurd hj (Nat.not_lt_zero _), rfl, HRS.out, HRC.out, HB.out⟩
      case round =>
        clear HB HRS HRC
        obtain ⟨k, xs, hk, hxl_, hxs_, rfl, hrs_, hrc_, hb_⟩ := hrel
        have HK := Aside0.mk hk
        have HXL := Aside0.mk hxl_
        have HXS := Aside0.mk hxs_
        have HRS := Aside0.mk hrs_
        have HRC := Aside0.mk hrc_
        have HB := Aside0.mk hb_
        clear hk hxl_ hxs_ hrs_ hrc_ hb_
        by_cases hlt : k < ns.length
        · have hkl : (k : Int) < (ns.length : Int) := by omega
          have HKN := Aside0.mk hlt
          clear hlt
          go_wp2_with (first | ((with_reducible refine gate_store (p := 33) rfl ?_); go_must ((refine wpList_plain rfl fun K_ hK_ => wp_cellB g7 k true rfl rfl rfl (HRS.out.has k (by rw [HXL.out]; exact HKN.out)) (HRS.out.frozen _) (by kernel_rfl) (hK_ _ _ ?_)); refine named _ ?_; intro wz hwz; have hg_ : World.grownBy _ wz (some g7) := hwz ▸ grown_setCell _ _ _ _; replace HRS := Aside0.mk (show Rw Value.bool 4 wz g7 _ from hwz ▸ HRS.out.set k true); replace HRC := Aside0.mk (HRC.out.over hg_ (fun e => by have := Option.some.inj e; have := HG7.out; omega)); replace HB := Aside0.mk (HB.out.grown hg_ HB.out.size (fun k hk => by have := Option.some.inj hk; have := HG6.out; have := HG7.out; omega)); clear hwz hg_)))
          go_roundw
          case rel => exact ⟨k + 1, _, HKN.out, by rw [List.length_set]; exact HXL.out, fun j hj => by rw [gb_set (by rw [HXL.out]; exact HKN.out)]; split; rfl; exact HXS.out j (by omega), by go_num, HRS.out, HRC.out, HB.out⟩
          case measure => have := HKN.out; simp [intOf]; omega
        · have hkl : ¬ (k : Int) < (ns.length : Int) := by omega
          obtain rfl : k = ns.length := by have := HK.out; omega
          obtain rfl := filledB HXL.out HXS.out
          clear hlt hkl HXS HXL HK
          go_wp2_with (fail)
          go_loopw [7, 8, 43] (fun s7 _ _ wr => WcO (adjI ns es) ns.length g6 g7 W1 s7 wr) (fun s7 _ _ _ => (ns.length + 2 - intOf s7).toNat)
          case atStart => exact ⟨0, _, Nat.zero_le _, rfl, Peel.first, HRS.out, by rw [coreU_zero]; exact HRC.out, HB.out⟩
          case round =>
            clear HB HRS HRC
            obtain ⟨k, l, hk, rfl, hpl_, hrs_, hrc_, hb_⟩ := hrel
            have HK := Aside0.mk hk
            have HPL := Aside0.mk hpl_
            have HRS := Aside0.mk hrs_
            have HRC := Aside0.mk hrc_
            have HB := Aside0.mk hb_
            clear hk hpl_ hrs_ hrc_ hb_
            obtain ⟨v, hv⟩ : ∃ v, decide (true ∈ kcL (adjI ns es) ns.length (k + 1)) = v := ⟨_, rfl⟩
            have HV := Aside0.mk hv
            clear hv
            have hkb : (k : Int) ≤ 40 := by have := HK.out; have := HLN.out; omega
            cases v
            · have HE := Aside0.mk (show coreU (adjI ns es) ns.length k = coreL (adjI ns es) ns.length from coreU_end fun v hv => Nat.not_lt.1 fun hc => of_decide_eq_false HV.out (kc_any.2 ⟨v, hv, (core_iff' hv).2 hc⟩))
              go_wp2_with (first | (go_at_call 136; go_must ((refine (peel_calls (adjI ns es) ns.length (k + 1) g7 l _ adN _ W1 _ HNP.out HB.out HRS.out (by have := HG6.out; have := HG7.out; omega) (by have := HLN.out; omega) (by have := HLN.out; have := HK.out; omega) HPL.out HV.out).mono ?_); rintro e u_ ⟨rfl, hrs_, hg_⟩; replace HRS := Aside0.mk hrs_; replace HRC := Aside0.mk (HRC.out.over hg_ (fun e => by have := Option.some.inj e; have := HG7.out; omega)); replace HB := Aside0.mk (HB.out.grown hg_ HB.out.size (fun k hk => by have := Option.some.inj hk; have := HG6.out; have := HG7.out; omega)); clear hrs_ hg_ HPL)))
              go_ret
              exact ⟨by rw [HW.out, ← HE.out]; exact RetI.row HRC.out (coreU_len _) (by have := HLN.out; omega) (by have := HBW.out.size; have := HG6.out; omega), below_step HBW.out HB.out⟩
            · have HKN := Aside0.mk (show k + 1 ≤ ns.length by obtain ⟨v, h1, h2⟩ := kc_any.1 (of_decide_eq_true HV.out); exact h2.le)
              go_wp2_with (first | (go_at_call 136; go_must ((refine (peel_calls (adjI ns es) ns.length (k + 1) g7 l _ adN _ W1 _ HNP.out HB.out HRS.out (by have := HG6.out; have := HG7.out; omega) (by have := HLN.out; omega) (by have := HLN.out; have := HK.out; omega) HPL.out HV.out).mono ?_); rintro e u_ ⟨rfl, hrs_, hg_⟩; replace HRS := Aside0.mk hrs_; replace HRC := Aside0.mk (HRC.out.over hg_ (fun e => by have := Option.some.inj e; have := HG7.out; omega)); replace HB := Aside0.mk (HB.out.grown hg_ HB.out.size (fun k hk => by have := Option.some.inj hk; have := HG6.out; have := HG7.out; omega)); clear hrs_ hg_ HPL)))
              go_loopw [8, 43] (fun _ s43 wr => WcI (adjI ns es) ns.length g6 g7 k W1 s43 wr) (fun _ s43 _ => (ns.length - intOf s43).toNat)
              case atStart => exact ⟨0, Nat.zero_le _, rfl, HRS.out, by rw [coreV_zero]; exact HRC.out, HB.out⟩
              case round =>
                clear HB HRS HRC
                obtain ⟨j, hj, rfl, hrs_, hrc_, hb_⟩ := hrel
                have HJ := Aside0.mk hj
                have HRS := Aside0.mk hrs_
                have HRC := Aside0.mk hrc_
                have HB := Aside0.mk hb_
                clear hj hrs_ hrc_ hb_
                by_cases hlt : j < ns.length
                · have hjl : (j : Int) < (ns.length : Int) := by omega
                  have HJN := Aside0.mk hlt
                  obtain ⟨x, hx⟩ : ∃ x, kc (adjI ns es) ns.length (k + 1) j = x := ⟨_, rfl⟩
                  have k0 := gb_at HRS.out (v := j) (by rw [kcL_len]; exact hlt)
                  rw [kc_gb hlt, hx] at k0
                  have HX := Aside0.mk hx
                  clear hlt hx
                  cases x
                  · go_wp2_with (fail)
                    go_roundw
                    case rel => exact ⟨j + 1, HJN.out, by go_num, HRS.out, by rw [coreV_off HJN.out HX.out]; exact HRC.out, HB.out⟩
                    case measure => have := HJN.out; simp [intOf]; omega
                  · go_wp2_with (first | ((with_reducible refine gate_store (p := 53) rfl ?_); go_must ((refine wpList_plain rfl fun K_ hK_ => wp_cellI g6 j .i64 ((k + 1 : Nat) : Int) rfl rfl rfl (HRC.out.has j (by rw [coreV_len]; exact HJN.out)) (HRC.out.frozen _) (by kernel_rfl) (hK_ _ _ ?_)); refine named _ ?_; intro wz hwz; have hg_ : World.grownBy _ wz (some g6) := hwz ▸ grown_setCell _ _ _ _; replace HRC := Aside0.mk (show Rw (Value.int .i64) 3 wz g6 _ from hwz ▸ HRC.out.set j ((k + 1 : Nat) : Int)); replace HRS := Aside0.mk (HRS.out.over hg_ (fun e => by have := Option.some.inj e; have := HG7.out; omega)); replace HB := Aside0.mk (HB.out.grown hg_ HB.out.size (fun k hk => by have := Option.some.inj hk; have := HG6.out; omega)); clear hwz hg_)))
                    go_roundw
                    case rel => exact ⟨j + 1, HJN.out, by go_num, HRS.out, by rw [← coreV_on HJN.out HX.out]; exact HRC.out, HB.out⟩
                    case measure => have := HJN.out; simp [intOf]; omega
                · have hjl : ¬ (j : Int) < (ns.length : Int) := by omega
                  obtain rfl : j = ns.length := by have := HJ.out; omega
                  clear hlt
                  go_wp2_with (fail)
                  go_roundw
                  case rel => exact ⟨k + 1, _, HKN.out, by go_num, Peel.next (kcL_len _ _ _) (fun v => gb_kc v), HRS.out, by rw [← coreV_end]; exact HRC.out, HB.out⟩
                  case measure => have := HKN.out; simp [intOf]; omega
end Go.Proofs.Ytogmbeifbjgphaa.R
