/- impl.stepsFrom: how far each place is from one, and the places met; impl.WalkDist; The reference: where a node stands in a right graph; The reference: l3Dist; Lists of numbers are one; where a node stands; the reference's WalkDist. -/
import Derived.Test.YtogmbeifbjgphaaGreatKB29
import Derived.Test.YtogmbeifbjgphaaGreatKB30
import Derived.Test.YtogmbeifbjgphaaGreatKB31
import Derived.Test.YtogmbeifbjgphaaGreatKB2
import Derived.Test.YtogmbeifbjgphaaGreatKB12
namespace Go.Proofs.YtogmbeifbjgphaaGreat.R
open Go.RowKit Go.Proofs.YtogmbeifbjgphaaGreatV.PrintWords Go.Proofs.YtogmbeifbjgphaaGreatV.PrintLast Go.Proofs.YtogmbeifbjgphaaGreatV.PrintMore Go.Proofs.YtogmbeifbjgphaaGreat.M
set_option linter.unusedVariables false
set_option linter.unusedSimpArgs false
attribute [local go_sem high] eqN eqE
/-- Places as numbers. -/
def zs (q : List Nat) : List Int := q.map fun k : Nat => (k : Int)
theorem zs_len (q : List Nat) : (zs q).length = q.length := List.length_map _
theorem zs_snoc (q : List Nat) (v : Nat) : zs (q ++ [v]) = zs q ++ [(v : Int)] := by simp [zs]
theorem zs_get {q : List Nat} {k : Nat} (hk : k < q.length) : (zs q).getD k 0 = (q[k] : Int) := by simp [zs, List.getD_eq_getElem?_getD, hk]
theorem nearZ_zs (adj : Nat → Nat → Bool) (n i : Nat) : nearZ adj n i = zs (nearI adj n i) := rfl
theorem rows_get {n : Nat} {L : Nat → List Int} {i : Nat} (hi : i < n) : ((List.range n).map L).getD i [] = L i := by simp [List.getD_eq_getElem?_getD, hi]
theorem Rw.own {α : Type} {enc : α → Value} {t : TypeId} {w : World} {g base : Nat} {xs : List α} (h : Rw enc t w g xs) (h1 : ∀ x, (enc x).oneCell' = true) (hb : base ≤ g) (hl : xs.length ≤ 1000000) : (Kd.scalar enc h1).R t w base (fun _ => True) (.slice (some ⟨g, 0, none⟩) xs.length xs.length) xs :=
 Kd.R_of_own ⟨by simp [encs], .inr ⟨g, xs.length, _, rfl, hb, h, Nat.le_refl _, by simp [maxLen]; omega, by simp, by simp only [encs, Nat.mul_one]; exact List.take_of_length_le (by simp)⟩⟩ fun _ _ => trivial
theorem filled {n : Nat} {xs : List Int} (h1 : xs.length = n) (h2 : ∀ j, j < n → gt xs j = -1) : xs = List.replicate n (-1) := gt_ext (by simp [h1]) fun v hv => by rw [h2 v (by omega), gt_replicate (by omega)]
theorem own_addrI {e : TypeId} {w : World} {base n c : Nat} {ok : Nat → Prop} {A : Option Addr} {xs : List Int} (h : (Kd.int .i64).R e w base ok (.slice A n c) xs) (hn : 0 < n) : ∃ g, A = some ⟨g, 0, none⟩ := by
 obtain ⟨inner, ho⟩ := Kd.R_own h
 rcases ho.2 with ⟨hv, h0⟩ | ⟨g, cap, cur, hv, _⟩
 ·cases hv
  omega
 ·cases hv
  exact ⟨g, rfl⟩
theorem ub_begin {n s : Nat} (hs : s < n) (v : Nat) : gt ((List.replicate n (-1)).set s 0) v ≤ (1 : Nat) := by
 rw [gt_set (by simpa using hs)]
 split
 ·omega
 ·unfold gt
  rw [List.getD_eq_getElem?_getD, List.getElem?_replicate]
  split <;> simp
theorem ub_meet {st : List Int} {q : List Nat} {v : Nat} {x : Int} (hv : v < st.length) (h : ∀ u, gt st u ≤ (q.length : Nat)) (hx : x ≤ (q.length : Nat)) (u : Nat) : gt (st.set v (x + 1)) u ≤ ((q ++ [v]).length : Nat) := by
 rw [gt_set hv, List.length_append, List.length_singleton]
 have := h u
 split <;> omega
def FillI (w : World) (n g6 : Nat) (s18 : Value) (wr : World) : Prop :=
 ∃ (k : Nat) (xs : List Int), k ≤ n ∧ xs.length = n ∧ (∀ j, j < k → gt xs j = -1) ∧ s18 = .int .i64 (k : Int) ∧ Rw (Value.int .i64) 3 wr g6 xs ∧ Below w.heap.size w wr
def SfO (w : World) (adj : Nat → Nat → Bool) (n s g6 : Nat) (s8 s9 : Value) (wr : World) : Prop :=
 ∃ (st : List Int) (q : List Nat) (next : Nat) (A8 : Option Addr) (c8 : Nat), Bfs adj n s st q next [] ∧ (∀ u, gt st u ≤ (q.length : Nat)) ∧ next ≤ q.length ∧ s8 = .slice A8 (zs q).length c8 ∧ s9 = .int .i64 (next : Int) ∧ Rw (Value.int .i64) 3 wr g6 st ∧ (Kd.int .i64).R 3 wr (g6 + 1) (fun _ => True) (.slice A8 (zs q).length c8) (zs q) ∧ g6 + 1 ≤ wr.heap.size ∧ Below w.heap.size w wr
def SfI (w : World) (adj : Nat → Nat → Bool) (n s g6 next c : Nat) (s8 s45 : Value) (wr : World) : Prop :=
 ∃ (st : List Int) (q : List Nat) (k : Nat) (A8 : Option Addr) (c8 : Nat), Bfs adj n s st q next ((nearI adj n c).take k) ∧ (∀ u, gt st u ≤ (q.length : Nat)) ∧ q[next]? = some c ∧ k ≤ (nearI adj n c).length ∧ s8 = .slice A8 (zs q).length c8 ∧ s45 = .int .i64 (k : Int) ∧ Rw (Value.int .i64) 3 wr g6 st ∧ (Kd.int .i64).R 3 wr (g6 + 1) (fun _ => True) (.slice A8 (zs q).length c8) (zs q) ∧ g6 + 1 ≤ wr.heap.size ∧ Below w.heap.size w wr
set_option maxHeartbeats 12800000 in
set_option maxRecDepth 100000 in
theorem stepsFrom_calls (adj : Nat → Nat → Bool) (n s : Nat) (A : Option Addr) (c : Nat) (w : World) (hL : (Kd.slice 3 (Kd.int .i64)).C w A n ((List.range n).map (nearZ adj n))) (hn : n ≤ 1000) (hs : s < n) (ha : ∀ u v, adj u v = true → u < n ∧ v < n) :
 Calls Tryz.prog 47 #[.slice A n c, .int .i64 (s : Int)] w fun e w' => ∃ g B d q, e = .returned (.tuple #[.slice (some ⟨g, 0, none⟩) n n, .slice B (zs q).length d]) ∧ Rw (Value.int .i64) 3 w' g (distL adj n s) ∧ (Kd.int .i64).C w' B (zs q).length (zs q) ∧ (zs q).length ≤ d ∧ q.length ≤ n ∧ (∀ v, v ∈ q ↔ v < n ∧ 0 ≤ dist adj s v) ∧ w.heap.size ≤ g ∧ (∀ ad, B = some ad → w.heap.size ≤ ad.block) ∧ Below w.heap.size w w' := by
 obtain ⟨adN, rfl⟩ : ∃ ad, A = some ad := by obtain ⟨ad, e, _⟩ := hL.2.2 (by omega); exact ⟨ad, e⟩
 have HLL := Aside0.mk hL
 have HN := Aside0.mk hn
 have HS := Aside0.mk hs
 have HA := Aside0.mk ha
 have hsn : (s : Int) < (n : Int) := by omega
 have hnn : (n : Int) ≤ 1000 := by omega
 have HB := Aside0.mk (Below.refl w.heap.size w)
 clear hL hn hs ha
 go_enter Tryz.func47, Tryz.ntmps47
 go_wp2_with (first | ((with_reducible refine gate_dst (N := 15) rfl ?_); go_must (refine make_raw rfl 37 _ _ rfl n rfl rfl Tryz.underlying37 (.int .i64 0) 8 (by kernel_rfl) rfl (by decide) (by have := HN.out; omega) ?_; intro g6 u_ hge_ hblk_ hb; have HG6 := Aside0.mk hge_; have HRW := Aside0.mk (show Rw (Value.int .i64) 3 u_ g6 (List.replicate n 0) by unfold Rw; rw [List.map_replicate]; exact hblk_); replace HB := Aside0.mk (below_step HB.out hb); clear hge_ hblk_ hb)))
 go_loopw [7, 18] (fun _ s18 wr => FillI w n g6 s18 wr) (fun _ s18 _ => (n - intOf s18).toNat)
 case atStart => exact ⟨0, _, Nat.zero_le _, by simp, fun j hj => absurd hj (Nat.not_lt_zero _), rfl, HRW.out, HB.out⟩
 case round =>
  clear HB HRW
  obtain ⟨k, xs, hk, hxl_, hxs_, rfl, hrw_, hb_⟩ := hrel
  have HK := Aside0.mk hk
  have HXL := Aside0.mk hxl_
  have HXS := Aside0.mk hxs_
  have HRW := Aside0.mk hrw_
  have HB := Aside0.mk hb_
  clear hk hxl_ hxs_ hrw_ hb_
  by_cases hlt : k < n
  ·have hkl : (k : Int) < (n : Int) := by omega
   have HKN := Aside0.mk hlt
   clear hlt
   go_wp2_with (first | ((with_reducible refine gate_store (p := 23) rfl ?_); go_must ((refine wpList_plain rfl fun K_ hK_ => wp_cellI g6 k .i64 (-1) rfl rfl rfl (HRW.out.has k (by rw [HXL.out]; exact HKN.out)) (HRW.out.frozen _) (by kernel_rfl) (hK_ _ _ ?_)); refine named _ ?_; intro wz hwz; have hg_ : World.grownBy _ wz (some g6) := hwz ▸ grown_setCell _ _ _ _; replace HRW := Aside0.mk (show Rw (Value.int .i64) 3 wz g6 _ from hwz ▸ HRW.out.set k (-1)); replace HB := Aside0.mk (HB.out.grown hg_ HB.out.size (fun k hk => by have := Option.some.inj hk; have := HG6.out; omega)); clear hwz hg_)))
   go_roundw
   case rel => exact ⟨k + 1, _, HKN.out, by rw [List.length_set]; exact HXL.out, fun j hj => by rw [gt_set (by rw [HXL.out]; exact HKN.out)]; split; rfl; exact HXS.out j (by omega), by go_num, HRW.out, HB.out⟩
   case measure => simp [intOf]; omega
  ·have hkl : ¬ (k : Int) < (n : Int) := by omega
   obtain rfl : k = n := by have := HK.out; omega
   obtain rfl := filled HXL.out HXS.out
   clear hlt
   go_wp2_with (first | ((with_reducible refine gate_store (p := 27) rfl ?_); go_must ((refine wpList_plain rfl fun K_ hK_ => wp_cellI g6 s .i64 (0) rfl rfl rfl (HRW.out.has s (by rw [List.length_replicate]; exact HS.out)) (HRW.out.frozen _) (by kernel_rfl) (hK_ _ _ ?_)); refine named _ ?_; intro wz hwz; have hg_ : World.grownBy _ wz (some g6) := hwz ▸ grown_setCell _ _ _ _; replace HRW := Aside0.mk (show Rw (Value.int .i64) 3 wz g6 _ from hwz ▸ HRW.out.set s (0)); replace HB := Aside0.mk (HB.out.grown hg_ HB.out.size (fun k hk => by have := Option.some.inj hk; have := HG6.out; omega)); clear hwz hg_)) | ((with_reducible refine gate_dst (N := 29) rfl ?_); go_must ((refine w_lit #[.int .i64 (s : Int)] 3 1 rfl (by go_simp; (first | done | rfl)) ?_); intro g8 u_ hge_ hb0_ hb; have H8 := Aside0.mk (show g6 + 1 ≤ g8 from Nat.le_trans (blk_lt HRW.out) hge_); have HL8 := Aside0.mk (show Rw (Value.int .i64) 3 u_ g8 [(s : Int)] from hb0_); replace HRW := Aside0.mk (HRW.out.below hb); replace HB := Aside0.mk (below_step HB.out hb); clear hge_ hb0_ hb)))
   go_loopw [8, 9, 10, 12, 45] (fun s8 s9 _ _ _ wr => SfO w adj k s g6 s8 s9 wr) (fun _ s9 _ _ _ _ => (k - intOf s9).toNat)
   case atStart => exact ⟨_, [s], 0, some ⟨g8, 0, none⟩, 1, Bfs.begin HS.out, ub_begin HS.out, Nat.zero_le _, rfl, rfl, HRW.out, HL8.out.own (fun _ => rfl) H8.out (by simp), blk_lt HRW.out, HB.out⟩
   case round =>
    clear HB HRW HXS HXL HK HL8 H8
    obtain ⟨st, q, next, A8, c8, hbf_, hub_, hnx_, rfl, rfl, hrw_, hr8_, hz8_, hb_⟩ := hrel
    have HBF := Aside0.mk hbf_
    have HUB := Aside0.mk hub_
    have HNX := Aside0.mk hnx_
    have HRW := Aside0.mk hrw_
    have HR8 := Aside0.mk hr8_
    have HZ8 := Aside0.mk hz8_
    have HB := Aside0.mk hb_
    have HQL := Aside0.mk (show q.length ≤ 1000 by have := hbf_.size; have := HN.out; omega)
    clear hbf_ hub_ hnx_ hrw_ hr8_ hz8_ hb_
    have HZL := Aside0.mk (show ((zs q).length : Int) = (q.length : Int) by rw [zs_len])
    by_cases hlt : next < q.length
    ·have hnl : (next : Int) < ((zs q).length : Int) := by have := HZL.out; omega
     have hn1 : (next : Int) < 1000 := by have := HQL.out; omega
     have hnk : next < k := by have := HBF.out.size; omega
     obtain ⟨g8, rfl⟩ := own_addrI HR8.out (by rw [zs_len]; omega)
     obtain ⟨c, hc⟩ : ∃ c, q[next] = c := ⟨_, rfl⟩
     have HC := Aside0.mk (show q[next]? = some c by rw [← hc]; exact List.getElem?_eq_getElem hlt)
     have HCN := Aside0.mk (show c < k from HBF.out.qlt c (List.mem_of_getElem? HC.out))
     have hcn : (c : Int) < (k : Int) := by have := HCN.out; omega
     obtain ⟨ad8, e8, r8⟩ := int_at (Kd.R_reads' HR8.out).2.2 next (by rw [zs_len]; exact hlt)
     cases e8
     rw [zs_get hlt, hc, add_plain] at r8
     obtain ⟨adM, AR, cR, eM, rM, hRl, hRC⟩ := row_at HLL.out c HCN.out
     cases eM
     rw [rows_get HCN.out, nearZ_zs] at rM hRl hRC
     have HRC := Aside0.mk hRC
     have rM := pw_cell_below HB.out rM
     clear hlt hc hRl hRC
     go_wp2_with (fail)
     go_loopw [8, 12, 45] (fun s8 _ s45 wr => SfI w adj k s g6 next c s8 s45 wr) (fun _ _ s45 _ => ((nearI adj k c).length - intOf s45).toNat)
     case atStart => exact ⟨st, q, 0, _, _, by simpa using HBF.out, HUB.out, HC.out, Nat.zero_le _, rfl, rfl, HRW.out, HR8.out, HZ8.out, HB.out⟩
     case round =>
      clear HB HRW HR8 HZ8 HBF HUB HQL HC HNX HZL hnl r8 rM
      obtain ⟨st, q, j, A8, c8, hbf_, hub_, hcq_, hj_, rfl, rfl, hrw_, hr8_, hz8_, hb_⟩ := hrel
      have HBF := Aside0.mk hbf_
      have HUB := Aside0.mk hub_
      have HCQ := Aside0.mk hcq_
      have HJ := Aside0.mk hj_
      have HRW := Aside0.mk hrw_
      have HR8 := Aside0.mk hr8_
      have HZ8 := Aside0.mk hz8_
      have HB := Aside0.mk hb_
      have HQL := Aside0.mk (show q.length ≤ 1000 by have := hbf_.size; have := HN.out; omega)
      clear hbf_ hub_ hcq_ hj_ hrw_ hr8_ hz8_ hb_
      have HZL := Aside0.mk (show ((zs (nearI adj k c)).length : Int) = ((nearI adj k c).length : Int) by rw [zs_len])
      have hzk : ((nearI adj k c).length : Int) ≤ 1000 := by have h1 := nearZ_len adj k c; rw [nearZ_zs, zs_len] at h1; omega
      by_cases hlt : j < (nearI adj k c).length
      ·have hjl : (j : Int) < ((zs (nearI adj k c)).length : Int) := by have := HZL.out; omega
       have hj1 : (j : Int) < 1000 := by omega
       obtain ⟨v, hv⟩ : ∃ v, (nearI adj k c)[j] = v := ⟨_, rfl⟩
       have HV := Aside0.mk (show v < k ∧ adj c v = true from nearI_mem.1 (hv ▸ List.getElem_mem hlt))
       have hvk : (v : Int) < (k : Int) := by have := HV.out.1; omega
       have HTK := Aside0.mk (show (nearI adj k c).take (j + 1) = (nearI adj k c).take j ++ [v] by rw [← hv]; exact (List.take_append_getElem hlt).symm)
       have HJL := Aside0.mk hlt
       obtain ⟨adR, eR, rR⟩ := int_at (Kd.C_below HRC.out HB.out) j (by rw [zs_len]; exact hlt)
       cases eR
       rw [zs_get hlt, hv] at rR
       obtain ⟨x0, hx0⟩ : ∃ x, gt st v = x := ⟨_, rfl⟩
       have sv := HRW.out.at 0 v (by rw [HBF.out.len]; exact HV.out.1)
       rw [show st.getD v 0 = x0 from hx0] at sv
       obtain ⟨x, hx⟩ : ∃ x, gt st c = x := ⟨_, rfl⟩
       have sc := HRW.out.at 0 c (by rw [HBF.out.len]; exact HCN.out)
       rw [show st.getD c 0 = x from hx] at sc
       have hxb : -1 ≤ x ∧ x ≤ 1000 := ⟨hx ▸ HBF.out.low c HCN.out, by have := HUB.out c; have := HQL.out; omega⟩
       have HX0 := Aside0.mk hx0
       have HX := Aside0.mk hx
       have HXU := Aside0.mk (show x ≤ (q.length : Nat) from hx ▸ HUB.out c)
       clear hlt hv hx0 hx
       by_cases hneg : x0 < 0
       ·go_wp2_with (first | ((with_reducible refine gate_store (p := 61) rfl ?_); go_must ((refine wpList_plain rfl fun K_ hK_ => wp_cellI g6 v .i64 (x + 1) rfl rfl rfl (HRW.out.has v (by rw [HBF.out.len]; exact HV.out.1)) (HRW.out.frozen _) (by kernel_rfl) (hK_ _ _ ?_)); refine named _ ?_; intro wz hwz; have hg_ : World.grownBy _ wz (some g6) := hwz ▸ grown_setCell _ _ _ _; replace HRW := Aside0.mk (show Rw (Value.int .i64) 3 wz g6 _ from hwz ▸ HRW.out.set v (x + 1)); replace HB := Aside0.mk (HB.out.grown hg_ HB.out.size (fun k hk => by have := Option.some.inj hk; have := HG6.out; omega)); replace HR8 := Aside0.mk (Kd.R_grown1 HR8.out rfl hg_ (fun e => by have := Kd.R_base HR8.out _ e.symm; omega)); replace HZ8 := Aside0.mk (Nat.le_trans HZ8.out hg_.size); clear hwz hg_)) | ((with_reducible refine gate_dst (N := 64) rfl ?_); go_must ((refine w_lit #[.int .i64 (v : Int)] 3 1 rfl (by go_simp; (first | done | rfl)) ?_); intro gl u_ hge_ hb0_ hb; have LT := Aside0.mk hb0_; replace HRW := Aside0.mk (HRW.out.below hb); replace HR8 := Aside0.mk (Kd.R_below HR8.out hb); replace HZ8 := Aside0.mk (Nat.le_trans HZ8.out hb.size); replace HB := Aside0.mk (below_step HB.out hb); clear hge_ hb0_ hb)) | ((with_reducible refine gate_builtin (b := .append) rfl ?_); go_must ((refine w_append (flatI .i64) (base := g6 + 1) (e := 3) (.int .i64 0) 8 (.slice A8 (zs q).length c8) (zs q) [(v : Int)] rfl rfl Tryz.underlying37 (by kernel_rfl) rfl (by decide) HR8.out (C_lit [(v : Int)] LT.out rfl (by simp)) rfl rfl HZ8.out (by have := HQL.out; rw [zs_len]; simp only [List.length_singleton]; omega) ?_); intro B9 n9 p9 wt hn9_ hp9_ hr_ hg_ ho_; obtain rfl : n9 = (zs q ++ [(v : Int)]).length := hn9_; have HR9 := Aside0.mk hr_; replace HRW := Aside0.mk (HRW.out.over hg_ (fun e => by have := Kd.R_base HR8.out _ e.symm; omega)); replace HB := Aside0.mk (HB.out.grown hg_ HB.out.size (fun k hk => by have := Kd.R_base HR8.out k hk; have := HG6.out; omega)); replace HZ8 := Aside0.mk (Nat.le_trans HZ8.out hg_.size); clear hp9_ hr_ hg_ ho_ HR8)))
        go_roundw
        case rel => exact ⟨st.set v (x + 1), q ++ [v], j + 1, B9, p9, by rw [HTK.out, ← HX.out]; exact HBF.out.meet HCQ.out HV.out.1 HV.out.2 (by rw [HX0.out]; exact hneg), ub_meet (by rw [HBF.out.len]; exact HV.out.1) HUB.out HXU.out, by rw [List.getElem?_append_left ((List.getElem?_eq_some_iff.1 HCQ.out).1)]; exact HCQ.out, HJL.out, by rw [zs_snoc, List.length_append]; rfl, by go_num, HRW.out, by rw [zs_snoc]; exact HR9.out, HZ8.out, HB.out⟩
        case measure => have := HJL.out; simp [intOf]; omega
       ·go_wp2_with (fail)
        go_roundw
        case rel => exact ⟨st, q, j + 1, A8, c8, by rw [HTK.out]; exact HBF.out.skip HCQ.out HV.out.1 (by rw [HX0.out]; omega), HUB.out, HCQ.out, HJL.out, rfl, by go_num, HRW.out, HR8.out, HZ8.out, HB.out⟩
        case measure => have := HJL.out; simp [intOf]; omega
      ·have hjl : ¬ (j : Int) < ((zs (nearI adj k c)).length : Int) := by have := HZL.out; omega
       have HBG := Aside0.mk (HBF.out.close HCQ.out fun v hv hav => by rw [List.take_of_length_le (by omega)]; exact nearI_mem.2 ⟨hv, hav⟩)
       clear hlt
       go_wp2_with (fail)
       go_roundw
       case rel => exact ⟨st, q, next + 1, A8, c8, HBG.out, HUB.out, (List.getElem?_eq_some_iff.1 HCQ.out).1, rfl, by go_num, HRW.out, HR8.out, HZ8.out, HB.out⟩
       case measure => simp [intOf]; omega
    ·have hnl : ¬ (next : Int) < ((zs q).length : Int) := by have := HZL.out; omega
     obtain ⟨hd1, hd2⟩ := HBF.out.end_ HA.out (show q.length ≤ next by omega)
     have HD1 := Aside0.mk hd1
     have HD2 := Aside0.mk hd2
     clear hd1 hd2 hlt
     go_wp2_with (fail)
     exact bodyPost_ret (results_tmp2 rfl _ _ _) rfl ⟨g6, A8, c8, q, rfl, by rw [← HD1.out]; exact HRW.out, (Kd.R_reads' HR8.out).2.2, (Kd.R_reads' HR8.out).2.1, HBF.out.size, HD2.out, HG6.out, fun ad h => by have := Kd.R_base HR8.out ad.block (by rw [h]; rfl); have := HG6.out; omega, HB.out⟩
end Go.Proofs.YtogmbeifbjgphaaGreat.R
namespace Go.Proofs.YtogmbeifbjgphaaGreat.R
open Go.RowKit Go.Proofs.YtogmbeifbjgphaaGreatV.PrintWords Go.Proofs.YtogmbeifbjgphaaGreatV.PrintLast Go.Proofs.YtogmbeifbjgphaaGreatV.PrintMore Go.Proofs.YtogmbeifbjgphaaGreat.M
set_option linter.unusedVariables false
set_option linter.unusedSimpArgs false
attribute [local go_sem high] eqN eqE
/-- What a list that comes back is: numbers, in memory of its own. -/
def RetI (b : Nat) (xs : List Int) (e : Ending) (w' : World) : Prop := ∃ A' c', e = .returned (.slice A' xs.length c') ∧ (Kd.int .i64).C w' A' xs.length xs ∧ xs.length ≤ c' ∧ (∀ ad, A' = some ad → b ≤ ad.block)
theorem RetI.nil (b : Nat) (w' : World) {xs : List Int} (h : xs = []) : RetI b xs (.returned (.slice none 0 0)) w' := ⟨none, 0, by rw [h]; rfl, by rw [h]; exact Kd.C_nil _ _, by rw [h]; exact Nat.le_refl _, fun ad h => by cases h⟩
theorem RetI.row {b n g : Nat} {w' : World} {xs : List Int} (h : Rw (Value.int .i64) 3 w' g xs) (hl : xs.length = n) (hn : n ≤ 1000000) (hb : b ≤ g) : RetI b xs (.returned (.slice (some ⟨g, 0, none⟩) n n)) w' := ⟨some ⟨g, 0, none⟩, n, by rw [hl], h.C (fun _ => rfl) (by omega), by omega, fun ad e => by obtain rfl := Option.some.inj e; exact hb⟩
set_option maxHeartbeats 3200000 in
set_option maxRecDepth 100000 in
theorem walkDist_calls (A : Option Addr) (c : Nat) (ns : List Nd) (B : Option Addr) (d : Nat) (es : List Eg) (n : Nd) (w : World) (hr : GR w A c ns B d es) :
 Calls Tryz.prog 13 #[.agg #[.slice A ns.length c, .slice B es.length d], .agg #[.int .i64 n.lab, .int .i64 n.num]] w fun e w' => RetI w.heap.size (wDist ns es n) e w' ∧ Below w.heap.size w w' := by
 have HR := Aside0.mk hr
 clear hr
 obtain ⟨v, hv⟩ : ∃ v, okG ns es = v := ⟨_, rfl⟩
 have HOK := Aside0.mk hv
 clear hv
 obtain ⟨L0, L1, HB⟩ := al2 w #[.slice A ns.length c, .slice B es.length d] #[.int .i64 n.lab, .int .i64 n.num] 26 28
 cases v
 ·have HW := Aside0.mk (show wDist ns es n = [] by unfold wDist; rw [HOK.out]; exact if_neg fun h => by cases h.1)
  go_enter Tryz.func13, Tryz.ntmps13
  go_wp2_with (first | (go_at_call 29; go_must ((refine (graphOk_calls A c ns B d es _ (Kd.C_below HR.out.cn HB.out) (Kd.C_below HR.out.ce HB.out)).mono ?_); rintro e u_ ⟨rfl, hb⟩; rw [HOK.out]; replace HB := Aside0.mk (below_step HB.out hb); replace L0 := Aside0.mk (blk_below L0.out hb); replace L1 := Aside0.mk (blk_below L1.out hb); (try clear c0 c1); obtain ⟨c0, c1⟩ := cs2 (L0.out); (try clear e0 e1); obtain ⟨e0, e1⟩ := cs2 (L1.out); clear hb)))
  go_ret
  exact ⟨RetI.nil _ _ HW.out, HB.out⟩
 ·have HOG := Aside0.mk (okG_true.1 HOK.out)
  have HNS := Aside0.mk (NsOk.mk HOG.out.nok HOG.out.nasc HOG.out.nfew)
  have HLN := Aside0.mk HNS.out.len
  by_cases hin : n ∈ ns
  ·have HPL := Aside0.mk (placeI_in hin)
   have HIX := Aside0.mk (idx_lt hin)
   have HW := Aside0.mk (show wDist ns es n = distL (adjI ns es) ns.length (idx ns n) from if_pos ⟨HOK.out, hin⟩)
   have hnn : ¬ ((idx ns n : Nat) : Int) < 0 := by omega
   clear hin
   go_enter Tryz.func13, Tryz.ntmps13
   go_wp2_with (first | (go_at_call 29; go_must ((refine (graphOk_calls A c ns B d es _ (Kd.C_below HR.out.cn HB.out) (Kd.C_below HR.out.ce HB.out)).mono ?_); rintro e u_ ⟨rfl, hb⟩; rw [HOK.out]; replace HB := Aside0.mk (below_step HB.out hb); replace L0 := Aside0.mk (blk_below L0.out hb); replace L1 := Aside0.mk (blk_below L1.out hb); (try clear c0 c1); obtain ⟨c0, c1⟩ := cs2 (L0.out); (try clear e0 e1); obtain ⟨e0, e1⟩ := cs2 (L1.out); clear hb)) | (go_at_call 46; go_must ((refine (nodePlace_calls A c ns B d es n _ (HR.out.below HB.out) HNS.out).mono ?_); rintro e u_ ⟨rfl, hb⟩; rw [HPL.out]; replace HB := Aside0.mk (below_step HB.out hb); replace L0 := Aside0.mk (blk_below L0.out hb); replace L1 := Aside0.mk (blk_below L1.out hb); (try clear c0 c1); obtain ⟨c0, c1⟩ := cs2 (L0.out); (try clear e0 e1); obtain ⟨e0, e1⟩ := cs2 (L1.out); clear hb)) | (go_at_call 44; go_must ((refine (nearPlaces_calls A c ns B d es _ (HR.out.below HB.out) HOG.out).mono ?_); rintro e u_ ⟨gn, rfl, hcn_, hb⟩; have HNP := Aside0.mk hcn_; clear hcn_; replace HB := Aside0.mk (below_step HB.out hb); replace L0 := Aside0.mk (blk_below L0.out hb); replace L1 := Aside0.mk (blk_below L1.out hb); (try clear c0 c1); obtain ⟨c0, c1⟩ := cs2 (L0.out); (try clear e0 e1); obtain ⟨e0, e1⟩ := cs2 (L1.out); clear hb)) | (go_at_call 47; go_must ((refine (stepsFrom_calls (adjI ns es) ns.length (idx ns n) _ _ _ HNP.out (by have := HLN.out; omega) HIX.out (fun u v h => adjI_lt h)).mono ?_); rintro e u_ ⟨gs, Bq, dq, q, rfl, hrw_, hcq_, hdq_, hql_, hmq_, hgs_, hfq_, hb⟩; have HRW := Aside0.mk hrw_; have HGS := Aside0.mk (show w.heap.size ≤ gs by have := HB.out.size; omega); clear hrw_ hcq_ hdq_ hql_ hmq_ hgs_ hfq_; replace HB := Aside0.mk (below_step HB.out hb); replace L0 := Aside0.mk (blk_below L0.out hb); replace L1 := Aside0.mk (blk_below L1.out hb); replace HNP := Aside0.mk (Kd.C_below (HNP.out) hb); (try clear c0 c1); obtain ⟨c0, c1⟩ := cs2 (L0.out); (try clear e0 e1); obtain ⟨e0, e1⟩ := cs2 (L1.out); clear hb)))
   go_ret
   exact ⟨by rw [HW.out]; exact RetI.row HRW.out (distL_length _ _ _) (by have := HLN.out; omega) HGS.out, HB.out⟩
  ·have HPL := Aside0.mk (placeI_out hin)
   have HW := Aside0.mk (show wDist ns es n = [] from if_neg fun h => hin h.2)
   clear hin
   go_enter Tryz.func13, Tryz.ntmps13
   go_wp2_with (first | (go_at_call 29; go_must ((refine (graphOk_calls A c ns B d es _ (Kd.C_below HR.out.cn HB.out) (Kd.C_below HR.out.ce HB.out)).mono ?_); rintro e u_ ⟨rfl, hb⟩; rw [HOK.out]; replace HB := Aside0.mk (below_step HB.out hb); replace L0 := Aside0.mk (blk_below L0.out hb); replace L1 := Aside0.mk (blk_below L1.out hb); (try clear c0 c1); obtain ⟨c0, c1⟩ := cs2 (L0.out); (try clear e0 e1); obtain ⟨e0, e1⟩ := cs2 (L1.out); clear hb)) | (go_at_call 46; go_must ((refine (nodePlace_calls A c ns B d es n _ (HR.out.below HB.out) HNS.out).mono ?_); rintro e u_ ⟨rfl, hb⟩; rw [HPL.out]; replace HB := Aside0.mk (below_step HB.out hb); replace L0 := Aside0.mk (blk_below L0.out hb); replace L1 := Aside0.mk (blk_below L1.out hb); (try clear c0 c1); obtain ⟨c0, c1⟩ := cs2 (L0.out); (try clear e0 e1); obtain ⟨e0, e1⟩ := cs2 (L1.out); clear hb)))
   go_ret
   exact ⟨RetI.nil _ _ HW.out, HB.out⟩
end Go.Proofs.YtogmbeifbjgphaaGreat.R
namespace Go.Proofs.YtogmbeifbjgphaaGreat.R
open Go.RowKit Go.Proofs.YtogmbeifbjgphaaGreatV.PrintWords Go.Proofs.YtogmbeifbjgphaaGreatV.PrintLast Go.Proofs.YtogmbeifbjgphaaGreatV.PrintMore Go.Proofs.YtogmbeifbjgphaaGreat.M
set_option linter.unusedVariables false
set_option linter.unusedSimpArgs false
attribute [local go_sem high] eqN eqE
set_option maxHeartbeats 3200000 in
set_option maxRecDepth 100000 in
theorem atP_calls (A : Option Addr) (c : Nat) (ns : List Nd) (B : Option Addr) (d : Nat) (es : List Eg) (x : Nd) (w : World) (hr : kN.C w A ns.length ns) (hg : OkG ns es) :
 Calls Tryz.prog 55 #[.agg #[.slice A ns.length c, .slice B es.length d], .agg #[.int .i64 x.lab, .int .i64 x.num]] w fun e w' => e = .returned (.int .i64 (placeI ns x)) ∧ Below w.heap.size w w' := by
 have HR := Aside0.mk hr
 have HOG := Aside0.mk hg
 have HL := Aside0.mk (show ns.length ≤ 1000000 by have := (NsOk.mk hg.nok hg.nasc hg.nfew).len; omega)
 clear hr hg
 go_enter Tryz.func55, Tryz.ntmps55
 go_wp2_with (fail)
 go_loopw [5] (fun s5 wr => ∃ j : Nat, j ≤ ns.length ∧ s5 = .int .i64 (j : Int) ∧ Aside0 (∀ t, t < j → at_ ns t ≠ x) ∧ Aside0 (wr.cell? ⟨w.heap.size, 0, none⟩ = some (.slice A ns.length c)) ∧ Aside0 (wr.cell? ⟨w.heap.size + 1, 0, none⟩ = some (.int .i64 x.lab)) ∧ Aside0 (wr.cell? ⟨w.heap.size + 1, 1, none⟩ = some (.int .i64 x.num)) ∧ Aside0 (Below w.heap.size w wr)) (fun s5 _ => (ns.length - intOf s5).toNat)
 case atStart => exact ⟨0, Nat.zero_le _, rfl, ⟨fun t ht => absurd ht (Nat.not_lt_zero _)⟩, ⟨by simp⟩, ⟨by simp⟩, ⟨by simp⟩, ⟨below_alloc (below_alloc (Below.refl _ _) _) _⟩⟩
 case round =>
  obtain ⟨j, hj, rfl, H1, Q0, X0, X1, HB⟩ := hrel
  have hl := HL.out
  have g0 := Q0.out
  by_cases hlt : j < ns.length
  ·obtain ⟨ad, e1, r0, r1⟩ := nd_at (Kd.C_below HR.out HB.out) j hlt
   cases e1
   generalize hy : at_ ns j = y at r0 r1
   have HY := Aside0.mk hy
   clear hy
   have x0 := X0.out
   have x1 := X1.out
   by_cases hxy : y = x
   ·have hne : (y.lab == x.lab && (y.num == x.num)) = true := (nd_eq y x).trans (decide_eq_true hxy)
    have HM := Aside0.mk (show placeI ns x = (j : Int) by rw [← hxy, ← HY.out, placeI_in (at_mem hlt), idx_at HOG.out hlt])
    clear hxy
    go_wp2_with (fail)
    have HK_ := Aside0.mk (show Reg (fun u_ => Below w.heap.size w u_ ∧ u_.cell? ⟨w.heap.size, 0, none⟩ = some (.slice (some ad) ns.length c) ∧ u_.cell? (ad.add (j * 2)) = some (.int .i64 y.lab) ∧ u_.cell? ⟨(ad.add (j * 2)).block, (ad.add (j * 2)).off + 1, none⟩ = some (.int .i64 y.num) ∧ u_.cell? ⟨w.heap.size + 1, 0, none⟩ = some (.int .i64 x.lab) ∧ u_.cell? ⟨w.heap.size + 1, 1, none⟩ = some (.int .i64 x.num) ∧ True) from ⟨fun _ _ hb_ ⟨q_, s0_, s1_, s2_, s3_, s4_, _⟩ => ⟨below_step q_ hb_, pw_cell_below hb_ s0_, pw_cell_below hb_ s1_, pw_cell_below hb_ s2_, pw_cell_below hb_ s3_, pw_cell_below hb_ s4_, trivial⟩⟩)
    refine region_by _ sAtN (by kernel_rfl) sAtN_ok rfl (fun d _ _ _ _ h => by cases d <;> exact h) HK_.out ⟨HB.out, g0, r0, r1, x0, x1, trivial⟩ ?_
    intro u hS
    clear g0 r0 r1 x0 x1
    repeat (first | (refine h_off gt_ (by rfl) ?_; intro a_ ha_; (simp only [Act.put, pu1, pu2, pu3] at ha_); subst ha_) | (refine h_on (v := ?_) gt_ (by rfl) ?_ ?_; rotate_left; (· rintro w_ ⟨-, s0_, s1_, s2_, s3_, s4_, -⟩; go_simp; with_reducible rfl); intro a_ ha_; (simp only [Act.put, pu1, pu2, pu3] at ha_); subst ha_) | (refine h_offc hS gt_ (by rfl) ?_; intro a_ ha_; (simp only [Act.put, pu1, pu2, pu3] at ha_); subst ha_))
    refine h_end ?_
    clear HK_ HB
    obtain ⟨hB_, g0, r0, r1, x0, x1, -⟩ := hS
    have HB := Aside0.mk hB_
    clear hB_
    go_wp2
    go_ret
    exact ⟨retI HM.out.symm, HB.out⟩
   ·have hne : (y.lab == x.lab && (y.num == x.num)) = false := (nd_eq y x).trans (decide_eq_false hxy)
    have HNE := Aside0.mk hxy
    clear hxy
    go_wp2_with (fail)
    have HK_ := Aside0.mk (show Reg (fun u_ => Below w.heap.size w u_ ∧ u_.cell? ⟨w.heap.size, 0, none⟩ = some (.slice (some ad) ns.length c) ∧ u_.cell? (ad.add (j * 2)) = some (.int .i64 y.lab) ∧ u_.cell? ⟨(ad.add (j * 2)).block, (ad.add (j * 2)).off + 1, none⟩ = some (.int .i64 y.num) ∧ u_.cell? ⟨w.heap.size + 1, 0, none⟩ = some (.int .i64 x.lab) ∧ u_.cell? ⟨w.heap.size + 1, 1, none⟩ = some (.int .i64 x.num) ∧ True) from ⟨fun _ _ hb_ ⟨q_, s0_, s1_, s2_, s3_, s4_, _⟩ => ⟨below_step q_ hb_, pw_cell_below hb_ s0_, pw_cell_below hb_ s1_, pw_cell_below hb_ s2_, pw_cell_below hb_ s3_, pw_cell_below hb_ s4_, trivial⟩⟩)
    refine region_by _ sAtN (by kernel_rfl) sAtN_ok rfl (fun d _ _ _ _ h => by cases d <;> exact h) HK_.out ⟨HB.out, g0, r0, r1, x0, x1, trivial⟩ ?_
    intro u hS
    clear g0 r0 r1 x0 x1
    repeat (first | (refine h_off gt_ (by rfl) ?_; intro a_ ha_; (simp only [Act.put, pu1, pu2, pu3] at ha_); subst ha_) | (refine h_on (v := ?_) gt_ (by rfl) ?_ ?_; rotate_left; (· rintro w_ ⟨-, s0_, s1_, s2_, s3_, s4_, -⟩; go_simp; with_reducible rfl); intro a_ ha_; (simp only [Act.put, pu1, pu2, pu3] at ha_); subst ha_) | (refine h_offc hS gt_ (by rfl) ?_; intro a_ ha_; (simp only [Act.put, pu1, pu2, pu3] at ha_); subst ha_))
    refine h_end ?_
    clear HK_ HB
    obtain ⟨hB_, g0, r0, r1, x0, x1, -⟩ := hS
    have HB := Aside0.mk hB_
    clear hB_
    go_wp2
    go_roundw
    case rel => exact ⟨j + 1, by omega, by go_num, ⟨fun t ht => by
     rcases Nat.lt_succ_iff_lt_or_eq.1 ht with h | rfl
     ·exact H1.out t h
     ·rw [HY.out]; exact HNE.out⟩, ⟨g0⟩, ⟨x0⟩, ⟨x1⟩, HB⟩
    case measure => simp [intOf]; omega
  ·have HM := Aside0.mk (show ¬ x ∈ ns by
    intro hm
    obtain ⟨t, ht, rfl⟩ := List.getElem_of_mem hm
    exact H1.out t (by omega) (at__lt' ht))
   go_wp2_with (fail)
   go_ret
   exact ⟨retI (placeI_out HM.out).symm, HB.out⟩
end Go.Proofs.YtogmbeifbjgphaaGreat.R
namespace Go.Proofs.YtogmbeifbjgphaaGreat.R
open Go.RowKit Go.Proofs.YtogmbeifbjgphaaGreatV.PrintWords Go.Proofs.YtogmbeifbjgphaaGreatV.PrintLast Go.Proofs.YtogmbeifbjgphaaGreatV.PrintMore Go.Proofs.YtogmbeifbjgphaaGreat.M
set_option linter.unusedVariables false
set_option linter.unusedSimpArgs false
attribute [local go_sem high] eqN eqE
def tds (ns : List Nd) (q : List Nat) : List Nd := q.map (at_ ns)
theorem tds_len (ns : List Nd) (q : List Nat) : (tds ns q).length = q.length := List.length_map _
theorem tds_get (ns : List Nd) {q : List Nat} {k : Nat} (hk : k < q.length) : at_ (tds ns q) k = at_ ns q[k] := by
 rw [at_lt (by rw [tds_len]; exact hk)]
 simp [tds]
section
variable {e : TypeId} {w : World} {b g n c : Nat} {ok : Nat → Prop} {xs : List Int}
theorem outAt (ho : (Kd.int .i64).R e w b ok (.slice (some ⟨g, 0, none⟩) n c) xs) (j : Nat) (hj : j < n) : w.cell? ⟨g, j, none⟩ = some (.int .i64 (gt xs j)) ∧ w.frozen? ⟨g, j, none⟩ = false := by
 have h := Kd.R_celln 0 ho (j : Int) (by omega) (by omega)
 rw [Int.toNat_natCast] at h
 exact h
theorem outPut (ho : (Kd.int .i64).R e w b ok (.slice (some ⟨g, 0, none⟩) n c) xs) (j : Nat) (v : Int) : (Kd.int .i64).R e (w.setCell ⟨g, j, none⟩ (.int .i64 v)) b ok (.slice (some ⟨g, 0, none⟩) n c) (xs.set j v) := by
 have h := Kd.R_putn ho (j : Int) v
 rw [Int.toNat_natCast] at h
 exact h
end
theorem near_asG {ns : List Nd} {es : List Eg} {n : Nd} {m : List Nd} (hm : nearG ns es n = m) (A : Option Addr) (c : Nat) (B : Option Addr) (d : Nat) (w : World) (hr : GR w A c ns B d es) (hg : OkG ns es) :
 Calls Tryz.prog 131 #[.agg #[.slice A ns.length c, .slice B es.length d], .agg #[.int .i64 n.lab, .int .i64 n.num]] w fun e w' => ∃ A' c', e = .returned (.slice A' m.length c') ∧ kN.C w' A' m.length m ∧ m.length ≤ c' ∧ (∀ ad, A' = some ad → w.heap.size ≤ ad.block) ∧ Below w.heap.size w w' := by
 rw [← hm]
 exact l2Near_callsF A c ns B d es n w hr hg
theorem place_as {ns : List Nd} {es : List Eg} {n : Nd} {k : Nat} (hk : placeI ns n = (k : Int)) (A : Option Addr) (c : Nat) (B : Option Addr) (d : Nat) (w : World) (hr : GR w A c ns B d es) (hg : OkG ns es) :
 Calls Tryz.prog 55 #[.agg #[.slice A ns.length c, .slice B es.length d], .agg #[.int .i64 n.lab, .int .i64 n.num]] w fun e w' => e = .returned (.int .i64 (k : Int)) ∧ Below w.heap.size w w' := by
 rw [← hk]
 exact atP_calls A c ns B d es n w hr.cn hg
end Go.Proofs.YtogmbeifbjgphaaGreat.R
namespace Go.Proofs.YtogmbeifbjgphaaGreat.R
open Go.RowKit Go.Proofs.YtogmbeifbjgphaaGreatV.PrintWords Go.Proofs.YtogmbeifbjgphaaGreatV.PrintLast Go.Proofs.YtogmbeifbjgphaaGreatV.PrintMore Go.Proofs.YtogmbeifbjgphaaGreat.M
set_option linter.unusedVariables false
set_option linter.unusedSimpArgs false
attribute [local go_sem high] eqN eqE
abbrev sWi6 : Pl := (.tk 0 (.tk 1 (.tk 2 (.tk 3 (.tk 4 (.tk 5 (.tk 6 (.tk 7 (.tk 8 .fin)))))))))
theorem sWi6_ok : planB .any (opsOf Tryz.f17 6) [] sWi6 (Array.replicate (opsOf Tryz.f17 6).size false) = true := by kernel_rfl
abbrev sWa4 : List (Nat × Bool) := [(0, true), (1, true), (2, true), (3, true), (4, true), (5, true), (6, true)]
theorem sWa4_ok : schedB .any (opsOf Tryz.f15 4) sWa4 (Array.replicate (opsOf Tryz.f15 4).size false) = true := by kernel_rfl
theorem place_first {ns : List Nd} {x : Nd} {j : Nat} (hj : j < ns.length) (h : at_ ns j = x) (hf : ∀ t, t < j → at_ ns t ≠ x) : placeI ns x = (j : Int) := by
 have hm : x ∈ ns := h ▸ at_mem hj
 have h1 := idx_lt hm
 have h2 := at_idx hm
 rw [placeI_in hm]
 rcases Nat.lt_trichotomy (idx ns x) j with e | e | e
 ·exact absurd h2 (hf _ e)
 ·rw [e]
 ·exfalso
  have h3 := List.not_of_lt_findIdx (p := fun y => y == x) (xs := ns) (i := j) e
  rw [at_lt hj] at h
  simp [h] at h3
set_option maxHeartbeats 3200000 in
set_option maxRecDepth 100000 in
theorem wpInts_calls (A : Option Addr) (c : Nat) (B : Option Addr) (d : Nat) (xs : List Int) (w : World) (hx : (Kd.int .i64).C w A xs.length xs) (hy : (Kd.int .i64).C w B xs.length xs) (hl : xs.length ≤ 1000000) :
 Calls Tryz.prog 17 #[.slice A xs.length c, .slice B xs.length d] w fun e w' => e = .returned (.bool true) ∧ Below w.heap.size w w' := by
 have HX := Aside0.mk hx
 have HY := Aside0.mk hy
 have HL := Aside0.mk hl
 have HB := Aside0.mk (Below.refl w.heap.size w)
 clear hx hy hl
 go_enter Tryz.func17, Tryz.ntmps17
 go_wp2_with (fail)
 go_loopw [5] (fun s5 wr => ∃ k : Nat, k ≤ xs.length ∧ s5 = .int .i64 (k : Int) ∧ Below w.heap.size w wr) (fun s5 _ => (xs.length - intOf s5).toNat)
 case atStart => exact ⟨0, Nat.zero_le _, rfl, HB.out⟩
 case round =>
  clear HB
  obtain ⟨k, hk_, rfl, hb_⟩ := hrel
  have HK := Aside0.mk hk_
  have HB := Aside0.mk hb_
  clear hk_ hb_
  by_cases hlt : k < xs.length
  ·have hkl : (k : Int) < (xs.length : Int) := by omega
   have hk1 : (k : Int) < 1000000 := by have := HL.out; omega
   have HKT := Aside0.mk hlt
   obtain ⟨a1, e1, r0⟩ := int_at (Kd.C_below HX.out HB.out) k hlt
   cases e1
   obtain ⟨a2, e2, s0⟩ := int_at (Kd.C_below HY.out HB.out) k hlt
   cases e2
   generalize xs.getD k 0 = x at r0 s0
   clear hlt
   go_wp2_with (fail)
   refine region_bp [] sWi6 (by kernel_rfl) sWi6_ok (by decide) (fun d _ _ _ _ h => by cases d <;> exact h) ?_
   intro u hb
   have hS := hb
   replace HB := Aside0.mk (below_step HB.out hb)
   clear hb
   repeat (first | (refine p_off hS gt_ (by rfl) ?_; intro a_ ha_; (simp only [Act.put, pu1, pu2, pu3] at ha_); subst ha_) | (refine p_on (v := ?_) hS gt_ (by rfl) ?_ ?_; rotate_left; (· rintro w_ hS_; have r0_ := pw_cell_below hS_ r0; have s0_ := pw_cell_below hS_ s0; go_simp; with_reducible rfl); intro a_ ha_; (simp only [Act.put, pu1, pu2, pu3] at ha_); subst ha_) | (refine p_poff gt_ (by rfl) ?_; intro a_ ha_; (simp only [Act.put, pu1, pu2, pu3] at ha_); subst ha_) | (refine p_pon (v := ?_) gt_ (by rfl) ?_ ?_; rotate_left; (· go_simp; with_reducible rfl); intro a_ ha_; (simp only [Act.put, pu1, pu2, pu3] at ha_); subst ha_) | (refine p_ooff hS gt_ (by rfl) ?_; intro a_ ha_; (simp only [Act.put, pu1, pu2, pu3] at ha_); subst ha_) | (refine p_loff gt_ (by rfl) ?_; intro a_ ha_; (simp only [Act.put, pu1, pu2, pu3] at ha_); subst ha_))
   refine p_fin ?_
   clear hS 
   go_wp2_with (fail)
   go_roundw
   case rel => exact ⟨k + 1, HKT.out, by go_num, HB.out⟩
   case measure => have := HKT.out; simp [intOf]; omega
  ·have hkl : ¬ (k : Int) < (xs.length : Int) := by omega
   clear hlt
   go_wp2_with (fail)
   go_ret
   exact ⟨rfl, HB.out⟩
set_option maxHeartbeats 3200000 in
set_option maxRecDepth 100000 in
theorem wpAt_calls (A : Option Addr) (c : Nat) (ns : List Nd) (B : Option Addr) (d : Nat) (es : List Eg) (x : Nd) (w : World) (hr : kN.C w A ns.length ns) (hl : ns.length ≤ 1000000) :
 Calls Tryz.prog 15 #[.agg #[.slice A ns.length c, .slice B es.length d], .agg #[.int .i64 x.lab, .int .i64 x.num]] w fun e w' => e = .returned (.int .i64 (placeI ns x)) ∧ Below w.heap.size w w' := by
 have HR := Aside0.mk hr
 have HL := Aside0.mk hl
 clear hr hl
 go_enter Tryz.func15, Tryz.ntmps15
 go_wp2_with (fail)
 go_loopw [5] (fun s5 wr => ∃ j : Nat, j ≤ ns.length ∧ s5 = .int .i64 (j : Int) ∧ Aside0 (∀ t, t < j → at_ ns t ≠ x) ∧ Aside0 (wr.cell? ⟨w.heap.size, 0, none⟩ = some (.slice A ns.length c)) ∧ Aside0 (wr.cell? ⟨w.heap.size + 1, 0, none⟩ = some (.int .i64 x.lab)) ∧ Aside0 (wr.cell? ⟨w.heap.size + 1, 1, none⟩ = some (.int .i64 x.num)) ∧ Aside0 (Below w.heap.size w wr)) (fun s5 _ => (ns.length - intOf s5).toNat)
 case atStart => exact ⟨0, Nat.zero_le _, rfl, ⟨fun t ht => absurd ht (Nat.not_lt_zero _)⟩, ⟨by simp⟩, ⟨by simp⟩, ⟨by simp⟩, ⟨below_alloc (below_alloc (Below.refl _ _) _) _⟩⟩
 case round =>
  obtain ⟨j, hj, rfl, H1, Q0, X0, X1, HB⟩ := hrel
  have hl := HL.out
  have g0 := Q0.out
  by_cases hlt : j < ns.length
  ·obtain ⟨ad, e1, r0, r1⟩ := nd_at (Kd.C_below HR.out HB.out) j hlt
   cases e1
   generalize hy : at_ ns j = y at r0 r1
   have HY := Aside0.mk hy
   clear hy
   have x0 := X0.out
   have x1 := X1.out
   by_cases hxy : y = x
   ·have hne : (y.lab == x.lab && (y.num == x.num)) = true := (nd_eq y x).trans (decide_eq_true hxy)
    have HM := Aside0.mk (show placeI ns x = (j : Int) from place_first hlt (HY.out.trans hxy) H1.out)
    clear hxy
    go_wp2_with (fail)
    have HK_ := Aside0.mk (show Reg (fun u_ => Below w.heap.size w u_ ∧ u_.cell? ⟨w.heap.size, 0, none⟩ = some (.slice (some ad) ns.length c) ∧ u_.cell? (ad.add (j * 2)) = some (.int .i64 y.lab) ∧ u_.cell? ⟨(ad.add (j * 2)).block, (ad.add (j * 2)).off + 1, none⟩ = some (.int .i64 y.num) ∧ u_.cell? ⟨w.heap.size + 1, 0, none⟩ = some (.int .i64 x.lab) ∧ u_.cell? ⟨w.heap.size + 1, 1, none⟩ = some (.int .i64 x.num) ∧ True) from ⟨fun _ _ hb_ ⟨q_, s0_, s1_, s2_, s3_, s4_, _⟩ => ⟨below_step q_ hb_, pw_cell_below hb_ s0_, pw_cell_below hb_ s1_, pw_cell_below hb_ s2_, pw_cell_below hb_ s3_, pw_cell_below hb_ s4_, trivial⟩⟩)
    refine region_by _ sWa4 (by kernel_rfl) sWa4_ok rfl (fun d _ _ _ _ h => by cases d <;> exact h) HK_.out ⟨HB.out, g0, r0, r1, x0, x1, trivial⟩ ?_
    intro u hS
    clear g0 r0 r1 x0 x1
    repeat (first | (refine h_off gt_ (by rfl) ?_; intro a_ ha_; (simp only [Act.put, pu1, pu2, pu3] at ha_); subst ha_) | (refine h_on (v := ?_) gt_ (by rfl) ?_ ?_; rotate_left; (· rintro w_ ⟨-, s0_, s1_, s2_, s3_, s4_, -⟩; go_simp; with_reducible rfl); intro a_ ha_; (simp only [Act.put, pu1, pu2, pu3] at ha_); subst ha_) | (refine h_offc hS gt_ (by rfl) ?_; intro a_ ha_; (simp only [Act.put, pu1, pu2, pu3] at ha_); subst ha_))
    refine h_end ?_
    clear HK_ HB
    obtain ⟨hB_, g0, r0, r1, x0, x1, -⟩ := hS
    have HB := Aside0.mk hB_
    clear hB_
    go_wp2
    go_ret
    exact ⟨retI HM.out.symm, HB.out⟩
   ·have hne : (y.lab == x.lab && (y.num == x.num)) = false := (nd_eq y x).trans (decide_eq_false hxy)
    have HNE := Aside0.mk hxy
    clear hxy
    go_wp2_with (fail)
    have HK_ := Aside0.mk (show Reg (fun u_ => Below w.heap.size w u_ ∧ u_.cell? ⟨w.heap.size, 0, none⟩ = some (.slice (some ad) ns.length c) ∧ u_.cell? (ad.add (j * 2)) = some (.int .i64 y.lab) ∧ u_.cell? ⟨(ad.add (j * 2)).block, (ad.add (j * 2)).off + 1, none⟩ = some (.int .i64 y.num) ∧ u_.cell? ⟨w.heap.size + 1, 0, none⟩ = some (.int .i64 x.lab) ∧ u_.cell? ⟨w.heap.size + 1, 1, none⟩ = some (.int .i64 x.num) ∧ True) from ⟨fun _ _ hb_ ⟨q_, s0_, s1_, s2_, s3_, s4_, _⟩ => ⟨below_step q_ hb_, pw_cell_below hb_ s0_, pw_cell_below hb_ s1_, pw_cell_below hb_ s2_, pw_cell_below hb_ s3_, pw_cell_below hb_ s4_, trivial⟩⟩)
    refine region_by _ sWa4 (by kernel_rfl) sWa4_ok rfl (fun d _ _ _ _ h => by cases d <;> exact h) HK_.out ⟨HB.out, g0, r0, r1, x0, x1, trivial⟩ ?_
    intro u hS
    clear g0 r0 r1 x0 x1
    repeat (first | (refine h_off gt_ (by rfl) ?_; intro a_ ha_; (simp only [Act.put, pu1, pu2, pu3] at ha_); subst ha_) | (refine h_on (v := ?_) gt_ (by rfl) ?_ ?_; rotate_left; (· rintro w_ ⟨-, s0_, s1_, s2_, s3_, s4_, -⟩; go_simp; with_reducible rfl); intro a_ ha_; (simp only [Act.put, pu1, pu2, pu3] at ha_); subst ha_) | (refine h_offc hS gt_ (by rfl) ?_; intro a_ ha_; (simp only [Act.put, pu1, pu2, pu3] at ha_); subst ha_))
    refine h_end ?_
    clear HK_ HB
    obtain ⟨hB_, g0, r0, r1, x0, x1, -⟩ := hS
    have HB := Aside0.mk hB_
    clear hB_
    go_wp2
    go_roundw
    case rel => exact ⟨j + 1, by omega, by go_num, ⟨fun t ht => by
     rcases Nat.lt_succ_iff_lt_or_eq.1 ht with h | rfl
     ·exact H1.out t h
     ·rw [HY.out]; exact HNE.out⟩, ⟨g0⟩, ⟨x0⟩, ⟨x1⟩, HB⟩
    case measure => simp [intOf]; omega
  ·have HM := Aside0.mk (show ¬ x ∈ ns by
    intro hm
    obtain ⟨t, ht, rfl⟩ := List.getElem_of_mem hm
    exact H1.out t (by omega) (at__lt' ht))
   go_wp2_with (fail)
   go_ret
   exact ⟨retI (placeI_out HM.out).symm, HB.out⟩
end Go.Proofs.YtogmbeifbjgphaaGreat.R
