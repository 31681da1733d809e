/- The reference: WalkCore. -/
import Derived.Test.YtogmbeifbjgphaaGreatKB32
import Derived.Test.YtogmbeifbjgphaaGreatKB35
import Derived.Test.YtogmbeifbjgphaaGreatKB33
namespace Go.Proofs.YtogmbeifbjgphaaGreat.R
open Go.RowKit Go.Proofs.YtogmbeifbjgphaaGreatV.PrintWords Go.Proofs.YtogmbeifbjgphaaGreatV.PrintLast Go.Proofs.YtogmbeifbjgphaaGreatV.PrintMore Go.Proofs.YtogmbeifbjgphaaGreat.M
set_option linter.unusedVariables false
set_option linter.unusedSimpArgs false
attribute [local go_sem high] eqN eqE
section
variable {w u : World}
theorem R_sep {α : Type} {d : Kd α} {e base : Nat} {ok : Nat → Prop} {v : Value} {xs : List α} (h : d.R e w base ok v xs) (hE : d.E = []) {row : Option Nat} (hg : w.grownBy u row) (hne : ∀ k, row = some k → v.ownBlock ≠ some k) : d.R e u base ok v xs := by
 rcases hv : v.ownBlock with _ | g
 ·cases row with
  | none => exact Kd.R_grown1 (row := some 0) h hE ⟨hg.os, hg.tape, hg.output, hg.size, fun i hi _ => hg.block i hi (by simp)⟩ (by rw [hv]; simp)
  | some r => exact Kd.R_grown1 h hE hg (by rw [hv]; simp)
 ·exact Kd.R_grown1 h hE hg (fun e => hne g (e.trans hv) hv)
variable {e b b' : Nat} {ok ok' : Nat → Prop} {v v' : Value} {xs : List Int} {ys : List Bool}
theorem sepIB (ho : (Kd.int .i64).R 3 w b ok v xs) (hl : KB.R 4 w b' ok' v' ys) : ∀ k, v.ownBlock = some k → v'.ownBlock ≠ some k := fun k h1 h2 => by
 obtain ⟨c1, e1⟩ := Kd.R_typed ho k h1
 obtain ⟨c2, e2⟩ := Kd.R_typed hl k h2
 rw [e1] at e2
 injection e2 with e2
 injection e2 with _ e2
 exact absurd e2 (by decide)
theorem sepBI (hl : KB.R 4 w b' ok' v' ys) (ho : (Kd.int .i64).R 3 w b ok v xs) : ∀ k, v'.ownBlock = some k → v.ownBlock ≠ some k := fun k h1 h2 => sepIB ho hl k h2 h1
theorem sepIB1 {g n c : Nat} (ho : (Kd.int .i64).R 3 w b ok (.slice (some ⟨g, 0, none⟩) n c) xs) (hl : KB.R 4 w b' ok' v' ys) : ∀ k, some g = some k → v'.ownBlock ≠ some k := sepIB ho hl
theorem sepBI1 {g n c : Nat} (hl : KB.R 4 w b' ok' (.slice (some ⟨g, 0, none⟩) n c) ys) (ho : (Kd.int .i64).R 3 w b ok v xs) : ∀ k, some g = some k → v.ownBlock ≠ some k := sepBI hl ho
end
def ScS (w : World) (A : Option Addr) (c : Nat) (ns : List Nd) (B : Option Addr) (d : Nat) (es : List Eg) (A3 : Option Addr) (c3 : Nat) (xs : List Int) (A4 : Option Addr) (c4 : Nat) (l : List Bool) (n : Nat) (wr : World) : Prop :=
 (Kd.int .i64).R 3 wr (w.heap.size + 1) (fun _ => True) (.slice A3 n c3) xs ∧ KB.R 4 wr (w.heap.size + 1) (fun _ => True) (.slice A4 n c4) l ∧ wr.heap[w.heap.size]? = some (.cells #[.slice A ns.length c, .slice B es.length d] 26 (0, 0)) ∧ Below w.heap.size w wr
def ScF (w : World) (A : Option Addr) (c : Nat) (ns : List Nd) (B : Option Addr) (d : Nat) (es : List Eg) (s3 s4 s5 : Value) (wr : World) : Prop :=
 ∃ (k : Nat) (A3 : Option Addr) (c3 : Nat) (A4 : Option Addr) (c4 : Nat), k ≤ ns.length ∧ s3 = .slice A3 k c3 ∧ s4 = .slice A4 k c4 ∧ s5 = .int .i64 (k : Int) ∧ ScS w A c ns B d es A3 c3 (List.replicate k 0) A4 c4 (List.replicate k true) k wr
def ScO (w : World) (A : Option Addr) (c : Nat) (ns : List Nd) (B : Option Addr) (d : Nat) (es : List Eg) (A3 : Option Addr) (c3 : Nat) (A4 : Option Addr) (c4 : Nat) (s4 s6 : Value) (wr : World) : Prop :=
 ∃ (k : Nat) (l : List Bool), (k = 0 ∨ k + 1 ≤ ns.length) ∧ s4 = .slice A4 ns.length c4 ∧ s6 = .int .i64 ((k + 1 : Nat) : Int) ∧ Peel (adjI ns es) ns.length (k + 1) l ∧ ScS w A c ns B d es A3 c3 (coreU (adjI ns es) ns.length k) A4 c4 l ns.length wr
def ScI (w : World) (A : Option Addr) (c : Nat) (ns : List Nd) (B : Option Addr) (d : Nat) (es : List Eg) (A3 : Option Addr) (c3 : Nat) (A4 : Option Addr) (c4 k : Nat) (s7 : Value) (wr : World) : Prop :=
 ∃ j : Nat, j ≤ ns.length ∧ s7 = .int .i64 (j : Int) ∧ ScS w A c ns B d es A3 c3 (coreV (adjI ns es) ns.length k j) A4 c4 (kcL (adjI ns es) ns.length (k + 1)) ns.length wr
set_option maxHeartbeats 25600000 in
set_option maxRecDepth 100000 in
theorem sWalkCore_calls (A : Option Addr) (c : Nat) (ns : List Nd) (B : Option Addr) (d : Nat) (es : List Eg) (w : World) (hr : GR w A c ns B d es) (hl : ns.length ≤ 100 ∧ es.length ≤ 100) :
 Calls Tryz.prog 18 #[.agg #[.slice A ns.length c, .slice B es.length d]] w fun e w' => RetI w.heap.size (wCore ns es) e w' ∧ Below w.heap.size w w' := by
 have HR := Aside0.mk hr
 have HLN := Aside0.mk hl
 clear hr hl
 obtain ⟨v, hv⟩ : ∃ v, okG ns es = v := ⟨_, rfl⟩
 have HOK := Aside0.mk hv
 clear hv
 obtain ⟨L0, HB⟩ := al1 w #[.slice A ns.length c, .slice B es.length d] 26
 cases v
 ·have HW := Aside0.mk (show wCore ns es = [] from if_neg fun h => by rw [HOK.out] at h; cases h)
  go_enter Tryz.func18, Tryz.ntmps18
  go_wp2_with (first | ((with_reducible refine gate_dst (N := 8) rfl ?_); go_must ((refine w_lit #[] 3 0 rfl (by go_simp; (first | done | rfl)) ?_); intro g3 u_ hge_ hb0_ hb; have H3 := Aside0.mk (show w.heap.size + 1 ≤ g3 from Nat.le_trans (blk_lt L0.out) hge_); have HL3 := Aside0.mk (show Rw (Value.int .i64) 3 u_ g3 [] from hb0_); replace HB := Aside0.mk (below_step HB.out hb); replace L0 := Aside0.mk (blk_below L0.out hb); (try clear c0 c1); obtain ⟨c0, c1⟩ := cs2 (L0.out); clear hge_ hb0_ hb)) | (go_at_call 19; go_must ((refine (sGraphOk_calls A c ns B d es _ (HR.out.below HB.out) (by have := HLN.out; omega) (by have := HLN.out; omega)).mono ?_); rintro e u_ ⟨rfl, hb⟩; rw [HOK.out]; replace HB := Aside0.mk (below_step HB.out hb); replace L0 := Aside0.mk (blk_below L0.out hb); replace HL3 := Aside0.mk ((HL3.out).below hb); (try clear c0 c1); obtain ⟨c0, c1⟩ := cs2 (L0.out); clear hb)))
  go_ret
  exact ⟨by rw [HW.out]; exact RetI.row HL3.out rfl (by omega) (by have := H3.out; omega), HB.out⟩
 ·have HOG := Aside0.mk (okG_true.1 HOK.out)
  have HLM := Aside0.mk (NsOk.mk HOG.out.nok HOG.out.nasc HOG.out.nfew).len
  have HW := Aside0.mk (show wCore ns es = coreL (adjI ns es) ns.length from if_pos HOK.out)
  have hnn : (ns.length : Int) ≤ 40 := by have := HLM.out; omega
  go_enter Tryz.func18, Tryz.ntmps18
  go_wp2_with (first | ((with_reducible refine gate_dst (N := 8) rfl ?_); go_must ((refine w_lit #[] 3 0 rfl (by go_simp; (first | done | rfl)) ?_); intro g3 u_ hge_ hb0_ hb; have H3 := Aside0.mk (show w.heap.size + 1 ≤ g3 from Nat.le_trans (blk_lt L0.out) hge_); have HL3 := Aside0.mk (show Rw (Value.int .i64) 3 u_ g3 [] from hb0_); replace HB := Aside0.mk (below_step HB.out hb); replace L0 := Aside0.mk (blk_below L0.out hb); (try clear c0 c1); obtain ⟨c0, c1⟩ := cs2 (L0.out); clear hge_ hb0_ hb)) | (go_at_call 19; go_must ((refine (sGraphOk_calls A c ns B d es _ (HR.out.below HB.out) (by have := HLN.out; omega) (by have := HLN.out; omega)).mono ?_); rintro e u_ ⟨rfl, hb⟩; rw [HOK.out]; replace HB := Aside0.mk (below_step HB.out hb); replace L0 := Aside0.mk (blk_below L0.out hb); replace HL3 := Aside0.mk ((HL3.out).below hb); (try clear c0 c1); obtain ⟨c0, c1⟩ := cs2 (L0.out); clear hb)) | ((with_reducible refine gate_dst (N := 13) rfl ?_); go_must ((refine w_lit #[] 4 0 rfl (by go_simp; (first | done | rfl)) ?_); intro g4 u_ hge_ hb0_ hb; have H4 := Aside0.mk (show w.heap.size + 1 ≤ g4 from Nat.le_trans (blk_lt L0.out) hge_); have HL4 := Aside0.mk (show Rw Value.bool 4 u_ g4 [] from hb0_); replace HB := Aside0.mk (below_step HB.out hb); replace L0 := Aside0.mk (blk_below L0.out hb); replace HL3 := Aside0.mk ((HL3.out).below hb); (try clear c0 c1); obtain ⟨c0, c1⟩ := cs2 (L0.out); clear hge_ hb0_ hb)))
  go_loopw [3, 4, 5] (fun s3 s4 s5 wr => ScF w A c ns B d es s3 s4 s5 wr) (fun _ _ s5 _ => (ns.length - intOf s5).toNat)
  case atStart => exact ⟨0, some ⟨g3, 0, none⟩, 0, some ⟨g4, 0, none⟩, 0, Nat.zero_le _, rfl, rfl, rfl, HL3.out.own (fun _ => rfl) H3.out (by simp), HL4.out.own (fun _ => rfl) H4.out (by simp), L0.out, HB.out⟩
  case round =>
   clear HB L0 HL3 H3 HL4 H4
   obtain ⟨k, A3, c3, A4, c4, hk, rfl, rfl, rfl, hro_, hrl_, l0_, hb_⟩ := hrel
   have HK := Aside0.mk hk
   clear hk
   have HRO := Aside0.mk hro_
   have HRL := Aside0.mk hrl_
   have L0 := Aside0.mk l0_
   have HB := Aside0.mk hb_
   obtain ⟨c0, c1⟩ := cs2 (L0.out)
   clear hro_ hrl_ l0_ hb_
   by_cases hlt : k < ns.length
   ·have hkl : (k : Int) < (ns.length : Int) := by omega
    have HKN := Aside0.mk hlt
    clear hlt
    go_wp2_with (first | ((with_reducible refine gate_dst (N := 22) rfl ?_); go_must ((refine w_lit #[.int .i64 0] 3 1 rfl (by go_simp; (first | done | rfl)) ?_); intro gl u_ hge_ hb0_ hb; have LT := Aside0.mk hb0_; replace HB := Aside0.mk (below_step HB.out hb); replace L0 := Aside0.mk (blk_below L0.out hb); replace HRO := Aside0.mk (Kd.R_below (HRO.out) hb); replace HRL := Aside0.mk (Kd.R_below (HRL.out) hb); (try clear c0 c1); obtain ⟨c0, c1⟩ := cs2 (L0.out); clear hge_ hb0_ hb)) | ((with_reducible refine gate_dst (N := 23) rfl ?_); go_must ((refine w_append (flatI .i64) (base := w.heap.size + 1) (e := 3) (.int .i64 0) 8 (.slice A3 k c3) (List.replicate k (0 : Int)) [(0 : Int)] rfl rfl Tryz.underlying37 (by kernel_rfl) rfl (by decide) HRO.out (C_lit [(0 : Int)] LT.out rfl (by simp)) rfl rfl (blk_lt L0.out) (by have := HLM.out; have := HKN.out; simp only [List.length_replicate, List.length_singleton]; omega) ?_); intro B3 n3 p3 wt hn9_ hp9_ hr_ hg_ ho_; obtain rfl : n3 = (List.replicate k (0 : Int) ++ [(0 : Int)]).length := hn9_; have HR3 := Aside0.mk hr_; replace HRL := Aside0.mk (R_sep HRL.out rfl hg_ (sepIB HRO.out HRL.out)); replace L0 := Aside0.mk (gw_blk hg_ L0.out (fun e => by have := Kd.R_base HRO.out _ e.symm; omega)); (try clear c0 c1); obtain ⟨c0, c1⟩ := cs2 (L0.out); replace HB := Aside0.mk (HB.out.grown hg_ HB.out.size (fun k hk => by have := Kd.R_base HRO.out k hk; omega)); clear hp9_ hr_ hg_ ho_ HRO LT)) | ((with_reducible refine gate_dst (N := 25) rfl ?_); go_must ((refine w_lit #[.bool true] 4 1 rfl (by go_simp; (first | done | rfl)) ?_); intro gl u_ hge_ hb0_ hb; have LT := Aside0.mk hb0_; replace HB := Aside0.mk (below_step HB.out hb); replace L0 := Aside0.mk (blk_below L0.out hb); replace HR3 := Aside0.mk (Kd.R_below (HR3.out) hb); replace HRL := Aside0.mk (Kd.R_below (HRL.out) hb); (try clear c0 c1); obtain ⟨c0, c1⟩ := cs2 (L0.out); clear hge_ hb0_ hb)) | ((with_reducible refine gate_dst (N := 26) rfl ?_); go_must ((refine w_append flatB (base := w.heap.size + 1) (e := 4) (.bool false) 1 (.slice A4 k c4) (List.replicate k true) [true] rfl rfl Tryz.underlying68 (by kernel_rfl) rfl (by decide) HRL.out (C_litB [true] LT.out rfl (by simp)) rfl rfl (blk_lt L0.out) (by have := HLM.out; have := HKN.out; simp only [List.length_replicate, List.length_singleton]; omega) ?_); intro B4 n4 p4 wt hn9_ hp9_ hr_ hg_ ho_; obtain rfl : n4 = (List.replicate k true ++ [true]).length := hn9_; have HR4 := Aside0.mk hr_; replace HR3 := Aside0.mk (R_sep HR3.out rfl hg_ (sepBI HRL.out HR3.out)); replace L0 := Aside0.mk (gw_blk hg_ L0.out (fun e => by have := Kd.R_base HRL.out _ e.symm; omega)); (try clear c0 c1); obtain ⟨c0, c1⟩ := cs2 (L0.out); replace HB := Aside0.mk (HB.out.grown hg_ HB.out.size (fun k hk => by have := Kd.R_base HRL.out k hk; omega)); clear hp9_ hr_ hg_ ho_ HRL LT)))
    go_roundw
    case rel => exact ⟨k + 1, B3, p3, B4, p4, HKN.out, rfl, rfl, by go_num, by have h := HR3.out; rw [List.length_append, List.length_replicate, ← List.replicate_succ'] at h; exact h, by have h := HR4.out; rw [List.length_append, List.length_replicate, ← List.replicate_succ'] at h; exact h, L0.out, HB.out⟩
    case measure => have := HKN.out; simp [intOf]; omega
   ·have hkl : ¬ (k : Int) < (ns.length : Int) := by omega
    obtain rfl : k = ns.length := by have := HK.out; omega
    clear hlt HK
    go_wp2_with (fail)
    go_loopw [4, 6, 7] (fun s4 s6 _ wr => ScO w A c ns B d es A3 c3 A4 c4 s4 s6 wr) (fun _ s6 _ _ => (ns.length - intOf s6).toNat)
    case atStart => exact ⟨0, _, .inl rfl, rfl, rfl, Peel.first, by rw [coreU_zero]; exact HRO.out, HRL.out, L0.out, HB.out⟩
    case round =>
     clear HB L0 HRO HRL
     obtain ⟨k, l, hk, rfl, rfl, hpl_, hro_, hrl_, l0_, hb_⟩ := hrel
     have HK := Aside0.mk hk
     have HPL := Aside0.mk hpl_
     clear hk hpl_
     have HRO := Aside0.mk hro_
     have HRL := Aside0.mk hrl_
     have L0 := Aside0.mk l0_
     have HB := Aside0.mk hb_
     obtain ⟨c0, c1⟩ := cs2 (L0.out)
     clear hro_ hrl_ l0_ hb_
     have hkb : (k : Int) ≤ 40 := by have := HK.out; have := HLM.out; omega
     by_cases hlt : k + 1 < ns.length
     ·have hkl2 : ((k + 1 : Nat) : Int) < (ns.length : Int) := by omega
      have HKL := Aside0.mk hlt
      obtain ⟨a1, rfl⟩ : ∃ ad, A = some ad := by obtain ⟨ad, e, _⟩ := HR.out.cn.2.2 (by omega); exact ⟨ad, e⟩
      obtain ⟨g3, rfl⟩ := own_addrI HRO.out (by omega)
      obtain ⟨g4, rfl⟩ := own_addrB HRL.out (by omega)
      clear hlt
      go_wp2_with (first | (go_at_call 50; go_must ((refine (sPeel_calls w _ a1 c ns B d es (k + 1) g4 c4 (w.heap.size + 1) l HR.out HB.out HOG.out HRL.out (by have := Kd.R_base HRL.out g4 rfl; omega) (by have := HLM.out; have := HKL.out; omega) HPL.out).mono ?_); rintro e u_ ⟨rfl, hrl_, hg_⟩; replace HRO := Aside0.mk (R_sep HRO.out rfl hg_ (sepBI1 HRL.out HRO.out)); replace L0 := Aside0.mk (gw_blk hg_ L0.out (fun e => by have := Option.some.inj e; have := Kd.R_base HRL.out g4 rfl; omega)); (try clear c0 c1); obtain ⟨c0, c1⟩ := cs2 (L0.out); replace HB := Aside0.mk (HB.out.grown hg_ HB.out.size (fun k hk => by have := Option.some.inj hk; have := Kd.R_base HRL.out g4 rfl; omega)); replace HRL := Aside0.mk hrl_; clear hrl_ hg_ HPL)))
      go_loopw [7] (fun s7 wr => ScI w (some a1) c ns B d es (some ⟨g3, 0, none⟩) c3 (some ⟨g4, 0, none⟩) c4 k s7 wr) (fun s7 _ => (ns.length - intOf s7).toNat)
      case atStart => exact ⟨0, Nat.zero_le _, rfl, by rw [coreV_zero]; exact HRO.out, HRL.out, L0.out, HB.out⟩
      case round =>
       clear HB L0 HRO HRL
       obtain ⟨j, hj, rfl, hro_, hrl_, l0_, hb_⟩ := hrel
       have HJ := Aside0.mk hj
       clear hj
       have HRO := Aside0.mk hro_
       have HRL := Aside0.mk hrl_
       have L0 := Aside0.mk l0_
       have HB := Aside0.mk hb_
       obtain ⟨c0, c1⟩ := cs2 (L0.out)
       clear hro_ hrl_ l0_ hb_
       by_cases hlt : j < ns.length
       ·have hjl : (j : Int) < (ns.length : Int) := by omega
        have HJN := Aside0.mk hlt
        obtain ⟨x, hx⟩ : ∃ x, kc (adjI ns es) ns.length (k + 1) j = x := ⟨_, rfl⟩
        have k0 := (outAtB HRL.out j hlt).1
        rw [kc_gb hlt, hx] at k0
        have HX := Aside0.mk hx
        clear hlt hx
        cases x
        ·go_wp2_with (fail)
         go_roundw
         case rel => exact ⟨j + 1, HJN.out, by go_num, by rw [coreV_off HJN.out HX.out]; exact HRO.out, HRL.out, L0.out, HB.out⟩
         case measure => have := HJN.out; simp [intOf]; omega
        ·go_wp2_with (first | ((with_reducible refine gate_store (p := 51) rfl ?_); go_must ((refine wpList_plain rfl fun K_ hK_ => wp_cellI g3 j .i64 ((k + 1 : Nat) : Int) rfl rfl rfl ⟨_, (outAt HRO.out j HJN.out).1⟩ (outAt HRO.out j HJN.out).2 (by kernel_rfl) (hK_ _ _ ?_)); refine named _ ?_; intro wz hwz; have hg_ : World.grownBy _ wz (some g3) := hwz ▸ grown_setCell _ _ _ _; replace HRL := Aside0.mk (R_sep HRL.out rfl hg_ (sepIB1 HRO.out HRL.out)); replace L0 := Aside0.mk (gw_blk hg_ L0.out (fun e => by have := Option.some.inj e; have := Kd.R_base HRO.out g3 rfl; omega)); (try clear c0 c1); obtain ⟨c0, c1⟩ := cs2 (L0.out); replace HB := Aside0.mk (HB.out.grown hg_ HB.out.size (fun k hk => by have := Option.some.inj hk; have := Kd.R_base HRO.out g3 rfl; omega)); replace HRO := Aside0.mk (show (Kd.int .i64).R 3 wz (w.heap.size + 1) (fun _ => True) (.slice (some ⟨g3, 0, none⟩) ns.length c3) _ from hwz ▸ outPut HRO.out j ((k + 1 : Nat) : Int)); clear hwz hg_)))
         go_roundw
         case rel => exact ⟨j + 1, HJN.out, by go_num, by rw [← coreV_on HJN.out HX.out]; exact HRO.out, HRL.out, L0.out, HB.out⟩
         case measure => have := HJN.out; simp [intOf]; omega
       ·have hjl : ¬ (j : Int) < (ns.length : Int) := by omega
        obtain rfl : j = ns.length := by have := HJ.out; omega
        clear hlt
        go_wp2_with (fail)
        go_roundw
        case rel => exact ⟨k + 1, _, .inr (by have := HKL.out; omega), rfl, by go_num, Peel.next (kcL_len _ _ _) (fun v => gb_kc v), by rw [← coreV_end]; exact HRO.out, HRL.out, L0.out, HB.out⟩
        case measure => have := HKL.out; simp [intOf]; omega
     ·have hkl2 : ¬ ((k + 1 : Nat) : Int) < (ns.length : Int) := by omega
      have HE := Aside0.mk (show coreU (adjI ns es) ns.length k = coreL (adjI ns es) ns.length from coreU_end fun v hv => by have := core_few (adjI_irr HOG.out) hv; omega)
      have HRD := Aside0.mk (Kd.R_reads' HRO.out)
      rw [HE.out] at HRD
      clear hlt
      go_wp2_with (fail)
      go_ret
      exact ⟨by rw [HW.out]; exact ⟨A3, c3, by rw [coreL_length]; rfl, HRD.out.2.2, by rw [coreL_length]; exact HRD.out.2.1, fun ad e => by have := Kd.R_base HRO.out ad.block (by rw [e]; rfl); omega⟩, HB.out⟩
end Go.Proofs.YtogmbeifbjgphaaGreat.R
