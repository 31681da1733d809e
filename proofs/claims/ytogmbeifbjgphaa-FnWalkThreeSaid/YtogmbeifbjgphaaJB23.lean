/- Draws: a graph and what is done to it; What the laws call, by names of what it comes to; impl.GraphNear of a node that no edge joins: no node; slices.Compact at nodes, in a row of one's own; slices.SortFunc at nodes: the kit's contract of the sort laid at this program's bodies; The order of nodes, as a sort asks it: what is called only lays blocks and draws; slices.SortFunc at nodes: the row holds the same nodes, in order of their numbers. -/
import Derived.Shelf.SlSortCmp.NoneTotal
import Derived.Sort.Grow
import Derived.Test.YtogmbeifbjgphaaJB18
import Derived.Test.YtogmbeifbjgphaaJB22
import Derived.Test.YtogmbeifbjgphaaJB2
import Derived.Test.YtogmbeifbjgphaaProg
import Derived.Test.YtogmbeifbjgphaaJB6
import Derived.Test.YtogmbeifbjgphaaJB7
import Derived.Test.YtogmbeifbjgphaaJB21
namespace Go.Proofs.Ytogmbeifbjgphaa.R
open Go.RowKit Go.Proofs.YtogmbeifbjgphaaV.PrintWords Go.Proofs.YtogmbeifbjgphaaV.PrintLast Go.Proofs.YtogmbeifbjgphaaV.PrintMore Go.Proofs.Ytogmbeifbjgphaa.M
set_option linter.unusedVariables false
set_option linter.unusedSimpArgs false
attribute [local go_sem high] eqN eqE
theorem below_gr {w u v : World} {G : Nat} (h : Below w.heap.size w u) (hg : u.grownBy v (some G)) (hG : w.heap.size ≤ G) : Below w.heap.size w v := h.grown hg h.size (fun k hk => by cases hk; exact hG)
end Go.Proofs.Ytogmbeifbjgphaa.R
namespace Go.Proofs.Ytogmbeifbjgphaa.R
open Go.RowKit Go.Proofs.YtogmbeifbjgphaaV.PrintWords Go.Proofs.YtogmbeifbjgphaaV.PrintLast Go.Proofs.YtogmbeifbjgphaaV.PrintMore Go.Proofs.Ytogmbeifbjgphaa.M
set_option linter.unusedVariables false
set_option linter.unusedSimpArgs false
attribute [local go_sem high] eqN eqE
theorem region_bp {P : Program} {ops : Array Oper} {Q : Exit → Act → World → Prop} {id : Nat} {a : Act} {w : World} (ds : List Nat) (p : Pl) (hm : P.follows .mixedOrders = true) (hc : planB .any ops ds p (Array.replicate ops.size false) = true) (hl : p.depth ≤ ops.size)
    (hQ : ∀ (d : Option Tmp) (v : Value) (c : _) (a : Act) (w : World), Q (.panic c) (a.put d v) w → Q (.panic c) a w) (h : ∀ u, Below w.heap.size w u → wpP P ops Q (Below w.heap.size w) p a u) : (Code.region id ops true).wp P Q a w :=
  region_pl (Below w.heap.size w) ds p hm hc hl hQ ((Below.refl _ _).drew) fun u hb _ => h u hb
theorem row_C {W : World} {a : Option Addr} {len cap : Nat} {zs : List Int} (h : (a = none ∧ len = 0 ∧ cap = 0 ∧ zs = []) ∨ ∃ x, a = some x ∧ len ≤ cap ∧ cap ≤ maxLen ∧ zs.length = cap ∧ (∀ i, i < zs.length → W.cell? (x.add i) = some (.int .u8 (zs.getD i 0))) ∧ ∀ n ∈ zs, (Lit.int .u8 n).wf = true) :
    ∃ l : List Int, l.length = len ∧ l.length ≤ cap ∧ (Kd.int .u8).C W a l.length l ∧ ∀ x ∈ l, 0 ≤ x ∧ x < 256 := by
  rcases h with ⟨rfl, rfl, rfl, rfl⟩ | ⟨x, rfl, h1, h2, h3, h4, h5⟩
  · exact ⟨[], rfl, Nat.le_refl _, ⟨rfl, by decide, fun h => absurd h (Nat.lt_irrefl 0)⟩, fun x h => by cases h⟩
  · have hl : (zs.take len).length = len := by rw [List.length_take]; omega
    refine ⟨zs.take len, hl, by omega, ⟨rfl, by rw [hl]; unfold maxLen at h2; omega, fun _ => ⟨x, rfl, fun j p hj => ?_⟩⟩, fun n hn => ?_⟩
    · have hjl : j < (zs.take len).length := (List.getElem?_eq_some_iff.1 hj).1
      refine ⟨[.int .u8 p], rfl, rfl, fun i u hi => ?_⟩
      obtain ⟨rfl, rfl⟩ : i = 0 ∧ Value.int .u8 p = u := by
        match i, hi with
        | 0, hi => exact ⟨rfl, Option.some.inj hi⟩
      rw [show j * (Kd.int .u8).sz + 0 = j from Nat.mul_one j, h4 j (by omega)]
      rw [List.getElem?_take] at hj
      split at hj
      · rw [List.getD_eq_getElem?_getD, hj]
        rfl
      · cases hj
    · have := h5 n (List.mem_of_mem_take hn)
      simp [Lit.wf, IntKind.min, IntKind.max, IntKind.bits, IntKind.signed] at this
      omega
theorem sGraphOk_as (A : Option Addr) (c : Nat) (ns : List Nd) (B : Option Addr) (d : Nat) (es : List Eg) (v : Bool) (w : World) (hr : GR w A c ns B d es) (hl : ns.length ≤ 100 ∧ es.length ≤ 100) (h : okG ns es = v) :
    Calls Try.prog 33 #[.agg #[.slice A ns.length c, .slice B es.length d]] w fun e w' => e = .returned (.bool v) ∧ Below w.heap.size w w' := by
  subst h
  exact sGraphOk_calls A c ns B d es w hr (by omega) (by omega)
end Go.Proofs.Ytogmbeifbjgphaa.R
namespace Go.Proofs.Ytogmbeifbjgphaa.R
open Go.RowKit Go.Proofs.YtogmbeifbjgphaaV.PrintWords Go.Proofs.YtogmbeifbjgphaaV.PrintLast Go.Proofs.YtogmbeifbjgphaaV.PrintMore Go.Proofs.Ytogmbeifbjgphaa.M
set_option linter.unusedVariables false
set_option linter.unusedSimpArgs false
attribute [local go_sem high] eqN eqE
theorem insSort0 (w : World) : Calls Try.prog 207 #[.slice none 0 0, .int .i64 0, .int .i64 0, .func (.func 114) #[] #[]] w fun e w' => e = .returned (.tuple #[]) ∧ w = w' := by
  go_enter Try.func207, Try.ntmps207
  go_wp2_with (fail)
  go_loopw [8, 9] (fun s _ wr => s = .int .i64 1 ∧ w = wr) (fun _ _ _ => 0)
  case atStart => exact ⟨rfl, rfl⟩
  case round =>
    obtain ⟨rfl, rfl⟩ := hrel
    go_wp2_with (fail)
    go_end0
    exact ⟨rfl, rfl⟩
theorem pdq0 (k : Int) (w : World) : Calls Try.prog 176 #[.slice none 0 0, .int .i64 0, .int .i64 0, .int .i64 k, .func (.func 114) #[] #[]] w fun e w' => e = .returned (.tuple #[]) ∧ w = w' := by
  go_enter Try.func176, Try.ntmps176
  go_wp2_with (fail)
  go_loopw [1, 2, 3, 10, 11, 12, 13, 14, 15, 16, 17, 18, 19, 20] (fun s1 s2 s3 _ _ _ _ _ _ _ _ _ _ _ wr => s1 = .int .i64 0 ∧ s2 = .int .i64 0 ∧ w = wr) (fun _ _ _ _ _ _ _ _ _ _ _ _ _ _ _ => 0)
  case atStart => exact ⟨rfl, rfl, rfl⟩
  case round =>
    obtain ⟨rfl, rfl, rfl⟩ := hrel
    go_wp2_with (first | (go_at_call 207; go_must ((refine (insSort0 _).mono ?_); rintro e u_ ⟨rfl, rfl⟩)))
    exact bodyPost_ret (results_none rfl _ _ _) rfl ⟨rfl, rfl⟩
set_option maxRecDepth 100000 in
theorem bitsLen64_0 (w : World) : Calls Try.prog 216 #[.int .u64 0] w fun e w' => ∃ k, e = .returned (.int .i64 k) ∧ w = w' := by
  go_enter Try.func216, Try.ntmps216
  go_wp2_with (fail)
  go_ret
  exact ⟨_, rfl, rfl⟩
theorem bitsLen_0 (w : World) : Calls Try.prog 177 #[.int .u64 0] w fun e w' => ∃ k, e = .returned (.int .i64 k) ∧ w = w' := by
  go_enter Try.func177, Try.ntmps177
  go_wp2_with (first | (go_at_call 216; go_must ((refine (bitsLen64_0 _).mono ?_); rintro e u_ ⟨k, rfl, rfl⟩)))
  go_ret
  exact ⟨_, rfl, rfl⟩
theorem sortFunc0 (w : World) : Calls Try.prog 113 #[.slice none 0 0, .func (.func 114) #[] #[]] w fun e w' => e = .returned (.tuple #[]) ∧ w = w' := by
  go_enter Try.func113, Try.ntmps113
  go_wp2_with (first | (go_at_call 177; go_must ((refine (bitsLen_0 _).mono ?_); rintro e u_ ⟨k, rfl, rfl⟩)) | (go_at_call 176; go_must ((refine (pdq0 _ _).mono ?_); rintro e u_ ⟨rfl, rfl⟩)))
  go_end0
  exact ⟨rfl, rfl⟩
theorem compact0 (w : World) : Calls Try.prog 115 #[.slice none 0 0] w fun e w' => e = .returned (.slice none 0 0) ∧ w = w' := by
  go_enter Try.func115, Try.ntmps115
  go_wp2_with (fail)
  go_ret
  exact ⟨rfl, rfl⟩
end Go.Proofs.Ytogmbeifbjgphaa.R
namespace Go.Proofs.Ytogmbeifbjgphaa.R
open Go.RowKit Go.Proofs.YtogmbeifbjgphaaV.PrintWords Go.Proofs.YtogmbeifbjgphaaV.PrintLast Go.Proofs.YtogmbeifbjgphaaV.PrintMore Go.Proofs.Ytogmbeifbjgphaa.M
set_option linter.unusedVariables false
set_option linter.unusedSimpArgs false
attribute [local go_sem high] eqN eqE
abbrev sCo6 : Pl := (.tk 0 (.tk 1 (.tk 2 (.tk 3 (.tk 4 (.tk 5 (.tk 6 (.tk 7 (.tk 8 (.tk 9 .fin))))))))))
theorem sCo6_ok : planB .any (opsOf Try.f115 6) [] sCo6 (Array.replicate (opsOf Try.f115 6).size false) = true := by kernel_rfl
abbrev sCo11 : Pl := (.tk 0 (.tk 1 (.tk 2 (.tk 3 (.tk 4 (.tk 5 (.tk 6 (.tk 7 (.tk 8 (.tk 9 .fin))))))))))
theorem sCo11_ok : planB .any (opsOf Try.f115 11) [] sCo11 (Array.replicate (opsOf Try.f115 11).size false) = true := by kernel_rfl
section
variable {P : Program} {ops : Array Oper} {rest : List Oper} {o : Oper} {a : Act} {Q : Exit → Act → World → Prop}
/-- A node is stored into a row of nodes. -/
theorem store_nd {W : World} {base g n cap : Nat} {e : TypeId} {xs : List Nd} (i : Nat) (x : Nd) (hN : o.dst = none) (hgd : o.guard = none) (t : TypeId) (p y : Operand) (ho : o.op = .store t p y) (haddr : a.eval p = .pointer (some ⟨g, i * 2, none⟩)) (hx : a.eval y = .agg #[.int .i64 x.lab, .int .i64 x.num]) (ht : (P.info? t).map (·.size) = some 2)
    (HO : kN.R e W base (fun _ => True) (.slice (some ⟨g, 0, none⟩) n cap) xs) (hi : i < n) (h : ∀ w1, kN.R e w1 base (fun _ => True) (.slice (some ⟨g, 0, none⟩) n cap) (xs.set i x) → W.grownBy w1 (some g) → wpList P ops Q rest a w1) : wpList P ops Q (o :: rest) a W := by
  obtain ⟨hn, hnc, hC⟩ := Kd.R_reads' HO
  obtain ⟨ad, e1, r0, r1⟩ := nd_at hC i (by omega)
  cases e1
  rw [add_plain] at r0 r1
  have HO2 := R_okN HO (ok' := fun k => True) (fun k _ => trivial)
  refine Kd.R_store kN (w0 := W) base hN hgd t p y ho e (i : Int) 0 xs x (.agg #[.int .i64 x.lab, .int .i64 x.num]) (cN x) (cN (at_ xs i)) (fun _ => True) (fun k => k ≠ g) haddr (by simp [kN, Kd.iso, Kd.pair]; try rfl) hx rfl ht (by simp [Value.oneCell']) HO2 (by omega) (by omega) rfl ?_ (Nat.le_refl 2) (kN_mkM _ _ _ x) (fun k hk => ⟨trivial, hk⟩) (Below.refl _ _) fun w1 h1 h2 h3 => h w1 (by simpa using h1) h3
  intro j u hj
  show W.cell? ⟨g, (i : Int).toNat * 2 + j, none⟩ = some u
  rw [Int.toNat_natCast]
  match j, hj with
  | 0, hj => injection hj with hj; subst hj; exact r0
  | 1, hj => injection hj with hj; subst hj; exact r1
end
theorem at_drop {l m : List Nd} {j i : Nat} (h : l.drop j = m.drop j) (hj : j ≤ i) (hi : i < m.length) : at_ l i = at_ m i := by
  unfold at_
  rw [List.getD_eq_getElem?_getD, List.getD_eq_getElem?_getD, show l[i]? = (l.drop j)[i - j]? by rw [List.getElem?_drop]; congr 1; omega, show m[i]? = (m.drop j)[i - j]? by rw [List.getElem?_drop]; congr 1; omega, h]
theorem take_snN' {l : List Nd} {j : Nat} (h : j < l.length) : l.take (j + 1) = l.take j ++ [at_ l j] := by
  rw [List.take_add_one, List.getElem?_eq_getElem h, at_lt h]
  rfl
theorem row_takeN {e : TypeId} {w : World} {base g n c m : Nat} {xs : List Nd} (h : kN.R e w base (fun _ => True) (.slice (some ⟨g, 0, none⟩) n c) xs) (hm : m ≤ n) : kN.R e w base (fun _ => True) (.slice (some ⟨g, 0, none⟩) m c) (xs.take m) := by
  obtain ⟨cs, cur, hn, hr, hcl, hb, hh, hnc, hcm, hcs, htk⟩ := flat_open flatN.1 h
  refine flat_close flatN (Kd.reps_take hr (by omega)) (by rw [List.length_take]; omega) hb hh (by omega) hcm hcs ?_
  rw [← htk, List.take_take]
  congr 1
  exact (Nat.min_eq_left (Nat.mul_le_mul_right _ hm)).symm
/-- The first j of a row, less each that is as the one ahead of it. -/
def ddT (l : List Nd) : Nat → List Nd
  | 0 => []
  | j + 1 => if 0 < j ∧ at_ l j = at_ l (j - 1) then ddT l j else ddT l j ++ [at_ l j]
def dd (l : List Nd) : List Nd := ddT l l.length
theorem ddT_same {l : List Nd} {j : Nat} (h0 : 0 < j) (h : at_ l j = at_ l (j - 1)) : ddT l (j + 1) = ddT l j := if_pos ⟨h0, h⟩
theorem ddT_more {l : List Nd} {j : Nat} (h : at_ l j ≠ at_ l (j - 1)) : ddT l (j + 1) = ddT l j ++ [at_ l j] := if_neg fun q => h q.2
theorem ddT_one {l : List Nd} (h : 0 < l.length) : ddT l 1 = l.take 1 := by
  rw [take_snN' h]
  rfl
set_option maxHeartbeats 6400000 in
set_option maxRecDepth 100000 in
theorem compactN_calls (base g c : Nat) (l : List Nd) (w : World) (hr : kN.R 28 w base (fun _ => True) (.slice (some ⟨g, 0, none⟩) l.length c) l) (hl : l.length ≤ 1000000) :
    Calls Try.prog 115 #[.slice (some ⟨g, 0, none⟩) l.length c] w fun e w' => e = .returned (.slice (some ⟨g, 0, none⟩) (dd l).length c) ∧ kN.R 28 w' base (fun _ => True) (.slice (some ⟨g, 0, none⟩) (dd l).length c) (dd l) ∧ w.grownBy w' (some g) := by
  have HR := Aside0.mk hr
  have HL := Aside0.mk hl
  clear hr
  by_cases hl2 : l.length < 2
  · have hq : (l.length : Int) < 2 := by omega
    have HD := Aside0.mk (show dd l = l by
      unfold dd
      rcases Nat.lt_or_ge 0 l.length with h | h
      · rw [show l.length = 1 by omega, ddT_one h, show (1 : Nat) = l.length by omega, List.take_length]
      · rw [show l.length = 0 by omega, List.length_eq_zero_iff.1 (show l.length = 0 by omega)]
        rfl)
    go_enter Try.func115, Try.ntmps115
    go_wp2_with (fail)
    go_ret
    exact ⟨by rw [HD.out]; rfl, by rw [HD.out]; exact HR.out, grown_of (Below.refl _ _) _⟩
  have hq : ¬ (l.length : Int) < 2 := by omega
  go_enter Try.func115, Try.ntmps115
  go_wp2_with (fail)
  go_loopw [3, 4, 5] (fun s3 _ _ wr => ∃ k : Nat, 1 ≤ k ∧ k ≤ l.length ∧ s3 = .int .i64 (k : Int) ∧ Aside0 (ddT l k = l.take k) ∧ Aside0 (Below w.heap.size w wr)) (fun s3 _ _ _ => (l.length - intOf s3).toNat)
  case atStart => exact ⟨1, Nat.le_refl _, by omega, rfl, ⟨ddT_one (by omega)⟩, ⟨Below.refl _ _⟩⟩
  case round =>
    obtain ⟨k, hk1, hkl, rfl, HT, HB⟩ := hrel
    by_cases hlt : k < l.length
    · have hjl : (k : Int) < (l.length : Int) := by omega
      have hk2 : k - 1 < l.length := by omega
      have hw1 : IntKind.i64.wrap ((k : Int) - 1) = ((k - 1 : Nat) : Int) := by rw [IntKind.wrap_i64]; omega
      have HTS := Aside0.mk (take_snN' hlt)
      have HRC := Aside0.mk (Kd.C_below (Kd.R_reads' HR.out).2.2 HB.out)
      obtain ⟨ad, e1, r0, r1⟩ := nd_at HRC.out k hlt
      cases e1
      obtain ⟨ad2, e2, t0, t1⟩ := nd_at HRC.out (k - 1) hk2
      cases e2
      simp only [add_plain] at r0 r1 t0 t1
      have HNE := Aside0.mk (ddT_more (l := l) (j := k))
      have HSM := Aside0.mk (ddT_same (l := l) (j := k) (by omega))
      generalize hx : at_ l k = x at r0 r1 HTS HNE HSM
      generalize hy : at_ l (k - 1) = y at t0 t1 HNE HSM
      clear hx hy
      obtain ⟨v, hv⟩ : ∃ v, (x.lab == y.lab && (x.num == y.num)) = v := ⟨_, rfl⟩
      have HV := Aside0.mk ((nd_eq x y).symm.trans hv)
      cases v
      · go_wp2_with (fail)
        refine region_bp [] sCo6 (by kernel_rfl) sCo6_ok (by decide) (fun d _ _ _ _ h => by cases d <;> exact h) ?_
        intro u hb
        have hS := hb
        replace HB := Aside0.mk (below_step HB.out hb)
        clear hb
        repeat (first | (refine p_off hS gt_ (by rfl) ?_; intro a_ ha_; (simp only [Act.put, List.setIfInBounds_toArray, List.set_cons_zero, List.set_cons_succ] at ha_); subst ha_) | (refine p_on (v := ?_) hS gt_ (by rfl) ?_ ?_; rotate_left; (· rintro w_ hS_; have r0_ := pw_cell_below hS_ r0; have r1_ := pw_cell_below hS_ r1; have t0_ := pw_cell_below hS_ t0; have t1_ := pw_cell_below hS_ t1; go_simp; with_reducible rfl); intro a_ ha_; (simp only [Act.put, List.setIfInBounds_toArray, List.set_cons_zero, List.set_cons_succ] at ha_); subst ha_) | (refine p_poff gt_ (by rfl) ?_; intro a_ ha_; (simp only [Act.put, List.setIfInBounds_toArray, List.set_cons_zero, List.set_cons_succ] at ha_); subst ha_) | (refine p_pon (v := ?_) gt_ (by rfl) ?_ ?_; rotate_left; (· go_simp; with_reducible rfl); intro a_ ha_; (simp only [Act.put, List.setIfInBounds_toArray, List.set_cons_zero, List.set_cons_succ] at ha_); subst ha_) | (refine p_ooff hS gt_ (by rfl) ?_; intro a_ ha_; (simp only [Act.put, List.setIfInBounds_toArray, List.set_cons_zero, List.set_cons_succ] at ha_); subst ha_) | (refine p_loff gt_ (by rfl) ?_; intro a_ ha_; (simp only [Act.put, List.setIfInBounds_toArray, List.set_cons_zero, List.set_cons_succ] at ha_); subst ha_))
        refine p_fin ?_
        clear hS 
        clear hw1
        go_wp2
        go_roundw
        case rel => exact ⟨k + 1, by omega, by omega, by go_num, ⟨by rw [HNE.out (of_decide_eq_false HV.out), HT.out, HTS.out]⟩, HB⟩
        case measure => simp [intOf]; omega
      · have HS1 := Aside0.mk (HSM.out (of_decide_eq_true HV.out))
        have p2 : ¬ c = k := by have := (Kd.R_reads' HR.out).2.1; omega
        have p3 : k ≤ c := by have := (Kd.R_reads' HR.out).2.1; omega
        have p1 : k ≤ l.length := by omega
        go_wp2_with (fail)
        refine region_bp [] sCo6 (by kernel_rfl) sCo6_ok (by decide) (fun d _ _ _ _ h => by cases d <;> exact h) ?_
        intro u hb
        have hS := hb
        replace HB := Aside0.mk (below_step HB.out hb)
        clear hb
        repeat (first | (refine p_off hS gt_ (by rfl) ?_; intro a_ ha_; (simp only [Act.put, List.setIfInBounds_toArray, List.set_cons_zero, List.set_cons_succ] at ha_); subst ha_) | (refine p_on (v := ?_) hS gt_ (by rfl) ?_ ?_; rotate_left; (· rintro w_ hS_; have r0_ := pw_cell_below hS_ r0; have r1_ := pw_cell_below hS_ r1; have t0_ := pw_cell_below hS_ t0; have t1_ := pw_cell_below hS_ t1; go_simp; with_reducible rfl); intro a_ ha_; (simp only [Act.put, List.setIfInBounds_toArray, List.set_cons_zero, List.set_cons_succ] at ha_); subst ha_) | (refine p_poff gt_ (by rfl) ?_; intro a_ ha_; (simp only [Act.put, List.setIfInBounds_toArray, List.set_cons_zero, List.set_cons_succ] at ha_); subst ha_) | (refine p_pon (v := ?_) gt_ (by rfl) ?_ ?_; rotate_left; (· go_simp; with_reducible rfl); intro a_ ha_; (simp only [Act.put, List.setIfInBounds_toArray, List.set_cons_zero, List.set_cons_succ] at ha_); subst ha_) | (refine p_ooff hS gt_ (by rfl) ?_; intro a_ ha_; (simp only [Act.put, List.setIfInBounds_toArray, List.set_cons_zero, List.set_cons_succ] at ha_); subst ha_) | (refine p_loff gt_ (by rfl) ?_; intro a_ ha_; (simp only [Act.put, List.setIfInBounds_toArray, List.set_cons_zero, List.set_cons_succ] at ha_); subst ha_))
        refine p_fin ?_
        clear hS 
        clear hw1 HTS HNE HSM
        go_wp2_with (fail)
        go_loopw [3, 5] (fun s3 s5 wr => ∃ (i m : Nat) (xs : List Nd), i ≤ k + m - 1 ∧ 1 ≤ m ∧ k + m ≤ l.length ∧ s3 = .int .i64 (i : Int) ∧ s5 = .int .i64 (m : Int) ∧ Aside0 (kN.R 28 wr base (fun _ => True) (.slice (some ⟨g, 0, none⟩) l.length c) xs) ∧ Aside0 (xs.take i = ddT l (k + m)) ∧ Aside0 (xs.drop (k + m - 1) = l.drop (k + m - 1)) ∧ Aside0 (w.grownBy wr (some g))) (fun _ s5 _ => (l.length - intOf s5).toNat)
        case atStart => exact ⟨k, 1, l, by omega, by omega, by omega, rfl, rfl, ⟨Kd.R_below HR.out HB.out⟩, ⟨by rw [HS1.out, HT.out]⟩, ⟨rfl⟩, ⟨grown_of HB.out _⟩⟩
        case round =>
          clear HB
          obtain ⟨i, m, xs, him, hm1, hml, rfl, rfl, HX, H1, H2, HG⟩ := hrel
          have HXL := Aside0.mk (Kd.R_reads' HX.out).1
          have hlc : l.length ≤ c := (Kd.R_reads' HX.out).2.1
          by_cases hlt2 : k + m < l.length
          · have hjl2 : (m : Int) < ((l.length - k : Nat) : Int) := by omega
            have hm0 : m < l.length - k := by omega
            have hm3 : m - 1 < l.length - k := by omega
            have hw2 : IntKind.i64.wrap ((m : Int) - 1) = ((m - 1 : Nat) : Int) := by rw [IntKind.wrap_i64]; omega
            have HRC := Aside0.mk (Kd.R_reads' HX.out).2.2
            obtain ⟨ad, e1, r0, r1⟩ := nd_at HRC.out (k + m) (by have := HXL.out; omega)
            cases e1
            obtain ⟨ad2, e2, t0, t1⟩ := nd_at HRC.out (k + m - 1) (by have := HXL.out; omega)
            cases e2
            rw [at_drop H2.out (by omega) hlt2] at r0 r1
            rw [at_drop H2.out (by omega) (by omega)] at t0 t1
            simp only [add_plain, show (k + m) * 2 = k * 2 + m * 2 by omega] at r0 r1
            simp only [add_plain, show (k + m - 1) * 2 = k * 2 + (m - 1) * 2 by omega] at t0 t1
            have HD2 := Aside0.mk (show xs.drop (k + m) = l.drop (k + m) by
              have h2 := congrArg (List.drop 1) H2.out
              rw [List.drop_drop, List.drop_drop, show k + m - 1 + 1 = k + m by omega] at h2
              exact h2)
            have HNE := Aside0.mk (ddT_more (l := l) (j := k + m))
            have HSM := Aside0.mk (ddT_same (l := l) (j := k + m) (by omega))
            generalize hx : at_ l (k + m) = x at r0 r1 HNE HSM
            generalize hy : at_ l (k + m - 1) = y at t0 t1 HNE HSM
            clear hx hy
            obtain ⟨v, hv⟩ : ∃ v, (x.lab == y.lab && (x.num == y.num)) = v := ⟨_, rfl⟩
            have HV := Aside0.mk ((nd_eq x y).symm.trans hv)
            have HB := Aside0.mk (Below.refl wr.heap.size wr)
            cases v
            · have HN1 := Aside0.mk (HNE.out (of_decide_eq_false HV.out))
              have hil : i < l.length := by omega
              go_wp2_with (fail)
              refine region_bp [] sCo11 (by kernel_rfl) sCo11_ok (by decide) (fun d _ _ _ _ h => by cases d <;> exact h) ?_
              intro u hb
              have hS := hb
              replace HB := Aside0.mk (below_step HB.out hb)
              replace HX := Aside0.mk (Kd.R_below (HX.out) hb)
              replace HG := Aside0.mk (grown_then (HG.out) (grown_of hb _))
              have R0n := Aside0.mk (pw_cell_below hb r0)
              have R1n := Aside0.mk (pw_cell_below hb r1)
              clear hb
              repeat (first | (refine p_off hS gt_ (by rfl) ?_; intro a_ ha_; (simp only [Act.put, List.setIfInBounds_toArray, List.set_cons_zero, List.set_cons_succ] at ha_); subst ha_) | (refine p_on (v := ?_) hS gt_ (by rfl) ?_ ?_; rotate_left; (· rintro w_ hS_; have r0_ := pw_cell_below hS_ r0; have r1_ := pw_cell_below hS_ r1; have t0_ := pw_cell_below hS_ t0; have t1_ := pw_cell_below hS_ t1; go_simp; with_reducible rfl); intro a_ ha_; (simp only [Act.put, List.setIfInBounds_toArray, List.set_cons_zero, List.set_cons_succ] at ha_); subst ha_) | (refine p_poff gt_ (by rfl) ?_; intro a_ ha_; (simp only [Act.put, List.setIfInBounds_toArray, List.set_cons_zero, List.set_cons_succ] at ha_); subst ha_) | (refine p_pon (v := ?_) gt_ (by rfl) ?_ ?_; rotate_left; (· go_simp; with_reducible rfl); intro a_ ha_; (simp only [Act.put, List.setIfInBounds_toArray, List.set_cons_zero, List.set_cons_succ] at ha_); subst ha_) | (refine p_ooff hS gt_ (by rfl) ?_; intro a_ ha_; (simp only [Act.put, List.setIfInBounds_toArray, List.set_cons_zero, List.set_cons_succ] at ha_); subst ha_) | (refine p_loff gt_ (by rfl) ?_; intro a_ ha_; (simp only [Act.put, List.setIfInBounds_toArray, List.set_cons_zero, List.set_cons_succ] at ha_); subst ha_))
              refine p_fin ?_
              clear hS 
              replace r0 := R0n.out
              replace r1 := R1n.out
              clear hw2
              go_wp2_with (first | ((with_reducible refine gate_store (p := 51) rfl ?_); go_must (refine store_nd i x rfl rfl 28 _ _ rfl rfl rfl (by kernel_rfl) HX.out (by omega) ?_); intro w3 hr3 hg3; have HX3 := Aside0.mk hr3; have HG3 := Aside0.mk (grown_then HG.out hg3); clear hr3 hg3))
              go_roundw
              case rel => exact ⟨i + 1, m + 1, xs.set i x, by omega, by omega, by omega, by go_num, by go_num, HX3, ⟨by rw [take_set (by have := HXL.out; omega), H1.out, ← HN1.out]; rfl⟩, ⟨by rw [show k + (m + 1) - 1 = k + m by omega, List.drop_set_of_lt (by omega)]; exact HD2.out⟩, HG3⟩
              case measure => simp [intOf]; omega
            · have HN1 := Aside0.mk (HSM.out (of_decide_eq_true HV.out))
              go_wp2_with (fail)
              refine region_bp [] sCo11 (by kernel_rfl) sCo11_ok (by decide) (fun d _ _ _ _ h => by cases d <;> exact h) ?_
              intro u hb
              have hS := hb
              replace HB := Aside0.mk (below_step HB.out hb)
              replace HX := Aside0.mk (Kd.R_below (HX.out) hb)
              replace HG := Aside0.mk (grown_then (HG.out) (grown_of hb _))
              have R0n := Aside0.mk (pw_cell_below hb r0)
              have R1n := Aside0.mk (pw_cell_below hb r1)
              clear hb
              repeat (first | (refine p_off hS gt_ (by rfl) ?_; intro a_ ha_; (simp only [Act.put, List.setIfInBounds_toArray, List.set_cons_zero, List.set_cons_succ] at ha_); subst ha_) | (refine p_on (v := ?_) hS gt_ (by rfl) ?_ ?_; rotate_left; (· rintro w_ hS_; have r0_ := pw_cell_below hS_ r0; have r1_ := pw_cell_below hS_ r1; have t0_ := pw_cell_below hS_ t0; have t1_ := pw_cell_below hS_ t1; go_simp; with_reducible rfl); intro a_ ha_; (simp only [Act.put, List.setIfInBounds_toArray, List.set_cons_zero, List.set_cons_succ] at ha_); subst ha_) | (refine p_poff gt_ (by rfl) ?_; intro a_ ha_; (simp only [Act.put, List.setIfInBounds_toArray, List.set_cons_zero, List.set_cons_succ] at ha_); subst ha_) | (refine p_pon (v := ?_) gt_ (by rfl) ?_ ?_; rotate_left; (· go_simp; with_reducible rfl); intro a_ ha_; (simp only [Act.put, List.setIfInBounds_toArray, List.set_cons_zero, List.set_cons_succ] at ha_); subst ha_) | (refine p_ooff hS gt_ (by rfl) ?_; intro a_ ha_; (simp only [Act.put, List.setIfInBounds_toArray, List.set_cons_zero, List.set_cons_succ] at ha_); subst ha_) | (refine p_loff gt_ (by rfl) ?_; intro a_ ha_; (simp only [Act.put, List.setIfInBounds_toArray, List.set_cons_zero, List.set_cons_succ] at ha_); subst ha_))
              refine p_fin ?_
              clear hS 
              replace r0 := R0n.out
              replace r1 := R1n.out
              clear hw2
              go_wp2_with (fail)
              go_roundw
              case rel => exact ⟨i, m + 1, xs, by omega, by omega, by omega, rfl, by go_num, HX, ⟨by rw [H1.out]; exact HN1.out.symm⟩, ⟨by rw [show k + (m + 1) - 1 = k + m by omega]; exact HD2.out⟩, HG⟩
              case measure => simp [intOf]; omega
          · have hjl2 : ¬ (m : Int) < ((l.length - k : Nat) : Int) := by omega
            have hkm : k + m = l.length := by omega
            rw [hkm] at H1
            have HR4 := Aside0.mk (row_takeN HX.out (m := i) (by omega))
            have HL4 := Aside0.mk (show (xs.take i).length = i by have := HXL.out; rw [List.length_take]; omega)
            have HF := Aside0.mk (show xs.take i = dd l from H1.out)
            have q1 : i ≤ l.length := by omega
            have q2 : ¬ c = i := by omega
            have q3 : i ≤ c := by omega
            go_wp2_with (first | ((with_reducible refine gate_builtin (b := .clear) rfl ?_); go_must (refine clear_tail flatN rfl _ 23 rfl Try.underlying23 (.agg #[(.int .i64 0), (.int .i64 0)]) 16 infoN rfl zoneN (off := i * 2) (m := l.length - i) rfl rfl HR4.out (by omega) (by omega) ?_); intro w4 hr4 hg4; have HR5 := Aside0.mk hr4; have HG4 := Aside0.mk (grown_then HG.out hg4); clear hr4 hg4))
            go_ret
            exact ⟨by rw [← HF.out, HL4.out]; rfl, by rw [← HF.out, HL4.out]; exact HR5.out, HG4.out⟩

    · have hjl : ¬ (k : Int) < (l.length : Int) := by omega
      obtain rfl : k = l.length := by omega
      have HD := Aside0.mk (show dd l = l by unfold dd; rw [HT.out, List.take_length])
      go_wp2_with (fail)
      go_ret
      exact ⟨by rw [HD.out]; rfl, by rw [HD.out]; exact Kd.R_below HR.out HB.out, grown_of HB.out _⟩
end Go.Proofs.Ytogmbeifbjgphaa.R
namespace Go.Proofs.Ytogmbeifbjgphaa.R
open Go.Shelf
def sortRen : Ren := ⟨fun | 6 => 113 | 15 => 177 | 14 => 176 | 28 => 215 | 29 => 216 | 20 => 207 | 21 => 208 | 22 => 209 | 23 => 210 | 24 => 211 | 25 => 212 | 26 => 213 | 27 => 214 | 46 => 227 | 47 => 228 | 48 => 229 | 49 => 230 | 50 => 231 | 57 => 243 | n => n, fun | 22 => 23 | 24 => 28 | 25 => 107 | 3 => 3 | 39 => 167 | 0 => 0 | 53 => 204 | 55 => 206 | 4 => 4 | 46 => 198 | 45 => 197 | 50 => 152 | 5 => 5 | 9 => 9 | 66 => 213 | 70 => 217 | 76 => 226 | 77 => 227 | n => n, fun n => n⟩
theorem sortLays : SlLaysF0.n6 Try.prog sortRen := { mixed := by kernel_rfl, f6 := ⟨Try.f113.name, by decide, Try.func113.trans (congrArg some (by kernel_rfl))⟩, f14 := ⟨Try.f176.name, by decide, Try.func176.trans (congrArg some (by kernel_rfl))⟩, f15 := Try.func177.trans (congrArg some (by kernel_rfl)), f20 := ⟨Try.f207.name, by decide, Try.func207.trans (congrArg some (by kernel_rfl))⟩, f21 := ⟨Try.f208.name, by decide, Try.func208.trans (congrArg some (by kernel_rfl))⟩, f22 := ⟨Try.f209.name, by decide, Try.func209.trans (congrArg some (by kernel_rfl))⟩, f23 := ⟨Try.f210.name, by decide, Try.func210.trans (congrArg some (by kernel_rfl))⟩, f24 := ⟨Try.f211.name, by decide, Try.func211.trans (congrArg some (by kernel_rfl))⟩, f25 := ⟨Try.f212.name, by decide, Try.func212.trans (congrArg some (by kernel_rfl))⟩, f26 := ⟨Try.f213.name, by decide, Try.func213.trans (congrArg some (by kernel_rfl))⟩, f27 := ⟨Try.f214.name, by decide, Try.func214.trans (congrArg some (by kernel_rfl))⟩, f28 := Try.func215.trans (congrArg some (by kernel_rfl)), f29 := Try.func216.trans (congrArg some (by kernel_rfl)), f46 := ⟨Try.f227.name, by decide, Try.func227.trans (congrArg some (by kernel_rfl))⟩, f47 := Try.func228.trans (congrArg some (by kernel_rfl)), f48 := Try.func229.trans (congrArg some (by kernel_rfl)), f49 := ⟨Try.f230.name, by decide, Try.func230.trans (congrArg some (by kernel_rfl))⟩, f50 := ⟨Try.f231.name, by decide, Try.func231.trans (congrArg some (by kernel_rfl))⟩, f57 := ⟨Try.f243.name, by decide, Try.func243.trans (congrArg some (by kernel_rfl))⟩, t0 := Try.underlying0, a0 := Try.isAgg0, z0 := Try.sizeOf0, v0 := Try.zeroValue0, t3 := Try.underlying3, a3 := Try.isAgg3, z3 := Try.sizeOf3, v3 := Try.zeroValue3, t4 := Try.underlying4, a4 := Try.isAgg4, z4 := Try.sizeOf4, v4 := Try.zeroValue4, t5 := Try.underlying5, a5 := Try.isAgg5, z5 := Try.sizeOf5, v5 := Try.zeroValue5, t9 := Try.underlying9, a9 := Try.isAgg9, z9 := Try.sizeOf9, v9 := Try.zeroValue9, t22 := Try.underlying23, a22 := Try.isAgg23, z22 := Try.sizeOf23, v22 := Try.zeroValue23, t25 := Try.underlying107, a25 := Try.isAgg107, z25 := Try.sizeOf107, v25 := Try.zeroValue107, t39 := Try.underlying167, a39 := Try.isAgg167, z39 := Try.sizeOf167, v39 := Try.zeroValue167, t45 := Try.underlying197, a45 := Try.isAgg197, z45 := Try.sizeOf197, v45 := Try.zeroValue197, t46 := Try.underlying198, a46 := Try.isAgg198, z46 := Try.sizeOf198, v46 := Try.zeroValue198, t50 := Try.underlying152, a50 := Try.isAgg152, z50 := Try.sizeOf152, v50 := Try.zeroValue152, t53 := Try.underlying204, a53 := Try.isAgg204, z53 := Try.sizeOf204, v53 := Try.zeroValue204, t55 := Try.underlying206, a55 := Try.isAgg206, z55 := Try.sizeOf206, v55 := Try.zeroValue206, t66 := Try.underlying213, a66 := Try.isAgg213, z66 := Try.sizeOf213, v66 := Try.zeroValue213, t70 := Try.underlying217, a70 := Try.isAgg217, z70 := Try.sizeOf217, v70 := Try.zeroValue217, t76 := Try.underlying226, a76 := Try.isAgg226, z76 := Try.sizeOf226, v76 := Try.zeroValue226, t77 := Try.underlying227, a77 := Try.isAgg227, z77 := Try.sizeOf227, v77 := Try.zeroValue227 }
end Go.Proofs.Ytogmbeifbjgphaa.R
namespace Go.Proofs.Ytogmbeifbjgphaa.R
open Go.Sort Go.RowKit Go.Proofs.YtogmbeifbjgphaaV.PrintWords Go.Proofs.YtogmbeifbjgphaaV.PrintLast Go.Proofs.YtogmbeifbjgphaaV.PrintMore Go.Proofs.Ytogmbeifbjgphaa.M
set_option linter.unusedVariables false
set_option linter.unusedSimpArgs false
attribute [local go_sem high] eqN eqE
abbrev sNo1 : Pl := (.tk 0 (.tk 2 (.nd .one 1 (.nd .one 3 (.nd .one 4 (.tk 5 .fin))))))
theorem sNo1_ok : planB .any (opsOf Try.f114 1) [] sNo1 (Array.replicate (opsOf Try.f114 1).size false) = true := by kernel_rfl
/-- Only blocks are laid and draws made. -/
def Bd (w w' : World) : Prop := Below w.heap.size w w' ∧ w.drawn ≤ w'.drawn
theorem Bd.step {w a b : World} (h : Bd w a) (k : Bd a b) : Bd w b := ⟨below_step h.1 k.1, Nat.le_trans h.2 k.2⟩
theorem Bd.alloc (w : World) (o : Obj) : Bd w (w.alloc o) := ⟨below_alloc (Below.refl _ _) _, Nat.le_refl _⟩
theorem Bd.allocs {w u : World} (h : Bd w u) (o : Obj) : Bd w (u.alloc o) := h.step (Bd.alloc u o)
theorem grow_of {w w' : World} (h : Bd w w') : ∃ q os, w' = grow (w.drewN q) os := by
  obtain ⟨⟨h1, h2, h3, h4, h5⟩, h6⟩ := h
  refine ⟨w'.drawn - w.drawn, w'.heap.extract w.heap.size w'.heap.size, ?_⟩
  have hh : w'.heap = w.heap ++ w'.heap.extract w.heap.size w'.heap.size := by
    apply Array.ext_getElem?
    intro i
    by_cases hi : i < w.heap.size
    · rw [Array.getElem?_append_left hi]
      exact h5 i hi
    · rw [Array.getElem?_append_right (by omega), Array.getElem?_extract]
      split
      · congr 1
        omega
      · rw [Array.getElem?_eq_none (by omega)]
  cases w
  cases w'
  simp only [grow, World.drewN] at *
  subst h1 h2 h3
  congr 1
  omega
section
variable {P : Program} {ops : Array Oper} {Q : Exit → Act → World → Prop}
theorem region_bd {id : Nat} {a : Act} {w : World} (ds : List Nat) (p : Pl) (hm : P.follows .mixedOrders = true) (hc : planB .any ops ds p (Array.replicate ops.size false) = true) (hl : p.depth ≤ ops.size)
    (hQ : ∀ (d : Option Tmp) (v : Value) (c : _) (a : Act) (w : World), Q (.panic c) (a.put d v) w → Q (.panic c) a w) (h : ∀ u, Bd w u → wpP P ops Q (Bd w) p a u) : (Code.region id ops true).wp P Q a w :=
  region_pl (Bd w) ds p hm hc hl hQ ⟨(Below.refl _ _).drew, Nat.le_succ _⟩ fun u _ hS => h u hS
end
theorem nodeOk_bd (n : Nd) (w : World) : Calls Try.prog 104 #[.agg #[.int .i64 n.lab, .int .i64 n.num]] w fun e w' => e = .returned (.bool (okN n)) ∧ Bd w w' := by
  rcases okN_tests n with ⟨h0, h1, h2, h3⟩ | ⟨h0, h1⟩ | ⟨h0, h1, h2⟩ | ⟨h0, h1, h2, h3⟩
  all_goals
    have H0 := Aside0.mk h0
    have H1 := Aside0.mk h1
    clear h0 h1
    go_enter Try.func104, Try.ntmps104
    go_wp2_with (first | (go_at_call 78; (refine (labelOk_calls n.lab _).mono ?_); rintro e w' ⟨rfl, rfl⟩; rw [H1.out]))
    go_ret
    exact ⟨retB (by rw [H0.out]; first | done | rfl | exact decide_eq_false (by omega) | exact decide_eq_true (by omega)), Bd.alloc _ _⟩
set_option maxHeartbeats 800000 in
theorem nodeCode_bd (n : Nd) (w : World) : Calls Try.prog 34 #[.agg #[.int .i64 n.lab, .int .i64 n.num]] w fun e w' => e = .returned (.int .i64 (codeI n)) ∧ Bd w w' := by
  cases h : okN n with
  | false =>
    have HC := Aside0.mk (show codeI n = -1 by unfold codeI; rw [h]; rfl)
    have H := Aside0.mk h
    clear h
    go_enter Try.func34, Try.ntmps34
    go_wp2_with (first | (go_at_call 104; (refine (nodeOk_bd n _).mono ?_); rintro e w' ⟨rfl, hb⟩; rw [H.out]; have HB := Aside0.mk ((Bd.alloc w _).step hb); clear hb))
    go_ret
    exact ⟨retI HC.out.symm, HB.out⟩
  | true =>
    have HC := Aside0.mk (show codeI n = 64 * n.lab + n.num by unfold codeI; rw [h]; rfl)
    obtain ⟨⟨l0, l7⟩, m0, m1⟩ := okN_iff.1 h
    have H := Aside0.mk h
    clear h
    go_enter Try.func34, Try.ntmps34
    go_wp2_with (first | (go_at_call 104; (refine (nodeOk_bd n _).mono ?_); rintro e w' ⟨rfl, hb⟩; rw [H.out]; have HB := Aside0.mk ((Bd.alloc w _).step hb); have hc0 : w'.cell? ⟨w.heap.size, 0, none⟩ = some (.int .i64 n.lab) := (hb.1.cell (by simp)).trans (by simp); have hc1 : w'.cell? ⟨w.heap.size, 1, none⟩ = some (.int .i64 n.num) := (hb.1.cell (by simp)).trans (by simp); clear hb))
    go_ret
    exact ⟨retI HC.out.symm, HB.out⟩
set_option maxHeartbeats 3200000 in
set_option maxRecDepth 100000 in
theorem nodeOrder_bd (x y : Nd) (w : World) : Calls Try.prog 114 #[.agg #[.int .i64 x.lab, .int .i64 x.num], .agg #[.int .i64 y.lab, .int .i64 y.num]] w fun e w' => e = .returned (.int .i64 (cmpI (codeI x) (codeI y))) ∧ Bd w w' := by
  obtain ⟨L0, L1, HB⟩ := al2 w #[.int .i64 x.lab, .int .i64 x.num] #[.int .i64 y.lab, .int .i64 y.num] 28 28
  clear HB
  have HB := Aside0.mk ((Bd.alloc w (.cells #[.int .i64 x.lab, .int .i64 x.num] 28)).allocs (.cells #[.int .i64 y.lab, .int .i64 y.num] 28))
  go_enter Try.func114, Try.ntmps114
  go_wp2_with (fail)
  have ZL0 := L0
  have ZL1 := L1
  refine region_bd [] sNo1 (by kernel_rfl) sNo1_ok (by decide) (fun d _ _ _ _ h => by cases d <;> exact h) ?_
  intro u hb
  have hS := hb
  replace HB := Aside0.mk (HB.out.step hb)
  clear hb
  repeat (first | (refine p_off hS gt_ (by rfl) ?_; intro a_ ha_; (simp only [Act.put, List.setIfInBounds_toArray, List.set_cons_zero, List.set_cons_succ] at ha_); subst ha_) | (refine p_on (v := ?_) hS gt_ (by rfl) ?_ ?_; rotate_left; (· rintro w_ hS_; obtain ⟨c0_, c1_⟩ := cs2 (blk_below ZL0.out hS_.1); obtain ⟨e0_, e1_⟩ := cs2 (blk_below ZL1.out hS_.1); go_simp; with_reducible rfl); intro a_ ha_; (simp only [Act.put, List.setIfInBounds_toArray, List.set_cons_zero, List.set_cons_succ] at ha_); subst ha_) | (refine p_poff gt_ (by rfl) ?_; intro a_ ha_; (simp only [Act.put, List.setIfInBounds_toArray, List.set_cons_zero, List.set_cons_succ] at ha_); subst ha_) | (refine p_pon (v := ?_) gt_ (by rfl) ?_ ?_; rotate_left; (· go_simp; with_reducible rfl); intro a_ ha_; (simp only [Act.put, List.setIfInBounds_toArray, List.set_cons_zero, List.set_cons_succ] at ha_); subst ha_) | (refine p_ooff hS gt_ (by rfl) ?_; intro a_ ha_; (simp only [Act.put, List.setIfInBounds_toArray, List.set_cons_zero, List.set_cons_succ] at ha_); subst ha_) | (refine p_loff gt_ (by rfl) ?_; intro a_ ha_; (simp only [Act.put, List.setIfInBounds_toArray, List.set_cons_zero, List.set_cons_succ] at ha_); subst ha_) | (refine p_call (f := 34) (args := #[.agg #[.int .i64 x.lab, .int .i64 x.num]]) Try.func34 (by kernel_rfl) rfl gt_ (by rfl) (by rfl) mp_ ?_; (with_reducible refine (nodeCode_bd x _).mono ?_); rintro e_ u_ ⟨rfl, hb⟩; replace HB := Aside0.mk (HB.out.step hb); replace hS := hS.step hb; refine ⟨_, rfl, hS, fun a_ ha_ => ?_⟩; (simp only [Act.put, List.setIfInBounds_toArray, List.set_cons_zero, List.set_cons_succ] at ha_); subst ha_; clear hb) | (refine p_call (f := 34) (args := #[.agg #[.int .i64 y.lab, .int .i64 y.num]]) Try.func34 (by kernel_rfl) rfl gt_ (by rfl) (by rfl) mp_ ?_; (with_reducible refine (nodeCode_bd y _).mono ?_); rintro e_ u_ ⟨rfl, hb⟩; replace HB := Aside0.mk (HB.out.step hb); replace hS := hS.step hb; refine ⟨_, rfl, hS, fun a_ ha_ => ?_⟩; (simp only [Act.put, List.setIfInBounds_toArray, List.set_cons_zero, List.set_cons_succ] at ha_); subst ha_; clear hb) | (refine p_call (f := 178) (args := #[.int .i64 (codeI x), .int .i64 (codeI y)]) Try.func178 (by kernel_rfl) rfl gt_ (by rfl) (by rfl) mp_ ?_; (with_reducible refine (compare_calls _ _ _).mono ?_); rintro e_ u_ ⟨rfl, rfl⟩; refine ⟨_, rfl, hS, fun a_ ha_ => ?_⟩; (simp only [Act.put, List.setIfInBounds_toArray, List.set_cons_zero, List.set_cons_succ] at ha_); subst ha_))
  refine p_fin ?_
  clear hS ZL0 ZL1
  go_wp2
  go_ret
  exact ⟨rfl, HB.out⟩
end Go.Proofs.Ytogmbeifbjgphaa.R
namespace Go.Proofs.Ytogmbeifbjgphaa.R
open Go.Sort Go.RowKit Go.Proofs.YtogmbeifbjgphaaV.PrintWords Go.Proofs.YtogmbeifbjgphaaV.PrintLast Go.Proofs.YtogmbeifbjgphaaV.PrintMore Go.Proofs.Ytogmbeifbjgphaa.M
set_option linter.unusedVariables false
set_option linter.unusedSimpArgs false
instance : Inhabited Nd := ⟨zN⟩
def flatL (l : List Nd) : List Value := l.flatMap cN
theorem flatL_len (l : List Nd) : (flatL l).length = l.length * 2 := by
  induction l with
  | nil => rfl
  | cons x l ih =>
    show (cN x ++ flatL l).length = _
    rw [List.length_append, ih, List.length_cons]
    simp
    omega
theorem flatL_get : ∀ (l : List Nd) (t : Nat), t < l.length * 2 → (flatL l)[t]? = some ((cN (l[t / 2]!))[t % 2]!)
  | [], t, h => by simp at h
  | x :: l, 0, _ => rfl
  | x :: l, 1, _ => rfl
  | x :: l, t + 2, h => by
    have h1 : (t + 2) / 2 = t / 2 + 1 := by omega
    have h2 : (t + 2) % 2 = t % 2 := by omega
    rw [h1, h2, show (flatL (x :: l))[t + 2]? = (flatL l)[t]? from rfl, flatL_get l t (by simp at h; omega)]
    rfl
theorem reps_flat (w : World) : ∀ l : List Nd, Reps (kN.K w) 2 l (flatL l)
  | [] => Reps.none _ _
  | x :: l => Reps.c2 (kN_mk w x) (reps_flat w l)
theorem flat_reps {w : World} {l : List Nd} {cs : List Value} (h : Reps (kN.K w) 2 l cs) : cs = flatL l := by
  refine List.ext_getElem? fun t => ?_
  by_cases ht : t < l.length * 2
  · have hj : l[t / 2]? = some (l[t / 2]!) := by
      have h9 : t / 2 < l.length := by omega
      rw [List.getElem?_eq_getElem h9, getElem!_pos l _ h9]
    have hx := kN_open (h.2 _ _ hj)
    rw [flatL_get l t ht]
    have h1 : ((cs.drop (t / 2 * 2)).take 2)[t % 2]? = cs[t]? := by
      rw [List.getElem?_take, if_pos (by omega), List.getElem?_drop]
      congr 1
      omega
    rw [← h1, hx]
    rcases Nat.mod_two_eq_zero_or_one t with e | e <;> rw [e] <;> rfl
  · rw [List.getElem?_eq_none (by rw [h.1]; omega), List.getElem?_eq_none (by rw [flatL_len]; omega)]
theorem flatK_list (d : Array Nd) : (flatK cN 2 d).toList = flatL d.toList := by
  refine List.ext_getElem? fun t => ?_
  by_cases ht : t < d.size * 2
  · rw [flatL_get _ t (by simpa using ht), Array.getElem?_toList, Array.getElem?_eq_getElem (by simpa using ht)]
    have h := get_flatK cN 2 d t ht
    rw [getElem!_pos _ t (by simpa using ht)] at h
    rw [h]
    congr 3
    have h9 : t / 2 < d.size := by omega
    rw [getElem!_pos d _ h9, getElem!_pos d.toList _ (by simpa using h9)]
    rfl
  · rw [List.getElem?_eq_none (by simp; omega), List.getElem?_eq_none (by rw [flatL_len]; simp; omega)]
theorem take_put (F cur : Array Value) (h : F.size ≤ cur.size) : (putCells id 0 F cur).toList.take F.size = F.toList := by
  refine List.ext_getElem? fun t => ?_
  rw [List.getElem?_take]
  split
  · rename_i ht
    rw [Array.getElem?_toList, putCells, Array.getElem?_mapIdx, Array.getElem?_eq_getElem (by omega : t < cur.size), Option.map_some, if_pos (by omega), Array.getElem?_toList, Array.getElem?_eq_getElem ht]
    simp [getElem!_pos F t ht]
  · rename_i ht
    rw [List.getElem?_eq_none (by simp; omega)]
theorem ltOf_code (x y : Nd) : ltOf (fun a b : Nd => cmpI (codeI a) (codeI b)) x y = decide (codeI x < codeI y) := by
  unfold ltOf cmpI
  by_cases h1 : codeI x < codeI y
  · simp [h1]
  · by_cases h2 : codeI y < codeI x <;> simp [h1, h2]
theorem swoCode : SWO (ltOf fun a b : Nd => cmpI (codeI a) (codeI b)) where
  irrefl x := by rw [ltOf_code]; simp
  trans x y z h1 h2 := by rw [ltOf_code] at *; simp at *; omega
  ntrans x y z h1 h2 := by rw [ltOf_code] at *; simp at *; omega
theorem sortCmp (blk off size : Nat) (w : World) : CmpLays Try.prog 114 #[] cN 2 (fun a b => cmpI (codeI a) (codeI b)) blk off size w :=
  fun _ _ _ _ x y => (nodeOrder_bd x y _).mono fun _ _ h => ⟨h.1, grow_of h.2⟩
theorem sorted_block {w : World} {g : Nat} {e : TypeId} {cur F : Array Value} (h : w.heap[g]? = some (.cells cur e (0, 0))) (n : Nat) (os : Array Obj) : (grow (putRow id (Sort.ahead w n) g 0 F) os).heap[g]? = some (.cells (putCells id 0 F cur) e (0, 0)) ∧ w.grownBy (grow (putRow id (Sort.ahead w n) g 0 F) os) (some g) := by
  have hg : g < w.heap.size := blk_lt h
  have hp : ∀ k, k < w.heap.size → (grow (putRow id (Sort.ahead w n) g 0 F) os).heap[k]? = (putRow id (Sort.ahead w n) g 0 F).heap[k]? := fun k hk => by
    unfold grow
    exact Array.getElem?_append_left (by rw [Go.Sort.size_putRow]; exact hk)
  refine ⟨?_, rfl, rfl, rfl, by simp [grow], fun k hk hne => ?_⟩
  · rw [hp g hg]
    unfold putRow mapBlock
    rw [Array.getElem?_modify, if_pos rfl]
    show (w.heap[g]?).map _ = _
    rw [h]
    rfl
  · rw [hp k hk]
    unfold putRow mapBlock
    rw [Array.getElem?_modify, if_neg (fun e => hne (by rw [e]))]
    rfl
set_option maxHeartbeats 1000000 in
theorem sortN_calls (base g c : Nat) (l : List Nd) (w : World) (hr : kN.R 28 w base (fun _ => True) (.slice (some ⟨g, 0, none⟩) l.length c) l) (hl : l.length ≤ 1000000) :
    Calls Try.prog 113 #[.slice (some ⟨g, 0, none⟩) l.length c, .func (.func 114) #[] #[]] w fun e w' => e = .returned (.tuple #[]) ∧ ∃ m : List Nd, m.Perm l ∧ (m.Pairwise fun x y => codeI x ≤ codeI y) ∧ kN.R 28 w' base (fun _ => True) (.slice (some ⟨g, 0, none⟩) m.length c) m ∧ w.grownBy w' (some g) := by
  obtain ⟨cs, cur, -, hR, hcl, hb, hh, hnc, hcm, hcs, htk⟩ := flat_open flatN.1 hr
  have hz : kN.sz = 2 := rfl
  rw [hz] at hR hcl hcs htk
  have hcf := flat_reps hR
  have eg : ∀ args w, (callFunc 114 args).run Try.prog w = .ok (.enter 114 args) w := enters_of Try.func114 (by kernel_rfl) rfl
  have hH : HoldsK cN 2 w g 0 l.toArray := by
    intro j hj
    rw [size_flatK] at hj
    have hj' : j < l.length * 2 := by simpa using hj
    have h1 : (flatK cN 2 l.toArray)[j]! = cs[j]'(by rw [hcl]; exact hj') := by
      have h2 : (flatK cN 2 l.toArray).toList = cs := by rw [flatK_list, hcf]
      rw [getElem!_pos _ j (by simpa using hj), ← Array.getElem_toList]
      congr 1
    refine ⟨?_, ?_⟩
    · rw [Nat.zero_add, blk_cell hh, h1, ← Array.getElem?_toList]
      have h3 : cur.toList[j]? = (cur.toList.take (l.length * 2))[j]? := by rw [List.getElem?_take, if_pos hj']
      rw [h3, htk, List.getElem?_eq_getElem (by rw [hcl]; exact hj')]
      rfl
    · rw [Nat.zero_add]
      exact blk_frozen hh j
  have hcon := AnyQ.slices_SortFunc sortLays 2 Try.isAgg28 Try.sizeOf28 cN (fun _ => rfl) (fun x v hv => by simp [cN] at hv; rcases hv with rfl | rfl <;> rfl) (fun x y => cmpI (codeI x) (codeI y)) swoCode 114 #[] g 0 c l.toArray w eg (sortCmp g 0 _ w) hH (blk_lt hh) (by simp; omega)
  change Calls Try.prog 113 _ _ _ at hcon
  refine hcon.mono ?_
  rintro e w' ⟨rfl, d', n, os, hp, hs, rfl⟩
  obtain ⟨hsz, -, hpm⟩ := hp
  have hsz' : d'.size = l.length := by simpa using hsz
  have hfs : (flatK cN 2 d').size = l.length * 2 := by rw [size_flatK, hsz']
  obtain ⟨hb2, hg2⟩ := sorted_block (F := flatK cN 2 d') hh n os
  refine ⟨rfl, d'.toList, ?_, ?_, ?_, hg2⟩
  · have h1 : d'.extract 0 l.toArray.size = d' := by rw [← hsz]; exact Array.extract_size
    have h2 : l.toArray.extract 0 l.toArray.size = l.toArray := Array.extract_size
    rw [h1, h2] at hpm
    simpa using hpm
  · rw [List.pairwise_iff_getElem]
    intro i j hi hj hij
    have h1 := hs i j (Nat.zero_le _) hij (by simp at hj ⊢; omega)
    rw [ltOf_code, getElem!_pos d' j (by simpa using hj), getElem!_pos d' i (by simpa using hi)] at h1
    have := of_decide_eq_false h1
    simp only [Array.getElem_toList]
    omega
  · rw [show d'.toList.length = l.length by simpa using hsz']
    refine flat_close (W := w) flatN (reps_flat w d'.toList) (by simpa using hsz') hb hb2 hnc hcm ?_ ?_
    · rw [hz, ← hcs]
      simp [putCells]
    · rw [hz, ← hfs, take_put _ _ (by rw [hfs, hcs]; exact Nat.mul_le_mul_right _ hnc), flatK_list]
end Go.Proofs.Ytogmbeifbjgphaa.R
