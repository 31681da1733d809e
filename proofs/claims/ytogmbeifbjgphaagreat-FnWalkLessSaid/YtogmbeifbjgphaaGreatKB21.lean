/- Draws: the reader's numbers; The reference: what is done to a graph. -/
import Derived.Test.YtogmbeifbjgphaaGreatKB20
namespace Go.Proofs.YtogmbeifbjgphaaGreat.R
open Go.RowKit Go.Proofs.YtogmbeifbjgphaaGreatV.PrintWords Go.Proofs.YtogmbeifbjgphaaGreatV.PrintLast Go.Proofs.YtogmbeifbjgphaaGreatV.PrintMore Go.Proofs.YtogmbeifbjgphaaGreat.M
set_option linter.unusedVariables false
set_option linter.unusedSimpArgs false
attribute [local go_sem high] eqN eqE
/-- A reader of draws: it stands in block G, reads bytes that lie elsewhere, and is p bytes on. -/
structure RdB (b : Nat) (w : World) (G : Nat) (A : Option Addr) (c : Nat) (bs : List Int) (p : Nat) : Prop where
 blk : w.heap[G]? = some (.cells #[.slice A bs.length c, .int .i64 (p : Int)] 105 (0, 0))
 row : (Kd.int .u8).C w A bs.length bs
 far : NotIn G A bs.length
 few : bs.length ≤ 2000
 byt : ∀ x ∈ bs, 0 ≤ x ∧ x < 256
 low : G < b ∧ b ≤ w.heap.size ∧ (0 < bs.length → ∀ ad, A = some ad → ad.block < b)
def Rd (b : Nat) (w : World) (G p : Nat) : Prop := ∃ A c bs, RdB b w G A c bs p
theorem flatI (k : IntKind) : Flat (Kd.int k) := ⟨show 0 < 1 by decide, fun x c W h W' base ok' => h⟩
theorem int_at {k : IntKind} {w : World} {A : Option Addr} {n : Nat} {xs : List Int} (h : (Kd.int k).C w A n xs) (j : Nat) (hj : j < n) : ∃ ad, A = some ad ∧ w.cell? (ad.add j) = some (.int k (xs.getD j 0)) := by
 obtain ⟨ad, c, e, _, hK, hc⟩ := Kd.C_get h 0 (j : Int) (by omega) (by omega)
 rw [Int.toNat_natCast] at hK hc
 have hK' : c = [.int k (xs.getD j 0)] := hK
 subst hK'
 exact ⟨ad, e, by have := hc 0 _ rfl; simpa [Kd.int, Kd.scalar] using this⟩
theorem Rd.below {b : Nat} {w u : World} {G p : Nat} (h : Rd b w G p) (hb : Below w.heap.size w u) : Rd b u G p := by
 obtain ⟨A, c, bs, h⟩ := h
 exact ⟨A, c, bs, blk_below h.blk hb, Kd.C_below h.row hb, h.far, h.few, h.byt, h.low.1, Nat.le_trans h.low.2.1 hb.size, h.low.2.2⟩
theorem Rd.lt {b : Nat} {w : World} {G p : Nat} (h : Rd b w G p) : G < b ∧ b ≤ w.heap.size := by
 obtain ⟨A, c, bs, h⟩ := h
 exact ⟨h.low.1, h.low.2.1⟩
/-- What a draw leaves: the reader further on by at most k, nothing else turned. -/
structure Dw (b : Nat) (w u : World) (G p k : Nat) : Prop where
 rd : ∃ q, p ≤ q ∧ q ≤ p + k ∧ Rd b u G q
 gr : w.grownBy u (some G)
theorem Dw.refl {b : Nat} {w : World} {G p k : Nat} (h : Rd b w G p) : Dw b w w G p k := ⟨⟨p, Nat.le_refl _, by omega, h⟩, World.grownBy.refl w _⟩
theorem grown_trans {w u v : World} {r : Option Nat} (h : w.grownBy u r) (h' : u.grownBy v r) : w.grownBy v r := grown_over h h' fun k _ hk => hk
theorem Dw.below {b : Nat} {w u v : World} {G p k : Nat} (h : Dw b w u G p k) (hb : Below u.heap.size u v) : Dw b w v G p k := by
 obtain ⟨q, h1, h2, h3⟩ := h.rd
 exact ⟨⟨q, h1, h2, h3.below hb⟩, grown_trans h.gr (grown_of_below hb _)⟩
theorem Dw.mono {b : Nat} {w u : World} {G p k j : Nat} (h : Dw b w u G p k) (hk : k ≤ j) : Dw b w u G p j := by
 obtain ⟨q, h1, h2, h3⟩ := h.rd
 exact ⟨⟨q, h1, by omega, h3⟩, h.gr⟩
theorem Dw.le {b : Nat} {w u : World} {G p k : Nat} (h : Dw b w u G p k) : w.heap.size ≤ u.heap.size := h.gr.size
theorem Dw.blk {b : Nat} {w u : World} {G p k g : Nat} {o : Obj} (h : Dw b w u G p k) (hb : w.heap[g]? = some o) (hg : g ≠ G) : u.heap[g]? = some o := (h.gr.block g (blk_lt hb) (fun e => hg (Option.some.inj e))).trans hb
theorem xor_nat (a b : Nat) (ha : a < 4611686018427387904) (hb : b < 4611686018427387904) : Go.bits .xor .i64 (a : Int) (b : Int) = ((a ^^^ b : Nat) : Int) := by
 have hx : a ^^^ b < 2 ^ 62 := Nat.xor_lt_two_pow (by omega) (by omega)
 have h1 : (BitVec.ofInt 64 (a : Int)).toNat = a := by
  rw [BitVec.ofInt_natCast, BitVec.toNat_ofNat]; exact Nat.mod_eq_of_lt (by omega)
 have h2 : (BitVec.ofInt 64 (b : Int)).toNat = b := by
  rw [BitVec.ofInt_natCast, BitVec.toNat_ofNat]; exact Nat.mod_eq_of_lt (by omega)
 show IntKind.i64.wrap ((BitVec.ofInt 64 (a : Int) ^^^ BitVec.ofInt 64 (b : Int)).toNat : Int) = _
 rw [BitVec.toNat_xor, h1, h2, IntKind.wrap_i64]
 omega
theorem xor_pos (a b : Int) (ha : 0 ≤ a) (ha2 : a < 4611686018427387904) (hb : 0 ≤ b) (hb2 : b < 4611686018427387904) : 0 ≤ Go.bits .xor .i64 a b := by
 obtain ⟨n, rfl⟩ := Int.eq_ofNat_of_zero_le ha
 obtain ⟨m, rfl⟩ := Int.eq_ofNat_of_zero_le hb
 rw [xor_nat n m (by omega) (by omega)]
 exact Int.natCast_nonneg _
section
variable {P : Program} {o : Oper} {Q : Exit → Act → World → Prop} {a : Act} {w : World}
/-- A number is stored into a cell. -/
theorem wp_cellI {K : Act → World → Prop} {ty : TypeId} {x y : Operand} (g j : Nat) (k : IntKind) (n : Int) (hop : o.op = .store ty x y) (hx : a.eval x = .pointer (some ⟨g, j, none⟩)) (hy : a.eval y = .int k n) (hc : ∃ u, w.cell? ⟨g, j, none⟩ = some u) (hf : w.frozen? ⟨g, j, none⟩ = false) (hi : (P.info? ty).map (·.size) = some 1)
 (h : K (a.put o.dst undef) (w.setCell ⟨g, j, none⟩ (.int k n))) : o.wp P a w K Q := by
 obtain ⟨u, hc⟩ := hc
 have hrun : (execOp a.eval o).run P w = .ok .skip (w.setCell ⟨g, j, none⟩ (.int k n)) := by
  simp only [execOp, hop, hx, hy]
  go_simp
  obtain ⟨i0, hi0, hs⟩ := Option.map_eq_some_iff.1 hi
  simp [sizeOf, typeInfo, hi0, hs, hc, hf]
 unfold Oper.wp
 rw [hrun]
 exact h
end
/-- A number drawn below n (0, if there is none). -/
def Picked (b : Nat) (w : World) (G p : Nat) (n : Int) (e : Ending) (w' : World) : Prop := ∃ k : Nat, e = .returned (.int .i64 (k : Int)) ∧ (1 ≤ n → (k : Int) < n) ∧ Dw b w w' G p 1
theorem RdB.set {b : Nat} {w : World} {G : Nat} {A : Option Addr} {c : Nat} {bs : List Int} {p : Nat} (h : RdB b w G A c bs p) : Dw b w (w.setCell ⟨G, 1, none⟩ (.int .i64 ((p : Int) + 1))) G p 1 := by
 have hg := grown_setCell w G 1 (.int .i64 ((p : Int) + 1))
 refine ⟨⟨p + 1, by omega, Nat.le_refl _, A, c, bs, ?_, ?_, h.far, h.few, h.byt, h.low.1, by simpa using h.low.2.1, h.low.2.2⟩, hg⟩
 ·have := blk_set h.blk 1 (.int .i64 ((p : Int) + 1))
  rw [show ((p + 1 : Nat) : Int) = (p : Int) + 1 by omega]
  exact this
 ·exact C_over (flatI .u8) h.row hg fun hn ad e he => h.far hn ad e (Option.some.inj he)
theorem byt_at {bs : List Int} (h : ∀ x ∈ bs, 0 ≤ x ∧ x < 256) (j : Nat) : 0 ≤ bs.getD j 0 ∧ bs.getD j 0 < 256 := by
 rw [List.getD_eq_getElem?_getD]
 rcases Nat.lt_or_ge j bs.length with hl | hl
 ·rw [List.getElem?_eq_getElem hl]
  exact h _ (List.getElem_mem hl)
 ·rw [List.getElem?_eq_none hl]
  exact ⟨by decide, by decide⟩
theorem div_le (p q : Nat) : 0 ≤ (p : Int) / (q : Int) ∧ (p : Int) / (q : Int) ≤ (p : Int) := ⟨Int.ediv_nonneg (by omega) (by omega), Int.ediv_le_self _ (by omega)⟩
theorem mod_pick {x n : Int} (h : 0 ≤ x) (hn : 1 ≤ n) : ∃ k : Nat, x.tmod n = (k : Int) ∧ (k : Int) < n := by
 have h1 := Int.tmod_nonneg n h
 have h2 := Int.tmod_lt_of_pos x (show 0 < n by omega)
 obtain ⟨k, hk⟩ := Int.eq_ofNat_of_zero_le h1
 exact ⟨k, hk, by omega⟩
theorem pick_x (x n : Int) (h0 : 0 ≤ x) (h1 : x < 2305843009213693952) (hn : 1 ≤ n) : ∃ k : Nat, (Go.bits .xor .i64 x (wrap64 (x.tdiv 64))).tmod n = (k : Int) ∧ (k : Int) < n := by
 have h2 : x.tdiv 64 = x / 64 := Int.tdiv_eq_ediv_of_nonneg h0
 have h3 : wrap64 (x / 64) = x / 64 := by unfold wrap64; omega
 rw [h2, h3]
 exact mod_pick (xor_pos x (x / 64) h0 (by omega) (by omega) (by omega)) hn
abbrev sPick : List (Nat × Bool) := [(0, true), (1, true), (2, true), (3, true), (4, true), (5, true), (6, true), (7, true), (8, true), (9, true), (10, true), (11, true), (12, true), (13, true), (14, true), (15, true), (16, true), (17, true), (18, true), (19, true), (20, true), (21, true), (22, true), (23, true), (24, true), (25, true), (26, true), (27, true), (28, true), (29, true), (30, true), (31, true), (32, true), (33, true), (34, true), (35, true), (36, true), (37, true), (38, true), (39, true), (40, true), (41, true), (42, true), (43, true), (44, true), (45, true)]
theorem sPick_ok : schedB .any (opsOf Tryz.f81 7) sPick (Array.replicate (opsOf Tryz.f81 7).size false) = true := by kernel_rfl
set_option maxHeartbeats 6400000 in
set_option maxRecDepth 100000 in
theorem pick_calls (b G p : Nat) (n : Int) (w : World) (hr : Rd b w G p) (hp : p ≤ 1000000) :
 Calls Tryz.prog 81 #[.pointer (some ⟨G, 0, none⟩), .int .i64 n] w (Picked b w G p n) := by
 obtain ⟨A, c, bs, hr⟩ := hr
 have HR := Aside0.mk hr
 obtain ⟨g0, g1⟩ := cs2 hr.blk
 have f1 := blk_frozen hr.blk 1
 have hfew := hr.few
 clear hr
 by_cases hn : n < 1
 ·go_enter Tryz.func81, Tryz.ntmps81
  go_wp2_with (fail)
  go_ret
  exact ⟨0, rfl, fun h => by omega, HR.out.set⟩
 ·by_cases hl : bs.length = 0
  ·have hl1 : ((bs.length : Int) == 0) = true := beq_iff_eq.2 (by omega)
   have HL := Aside0.mk hl
   clear hl
   go_enter Tryz.func81, Tryz.ntmps81
   go_wp2_with (fail)
   go_ret
   exact ⟨0, rfl, fun h => by simp; omega, HR.out.set⟩
  ·have hl1 : ((bs.length : Int) == 0) = false := beq_eq_false_iff_ne.2 (by omega)
   by_cases hk : p < bs.length
   ·obtain ⟨ad, e1, r0⟩ := int_at HR.out.row p hk
    cases e1
    have hy := byt_at HR.out.byt p
    generalize bs.getD p 0 = y at r0 hy
    obtain ⟨hy0, hy1⟩ := hy
    obtain ⟨m, hm⟩ := Int.eq_ofNat_of_zero_le (Int.emod_nonneg y (show n ≠ 0 by omega))
    have HM := Aside0.mk hm
    have HM2 := Aside0.mk (show (m : Int) < n by rw [← HM.out]; exact Int.emod_lt_of_pos y (by omega))
    clear hm
    have hne : ad.block ≠ G := HR.out.far (by omega) ad rfl
    have r1 : (w.setCell ⟨G, 1, none⟩ (.int .i64 ((p : Int) + 1))).cell? (ad.add p) = some (.int .u8 y) := (cell_far (by rw [add_block]; exact hne) _).trans r0
    clear hne
    go_enter Tryz.func81, Tryz.ntmps81
    go_wp2_with (fail)
    go_ret
    exact ⟨m, retI HM.out, fun _ => HM2.out, HR.out.set⟩
   ·obtain ⟨k1, hk1⟩ : ∃ k, k = p % bs.length := ⟨_, rfl⟩
    obtain ⟨k2, hk2⟩ : ∃ k, k = (p * 7 + 3) % bs.length := ⟨_, rfl⟩
    obtain ⟨ad, e1, r0⟩ := int_at HR.out.row k1 (by rw [hk1]; exact Nat.mod_lt _ (by omega))
    obtain ⟨ad', e2, r1⟩ := int_at HR.out.row k2 (by rw [hk2]; exact Nat.mod_lt _ (by omega))
    cases e1
    obtain rfl : ad = ad' := Option.some.inj e2
    clear e2
    have hy := byt_at HR.out.byt k1
    have hz := byt_at HR.out.byt k2
    generalize bs.getD k1 0 = y at r0 hy
    generalize bs.getD k2 0 = z at r1 hz
    have hne : ad.block ≠ G := HR.out.far (by omega) ad rfl
    obtain ⟨W, hW⟩ : ∃ W, W = w.setCell ⟨G, 1, none⟩ (.int .i64 ((p : Int) + 1)) := ⟨_, rfl⟩
    have s0 : W.cell? (ad.add k1) = some (.int .u8 y) := by rw [hW]; exact (cell_far (by rw [add_block]; exact hne) _).trans r0
    have s1 : W.cell? (ad.add k2) = some (.int .u8 z) := by rw [hW]; exact (cell_far (by rw [add_block]; exact hne) _).trans r1
    have HB := Aside0.mk (show W.heap[G]? = some (.cells #[.slice (some ad) bs.length c, .int .i64 ((p : Int) + 1)] 105 (0, 0)) by rw [hW]; exact blk_set HR.out.blk 1 _)
    have HW := Aside0.mk hW
    have q1 : (k1 : Int) < (bs.length : Int) := by rw [hk1]; exact Int.ofNat_lt.2 (Nat.mod_lt _ (by omega))
    have q2 : (k2 : Int) < (bs.length : Int) := by rw [hk2]; exact Int.ofNat_lt.2 (Nat.mod_lt _ (by omega))
    have m1 : Int.tmod (p : Int) (bs.length : Int) = (k1 : Int) := by rw [hk1]; exact (Int.tmod_eq_emod_of_nonneg (by omega)).trans (Int.natCast_emod _ _).symm
    have m2 : Int.tmod ((p : Int) * 7 + 3) (bs.length : Int) = (k2 : Int) := by rw [hk2, show (p : Int) * 7 + 3 = ((p * 7 + 3 : Nat) : Int) by omega]; exact (Int.tmod_eq_emod_of_nonneg (by omega)).trans (Int.natCast_emod _ _).symm
    have w1 : IntKind.i64.wrap ((p : Int) * 7) = (p : Int) * 7 := by rw [IntKind.wrap_i64]; omega
    have w2 : IntKind.i64.wrap ((p : Int) * 7 + 3) = (p : Int) * 7 + 3 := by rw [IntKind.wrap_i64]; omega
    have HQ9 := Aside0.mk (show (0 ≤ (p : Int) / (bs.length : Int) ∧ (p : Int) / (bs.length : Int) ≤ 1000000) ∧ p ≤ 1000000 from by have h1 := div_le p bs.length; exact ⟨⟨h1.1, by have := h1.2; omega⟩, hp⟩)
    clear hk1 hk2 hne r0 r1 hW
    go_enter Tryz.func81, Tryz.ntmps81
    go_wp2_with (fail)
    rw [← HW.out]
    refine region_b _ (Nat.le_refl _) sPick (by kernel_rfl) sPick_ok rfl (fun d _ _ _ _ h => by cases d <;> exact h) ?_
    intro u hS
    repeat (first | (refine h_off gt_ (by rfl) ?_; intro a_ ha_; (simp only [Act.put, pu1, pu2, pu3] at ha_); subst ha_) | (refine h_on (v := ?_) gt_ (by rfl) ?_ ?_; rotate_left; (· rintro w_ hS_; obtain ⟨g0_, g1_⟩ := cs2 (blk_below HB.out hS_); have s0_ := pw_cell_below hS_ s0; have s1_ := pw_cell_below hS_ s1; go_simp; with_reducible rfl); intro a_ ha_; (simp only [Act.put, pu1, pu2, pu3] at ha_); subst ha_))
    refine h_end ?_
    have HS := Aside0.mk hS
    clear hS m1 m2 w1 w2 s0 s1
    go_wp2
    go_ret
    obtain ⟨⟨q0, q1⟩, q2⟩ := HQ9.out
    generalize (p : Int) / (bs.length : Int) = q at q0 q1 ⊢
    have x1 : wrap64 q = q := by unfold wrap64; omega
    have x2 : wrap64 (q * 53) = q * 53 := by unfold wrap64; omega
    rw [x1, x2]
    have x3 : wrap64 (y * 131 + z * 1117 + (p : Int) * 29 + q * 53) = y * 131 + z * 1117 + (p : Int) * 29 + q * 53 := by unfold wrap64; omega
    rw [x3]
    obtain ⟨m, e1_, e2_⟩ := pick_x (y * 131 + z * 1117 + (p : Int) * 29 + q * 53) n (by omega) (by omega) hn
    exact ⟨m, retI e1_, fun _ => e2_, (show Dw b w W G p 1 by rw [HW.out]; exact HR.out.set).below HS.out⟩
end Go.Proofs.YtogmbeifbjgphaaGreat.R
namespace Go.Proofs.YtogmbeifbjgphaaGreat.R
open Go.RowKit Go.Proofs.YtogmbeifbjgphaaGreatV.PrintWords Go.Proofs.YtogmbeifbjgphaaGreatV.PrintLast Go.Proofs.YtogmbeifbjgphaaGreatV.PrintMore Go.Proofs.YtogmbeifbjgphaaGreat.M
set_option linter.unusedVariables false
set_option linter.unusedSimpArgs false
attribute [local go_sem high] eqN eqE
abbrev sDo8 : List (Nat × Bool) := [(0, true), (2, true), (3, true), (5, true), (1, false), (4, false), (6, false), (7, true)]
theorem sDo8_ok : schedB .any (opsOf Tryz.f42 8) sDo8 (Array.replicate (opsOf Tryz.f42 8).size false) = true := by kernel_rfl
theorem sDo10_ok : schedB .any (opsOf Tryz.f42 10) sDo8 (Array.replicate (opsOf Tryz.f42 10).size false) = true := by kernel_rfl
set_option maxHeartbeats 6400000 in
set_option maxRecDepth 100000 in
theorem l2Do_1 (A : Option Addr) (c : Nat) (ns : List Nd) (B : Option Addr) (d : Nat) (es : List Eg) (n : Nd) (x : Eg) (w : World) (hr : GR w A c ns B d es) (hn : ns.length ≤ 1000000) (he : es.length ≤ 1000000) (hl : 0 ≤ opLabel ⟨1, n, x⟩ ∧ endOf ns es ⟨1, n, x⟩ = 0) :
 Calls Tryz.prog 42 #[.agg #[.slice A ns.length c, .slice B es.length d], .agg #[.int .i64 1, .int .i64 n.lab, .int .i64 n.num, .int .i64 x.lab, .int .i64 x.a.lab, .int .i64 x.a.num, .int .i64 x.b.lab, .int .i64 x.b.num]] w fun e w' => Did w.heap.size A B ns es ⟨1, n, x⟩ e w' ∧ Below w.heap.size w w' := by
 have HR := Aside0.mk hr
 have HNL := Aside0.mk hn
 have HEL := Aside0.mk he
 have HH := Aside0.mk hl
 clear hr hn he hl
 have W1 := Aside0.mk (show Below w.heap.size w (((w.alloc (.cells #[.slice A ns.length c, .slice B es.length d] 26)).alloc (.cells #[.int .i64 1, .int .i64 n.lab, .int .i64 n.num, .int .i64 x.lab, .int .i64 x.a.lab, .int .i64 x.a.num, .int .i64 x.b.lab, .int .i64 x.b.num] 32)).alloc (.cells #[.slice none 0 0, .slice none 0 0] 26)) from below_alloc (below_alloc (below_alloc (Below.refl _ _) _) _) _)
 have B0 := Aside0.mk (show (((w.alloc (.cells #[.slice A ns.length c, .slice B es.length d] 26)).alloc (.cells #[.int .i64 1, .int .i64 n.lab, .int .i64 n.num, .int .i64 x.lab, .int .i64 x.a.lab, .int .i64 x.a.num, .int .i64 x.b.lab, .int .i64 x.b.num] 32)).alloc (.cells #[.slice none 0 0, .slice none 0 0] 26)).heap[w.heap.size]? = some (.cells #[.slice A ns.length c, .slice B es.length d] 26) from blk_alloc (blk_alloc (blk_new w _) _) _)
 have B1 := Aside0.mk (show (((w.alloc (.cells #[.slice A ns.length c, .slice B es.length d] 26)).alloc (.cells #[.int .i64 1, .int .i64 n.lab, .int .i64 n.num, .int .i64 x.lab, .int .i64 x.a.lab, .int .i64 x.a.num, .int .i64 x.b.lab, .int .i64 x.b.num] 32)).alloc (.cells #[.slice none 0 0, .slice none 0 0] 26)).heap[w.heap.size + 1]? = some (.cells #[.int .i64 1, .int .i64 n.lab, .int .i64 n.num, .int .i64 x.lab, .int .i64 x.a.lab, .int .i64 x.a.num, .int .i64 x.b.lab, .int .i64 x.b.num] 32) from blk_alloc (by have h := blk_new (w.alloc (.cells #[.slice A ns.length c, .slice B es.length d] 26)) (.cells #[.int .i64 1, .int .i64 n.lab, .int .i64 n.num, .int .i64 x.lab, .int .i64 x.a.lab, .int .i64 x.a.num, .int .i64 x.b.lab, .int .i64 x.b.num] 32); simpa using h) _)
 have B2 := Aside0.mk (show (((w.alloc (.cells #[.slice A ns.length c, .slice B es.length d] 26)).alloc (.cells #[.int .i64 1, .int .i64 n.lab, .int .i64 n.num, .int .i64 x.lab, .int .i64 x.a.lab, .int .i64 x.a.num, .int .i64 x.b.lab, .int .i64 x.b.num] 32)).alloc (.cells #[.slice none 0 0, .slice none 0 0] 26)).heap[w.heap.size + 2]? = some (.cells #[.slice none 0 0, .slice none 0 0] 26) from by have h := blk_new ((w.alloc (.cells #[.slice A ns.length c, .slice B es.length d] 26)).alloc (.cells #[.int .i64 1, .int .i64 n.lab, .int .i64 n.num, .int .i64 x.lab, .int .i64 x.a.lab, .int .i64 x.a.num, .int .i64 x.b.lab, .int .i64 x.b.num] 32)) (.cells #[.slice none 0 0, .slice none 0 0] 26); simpa using h)
 have HK := Aside0.mk (opLabel_kind HH.out.1)
 have hlab : ¬ opLabel ⟨1, n, x⟩ < 0 := by have := HH.out.1; omega
 have HQ := Aside0.mk HH.out.2
 go_enter Tryz.func42, Tryz.ntmps42
 go_wp2_with (first | (go_at_call 98; go_must ((refine (sOpLabel_calls 1 n x _).mono ?_); rintro e w1 ⟨rfl, hb⟩; have HB1 := Aside0.mk (below_step W1.out hb); have C0 := Aside0.mk (blk_below B0.out hb); have C1 := Aside0.mk (blk_below B1.out hb); have C2 := Aside0.mk (blk_below B2.out hb); have cg0 : w1.cell? ⟨w.heap.size, 0, none⟩ = some (.slice A ns.length c) := (blk_cell C0.out 0).trans rfl; have cg1 : w1.cell? ⟨w.heap.size, 1, none⟩ = some (.slice B es.length d) := (blk_cell C0.out 1).trans rfl; have co0 : w1.cell? ⟨w.heap.size + 1, 0, none⟩ = some (.int .i64 1) := (blk_cell C1.out 0).trans rfl; have co1 : w1.cell? ⟨w.heap.size + 1, 1, none⟩ = some (.int .i64 n.lab) := (blk_cell C1.out 1).trans rfl; have co2 : w1.cell? ⟨w.heap.size + 1, 2, none⟩ = some (.int .i64 n.num) := (blk_cell C1.out 2).trans rfl; have co3 : w1.cell? ⟨w.heap.size + 1, 3, none⟩ = some (.int .i64 x.lab) := (blk_cell C1.out 3).trans rfl; have co4 : w1.cell? ⟨w.heap.size + 1, 4, none⟩ = some (.int .i64 x.a.lab) := (blk_cell C1.out 4).trans rfl; have co5 : w1.cell? ⟨w.heap.size + 1, 5, none⟩ = some (.int .i64 x.a.num) := (blk_cell C1.out 5).trans rfl; have co6 : w1.cell? ⟨w.heap.size + 1, 6, none⟩ = some (.int .i64 x.b.lab) := (blk_cell C1.out 6).trans rfl; have co7 : w1.cell? ⟨w.heap.size + 1, 7, none⟩ = some (.int .i64 x.b.num) := (blk_cell C1.out 7).trans rfl; clear hb)) | (go_at_call 99; go_must ((refine (ends_calls_all A c ns B d es 1 n x _ (HR.out.below HB1.out) HNL.out HEL.out (by decide)).mono ?_); rintro e w2 ⟨rfl, hb⟩; rw [HQ.out]; have HB2 := Aside0.mk (below_step HB1.out hb); have D0 := Aside0.mk (blk_below C0.out hb); have D1 := Aside0.mk (blk_below C1.out hb); have D2 := Aside0.mk (blk_below C2.out hb); have dg0 : w2.cell? ⟨w.heap.size, 0, none⟩ = some (.slice A ns.length c) := (blk_cell D0.out 0).trans rfl; have dg1 : w2.cell? ⟨w.heap.size, 1, none⟩ = some (.slice B es.length d) := (blk_cell D0.out 1).trans rfl; have do0 : w2.cell? ⟨w.heap.size + 1, 0, none⟩ = some (.int .i64 1) := (blk_cell D1.out 0).trans rfl; have do1 : w2.cell? ⟨w.heap.size + 1, 1, none⟩ = some (.int .i64 n.lab) := (blk_cell D1.out 1).trans rfl; have do2 : w2.cell? ⟨w.heap.size + 1, 2, none⟩ = some (.int .i64 n.num) := (blk_cell D1.out 2).trans rfl; have do3 : w2.cell? ⟨w.heap.size + 1, 3, none⟩ = some (.int .i64 x.lab) := (blk_cell D1.out 3).trans rfl; have do4 : w2.cell? ⟨w.heap.size + 1, 4, none⟩ = some (.int .i64 x.a.lab) := (blk_cell D1.out 4).trans rfl; have do5 : w2.cell? ⟨w.heap.size + 1, 5, none⟩ = some (.int .i64 x.a.num) := (blk_cell D1.out 5).trans rfl; have do6 : w2.cell? ⟨w.heap.size + 1, 6, none⟩ = some (.int .i64 x.b.lab) := (blk_cell D1.out 6).trans rfl; have do7 : w2.cell? ⟨w.heap.size + 1, 7, none⟩ = some (.int .i64 x.b.num) := (blk_cell D1.out 7).trans rfl; clear hb)))
 have HZ := Aside0.mk (blk_lt D2.out)
 refine region_b (w.heap.size + 2) (by have := HZ.out; omega) sDo8 (by kernel_rfl) sDo8_ok rfl (fun d _ _ _ _ h => by cases d <;> exact h) ?_
 intro u hbu
 have hS : Below (w.heap.size + 2) w2 u := hbu.mono (by have := HZ.out; omega)
 have E2 := Aside0.mk (blk_below D2.out hbu)
 have HU := Aside0.mk (show w.heap.size + 3 ≤ u.heap.size from by have := hS.size; have := HZ.out; omega)
 clear hbu
 repeat (first | (refine h_off gt_ (by rfl) ?_; intro a_ ha_; (simp only [Act.put, pu1, pu2, pu3] at ha_); subst ha_) | (refine h_on (v := ?_) gt_ (by rfl) ?_ ?_; rotate_left; (· rintro w_ hS_; obtain ⟨g0_, g1_⟩ := cs2 (blk_b hS_ D0.out (by omega)); obtain ⟨o0_, o1_, o2_, o3_, o4_, o5_, o6_, o7_⟩ := cs8 (blk_b hS_ D1.out (by omega)); go_simp; with_reducible rfl); intro a_ ha_; (simp only [Act.put, pu1, pu2, pu3] at ha_); subst ha_))
 refine h_call2 (f := 43) (args := #[.agg #[.slice A ns.length c, .slice B es.length d]]) Tryz.func43 (by kernel_rfl) rfl gt_ (by rfl) (by rfl) mp_ ?_
 refine (l2Copy_calls A c ns B d es u (HR.out.below (HB2.out.trans (hS.mono (by omega)))) HNL.out HEL.out).mono ?_
 rintro e_ u1 ⟨A1, c1, B1, d1, rfl, hgr_, hrn_, hre_, hof_, hb_⟩
 have hS1 : Below (w.heap.size + 2) w2 u1 := hS.trans (hb_.mono (by have := HU.out; omega))
 have RN := Aside0.mk hrn_
 have RE := Aside0.mk hre_
 have OF := Aside0.mk hof_
 have HU1 := Aside0.mk (show u.heap.size ≤ u1.heap.size from hb_.size)
 have F2 := Aside0.mk (blk_below E2.out hb_)
 refine ⟨_, rfl, hS1, fun a_ ha_ => ?_⟩
 simp only [Act.put, pu1, pu2, pu3] at ha_
 subst ha_
 clear hgr_ hrn_ hre_ hof_ hb_ hS
 refine h_call2 (f := 83) (args := #[.agg #[.slice A1 ns.length c1, .slice B1 es.length d1], .agg #[.int .i64 n.lab, .int .i64 n.num]]) Tryz.func83 (by kernel_rfl) rfl gt_ (by rfl) (by rfl) mp_ ?_
 refine (sPutN_calls u.heap.size A1 c1 ns B1 d1 es n u1 RN.out HNL.out HU1.out).mono ?_
 rintro e_ u2 ⟨A2, c2, i, hi_, rfl, hr_, hp_, hw_, hg_⟩
 have HOB := Aside0.mk (show ∀ k, some k = (Value.slice A1 ns.length c1).ownBlock → u.heap.size ≤ k from fun k hk => Kd.R_base RN.out k hk.symm)
 have hS2 : Below (w.heap.size + 2) w2 u2 := hS1.grown hg_ (by have := HU.out; have := HU1.out; omega) (fun k hk => by have := HOB.out k hk.symm; have := HU.out; omega)
 have G2 := Aside0.mk ((hg_.block _ (by have := HU.out; have := HU1.out; omega) (fun e => by have := HOB.out _ e; have := HU.out; omega)).trans F2.out)
 have RP := Aside0.mk hr_
 have RO := Aside0.mk (R_farE RE.out hg_ (fun k hk e => OF.out k e.symm hk))
 have HP := Aside0.mk hp_
 have HI := Aside0.mk hi_
 refine ⟨_, rfl, hS2, fun a_ ha_ => ?_⟩
 simp only [Act.put, pu1, pu2, pu3] at ha_
 subst ha_
 clear hi_ hr_ hp_ hw_ hg_ hS1
 refine h_row (w.heap.size + 2) #[.slice A2 (ns.length + 1) c2, .slice B1 es.length d1] _ _ G2.out gt_ (by rfl) rfl rfl rfl (by kernel_rfl) rfl (by simp [Value.oneCell']) (hS2.trans (below_setRow (Below.refl _ _) (Nat.le_refl _) _)) ?_
 intro a_ ha_
 simp only [Act.put, pu1, pu2, pu3] at ha_
 subst ha_
 refine named _ ?_
 intro uz huz
 have RZ := Aside0.mk (show uz.heap[w.heap.size + 2]? = some (.cells #[.slice A2 (ns.length + 1) c2, .slice B1 es.length d1] 26 (0, 0)) by rw [huz]; exact setRow_heap _ _ _ _ _ _ G2.out)
 have HBZ := Aside0.mk (show Below w.heap.size w uz by rw [huz]; exact (HB2.out.trans (hS2.mono (by omega))).trans (below_setRow (Below.refl _ _) (by omega) _))
 have RPZ := Aside0.mk (show kN.R 28 uz u.heap.size (fun _ => True) (.slice A2 (ns.length + 1) c2) (ns.take i ++ n :: ns.drop i) by rw [huz]; exact R_farN RP.out (grown_setRow _ _ _) (fun k hk e => by have h1 := Kd.R_base RP.out k hk; have := Option.some.inj e; have := HU.out; omega))
 have ROZ := Aside0.mk (show kE.R 30 uz u.heap.size (fun _ => True) (.slice B1 es.length d1) es by rw [huz]; exact R_farE RO.out (grown_setRow _ _ _) (fun k hk e => by have h1 := Kd.R_base RO.out k hk; have := Option.some.inj e; have := HU.out; omega))
 repeat (first | (refine h_off gt_ (by rfl) ?_; intro a_ ha_; (simp only [Act.put, pu1, pu2, pu3] at ha_); subst ha_) | (refine h_on (v := ?_) gt_ (by rfl) ?_ ?_; rotate_left; (· rintro w_ hS_; go_simp; with_reducible rfl); intro a_ ha_; (simp only [Act.put, pu1, pu2, pu3] at ha_); subst ha_))
 refine h_end ?_
 have HLN := Aside0.mk (show (ns.take i ++ n :: ns.drop i).length = ns.length + 1 from by simp only [List.length_append, List.length_cons, List.length_take, List.length_drop]; have := HI.out; omega)
 clear huz hS2
 go_wp2
 refine bodyPost_ret (results_ct rfl _ _ (w.heap.size + 2) _ #[.slice A2 (ns.length + 1) c2, .slice B1 es.length d1] (0, 0) _ rfl RZ.out Tryz.underlying26 rfl (by kernel_rfl)) rfl ⟨⟨A2, c2, B1, d1, (ns.take i ++ n :: ns.drop i), es, 0, by rw [HLN.out]; try rfl, ⟨(Kd.R_reads' RPZ.out).2.2, (Kd.R_reads' ROZ.out).2.2, by rw [HLN.out]; exact (Kd.R_reads' RPZ.out).2.1, (Kd.R_reads' ROZ.out).2.1⟩, ⟨far_RN RPZ.out (by have := HU.out; omega), far_RE ROZ.out (by have := HU.out; omega)⟩, by rw [HLN.out]; omega, by omega, fun h => by
  have hg := okG_true.1 h
  obtain ⟨h1, h2, h3⟩ := Go.Proofs.YtogmbeifbjgphaaGreat.R.do1 h HH.out.1
  have h4 : putNC ns n = 0 := by rw [← h3]; unfold doC; rw [if_pos h, if_pos HH.out.1, HH.out.2]
  have hl := opLabel_node HH.out.1 (.inl rfl)
  have hi := HP.out ⟨hg.nok, hg.nasc, hl.1⟩
  have hn : n ∉ ns := fun hn => by unfold putNC at h4; rw [if_pos hn] at h4; omega
  have hin := ins_eq hg.nasc (key_ne (key := code) hg.nok hl.1 (fun _ _ => code_inj) hn)
  exact ⟨by rw [h1, hi]; unfold putNN; rw [if_pos h4]; exact hin.symm, h2.symm, by rw [h3, h4]⟩⟩, HBZ.out⟩
set_option maxHeartbeats 6400000 in
set_option maxRecDepth 100000 in
theorem l2Do_2 (A : Option Addr) (c : Nat) (ns : List Nd) (B : Option Addr) (d : Nat) (es : List Eg) (n : Nd) (x : Eg) (w : World) (hr : GR w A c ns B d es) (hn : ns.length ≤ 1000000) (he : es.length ≤ 1000000) (hl : 0 ≤ opLabel ⟨2, n, x⟩ ∧ endOf ns es ⟨2, n, x⟩ = 0) :
 Calls Tryz.prog 42 #[.agg #[.slice A ns.length c, .slice B es.length d], .agg #[.int .i64 2, .int .i64 n.lab, .int .i64 n.num, .int .i64 x.lab, .int .i64 x.a.lab, .int .i64 x.a.num, .int .i64 x.b.lab, .int .i64 x.b.num]] w fun e w' => Did w.heap.size A B ns es ⟨2, n, x⟩ e w' ∧ Below w.heap.size w w' := by
 have HR := Aside0.mk hr
 have HNL := Aside0.mk hn
 have HEL := Aside0.mk he
 have HH := Aside0.mk hl
 clear hr hn he hl
 have W1 := Aside0.mk (show Below w.heap.size w (((w.alloc (.cells #[.slice A ns.length c, .slice B es.length d] 26)).alloc (.cells #[.int .i64 2, .int .i64 n.lab, .int .i64 n.num, .int .i64 x.lab, .int .i64 x.a.lab, .int .i64 x.a.num, .int .i64 x.b.lab, .int .i64 x.b.num] 32)).alloc (.cells #[.slice none 0 0, .slice none 0 0] 26)) from below_alloc (below_alloc (below_alloc (Below.refl _ _) _) _) _)
 have B0 := Aside0.mk (show (((w.alloc (.cells #[.slice A ns.length c, .slice B es.length d] 26)).alloc (.cells #[.int .i64 2, .int .i64 n.lab, .int .i64 n.num, .int .i64 x.lab, .int .i64 x.a.lab, .int .i64 x.a.num, .int .i64 x.b.lab, .int .i64 x.b.num] 32)).alloc (.cells #[.slice none 0 0, .slice none 0 0] 26)).heap[w.heap.size]? = some (.cells #[.slice A ns.length c, .slice B es.length d] 26) from blk_alloc (blk_alloc (blk_new w _) _) _)
 have B1 := Aside0.mk (show (((w.alloc (.cells #[.slice A ns.length c, .slice B es.length d] 26)).alloc (.cells #[.int .i64 2, .int .i64 n.lab, .int .i64 n.num, .int .i64 x.lab, .int .i64 x.a.lab, .int .i64 x.a.num, .int .i64 x.b.lab, .int .i64 x.b.num] 32)).alloc (.cells #[.slice none 0 0, .slice none 0 0] 26)).heap[w.heap.size + 1]? = some (.cells #[.int .i64 2, .int .i64 n.lab, .int .i64 n.num, .int .i64 x.lab, .int .i64 x.a.lab, .int .i64 x.a.num, .int .i64 x.b.lab, .int .i64 x.b.num] 32) from blk_alloc (by have h := blk_new (w.alloc (.cells #[.slice A ns.length c, .slice B es.length d] 26)) (.cells #[.int .i64 2, .int .i64 n.lab, .int .i64 n.num, .int .i64 x.lab, .int .i64 x.a.lab, .int .i64 x.a.num, .int .i64 x.b.lab, .int .i64 x.b.num] 32); simpa using h) _)
 have B2 := Aside0.mk (show (((w.alloc (.cells #[.slice A ns.length c, .slice B es.length d] 26)).alloc (.cells #[.int .i64 2, .int .i64 n.lab, .int .i64 n.num, .int .i64 x.lab, .int .i64 x.a.lab, .int .i64 x.a.num, .int .i64 x.b.lab, .int .i64 x.b.num] 32)).alloc (.cells #[.slice none 0 0, .slice none 0 0] 26)).heap[w.heap.size + 2]? = some (.cells #[.slice none 0 0, .slice none 0 0] 26) from by have h := blk_new ((w.alloc (.cells #[.slice A ns.length c, .slice B es.length d] 26)).alloc (.cells #[.int .i64 2, .int .i64 n.lab, .int .i64 n.num, .int .i64 x.lab, .int .i64 x.a.lab, .int .i64 x.a.num, .int .i64 x.b.lab, .int .i64 x.b.num] 32)) (.cells #[.slice none 0 0, .slice none 0 0] 26); simpa using h)
 have HK := Aside0.mk (opLabel_kind HH.out.1)
 have hlab : ¬ opLabel ⟨2, n, x⟩ < 0 := by have := HH.out.1; omega
 have HQ := Aside0.mk HH.out.2
 go_enter Tryz.func42, Tryz.ntmps42
 go_wp2_with (first | (go_at_call 98; go_must ((refine (sOpLabel_calls 2 n x _).mono ?_); rintro e w1 ⟨rfl, hb⟩; have HB1 := Aside0.mk (below_step W1.out hb); have C0 := Aside0.mk (blk_below B0.out hb); have C1 := Aside0.mk (blk_below B1.out hb); have C2 := Aside0.mk (blk_below B2.out hb); have cg0 : w1.cell? ⟨w.heap.size, 0, none⟩ = some (.slice A ns.length c) := (blk_cell C0.out 0).trans rfl; have cg1 : w1.cell? ⟨w.heap.size, 1, none⟩ = some (.slice B es.length d) := (blk_cell C0.out 1).trans rfl; have co0 : w1.cell? ⟨w.heap.size + 1, 0, none⟩ = some (.int .i64 2) := (blk_cell C1.out 0).trans rfl; have co1 : w1.cell? ⟨w.heap.size + 1, 1, none⟩ = some (.int .i64 n.lab) := (blk_cell C1.out 1).trans rfl; have co2 : w1.cell? ⟨w.heap.size + 1, 2, none⟩ = some (.int .i64 n.num) := (blk_cell C1.out 2).trans rfl; have co3 : w1.cell? ⟨w.heap.size + 1, 3, none⟩ = some (.int .i64 x.lab) := (blk_cell C1.out 3).trans rfl; have co4 : w1.cell? ⟨w.heap.size + 1, 4, none⟩ = some (.int .i64 x.a.lab) := (blk_cell C1.out 4).trans rfl; have co5 : w1.cell? ⟨w.heap.size + 1, 5, none⟩ = some (.int .i64 x.a.num) := (blk_cell C1.out 5).trans rfl; have co6 : w1.cell? ⟨w.heap.size + 1, 6, none⟩ = some (.int .i64 x.b.lab) := (blk_cell C1.out 6).trans rfl; have co7 : w1.cell? ⟨w.heap.size + 1, 7, none⟩ = some (.int .i64 x.b.num) := (blk_cell C1.out 7).trans rfl; clear hb)) | (go_at_call 99; go_must ((refine (ends_calls_all A c ns B d es 2 n x _ (HR.out.below HB1.out) HNL.out HEL.out (by decide)).mono ?_); rintro e w2 ⟨rfl, hb⟩; rw [HQ.out]; have HB2 := Aside0.mk (below_step HB1.out hb); have D0 := Aside0.mk (blk_below C0.out hb); have D1 := Aside0.mk (blk_below C1.out hb); have D2 := Aside0.mk (blk_below C2.out hb); have dg0 : w2.cell? ⟨w.heap.size, 0, none⟩ = some (.slice A ns.length c) := (blk_cell D0.out 0).trans rfl; have dg1 : w2.cell? ⟨w.heap.size, 1, none⟩ = some (.slice B es.length d) := (blk_cell D0.out 1).trans rfl; have do0 : w2.cell? ⟨w.heap.size + 1, 0, none⟩ = some (.int .i64 2) := (blk_cell D1.out 0).trans rfl; have do1 : w2.cell? ⟨w.heap.size + 1, 1, none⟩ = some (.int .i64 n.lab) := (blk_cell D1.out 1).trans rfl; have do2 : w2.cell? ⟨w.heap.size + 1, 2, none⟩ = some (.int .i64 n.num) := (blk_cell D1.out 2).trans rfl; have do3 : w2.cell? ⟨w.heap.size + 1, 3, none⟩ = some (.int .i64 x.lab) := (blk_cell D1.out 3).trans rfl; have do4 : w2.cell? ⟨w.heap.size + 1, 4, none⟩ = some (.int .i64 x.a.lab) := (blk_cell D1.out 4).trans rfl; have do5 : w2.cell? ⟨w.heap.size + 1, 5, none⟩ = some (.int .i64 x.a.num) := (blk_cell D1.out 5).trans rfl; have do6 : w2.cell? ⟨w.heap.size + 1, 6, none⟩ = some (.int .i64 x.b.lab) := (blk_cell D1.out 6).trans rfl; have do7 : w2.cell? ⟨w.heap.size + 1, 7, none⟩ = some (.int .i64 x.b.num) := (blk_cell D1.out 7).trans rfl; clear hb)))
 have HZ := Aside0.mk (blk_lt D2.out)
 refine region_b (w.heap.size + 2) (by have := HZ.out; omega) sDo8 (by kernel_rfl) sDo10_ok rfl (fun d _ _ _ _ h => by cases d <;> exact h) ?_
 intro u hbu
 have hS : Below (w.heap.size + 2) w2 u := hbu.mono (by have := HZ.out; omega)
 have E2 := Aside0.mk (blk_below D2.out hbu)
 have HU := Aside0.mk (show w.heap.size + 3 ≤ u.heap.size from by have := hS.size; have := HZ.out; omega)
 clear hbu
 repeat (first | (refine h_off gt_ (by rfl) ?_; intro a_ ha_; (simp only [Act.put, pu1, pu2, pu3] at ha_); subst ha_) | (refine h_on (v := ?_) gt_ (by rfl) ?_ ?_; rotate_left; (· rintro w_ hS_; obtain ⟨g0_, g1_⟩ := cs2 (blk_b hS_ D0.out (by omega)); obtain ⟨o0_, o1_, o2_, o3_, o4_, o5_, o6_, o7_⟩ := cs8 (blk_b hS_ D1.out (by omega)); go_simp; with_reducible rfl); intro a_ ha_; (simp only [Act.put, pu1, pu2, pu3] at ha_); subst ha_))
 refine h_call2 (f := 43) (args := #[.agg #[.slice A ns.length c, .slice B es.length d]]) Tryz.func43 (by kernel_rfl) rfl gt_ (by rfl) (by rfl) mp_ ?_
 refine (l2Copy_calls A c ns B d es u (HR.out.below (HB2.out.trans (hS.mono (by omega)))) HNL.out HEL.out).mono ?_
 rintro e_ u1 ⟨A1, c1, B1, d1, rfl, hgr_, hrn_, hre_, hof_, hb_⟩
 have hS1 : Below (w.heap.size + 2) w2 u1 := hS.trans (hb_.mono (by have := HU.out; omega))
 have RN := Aside0.mk hrn_
 have RE := Aside0.mk hre_
 have OF := Aside0.mk hof_
 have HU1 := Aside0.mk (show u.heap.size ≤ u1.heap.size from hb_.size)
 have F2 := Aside0.mk (blk_below E2.out hb_)
 refine ⟨_, rfl, hS1, fun a_ ha_ => ?_⟩
 simp only [Act.put, pu1, pu2, pu3] at ha_
 subst ha_
 clear hgr_ hrn_ hre_ hof_ hb_ hS
 refine h_call2 (f := 100) (args := #[.agg #[.slice A1 ns.length c1, .slice B1 es.length d1], .agg #[.int .i64 x.lab, .int .i64 x.a.lab, .int .i64 x.a.num, .int .i64 x.b.lab, .int .i64 x.b.num]]) Tryz.func100 (by kernel_rfl) rfl gt_ (by rfl) (by rfl) mp_ ?_
 refine (sPutE_calls u.heap.size A1 c1 ns B1 d1 es x u1 RE.out HEL.out HU1.out).mono ?_
 rintro e_ u2 ⟨B2, d2, i, hi_, rfl, hr_, hp_, hw_, hg_⟩
 have HOB := Aside0.mk (show ∀ k, some k = (Value.slice B1 es.length d1).ownBlock → u.heap.size ≤ k from fun k hk => Kd.R_base RE.out k hk.symm)
 have hS2 : Below (w.heap.size + 2) w2 u2 := hS1.grown hg_ (by have := HU.out; have := HU1.out; omega) (fun k hk => by have := HOB.out k hk.symm; have := HU.out; omega)
 have G2 := Aside0.mk ((hg_.block _ (by have := HU.out; have := HU1.out; omega) (fun e => by have := HOB.out _ e; have := HU.out; omega)).trans F2.out)
 have RP := Aside0.mk hr_
 have RO := Aside0.mk (R_farN RN.out hg_ (fun k hk e => OF.out k hk e.symm))
 have HP := Aside0.mk hp_
 have HI := Aside0.mk hi_
 refine ⟨_, rfl, hS2, fun a_ ha_ => ?_⟩
 simp only [Act.put, pu1, pu2, pu3] at ha_
 subst ha_
 clear hi_ hr_ hp_ hw_ hg_ hS1
 refine h_row (w.heap.size + 2) #[.slice A1 ns.length c1, .slice B2 (es.length + 1) d2] _ _ G2.out gt_ (by rfl) rfl rfl rfl (by kernel_rfl) rfl (by simp [Value.oneCell']) (hS2.trans (below_setRow (Below.refl _ _) (Nat.le_refl _) _)) ?_
 intro a_ ha_
 simp only [Act.put, pu1, pu2, pu3] at ha_
 subst ha_
 refine named _ ?_
 intro uz huz
 have RZ := Aside0.mk (show uz.heap[w.heap.size + 2]? = some (.cells #[.slice A1 ns.length c1, .slice B2 (es.length + 1) d2] 26 (0, 0)) by rw [huz]; exact setRow_heap _ _ _ _ _ _ G2.out)
 have HBZ := Aside0.mk (show Below w.heap.size w uz by rw [huz]; exact (HB2.out.trans (hS2.mono (by omega))).trans (below_setRow (Below.refl _ _) (by omega) _))
 have RPZ := Aside0.mk (show kE.R 30 uz u.heap.size (fun _ => True) (.slice B2 (es.length + 1) d2) (es.take i ++ x :: es.drop i) by rw [huz]; exact R_farE RP.out (grown_setRow _ _ _) (fun k hk e => by have h1 := Kd.R_base RP.out k hk; have := Option.some.inj e; have := HU.out; omega))
 have ROZ := Aside0.mk (show kN.R 28 uz u.heap.size (fun _ => True) (.slice A1 ns.length c1) ns by rw [huz]; exact R_farN RO.out (grown_setRow _ _ _) (fun k hk e => by have h1 := Kd.R_base RO.out k hk; have := Option.some.inj e; have := HU.out; omega))
 repeat (first | (refine h_off gt_ (by rfl) ?_; intro a_ ha_; (simp only [Act.put, pu1, pu2, pu3] at ha_); subst ha_) | (refine h_on (v := ?_) gt_ (by rfl) ?_ ?_; rotate_left; (· rintro w_ hS_; go_simp; with_reducible rfl); intro a_ ha_; (simp only [Act.put, pu1, pu2, pu3] at ha_); subst ha_))
 refine h_end ?_
 have HLN := Aside0.mk (show (es.take i ++ x :: es.drop i).length = es.length + 1 from by simp only [List.length_append, List.length_cons, List.length_take, List.length_drop]; have := HI.out; omega)
 clear huz hS2
 go_wp2
 refine bodyPost_ret (results_ct rfl _ _ (w.heap.size + 2) _ #[.slice A1 ns.length c1, .slice B2 (es.length + 1) d2] (0, 0) _ rfl RZ.out Tryz.underlying26 rfl (by kernel_rfl)) rfl ⟨⟨A1, c1, B2, d2, ns, (es.take i ++ x :: es.drop i), 0, by rw [HLN.out]; try rfl, ⟨(Kd.R_reads' ROZ.out).2.2, (Kd.R_reads' RPZ.out).2.2, (Kd.R_reads' ROZ.out).2.1, by rw [HLN.out]; exact (Kd.R_reads' RPZ.out).2.1⟩, ⟨far_RN ROZ.out (by have := HU.out; omega), far_RE RPZ.out (by have := HU.out; omega)⟩, by omega, by rw [HLN.out]; omega, fun h => by
  have hg := okG_true.1 h
  obtain ⟨h1, h2, h3⟩ := Go.Proofs.YtogmbeifbjgphaaGreat.R.do2 h HH.out.1
  have h4 : putEC ns es x = 0 := by rw [← h3]; unfold doC; rw [if_pos h, if_pos HH.out.1, HH.out.2]
  have hl := opLabel_edge HH.out.1 (.inl rfl)
  have hi := HP.out ⟨hg.eok, hg.easc, hl.1⟩
  have hn : x ∉ es := fun hn => by unfold putEC at h4; rw [if_pos hn] at h4; omega
  have hin := ins_eq hg.easc (key_ne (key := key) hg.eok hl.1 (fun _ _ => key_inj) hn)
  exact ⟨h1.symm, by rw [h2, hi]; unfold putEE; rw [if_pos h4]; exact hin.symm, by rw [h3, h4]⟩⟩, HBZ.out⟩
theorem l2Do_calls (A : Option Addr) (c : Nat) (ns : List Nd) (B : Option Addr) (d : Nat) (es : List Eg) (op : M.Op) (w : World) (hr : GR w A c ns B d es) (hn : ns.length ≤ 1000000) (he : es.length ≤ 1000000) :
 Calls Tryz.prog 42 #[.agg #[.slice A ns.length c, .slice B es.length d], .agg #[.int .i64 op.kind, .int .i64 op.nd.lab, .int .i64 op.nd.num, .int .i64 op.eg.lab, .int .i64 op.eg.a.lab, .int .i64 op.eg.a.num, .int .i64 op.eg.b.lab, .int .i64 op.eg.b.num]] w fun e w' => Did w.heap.size A B ns es op e w' ∧ Below w.heap.size w w' := by
 obtain ⟨k, n, x⟩ := op
 by_cases hl : opLabel ⟨k, n, x⟩ < 0
 ·exact l2Do_form A c ns B d es k n x w hr hn he hl
 ·have h0 : 0 ≤ opLabel ⟨k, n, x⟩ := by omega
  by_cases hq : endOf ns es ⟨k, n, x⟩ = 0
  ·rcases opLabel_kind h0 with h | h | h | h
   ·obtain rfl : k = 1 := h
    exact l2Do_1 A c ns B d es n x w hr hn he ⟨h0, hq⟩
   ·obtain rfl : k = 2 := h
    exact l2Do_2 A c ns B d es n x w hr hn he ⟨h0, hq⟩
   ·obtain rfl : k = 3 := h
    exact l2Do_3 A c ns B d es n x w hr hn he ⟨h0, hq⟩
   ·obtain rfl : k = 4 := h
    exact l2Do_4 A c ns B d es n x w hr hn he ⟨h0, hq⟩
  ·exact l2Do_not A c ns B d es k n x w hr hn he ⟨h0, hq⟩
end Go.Proofs.YtogmbeifbjgphaaGreat.R
