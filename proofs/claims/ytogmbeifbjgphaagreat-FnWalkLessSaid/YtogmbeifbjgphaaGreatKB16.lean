/- The reference: a node, an edge is put in, in order. -/
import Derived.Test.YtogmbeifbjgphaaGreatKB15
namespace Go.Proofs.YtogmbeifbjgphaaGreat.R
open Go.RowKit Go.Proofs.YtogmbeifbjgphaaGreatV.PrintWords Go.Proofs.YtogmbeifbjgphaaGreatV.PrintLast Go.Proofs.YtogmbeifbjgphaaGreatV.PrintMore Go.Proofs.YtogmbeifbjgphaaGreat.M
set_option linter.unusedVariables false
set_option linter.unusedSimpArgs false
attribute [local go_sem high] eqN eqE
theorem placeN_of {l : List Nd} {x : Nd} {i : Nat} (ha : Asc code l) (hi : i ≤ l.length) (h1 : ∀ t, t < i → code (at_ l t) < code x) (h2 : i < l.length → ¬ code (at_ l i) < code x) : i = placeN l x := by
 have h := count_to (f := fun y => code y - code x) (l := l) (i := i) hi (fun t ht => by have := h1 t ht; omega) (fun t ht hl => by
  have h3 := h2 (by omega)
  have h4 := ha.le (i := i) (j := t) ht hl
  rw [← at_lt (show i < l.length by omega), ← at_lt hl] at h4
  omega)
 rw [← h]
 unfold placeN
 apply List.countP_congr
 intro y _
 simp only [decide_eq_true_eq]
 omega
theorem placeE_of {l : List Eg} {x : Eg} {i : Nat} (ha : Asc key l) (hi : i ≤ l.length) (h1 : ∀ t, t < i → key (eat l t) < key x) (h2 : i < l.length → ¬ key (eat l i) < key x) : i = placeE l x := by
 have h := count_toE (f := fun y => key y - key x) (l := l) (i := i) hi (fun t ht => by have := h1 t ht; omega) (fun t ht hl => by
  have h3 := h2 (by omega)
  have h4 := ha.le (i := i) (j := t) ht hl
  rw [← eat_lt (show i < l.length by omega), ← eat_lt hl] at h4
  omega)
 rw [← h]
 unfold placeE
 apply List.countP_congr
 intro y _
 simp only [decide_eq_true_eq]
 omega
section
variable {α : Type} {d : Kd α} {P : Program} {ops : Array Oper} {Q : Exit → Act → World → Prop} {S : World → Prop} {E : Act → World → Prop} {i : Nat} {r : List (Nat × Bool)} {o : Oper} {a : Act}
theorem h_append2 (hf : Flat d) {W : World} {base e : Nat} {t : TypeId} {s x : Operand} (z : Value) (bytes : Nat) (v : Value) (xs ys : List α) (A : Option Addr) (m c : Nat)
 (ho : ops[i]? = some o) (hw : Region.wanted o (yielded ops a.tmps) = true) (hop : o.op = .call { callee := .builtin .append, args := #[s, x], argTypes := #[t, t] })
 (ht : P.underlying t = some (.slice e)) (hinfo : (P.info? e).map (fun i => (i.zero, i.size, i.bytes)) = some (some z, d.sz, bytes)) (hz : z.cells.size = d.sz) (hb0 : 0 < bytes)
 (hs : a.eval s = v) (hx : a.eval x = .slice A m c) (HO : d.R e W base (fun _ => True) v xs) (HC : d.C W A m ys) (hbase : base ≤ W.heap.size) (hl : (xs.length + m) * bytes ≤ 140737488355328) (hSk : ∀ w1, W.grownBy w1 v.ownBlock → S w1)
 (h : ∀ B n cp w1, n = (xs ++ ys).length → n ≤ cp → d.R e w1 base (fun _ => True) (.slice B n cp) (xs ++ ys) → W.grownBy w1 v.ownBlock → ((Value.slice B n cp).ownBlock = v.ownBlock ∨ ∃ b, (Value.slice B n cp).ownBlock = some b ∧ W.heap.size ≤ b) → ∀ a', a.put o.dst (.slice B n cp) = a' → wpH P ops Q S E r a' w1) : wpH P ops Q S E ((i, false) :: r) a W := by
 refine ⟨o, ho, fun K hK => ?_⟩
 refine Kd.R_append_rows_step d (Rr := d.K W) (w0 := W) base hw s x t e z bytes hop ht hinfo hz hf.1 hb0 v xs ys A m c (fun _ => True) (fun _ => False) hs hx HO HC (fun y cs hy => hf.2 y cs W hy W base _) (fun k hk => hk.elim) (fun _ _ => trivial) (Below.refl _ _) hbase hl fun v1 w1 h1 h2 h3 h4 => ?_
 obtain ⟨B, cp, rfl, hn, -⟩ := Kd.R_reads h1
 exact hK _ _ (hSk w1 h3) fun _ => h B _ cp w1 rfl hn h1 h3 h4 _ rfl
end
theorem grown_over {w u v : World} {r r' : Option Nat} (h : w.grownBy u r) (h' : u.grownBy v r') (hr : ∀ k, k < w.heap.size → some k ≠ r → some k ≠ r') : w.grownBy v r :=
 ⟨h'.os.trans h.os, h'.tape.trans h.tape, h'.output.trans h.output, Nat.le_trans h.size h'.size, fun k hk hne => (h'.block k (Nat.lt_of_lt_of_le hk h.size) (hr k hk hne)).trans (h.block k hk hne)⟩
section
variable {α : Type} {d : Kd α} {P : Program} {ops : Array Oper} {Q : Exit → Act → World → Prop} {rest : List Oper} {o : Oper} {a : Act}
theorem w_append (hf : Flat d) {W : World} {base e : Nat} {t : TypeId} {s x : Operand} (z : Value) (bytes : Nat) (v : Value) (xs ys : List α) {A : Option Addr} {m c : Nat}
 (hgd : o.guard = none) (hop : o.op = .call { callee := .builtin .append, args := #[s, x], argTypes := #[t, t] })
 (ht : P.underlying t = some (.slice e)) (hinfo : (P.info? e).map (fun i => (i.zero, i.size, i.bytes)) = some (some z, d.sz, bytes)) (hz : z.cells.size = d.sz) (hb0 : 0 < bytes)
 (HO : d.R e W base (fun _ => True) v xs) (HC : d.C W A m ys) (hs : a.eval s = v) (hx : a.eval x = .slice A m c) (hbase : base ≤ W.heap.size) (hl : (xs.length + m) * bytes ≤ 140737488355328)
 (h : ∀ B n cp w1, n = (xs ++ ys).length → n ≤ cp → d.R e w1 base (fun _ => True) (.slice B n cp) (xs ++ ys) → W.grownBy w1 v.ownBlock → ((Value.slice B n cp).ownBlock = v.ownBlock ∨ ∃ b, (Value.slice B n cp).ownBlock = some b ∧ W.heap.size ≤ b) → wpList P ops Q rest (a.put o.dst (.slice B n cp)) w1) : wpList P ops Q (o :: rest) a W := by
 refine Kd.R_append_rows d (Rr := d.K W) (w0 := W) base hgd s x t e z bytes hop ht hinfo hz hf.1 hb0 v xs ys A m c (fun _ => True) (fun _ => False) hs hx HO HC (fun y cs hy => hf.2 y cs W hy W base _) (fun k hk => hk.elim) (fun _ _ => trivial) (Below.refl _ _) hbase hl fun v1 w1 h1 h2 h3 h4 => ?_
 obtain ⟨B, cp, rfl, hn, -⟩ := Kd.R_reads h1
 exact h B _ cp w1 rfl hn h1 h3 h4
end
abbrev sPutN2 : List (Nat × Bool) := [(0, true), (1, true), (2, true), (3, true), (4, true), (5, true), (6, true), (7, true), (8, true), (9, true), (10, true), (12, true), (11, false), (13, false), (14, true), (15, true)]
theorem sPutN2_ok : schedB .any (opsOf Tryz.f83 2) sPutN2 (Array.replicate (opsOf Tryz.f83 2).size false) = true := by kernel_rfl
abbrev sPutN5 : List (Nat × Bool) := [(0, true), (1, true), (2, true), (3, true), (4, true), (7, true), (5, false), (6, false), (8, false), (9, true)]
theorem sPutN5_ok : schedE .any (opsOf Tryz.f83 5) 10 sPutN5 (Array.replicate (opsOf Tryz.f83 5).size false) = true := by kernel_rfl
set_option maxHeartbeats 16000000 in
set_option maxRecDepth 100000 in
theorem sPutN_calls (base : Nat) (A : Option Addr) (c : Nat) (ns : List Nd) (B : Option Addr) (d : Nat) (es : List Eg) (x : Nd) (w : World) (hr : kN.R 28 w base (fun _ => True) (.slice A ns.length c) ns) (hl : ns.length ≤ 1000000) (hbs : base ≤ w.heap.size) :
 Calls Tryz.prog 83 #[.agg #[.slice A ns.length c, .slice B es.length d], .agg #[.int .i64 x.lab, .int .i64 x.num]] w fun e w' => ∃ A' c' i, i ≤ ns.length ∧ e = .returned (.agg #[.slice A' (ns.length + 1) c', .slice B es.length d]) ∧ kN.R 28 w' base (fun _ => True) (.slice A' (ns.length + 1) c') (ns.take i ++ x :: ns.drop i) ∧ ((∀ y ∈ ns, okN y = true) ∧ Asc code ns ∧ okN x = true → i = placeN ns x) ∧ ((Value.slice A' (ns.length + 1) c').ownBlock = (Value.slice A ns.length c).ownBlock ∨ ∃ b, (Value.slice A' (ns.length + 1) c').ownBlock = some b ∧ w.heap.size ≤ b) ∧ w.grownBy w' (Value.slice A ns.length c).ownBlock := by
 have HR := Aside0.mk hr
 have HL := Aside0.mk hl
 have HBS := Aside0.mk hbs
 have HC := Aside0.mk (Kd.R_reads' hr).2.2
 have HLC := Aside0.mk (Kd.R_reads' hr).2.1
 clear hr hl hbs
 have Y0 := Aside0.mk (show (((w.alloc (.cells #[.slice A ns.length c, .slice B es.length d] 26)).alloc (.cells #[.int .i64 x.lab, .int .i64 x.num] 28)).alloc (.cells #[.slice none 0 0, .slice none 0 0] 26)).heap[w.heap.size]? = some (.cells #[.slice A ns.length c, .slice B es.length d] 26) from blk_alloc (blk_alloc (blk_new w _) _) _)
 have Y1 := Aside0.mk (show (((w.alloc (.cells #[.slice A ns.length c, .slice B es.length d] 26)).alloc (.cells #[.int .i64 x.lab, .int .i64 x.num] 28)).alloc (.cells #[.slice none 0 0, .slice none 0 0] 26)).heap[w.heap.size + 1]? = some (.cells #[.int .i64 x.lab, .int .i64 x.num] 28) from blk_alloc (by have h := blk_new (w.alloc (.cells #[.slice A ns.length c, .slice B es.length d] 26)) (.cells #[.int .i64 x.lab, .int .i64 x.num] 28); simpa using h) _)
 go_enter Tryz.func83, Tryz.ntmps83
 go_wp2_with (fail)
 go_loopw [5] (fun s5 wr => ∃ i : Nat, i ≤ ns.length ∧ s5 = .int .i64 (i : Int) ∧ Aside0 ((∀ y ∈ ns, okN y = true) ∧ Asc code ns ∧ okN x = true → ∀ t, t < i → code (at_ ns t) < code x) ∧ Aside0 (wr.cell? ⟨w.heap.size, 0, none⟩ = some (.slice A ns.length c)) ∧ Aside0 (wr.cell? ⟨w.heap.size, 1, none⟩ = some (.slice B es.length d)) ∧ Aside0 (wr.cell? ⟨w.heap.size + 1, 0, none⟩ = some (.int .i64 x.lab)) ∧ Aside0 (wr.cell? ⟨w.heap.size + 1, 1, none⟩ = some (.int .i64 x.num)) ∧ Aside0 (wr.heap[w.heap.size + 2]? = some (.cells #[.slice none 0 0, .slice none 0 0] 26 (0, 0))) ∧ Aside0 (wr.heap[w.heap.size]? = some (.cells #[.slice A ns.length c, .slice B es.length d] 26 (0, 0))) ∧ Aside0 (Below w.heap.size w wr)) (fun s5 _ => (ns.length - intOf s5).toNat)
 case atStart => exact ⟨0, Nat.zero_le _, rfl, ⟨fun _ t ht => absurd ht (Nat.not_lt_zero _)⟩, ⟨(blk_cell Y0.out 0).trans rfl⟩, ⟨(blk_cell Y0.out 1).trans rfl⟩, ⟨(blk_cell Y1.out 0).trans rfl⟩, ⟨(blk_cell Y1.out 1).trans rfl⟩, ⟨by simpa using heap_alloc_new ((w.alloc (.cells #[.slice A ns.length c, .slice B es.length d] 26)).alloc (.cells #[.int .i64 x.lab, .int .i64 x.num] 28)) (.cells #[.slice none 0 0, .slice none 0 0] 26)⟩, ⟨Y0.out⟩, ⟨below_alloc (below_alloc (below_alloc (Below.refl _ _) _) _) _⟩⟩
 case round =>
  obtain ⟨i, hi, rfl, H1, Z0, Z1, Z2, Z3, HG, HX, HB⟩ := hrel
  have g0 := Z0.out
  have g1 := Z1.out
  have x0 := Z2.out
  have x1 := Z3.out
  have hl := HL.out
  by_cases hlt : i < ns.length
  case' neg =>
   have p0 : decide ((i : Int) < (ns.length : Int)) = false := decide_eq_false (by omega)
   have HPL := Aside0.mk (show (∀ y ∈ ns, okN y = true) ∧ Asc code ns ∧ okN x = true → i = placeN ns x from fun h => placeN_of h.2.1 hi (H1.out h) (fun h2 => absurd h2 hlt))
   go_wp2_with (fail)
   have HK_ := Aside0.mk (show Reg (fun u_ => Below w.heap.size w u_ ∧ u_.cell? ⟨w.heap.size, 0, none⟩ = some (.slice A ns.length c) ∧ u_.cell? ⟨w.heap.size, 1, none⟩ = some (.slice B es.length d) ∧ u_.cell? ⟨w.heap.size + 1, 0, none⟩ = some (.int .i64 x.lab) ∧ u_.cell? ⟨w.heap.size + 1, 1, none⟩ = some (.int .i64 x.num) ∧ u_.heap[w.heap.size + 2]? = some (.cells #[.slice none 0 0, .slice none 0 0] 26 (0, 0)) ∧ u_.heap[w.heap.size]? = some (.cells #[.slice A ns.length c, .slice B es.length d] 26 (0, 0)) ∧ True) from ⟨fun _ _ hb_ ⟨q_, s0_, s1_, s2_, s3_, e0_, e1_, _⟩ => ⟨below_step q_ hb_, pw_cell_below hb_ s0_, pw_cell_below hb_ s1_, pw_cell_below hb_ s2_, pw_cell_below hb_ s3_, blk_below e0_ hb_, blk_below e1_ hb_, trivial⟩⟩)
   refine region_by _ sPutN2 (by kernel_rfl) sPutN2_ok rfl (fun d _ _ _ _ h => by cases d <;> exact h) HK_.out ⟨HB.out, g0, g1, x0, x1, HG.out, HX.out, trivial⟩ ?_
   intro u hS
   clear g0 g1 x0 x1
   repeat (first | (refine h_off gt_ (by rfl) ?_; intro a_ ha_; (simp only [Act.put, pu1, pu2, pu3] at ha_); subst ha_) | (refine h_on (v := ?_) gt_ (by rfl) ?_ ?_; rotate_left; (· rintro w_ ⟨-, s0_, s1_, s2_, s3_, -, -, -⟩; go_simp; with_reducible rfl); intro a_ ha_; (simp only [Act.put, pu1, pu2, pu3] at ha_); subst ha_) | (refine h_offc hS gt_ (by rfl) ?_; intro a_ ha_; (simp only [Act.put, pu1, pu2, pu3] at ha_); subst ha_))
   refine h_end ?_
   clear HK_ HB HG HX
   obtain ⟨hB_, g0, g1, x0, x1, hE0_, hE1_, -⟩ := hS
   have HB := Aside0.mk hB_
   clear hB_
   have HG := Aside0.mk hE0_
   clear hE0_
   have HX := Aside0.mk hE1_
   clear hE1_
   clear p0
   have HAE : Aside0 (A = A) := ⟨rfl⟩
  case' pos =>
   have p0 : decide ((i : Int) < (ns.length : Int)) = true := decide_eq_true (by omega)
   obtain ⟨ad, e1, r0, r1⟩ := nd_at (Kd.C_below HC.out HB.out) i hlt
   cases e1
   have HYM := Aside0.mk (at_mem hlt)
   generalize hy : at_ ns i = y at r0 r1 HYM
   have HY := Aside0.mk hy
   clear hy
   go_wp2_with (fail)
   have HK_ := Aside0.mk (show Reg (fun u_ => Below w.heap.size w u_ ∧ u_.cell? ⟨w.heap.size, 0, none⟩ = some (.slice (some ad) ns.length c) ∧ u_.cell? ⟨w.heap.size, 1, none⟩ = some (.slice B es.length d) ∧ u_.cell? (ad.add (i * 2)) = some (.int .i64 y.lab) ∧ u_.cell? ⟨(ad.add (i * 2)).block, (ad.add (i * 2)).off + 1, none⟩ = some (.int .i64 y.num) ∧ u_.cell? ⟨w.heap.size + 1, 0, none⟩ = some (.int .i64 x.lab) ∧ u_.cell? ⟨w.heap.size + 1, 1, none⟩ = some (.int .i64 x.num) ∧ u_.heap[w.heap.size + 2]? = some (.cells #[.slice none 0 0, .slice none 0 0] 26 (0, 0)) ∧ u_.heap[w.heap.size]? = some (.cells #[.slice (some ad) ns.length c, .slice B es.length d] 26 (0, 0)) ∧ True) from ⟨fun _ _ hb_ ⟨q_, s0_, s1_, s2_, s3_, s4_, s5_, e0_, e1_, _⟩ => ⟨below_step q_ hb_, pw_cell_below hb_ s0_, pw_cell_below hb_ s1_, pw_cell_below hb_ s2_, pw_cell_below hb_ s3_, pw_cell_below hb_ s4_, pw_cell_below hb_ s5_, blk_below e0_ hb_, blk_below e1_ hb_, trivial⟩⟩)
   refine region_by _ sPutN2 (by kernel_rfl) sPutN2_ok rfl (fun d _ _ _ _ h => by cases d <;> exact h) HK_.out ⟨HB.out, g0, g1, r0, r1, x0, x1, HG.out, HX.out, trivial⟩ ?_
   intro u hS
   clear g0 g1 r0 r1 x0 x1
   repeat (first | (refine h_off gt_ (by rfl) ?_; intro a_ ha_; (simp only [Act.put, pu1, pu2, pu3] at ha_); subst ha_) | (refine h_on (v := ?_) gt_ (by rfl) ?_ ?_; rotate_left; (· rintro w_ ⟨-, s0_, s1_, s2_, s3_, s4_, s5_, -, -, -⟩; go_simp; with_reducible rfl); intro a_ ha_; (simp only [Act.put, pu1, pu2, pu3] at ha_); subst ha_) | (refine h_offc hS gt_ (by rfl) ?_; intro a_ ha_; (simp only [Act.put, pu1, pu2, pu3] at ha_); subst ha_) | (refine h_call (f := 52) (args := #[.agg #[.int .i64 y.lab, .int .i64 y.num]]) HK_.out hS Tryz.func52 (by kernel_rfl) rfl gt_ (by rfl) (by rfl) mp_ ?_; (refine (sCode_any y _).mono ?_); rintro e_ u_ ⟨⟨q1_, hq1_, rfl⟩, hb_⟩; have HQ1 := Aside0.mk hq1_; clear hq1_; refine ⟨_, rfl, hb_, fun a_ ha_ hS_ => ?_⟩; (simp only [Act.put, pu1, pu2, pu3] at ha_); subst ha_; clear hS; have hS := hS_; clear hS_ hb_) | (refine h_call (f := 52) (args := #[.agg #[.int .i64 x.lab, .int .i64 x.num]]) HK_.out hS Tryz.func52 (by kernel_rfl) rfl gt_ (by rfl) (by rfl) mp_ ?_; (refine (sCode_any x _).mono ?_); rintro e_ u_ ⟨⟨q2_, hq2_, rfl⟩, hb_⟩; have HQ2 := Aside0.mk hq2_; clear hq2_; refine ⟨_, rfl, hb_, fun a_ ha_ hS_ => ?_⟩; (simp only [Act.put, pu1, pu2, pu3] at ha_); subst ha_; clear hS; have hS := hS_; clear hS_ hb_))
   refine h_end ?_
   clear HK_ HB HG HX
   obtain ⟨hB_, g0, g1, r0, r1, x0, x1, hE0_, hE1_, -⟩ := hS
   have HB := Aside0.mk hB_
   clear hB_
   have HG := Aside0.mk hE0_
   clear hE0_
   have HX := Aside0.mk hE1_
   clear hE1_
   clear p0
   by_cases hq : q1_ < q2_
   case' pos =>
    go_wp2
    go_roundw
    case rel => exact ⟨i + 1, by omega, by go_num, ⟨fun h t ht => by
     rcases Nat.lt_succ_iff_lt_or_eq.1 ht with h2 | rfl
     ·exact H1.out h t h2
     ·rw [HY.out]; exact by rw [← HQ1.out (h.1 y HYM.out), ← HQ2.out h.2.2]; exact hq⟩, ⟨g0⟩, ⟨g1⟩, ⟨x0⟩, ⟨x1⟩, HG, HX, HB⟩
    case measure => simp [intOf]; omega
   case' neg =>
    have HPL := Aside0.mk (show (∀ y ∈ ns, okN y = true) ∧ Asc code ns ∧ okN x = true → i = placeN ns x from fun h => placeN_of h.2.1 hi (H1.out h) (fun _ => by rw [HY.out]; exact by rw [← HQ1.out (h.1 y HYM.out), ← HQ2.out h.2.2]; exact hq))
    clear HY HYM HQ1 HQ2 r0 r1
    generalize hA_ : (some ad : Option Addr) = A at *
    have HAE := Aside0.mk hA_
    clear hA_
    obtain ⟨u, rfl⟩ : ∃ u, u = u_ := ⟨_, rfl⟩
  all_goals
   have k0 : (u.alloc (.cells #[] 28)).cell? ⟨w.heap.size, 0, none⟩ = some (.slice A ns.length c) := pw_cell_below (below_alloc (Below.refl _ _) _) g0
   have k1 : (u.alloc (.cells #[] 28)).cell? ⟨w.heap.size, 1, none⟩ = some (.slice B es.length d) := pw_cell_below (below_alloc (Below.refl _ _) _) g1
   have q4 : i ≤ ns.length := hi
   have q5 : i ≤ c := by have := HLC.out; omega
   have HCD := Aside0.mk (fun (W : World) (h : Below w.heap.size w W) => Kd.C_drop (k := kN) (m := i) (Kd.C_below HC.out h) hi HLC.out)
   have hdl : (ns.drop i).length = ns.length - i := List.length_drop
   by_cases hci : c = i
   case' pos => have q : (c = i) = True := eq_true hci
   case' neg => have q := hci
   all_goals
    have HCE := Aside0.mk (fun W h => by have h9 := HCD.out W h; (first | rw [if_pos hci, hdl] at h9 | rw [if_neg hci, hdl] at h9); exact h9)
    clear hci
    go_wp2_with (first | ((with_reducible refine gate_builtin (b := .append) rfl ?_); go_must ((refine w_append flatN (W := u.alloc (.cells #[] 28)) (base := w.heap.size) (e := 28) (.agg #[(.int .i64 0), (.int .i64 0)]) 16 (.slice (some ⟨u.heap.size, 0, none⟩) 0 0) [] (ns.drop i) rfl rfl Tryz.underlying23 infoN rfl (by decide) (R_empty flatN HB.out.size) (HCE.out _ (below_alloc HB.out _)) rfl rfl (below_alloc HB.out _).size (by have := HL.out; simp; omega) ?_); intro BT nT pT wt hnT hpT hrT hgT hoT; have HT := Aside0.mk hrT; have HBT := Aside0.mk ((below_alloc HB.out (.cells #[] 28)).grown hgT (below_alloc HB.out _).size (fun k hk => by have : u.heap.size = k := Option.some.inj hk; have := HB.out.size; omega)); have m0 : wt.cell? ⟨w.heap.size, 0, none⟩ = some (.slice A ns.length c) := cell_grown (pw_cell_below (below_alloc (Below.refl _ _) _) g0) hgT (fun e => by have : w.heap.size = u.heap.size := Option.some.inj e; have := blk_lt HG.out; omega); have m1 : wt.cell? ⟨w.heap.size, 1, none⟩ = some (.slice B es.length d) := cell_grown (pw_cell_below (below_alloc (Below.refl _ _) _) g1) hgT (fun e => by have : w.heap.size = u.heap.size := Option.some.inj e; have := blk_lt HG.out; omega); have m2 : wt.cell? ⟨w.heap.size + 1, 0, none⟩ = some (.int .i64 x.lab) := cell_grown (pw_cell_below (below_alloc (Below.refl _ _) _) x0) hgT (fun e => by have : w.heap.size + 1 = u.heap.size := Option.some.inj e; have := blk_lt HG.out; omega); have m3 : wt.cell? ⟨w.heap.size + 1, 1, none⟩ = some (.int .i64 x.num) := cell_grown (pw_cell_below (below_alloc (Below.refl _ _) _) x1) hgT (fun e => by have : w.heap.size + 1 = u.heap.size := Option.some.inj e; have := blk_lt HG.out; omega); have HGT := Aside0.mk ((hgT.block _ (blk_lt (blk_alloc HG.out _)) (fun e => by have : w.heap.size + 2 = u.heap.size := Option.some.inj e; have := blk_lt HG.out; omega)).trans (blk_alloc HG.out _)); have HXT := Aside0.mk ((hgT.block _ (blk_lt (blk_alloc HX.out _)) (fun e => by have : w.heap.size = u.heap.size := Option.some.inj e; have := blk_lt HX.out; omega)).trans (blk_alloc HX.out _)); have HTL := Aside0.mk hnT; have HTO := Aside0.mk hoT; clear hrT hgT hnT hoT hpT)))
    have HM := Aside0.mk (Kd.R_below HR.out HBT.out)
    have HOWN := Aside0.mk (show ∀ k, (Value.slice A i c).ownBlock = some k → k < w.heap.size from fun k hk => Kd.R_lt HR.out k (own_len _ _ _ _ ▸ hk))
    have HK_ := Aside0.mk (show Reg (fun u_ => u_.cell? ⟨w.heap.size, 0, none⟩ = some (.slice A ns.length c) ∧ u_.cell? ⟨w.heap.size, 1, none⟩ = some (.slice B es.length d) ∧ u_.cell? ⟨w.heap.size + 1, 0, none⟩ = some (.int .i64 x.lab) ∧ u_.cell? ⟨w.heap.size + 1, 1, none⟩ = some (.int .i64 x.num)) from ⟨fun _ _ hb_ ⟨s0_, s1_, s2_, s3_⟩ => ⟨pw_cell_below hb_ s0_, pw_cell_below hb_ s1_, pw_cell_below hb_ s2_, pw_cell_below hb_ s3_⟩⟩)
    refine region_end (fun u_ => u_.cell? ⟨w.heap.size, 0, none⟩ = some (.slice A ns.length c) ∧ u_.cell? ⟨w.heap.size, 1, none⟩ = some (.slice B es.length d) ∧ u_.cell? ⟨w.heap.size + 1, 0, none⟩ = some (.int .i64 x.lab) ∧ u_.cell? ⟨w.heap.size + 1, 1, none⟩ = some (.int .i64 x.num)) 10 sPutN5 (by kernel_rfl) sPutN5_ok (by decide) (fun d _ _ _ _ h => by cases d <;> exact h) HK_.out ⟨m0, m1, m2, m3⟩ ?_
    intro u9 hS hbu9
    have HM1 := Aside0.mk (Kd.R_below HM.out hbu9)
    have HT1 := Aside0.mk (Kd.R_below HT.out hbu9)
    have HG1 := Aside0.mk (blk_below HGT.out hbu9)
    have HX9 := Aside0.mk (blk_below HXT.out hbu9)
    have HB1 := Aside0.mk (below_step HBT.out hbu9)
    clear hbu9 HM HT HGT HXT HBT m0 m1 m2 m3
    repeat (first | (refine h_off gt_ (by rfl) ?_; intro a_ ha_; (simp only [Act.put, pu1, pu2, pu3] at ha_); subst ha_) | (refine h_on (v := ?_) gt_ (by rfl) ?_ ?_; rotate_left; (· rintro w_ ⟨s0_, s1_, s2_, s3_⟩; go_simp; with_reducible rfl); intro a_ ha_; (simp only [Act.put, pu1, pu2, pu3] at ha_); subst ha_))
    refine h_val (v := .slice (some ⟨u9.heap.size, 0, none⟩) 1 1) (w1 := u9.alloc (.cells #[.int .i64 x.lab, .int .i64 x.num] 28)) HK_.out hS gt_ (by rfl) ?_ (below_alloc (Below.refl _ _) _) ?_
    ·go_simp
     first | done | rfl
    intro a_ ha_ hS1
    simp only [Act.put, pu1, pu2, pu3] at ha_
    subst ha_
    have HV := Aside0.mk (one_rowN (blk_new u9 (.cells #[.int .i64 x.lab, .int .i64 x.num] 28)))
    have HM2 := Aside0.mk (Kd.R_below HM1.out (below_alloc (Below.refl u9.heap.size u9) (.cells #[.int .i64 x.lab, .int .i64 x.num] 28)))
    have HT2 := Aside0.mk (Kd.R_below HT1.out (below_alloc (Below.refl u9.heap.size u9) (.cells #[.int .i64 x.lab, .int .i64 x.num] 28)))
    have HG2 := Aside0.mk (blk_alloc HG1.out (.cells #[.int .i64 x.lab, .int .i64 x.num] 28))
    have HX2 := Aside0.mk (blk_alloc HX9.out (.cells #[.int .i64 x.lab, .int .i64 x.num] 28))
    have HB2 := Aside0.mk (below_alloc HB1.out (.cells #[.int .i64 x.lab, .int .i64 x.num] 28))
    clear HM1 HT1 HG1 HX9 HB1 hS
    obtain ⟨s0_, s1_, s2_, s3_⟩ := hS1
    have HBX := Aside0.mk (show w.heap.size + 3 ≤ u9.heap.size + 1 by have := blk_lt HG2.out; simp at this; omega)
    refine h_append2 flatN (W := u9.alloc (.cells #[.int .i64 x.lab, .int .i64 x.num] 28)) (base := base) (.agg #[(.int .i64 0), (.int .i64 0)]) 16 (.slice A i c) (ns.take i) [x] _ 1 _ gt_ (by rfl) rfl Tryz.underlying23 infoN rfl (by decide) rfl rfl (Kd.R_take HM2.out hi) HV.out (Nat.le_trans HBS.out HB2.out.size) (by have := HL.out; simp; omega) (fun wz hgz => ⟨cell_grown s0_ hgz (fun e => by have h2 := HOWN.out _ e.symm; omega), cell_grown s1_ hgz (fun e => by have h2 := HOWN.out _ e.symm; omega), cell_grown s2_ hgz (fun e => by have h2 := HOWN.out _ e.symm; omega), cell_grown s3_ hgz (fun e => by have h2 := HOWN.out _ e.symm; omega)⟩) ?_
    intro B1 n1 p1 ub hn1 hp1 hr1 hg1 ho1 a_ ha_
    simp only [Act.put, pu1, pu2, pu3] at ha_
    subst ha_
    have HR1 := Aside0.mk hr1
    have HS1 := Aside0.mk (show (fun u_ => u_.cell? ⟨w.heap.size, 0, none⟩ = some (.slice A ns.length c) ∧ u_.cell? ⟨w.heap.size, 1, none⟩ = some (.slice B es.length d) ∧ u_.cell? ⟨w.heap.size + 1, 0, none⟩ = some (.int .i64 x.lab) ∧ u_.cell? ⟨w.heap.size + 1, 1, none⟩ = some (.int .i64 x.num)) ub from ⟨cell_grown s0_ hg1 (fun e => by have h2 := HOWN.out _ e.symm; omega), cell_grown s1_ hg1 (fun e => by have h2 := HOWN.out _ e.symm; omega), cell_grown s2_ hg1 (fun e => by have h2 := HOWN.out _ e.symm; omega), cell_grown s3_ hg1 (fun e => by have h2 := HOWN.out _ e.symm; omega)⟩)
    have HT3 := Aside0.mk (R_farN HT2.out hg1 (fun k hk e => by have h1 := Kd.R_base HT2.out k hk; have h2 := HOWN.out k e.symm; omega))
    have HG3 := Aside0.mk ((hg1.block _ (blk_lt HG2.out) (fun e => by have h2 := HOWN.out _ e.symm; omega)).trans HG2.out)
    have HX3 := Aside0.mk ((hg1.block _ (blk_lt HX2.out) (fun e => by have h2 := HOWN.out _ e.symm; omega)).trans HX2.out)
    have HOB := Aside0.mk (show ∀ k, (Value.slice B1 n1 p1).ownBlock = some k → k < w.heap.size ∨ w.heap.size + 3 ≤ k from fun k hk => by
     rcases ho1 with e1 | ⟨b1, e1, hb1⟩
     ·exact .inl (HOWN.out k (e1 ▸ hk))
     ·rw [e1] at hk
      have := Option.some.inj hk
      have := HBX.out
      simp at hb1
      exact .inr (by omega))
    have HO1 := Aside0.mk ho1
    have HGW1 := Aside0.mk hg1
    have HTR := Aside0.mk (Kd.R_reads' HT3.out)
    clear hr1 hg1 ho1 HM2 HV HG2 HX2
    refine h_append2 flatN (W := ub) (base := base) (.agg #[(.int .i64 0), (.int .i64 0)]) 16 (.slice B1 n1 p1) (ns.take i ++ [x]) ([] ++ ns.drop i) _ nT _ gt_ (by rfl) rfl Tryz.underlying23 infoN rfl (by decide) rfl rfl HR1.out (HTR.out.1 ▸ HTR.out.2.2) (Nat.le_trans HBS.out (Nat.le_trans HB2.out.size HGW1.out.size)) (by have := HL.out; have := HTR.out.1; simp at *; omega) (fun wz hgz => ⟨cell_grown HS1.out.1 hgz (fun e => by have h2 := HOB.out _ e.symm; omega), cell_grown HS1.out.2.1 hgz (fun e => by have h2 := HOB.out _ e.symm; omega), cell_grown HS1.out.2.2.1 hgz (fun e => by have h2 := HOB.out _ e.symm; omega), cell_grown HS1.out.2.2.2 hgz (fun e => by have h2 := HOB.out _ e.symm; omega)⟩) ?_
    intro B2 n2 p2 uc hn2 hp2 hr2 hg2 ho2 a_ ha_
    simp only [Act.put, pu1, pu2, pu3] at ha_
    subst ha_
    have hlist : (ns.take i ++ [x]) ++ ([] ++ ns.drop i) = ns.take i ++ x :: ns.drop i := by simp
    obtain rfl : n2 = ns.length + 1 := by rw [hn2, hlist]; simp; omega
    rw [hlist] at hr2
    have HR2 := Aside0.mk hr2
    have HX4 := Aside0.mk ((hg2.block _ (blk_lt HX3.out) (fun e => by have h2 := HOB.out _ e.symm; omega)).trans HX3.out)
    have HG4 := Aside0.mk ((hg2.block _ (blk_lt HG3.out) (fun e => by have h2 := HOB.out _ e.symm; omega)).trans HG3.out)
    have HOF := Aside0.mk (show (Value.slice B2 (ns.length + 1) p2).ownBlock = (Value.slice A ns.length c).ownBlock ∨ ∃ b, (Value.slice B2 (ns.length + 1) p2).ownBlock = some b ∧ w.heap.size + 3 ≤ b from by
     have h8 := HBX.out
     have h9 := HGW1.out.size
     simp at h9
     rcases ho2 with e2 | ⟨b2, e2, hb2⟩
     ·rcases HO1.out with e1 | ⟨b1, e1, hb1⟩
      ·exact .inl (e2.trans (e1.trans (own_len _ _ _ _)))
      ·simp at hb1
       exact .inr ⟨b1, e2.trans e1, by omega⟩
     ·exact .inr ⟨b2, e2, by omega⟩)
    have HGR := Aside0.mk (grown_over (grown_over (grown_of HB2.out (Value.slice A ns.length c).ownBlock) HGW1.out (fun k _ h => own_len A ns.length i c ▸ h)) hg2 (fun k hk h e => by
     rcases HO1.out with e1 | ⟨b1, e1, hb1⟩
     ·exact h (e.trans (e1.trans (own_len _ _ _ _)))
     ·rw [e1] at e
      have := Option.some.inj e
      have := HBX.out
      simp at hb1
      omega))
    have HOW := Aside0.mk (show ∀ k, (Value.slice B2 (ns.length + 1) p2).ownBlock = some k → k < w.heap.size ∨ w.heap.size + 3 ≤ k from fun k hk => by
     rcases HOF.out with e1 | ⟨b1, e1, hb1⟩
     ·exact .inl (Kd.R_lt HR.out k (e1 ▸ hk))
     ·rw [e1] at hk
      have := Option.some.inj hk
      exact .inr (by omega))
    clear hr2 hg2 ho2 hn2 HR1 HS1 HT2 HT3 HG3 HX3 HTR HO1 hlist
    refine h_on (v := ?_) gt_ (by rfl) ?_ ?_
    rotate_left
    ·rintro w_ ⟨s0_, s1_, s2_, s3_⟩
     go_simp
     with_reducible rfl
    intro a_ ha_
    simp only [Act.put, pu1, pu2, pu3] at ha_
    subst ha_
    refine h_last gt_ (by rfl) fun K_ hK_ => ?_
    refine wp_cell w.heap.size 0 B2 (ns.length + 1) p2 rfl rfl rfl ⟨_, (blk_cell HX4.out 0).trans rfl⟩ (blk_frozen HX4.out 0) (by kernel_rfl) (hK_ _ _ ?_)
    refine named _ ?_
    intro ud hud
    have HX5 := Aside0.mk (show ud.heap[w.heap.size]? = some (.cells #[.slice B2 (ns.length + 1) p2, .slice B es.length d] 26 (0, 0)) by rw [hud]; exact blk_set HX4.out 0 (.slice B2 (ns.length + 1) p2))
    have HG5 := Aside0.mk (show ud.heap[w.heap.size + 2]? = some (.cells #[.slice none 0 0, .slice none 0 0] 26 (0, 0)) by rw [hud]; exact blk_far HG4.out (show w.heap.size + 2 ≠ w.heap.size by omega) _)
    have HR5 := Aside0.mk (show kN.R 28 ud base (fun _ => True) (.slice B2 (ns.length + 1) p2) (ns.take i ++ x :: ns.drop i) by rw [hud]; exact R_farN HR2.out (grown_setCell uc w.heap.size 0 _) (fun k hk e => by have h1 := HOW.out k hk; have := Option.some.inj e; omega))
    have HGR5 := Aside0.mk (show w.grownBy ud (Value.slice A ns.length c).ownBlock by rw [hud]; exact grown_over HGR.out (grown_setCell uc w.heap.size 0 _) (fun k hk _ e => by have := Option.some.inj e; omega))
    have k0 : ud.cell? ⟨w.heap.size, 0, none⟩ = some (.slice B2 (ns.length + 1) p2) := (blk_cell HX5.out 0).trans rfl
    have k1 : ud.cell? ⟨w.heap.size, 1, none⟩ = some (.slice B es.length d) := (blk_cell HX5.out 1).trans rfl
    clear hud HR2 HX4 HG4 HGR HOB HBX HK_ hK_
    simp only [Act.put]
    go_wp2_with (first | ((with_reducible refine gate_store (p := 4) rfl ?_); go_must ((refine wpList_plain rfl fun K_ hK_ => wp_store_row _ _ _ rfl (w.heap.size + 2) #[.slice B2 (ns.length + 1) p2, .slice B es.length d] rfl rfl _ _ HG5.out (by kernel_rfl) rfl (by simp [Value.oneCell']) (hK_ _ _ ?_)); refine named _ ?_; intro uz huz; have RZ := Aside0.mk (show uz.heap[w.heap.size + 2]? = some (.cells #[.slice B2 (ns.length + 1) p2, .slice B es.length d] 26 (0, 0)) by rw [huz]; exact setRow_heap _ _ _ _ _ _ HG5.out); have HR6 := Aside0.mk (show kN.R 28 uz base (fun _ => True) (.slice B2 (ns.length + 1) p2) (ns.take i ++ x :: ns.drop i) by rw [huz]; exact R_farN HR5.out (grown_setRow ud (w.heap.size + 2) _) (fun k hk e => by have h1 := HOW.out k hk; have := Option.some.inj e; omega)); have HGR6 := Aside0.mk (show w.grownBy uz (Value.slice A ns.length c).ownBlock by rw [huz]; exact grown_over HGR5.out (grown_setRow ud (w.heap.size + 2) _) (fun k hk _ e => by have := Option.some.inj e; omega)); clear huz)))
    refine bodyPost_ret (results_cell_row rfl _ _ (w.heap.size + 2) _ #[.slice B2 (ns.length + 1) p2, .slice B es.length d] (0, 0) _ rfl RZ.out Tryz.underlying26 rfl (by kernel_rfl)) rfl ?_
    try rw [HAE.out]
    exact ⟨B2, p2, i, hi, rfl, HR6.out, HPL.out, HOF.out.imp id (fun ⟨b, h1, h2⟩ => ⟨b, h1, by omega⟩), HGR6.out⟩
end Go.Proofs.YtogmbeifbjgphaaGreat.R
