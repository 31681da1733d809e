/- The law FnGraphGone, walked. -/
import Derived.Test.YtogmbeifbjgphaaKGN
import Derived.Test.YtogmbeifbjgphaaKL5
namespace Go.Proofs.Ytogmbeifbjgphaa.R
open Go.RowKit Go.Proofs.YtogmbeifbjgphaaV.PrintWords Go.Proofs.YtogmbeifbjgphaaV.PrintLast Go.Proofs.YtogmbeifbjgphaaV.PrintMore Go.Proofs.Ytogmbeifbjgphaa.M
set_option linter.unusedVariables false
set_option linter.unusedSimpArgs false
attribute [local go_sem high] eqN eqE
abbrev sGo12 : Pl := (.tk 0 (.tk 1 (.tk 2 (.tk 3 (.tk 4 (.tk 5 (.tk 6 (.tk 7 (.tk 8 (.tk 9 (.tk 10 (.tk 11 (.tk 12 (.tk 13 (.tk 14 (.tk 15 (.tk 16 (.tk 17 (.tk 18 (.tk 19 .fin))))))))))))))))))))
theorem sGo12_ok : planB .any (opsOf Try.f26 12) [] sGo12 (Array.replicate (opsOf Try.f26 12).size false) = true := by kernel_rfl
theorem countP_both {α : Type} (p q : α → Bool) (h : ∀ x, q x = !p x) (l : List α) : l.countP p + l.countP q = l.length := by
  induction l with
  | nil => rfl
  | cons x l ih =>
    rw [List.countP_cons, List.countP_cons, List.length_cons, h x]
    cases p x <;> simp <;> omega
theorem gone_len {ns : List Nd} (hn : ns.Nodup) {x : Nd} (hx : x ∈ ns) : (ns.filter fun n => decide (n ≠ x)).length + 1 = ns.length := by
  have h1 := countP_both (fun n => decide (n ≠ x)) (fun n => decide (n = x)) (fun n => by by_cases e : n = x <;> simp [e]) ns
  have h2 := cnt_one hn x
  rw [if_pos hx] at h2
  have h3 : 0 < ns.countP (fun n => decide (n = x)) := List.countP_pos_iff.2 ⟨x, hx, by simp⟩
  rw [← List.countP_eq_length_filter]
  omega
def endsAt (x : Nd) (l : List Eg) : Nat := l.countP (fun e => decide (e.a = x) || decide (e.b = x))
theorem endsAt_snoc (x : Nd) (y : Eg) (l : List Eg) : endsAt x (l ++ [y]) = endsAt x l + (if (decide (y.a = x) || decide (y.b = x)) = true then 1 else 0) := by
  unfold endsAt
  rw [List.countP_append, List.countP_singleton]
theorem cut_len {es : List Eg} (x : Nd) : (es.filter fun e => decide (e.a ≠ x ∧ e.b ≠ x)).length + endsAt x es = es.length := by
  have h1 := countP_both (fun e : Eg => decide (e.a ≠ x ∧ e.b ≠ x)) (fun e => decide (e.a = x) || decide (e.b = x)) (fun e => by by_cases h : e.a = x <;> by_cases h' : e.b = x <;> simp [h, h']) es
  rw [← List.countP_eq_length_filter]
  exact h1
def GonI (w : World) (g3 g4 g5 : Nat) (A1 : Option Addr) (c1 : Nat) (ns : List Nd) (B1 : Option Addr) (d1 : Nat) (es : List Eg) (op : M.Op) (A2 : Option Addr) (c2 : Nat) (n2 : List Nd) (B2 : Option Addr) (d2 : Nat) (e2 : List Eg) (s9 s10 : Value) (wr : World) : Prop :=
  ∃ j cn : Nat, j ≤ es.length ∧ endsAt op.nd (es.take j) = cn ∧ cn ≤ 100 ∧ s9 = .int .i64 (cn : Int) ∧ s10 = .int .i64 (j : Int) ∧ wr.heap[g3]? = some (.cells #[.slice A1 ns.length c1, .slice B1 es.length d1] 26 (0, 0)) ∧ wr.heap[g4]? = some (.cells #[.int .i64 op.kind, .int .i64 op.nd.lab, .int .i64 op.nd.num, .int .i64 op.eg.lab, .int .i64 op.eg.a.lab, .int .i64 op.eg.a.num, .int .i64 op.eg.b.lab, .int .i64 op.eg.b.num] 32 (0, 0)) ∧ wr.heap[g5]? = some (.cells #[.slice A2 n2.length c2, .slice B2 e2.length d2] 26 (0, 0)) ∧ GR wr A1 c1 ns B1 d1 es ∧ GR wr A2 c2 n2 B2 d2 e2 ∧ Below w.heap.size w wr
set_option maxHeartbeats 12800000 in
set_option maxRecDepth 100000 in
theorem graphGone_walk (A : Option Addr) (c : Nat) (l : List Int) (w : World) (hl : (Kd.int .u8).C w A l.length l) (hc : l.length ≤ c) (hb : ∀ x ∈ l, 0 ≤ x ∧ x < 256) :
    Calls Try.prog 26 #[.slice A l.length c] w fun e w' => e = .returned (.bool true) ∧ Below w.heap.size w w' := by
  have HL := Aside0.mk hl
  have HC := Aside0.mk hc
  have HY := Aside0.mk hb
  have HB := Aside0.mk (Below.refl w.heap.size w)
  clear hl hc hb
  by_cases hlen : 1048576 < l.length
  · have hl1 : (1048576 : Int) < (l.length : Int) := by omega
    go_enter Try.func26, Try.ntmps26
    go_wp2_with (fail)
    go_ret
    exact ⟨rfl, HB.out⟩
  have hl1 : ¬ (1048576 : Int) < (l.length : Int) := by omega
  clear hlen
  go_enter Try.func26, Try.ntmps26
  go_upto_region 6 with (first | (go_at_call 30; go_must ((refine (drawGO_calls A c l _ (Kd.C_below HL.out HB.out) HC.out HY.out).mono ?_); rintro e u_ ⟨⟨A1, c1, ns, B1, d1, es, op, rfl, hgr_, hn_, he_⟩, hb⟩; have HGR := Aside0.mk hgr_; have HLN := Aside0.mk (And.intro hn_ he_); clear hgr_ hn_ he_; obtain ⟨n2, hn2_⟩ : ∃ y, doN ns es op = y := ⟨_, rfl⟩; obtain ⟨e2, he2_⟩ : ∃ y, doE ns es op = y := ⟨_, rfl⟩; obtain ⟨q, hq_⟩ : ∃ y, doC ns es op = y := ⟨_, rfl⟩; have HDO := Aside0.mk (And.intro hn2_ (And.intro he2_ hq_)); clear hn2_ he2_ hq_; obtain ⟨v, hv_⟩ : ∃ v, okG ns es = v := ⟨_, rfl⟩; have HOK := Aside0.mk hv_; clear hv_; replace HB := Aside0.mk (below_step HB.out hb); clear hb)) | ((with_reducible refine gate_dst (N := 3) rfl ?_); go_must ((refine w_new #[.slice none 0 0, .slice none 0 0] 26 rfl (by go_simp; (first | done | rfl)) ?_); intro g3 u_ hge_ hb0_ hb; have HN3 := Aside0.mk (HGR.out.new hge_); have Hg3 := Aside0.mk (show w.heap.size + 0 ≤ g3 from by have hl0_ := HB.out.size; exact by omega); have L3 := Aside0.mk hb0_; replace HB := Aside0.mk (below_step HB.out hb); replace HGR := Aside0.mk (HGR.out.below hb); clear hge_ hb0_ hb; (try clear t3c0 t3c1); obtain ⟨t3c0, t3c1⟩ := cs2 (L3.out))) | ((with_reducible refine gate_dst (N := 4) rfl ?_); go_must ((refine w_new #[.int .i64 0, .int .i64 0, .int .i64 0, .int .i64 0, .int .i64 0, .int .i64 0, .int .i64 0, .int .i64 0] 32 rfl (by go_simp; (first | done | rfl)) ?_); intro g4 u_ hge_ hb0_ hb; have HN4 := Aside0.mk (HGR.out.new hge_); have Hg4 := Aside0.mk (show w.heap.size + 0 ≤ g4 ∧ g3 < g4 from by have hl0_ := HB.out.size; have hl_g3 := blk_lt L3.out; exact ⟨by omega, by omega⟩); have L4 := Aside0.mk hb0_; replace HB := Aside0.mk (below_step HB.out hb); replace L3 := Aside0.mk (blk_below L3.out hb); replace HGR := Aside0.mk (HGR.out.below hb); clear hge_ hb0_ hb; (try clear t3c0 t3c1); obtain ⟨t3c0, t3c1⟩ := cs2 (L3.out); (try clear t4c0 t4c1 t4c2 t4c3 t4c4 t4c5 t4c6 t4c7); obtain ⟨t4c0, t4c1, t4c2, t4c3, t4c4, t4c5, t4c6, t4c7⟩ := cs8 (L4.out))) | ((with_reducible refine gate_store (p := 3) rfl ?_); go_must ((refine wpList_plain rfl fun K_ hK_ => wp_store_row _ _ _ rfl (g3) #[.slice A1 ns.length c1, .slice B1 es.length d1] rfl rfl _ _ L3.out (by kernel_rfl) rfl (by simp [Value.oneCell']) (hK_ _ _ ?_)); refine named _ ?_; intro wz hwz; replace HB := Aside0.mk (sb_ hwz HB.out (by have := Hg3.out; have := Hg4.out; omega)); replace L4 := Aside0.mk (so_ hwz L4.out (by have := Hg3.out; have := Hg4.out; omega)); replace L3 := Aside0.mk (sh_ hwz L3.out); replace HGR := Aside0.mk (show GR wz A1 c1 ns B1 d1 es by rw [hwz]; exact (HGR.out).keep (grown_setRow _ _ _) HN3.out.1 HN3.out.2); (try clear t3c0 t3c1); obtain ⟨t3c0, t3c1⟩ := cs2 (L3.out); (try clear t4c0 t4c1 t4c2 t4c3 t4c4 t4c5 t4c6 t4c7); obtain ⟨t4c0, t4c1, t4c2, t4c3, t4c4, t4c5, t4c6, t4c7⟩ := cs8 (L4.out); clear hwz)) | ((with_reducible refine gate_store (p := 4) rfl ?_); go_must ((refine wpList_plain rfl fun K_ hK_ => wp_store_row _ _ _ rfl (g4) #[.int .i64 op.kind, .int .i64 op.nd.lab, .int .i64 op.nd.num, .int .i64 op.eg.lab, .int .i64 op.eg.a.lab, .int .i64 op.eg.a.num, .int .i64 op.eg.b.lab, .int .i64 op.eg.b.num] rfl rfl _ _ L4.out (by kernel_rfl) rfl (by simp [Value.oneCell']) (hK_ _ _ ?_)); refine named _ ?_; intro wz hwz; replace HB := Aside0.mk (sb_ hwz HB.out (by have := Hg3.out; have := Hg4.out; omega)); replace L3 := Aside0.mk (so_ hwz L3.out (by have := Hg3.out; have := Hg4.out; omega)); replace L4 := Aside0.mk (sh_ hwz L4.out); replace HGR := Aside0.mk (show GR wz A1 c1 ns B1 d1 es by rw [hwz]; exact (HGR.out).keep (grown_setRow _ _ _) HN4.out.1 HN4.out.2); (try clear t3c0 t3c1); obtain ⟨t3c0, t3c1⟩ := cs2 (L3.out); (try clear t4c0 t4c1 t4c2 t4c3 t4c4 t4c5 t4c6 t4c7); obtain ⟨t4c0, t4c1, t4c2, t4c3, t4c4, t4c5, t4c6, t4c7⟩ := cs8 (L4.out); clear hwz)) | (go_at_call 31; go_must ((refine (graphDo_as A1 c1 ns B1 d1 es op n2 e2 q _ HGR.out HDO.out).mono ?_); rintro e u_ ⟨A2, c2, B2, d2, rfl, hg2_, hb⟩; have HG2 := Aside0.mk hg2_; clear hg2_; replace HB := Aside0.mk (below_step HB.out hb); replace L3 := Aside0.mk (blk_below L3.out hb); replace L4 := Aside0.mk (blk_below L4.out hb); replace HGR := Aside0.mk (HGR.out.below hb); (try clear t3c0 t3c1); obtain ⟨t3c0, t3c1⟩ := cs2 (L3.out); (try clear t4c0 t4c1 t4c2 t4c3 t4c4 t4c5 t4c6 t4c7); obtain ⟨t4c0, t4c1, t4c2, t4c3, t4c4, t4c5, t4c6, t4c7⟩ := cs8 (L4.out); clear hb)) | ((with_reducible refine gate_dst (N := 5) rfl ?_); go_must ((refine w_new #[.slice none 0 0, .slice none 0 0] 26 rfl (by go_simp; (first | done | rfl)) ?_); intro g5 u_ hge_ hb0_ hb; have HN5 := Aside0.mk (And.intro (HGR.out.new hge_) (HG2.out.new hge_)); have Hg5 := Aside0.mk (show w.heap.size + 0 ≤ g5 ∧ g3 < g5 ∧ g4 < g5 from by have hl0_ := HB.out.size; have hl_g3 := blk_lt L3.out; have hl_g4 := blk_lt L4.out; exact ⟨by omega, by omega, by omega⟩); have L5 := Aside0.mk hb0_; replace HB := Aside0.mk (below_step HB.out hb); replace L3 := Aside0.mk (blk_below L3.out hb); replace L4 := Aside0.mk (blk_below L4.out hb); replace HGR := Aside0.mk (HGR.out.below hb); replace HG2 := Aside0.mk (HG2.out.below hb); clear hge_ hb0_ hb; (try clear t3c0 t3c1); obtain ⟨t3c0, t3c1⟩ := cs2 (L3.out); (try clear t4c0 t4c1 t4c2 t4c3 t4c4 t4c5 t4c6 t4c7); obtain ⟨t4c0, t4c1, t4c2, t4c3, t4c4, t4c5, t4c6, t4c7⟩ := cs8 (L4.out); (try clear t5c0 t5c1); obtain ⟨t5c0, t5c1⟩ := cs2 (L5.out))) | ((with_reducible refine gate_store (p := 5) rfl ?_); go_must ((refine wpList_plain rfl fun K_ hK_ => wp_store_row _ _ _ rfl (g5) #[.slice A2 n2.length c2, .slice B2 e2.length d2] rfl rfl _ _ L5.out (by kernel_rfl) rfl (by simp [Value.oneCell']) (hK_ _ _ ?_)); refine named _ ?_; intro wz hwz; replace HB := Aside0.mk (sb_ hwz HB.out (by have := Hg3.out; have := Hg4.out; have := Hg5.out; omega)); replace L3 := Aside0.mk (so_ hwz L3.out (by have := Hg3.out; have := Hg4.out; have := Hg5.out; omega)); replace L4 := Aside0.mk (so_ hwz L4.out (by have := Hg3.out; have := Hg4.out; have := Hg5.out; omega)); replace L5 := Aside0.mk (sh_ hwz L5.out); replace HGR := Aside0.mk (show GR wz A1 c1 ns B1 d1 es by rw [hwz]; exact (HGR.out).keep (grown_setRow _ _ _) HN5.out.1.1 HN5.out.1.2); replace HG2 := Aside0.mk (show GR wz A2 c2 n2 B2 d2 e2 by rw [hwz]; exact (HG2.out).keep (grown_setRow _ _ _) HN5.out.2.1 HN5.out.2.2); (try clear t3c0 t3c1); obtain ⟨t3c0, t3c1⟩ := cs2 (L3.out); (try clear t4c0 t4c1 t4c2 t4c3 t4c4 t4c5 t4c6 t4c7); obtain ⟨t4c0, t4c1, t4c2, t4c3, t4c4, t4c5, t4c6, t4c7⟩ := cs8 (L4.out); (try clear t5c0 t5c1); obtain ⟨t5c0, t5c1⟩ := cs2 (L5.out); clear hwz)) | (go_at_call 32; go_must ((refine (sGraphDo_as A1 c1 ns B1 d1 es op n2 e2 q _ HGR.out HLN.out HDO.out).mono ?_); rintro e u_ ⟨A3, c3, B3, d3, rfl, hg3_, hb⟩; have HG3 := Aside0.mk hg3_; clear hg3_; replace HB := Aside0.mk (below_step HB.out hb); replace L3 := Aside0.mk (blk_below L3.out hb); replace L4 := Aside0.mk (blk_below L4.out hb); replace L5 := Aside0.mk (blk_below L5.out hb); replace HGR := Aside0.mk (HGR.out.below hb); replace HG2 := Aside0.mk (HG2.out.below hb); (try clear t3c0 t3c1); obtain ⟨t3c0, t3c1⟩ := cs2 (L3.out); (try clear t4c0 t4c1 t4c2 t4c3 t4c4 t4c5 t4c6 t4c7); obtain ⟨t4c0, t4c1, t4c2, t4c3, t4c4, t4c5, t4c6, t4c7⟩ := cs8 (L4.out); (try clear t5c0 t5c1); obtain ⟨t5c0, t5c1⟩ := cs2 (L5.out); clear hb)) | ((with_reducible refine gate_dst (N := 7) rfl ?_); go_must ((refine w_new #[.slice none 0 0, .slice none 0 0] 26 rfl (by go_simp; (first | done | rfl)) ?_); intro g7 u_ hge_ hb0_ hb; have HN7 := Aside0.mk (And.intro (HGR.out.new hge_) (And.intro (HG2.out.new hge_) (HG3.out.new hge_))); have Hg7 := Aside0.mk (show w.heap.size + 0 ≤ g7 ∧ g3 < g7 ∧ g4 < g7 ∧ g5 < g7 from by have hl0_ := HB.out.size; have hl_g3 := blk_lt L3.out; have hl_g4 := blk_lt L4.out; have hl_g5 := blk_lt L5.out; exact ⟨by omega, by omega, by omega, by omega⟩); have L7 := Aside0.mk hb0_; replace HB := Aside0.mk (below_step HB.out hb); replace L3 := Aside0.mk (blk_below L3.out hb); replace L4 := Aside0.mk (blk_below L4.out hb); replace L5 := Aside0.mk (blk_below L5.out hb); replace HGR := Aside0.mk (HGR.out.below hb); replace HG2 := Aside0.mk (HG2.out.below hb); replace HG3 := Aside0.mk (HG3.out.below hb); clear hge_ hb0_ hb; (try clear t3c0 t3c1); obtain ⟨t3c0, t3c1⟩ := cs2 (L3.out); (try clear t4c0 t4c1 t4c2 t4c3 t4c4 t4c5 t4c6 t4c7); obtain ⟨t4c0, t4c1, t4c2, t4c3, t4c4, t4c5, t4c6, t4c7⟩ := cs8 (L4.out); (try clear t5c0 t5c1); obtain ⟨t5c0, t5c1⟩ := cs2 (L5.out); (try clear t7c0 t7c1); obtain ⟨t7c0, t7c1⟩ := cs2 (L7.out))) | ((with_reducible refine gate_store (p := 7) rfl ?_); go_must ((refine wpList_plain rfl fun K_ hK_ => wp_store_row _ _ _ rfl (g7) #[.slice A3 n2.length c3, .slice B3 e2.length d3] rfl rfl _ _ L7.out (by kernel_rfl) rfl (by simp [Value.oneCell']) (hK_ _ _ ?_)); refine named _ ?_; intro wz hwz; replace HB := Aside0.mk (sb_ hwz HB.out (by have := Hg3.out; have := Hg4.out; have := Hg5.out; have := Hg7.out; omega)); replace L3 := Aside0.mk (so_ hwz L3.out (by have := Hg3.out; have := Hg4.out; have := Hg5.out; have := Hg7.out; omega)); replace L4 := Aside0.mk (so_ hwz L4.out (by have := Hg3.out; have := Hg4.out; have := Hg5.out; have := Hg7.out; omega)); replace L5 := Aside0.mk (so_ hwz L5.out (by have := Hg3.out; have := Hg4.out; have := Hg5.out; have := Hg7.out; omega)); replace L7 := Aside0.mk (sh_ hwz L7.out); replace HGR := Aside0.mk (show GR wz A1 c1 ns B1 d1 es by rw [hwz]; exact (HGR.out).keep (grown_setRow _ _ _) HN7.out.1.1 HN7.out.1.2); replace HG2 := Aside0.mk (show GR wz A2 c2 n2 B2 d2 e2 by rw [hwz]; exact (HG2.out).keep (grown_setRow _ _ _) HN7.out.2.1.1 HN7.out.2.1.2); replace HG3 := Aside0.mk (show GR wz A3 c3 n2 B3 d3 e2 by rw [hwz]; exact (HG3.out).keep (grown_setRow _ _ _) HN7.out.2.2.1 HN7.out.2.2.2); (try clear t3c0 t3c1); obtain ⟨t3c0, t3c1⟩ := cs2 (L3.out); (try clear t4c0 t4c1 t4c2 t4c3 t4c4 t4c5 t4c6 t4c7); obtain ⟨t4c0, t4c1, t4c2, t4c3, t4c4, t4c5, t4c6, t4c7⟩ := cs8 (L4.out); (try clear t5c0 t5c1); obtain ⟨t5c0, t5c1⟩ := cs2 (L5.out); (try clear t7c0 t7c1); obtain ⟨t7c0, t7c1⟩ := cs2 (L7.out); clear hwz)))
  clear HG3 L7
  by_cases hq0 : q = 0
  · subst hq0
    by_cases hk : op.kind = 4
    · have hkb : (op.kind == 4) = true := beq_iff_eq.2 hk
      have hkc : (op.kind != 4) = false := by rw [hk]; rfl
      have hf := fine_gone HDO.out.2.2 hk
      have HOG := Aside0.mk (doC_zero HDO.out.2.2).1
      rw [HDO.out.1, HDO.out.2.1] at hf
      have HE2_ := Aside0.mk hf.2.2.2.2
      have HN2_ := Aside0.mk (show n2.length + 1 = ns.length by rw [hf.2.2.2.1]; exact gone_len (asc_nodup HOG.out.nasc) hf.2.2.1)
      have HNN := Aside0.mk (show ∀ e ∈ e2, e.a ≠ op.nd ∧ e.b ≠ op.nd by
        intro e he
        rw [HE2_.out] at he
        exact of_decide_eq_true (List.mem_filter.1 he).2)
      clear hf hk
      go_wp2_with (fail)
      go_loopw [9, 10] (fun s9 s10 wr => GonI w g3 g4 g5 A1 c1 ns B1 d1 es op A2 c2 n2 B2 d2 e2 s9 s10 wr) (fun _ s10 _ => (es.length - intOf s10).toNat)
      case atStart => exact ⟨0, 0, Nat.zero_le _, rfl, by decide, rfl, rfl, L3.out, L4.out, L5.out, HGR.out, HG2.out, HB.out⟩
      case round =>
        clear L3 L4 L5 HGR HG2 HB
        obtain ⟨j, cn, hj, hcn_, hcl_, rfl, rfl, l3_, l4_, l5_, gr_, g2_, hb_⟩ := hrel
        have HJ := Aside0.mk hj
        have HCN := Aside0.mk hcn_
        have hcn : (cn : Int) ≤ 100 := by omega
        have hcp : (0 : Int) ≤ (cn : Int) := by omega
        have L3 := Aside0.mk l3_
        have L4 := Aside0.mk l4_
        have L5 := Aside0.mk l5_
        have HGR := Aside0.mk gr_
        have HG2 := Aside0.mk g2_
        have HB := Aside0.mk hb_
        obtain ⟨t3c0, t3c1⟩ := cs2 (L3.out)
        obtain ⟨t4c0, t4c1, t4c2, t4c3, t4c4, t4c5, t4c6, t4c7⟩ := cs8 (L4.out)
        obtain ⟨t5c0, t5c1⟩ := cs2 (L5.out)
        clear hj hcn_ hcl_ l3_ l4_ l5_ gr_ g2_ hb_
        by_cases hlt : j < es.length
        · have hjl : (j : Int) < (es.length : Int) := by omega
          have hjm : (j : Int) ≤ 100 := by have := HLN.out.2; omega
          have HLT := Aside0.mk hlt
          have HT := Aside0.mk (take_snE hlt)
          obtain ⟨ad, e1, r0, r1, r2, r3, r4⟩ := eg_at HGR.out.ce j hlt
          cases e1
          generalize eat es j = y at r0 r1 r2 r3 r4 HT
          have HE := Aside0.mk (show endsAt op.nd (es.take (j + 1)) = cn + (if ((y.a.lab == op.nd.lab && (y.a.num == op.nd.num)) || (y.b.lab == op.nd.lab && (y.b.num == op.nd.num))) = true then 1 else 0) by rw [HT.out, endsAt_snoc, HCN.out, nd_eq, nd_eq])
          have HEL := Aside0.mk (show endsAt op.nd (es.take (j + 1)) ≤ 100 from Nat.le_trans List.countP_le_length (by rw [List.length_take]; have := HLN.out.2; omega))
          obtain ⟨v1, hv1⟩ : ∃ v, (y.a.lab == op.nd.lab && (y.a.num == op.nd.num)) = v := ⟨_, rfl⟩
          obtain ⟨v2, hv2⟩ : ∃ v, (y.b.lab == op.nd.lab && (y.b.num == op.nd.num)) = v := ⟨_, rfl⟩
          have HE2 := Aside0.mk HE.out
          rw [hv1, hv2] at HE2
          cases v1
          case' false => cases v2
          all_goals
            go_wp2_with (fail)
            have ZL3 := L3
            have ZL4 := L4
            have ZL5 := L5
            refine region_bp [] sGo12 (by kernel_rfl) sGo12_ok (by decide) (fun d _ _ _ _ h => by cases d <;> exact h) ?_
            intro u hb
            have hS := hb
            replace HB := Aside0.mk (below_step HB.out hb)
            replace L3 := Aside0.mk (blk_below L3.out hb)
            replace L4 := Aside0.mk (blk_below L4.out hb)
            replace L5 := Aside0.mk (blk_below L5.out hb)
            replace HGR := Aside0.mk (HGR.out.below hb)
            replace HG2 := Aside0.mk (HG2.out.below hb)
            (try clear t3c0 t3c1)
            obtain ⟨t3c0, t3c1⟩ := cs2 (L3.out)
            (try clear t4c0 t4c1 t4c2 t4c3 t4c4 t4c5 t4c6 t4c7)
            obtain ⟨t4c0, t4c1, t4c2, t4c3, t4c4, t4c5, t4c6, t4c7⟩ := cs8 (L4.out)
            (try clear t5c0 t5c1)
            obtain ⟨t5c0, t5c1⟩ := cs2 (L5.out)
            clear hb
            repeat (first | (refine p_off hS gt_ (by rfl) ?_; intro a_ ha_; (simp only [Act.put, List.setIfInBounds_toArray, List.set_cons_zero, List.set_cons_succ] at ha_); subst ha_) | (refine p_on (v := ?_) hS gt_ (by rfl) ?_ ?_; rotate_left; (· rintro w_ hS_; obtain ⟨t3c0_, t3c1_⟩ := cs2 (blk_below ZL3.out hS_); obtain ⟨t4c0_, t4c1_, t4c2_, t4c3_, t4c4_, t4c5_, t4c6_, t4c7_⟩ := cs8 (blk_below ZL4.out hS_); obtain ⟨t5c0_, t5c1_⟩ := cs2 (blk_below ZL5.out hS_); have r0_ := pw_cell_below hS_ r0; have r1_ := pw_cell_below hS_ r1; have r2_ := pw_cell_below hS_ r2; have r3_ := pw_cell_below hS_ r3; have r4_ := pw_cell_below hS_ r4; go_simp; with_reducible rfl); intro a_ ha_; (simp only [Act.put, List.setIfInBounds_toArray, List.set_cons_zero, List.set_cons_succ] at ha_); subst ha_) | (refine p_poff gt_ (by rfl) ?_; intro a_ ha_; (simp only [Act.put, List.setIfInBounds_toArray, List.set_cons_zero, List.set_cons_succ] at ha_); subst ha_) | (refine p_pon (v := ?_) gt_ (by rfl) ?_ ?_; rotate_left; (· go_simp; with_reducible rfl); intro a_ ha_; (simp only [Act.put, List.setIfInBounds_toArray, List.set_cons_zero, List.set_cons_succ] at ha_); subst ha_) | (refine p_ooff hS gt_ (by rfl) ?_; intro a_ ha_; (simp only [Act.put, List.setIfInBounds_toArray, List.set_cons_zero, List.set_cons_succ] at ha_); subst ha_) | (refine p_loff gt_ (by rfl) ?_; intro a_ ha_; (simp only [Act.put, List.setIfInBounds_toArray, List.set_cons_zero, List.set_cons_succ] at ha_); subst ha_))
            refine p_fin ?_
            clear hS ZL3 ZL4 ZL5
            go_wp2_with (fail)
            go_roundw
            case rel => exact ⟨j + 1, _, HLT.out, rfl, HEL.out, by rw [HE2.out]; first | rfl | go_num, by go_num, L3.out, L4.out, L5.out, HGR.out, HG2.out, HB.out⟩
            case measure => simp [intOf]; omega
        · have hjl : ¬ (j : Int) < (es.length : Int) := by omega
          obtain rfl : j = es.length := by have := HJ.out; omega
          rw [List.take_length] at HCN
          have hle : e2.length + cn = es.length := by rw [← HCN.out, HE2_.out]; exact cut_len op.nd
          have hln : n2.length + 1 = ns.length := HN2_.out
          have hw1 : IntKind.i64.wrap ((ns.length : Int) - 1) = (n2.length : Int) := by rw [IntKind.wrap_i64]; have := HLN.out.1; omega
          have hw2 : IntKind.i64.wrap ((es.length : Int) - (cn : Int)) = (e2.length : Int) := by rw [IntKind.wrap_i64]; have := HLN.out.2; omega
          have hq1 : ((n2.length : Int) == (ns.length : Int) - 1) = true := beq_iff_eq.2 (by omega)
          have hq2 : ((e2.length : Int) == (es.length : Int) - (cn : Int)) = true := beq_iff_eq.2 (by omega)
          clear hle hln
          go_wp2_with (first | (go_at_call 42; go_must ((refine (nearNone_calls A2 c2 n2 B2 d2 e2 op.nd _ HG2.out HNN.out).mono ?_); rintro e u_ ⟨rfl, hb⟩; replace HB := Aside0.mk (below_step HB.out hb); replace L3 := Aside0.mk (blk_below L3.out hb); replace L4 := Aside0.mk (blk_below L4.out hb); replace L5 := Aside0.mk (blk_below L5.out hb); replace HGR := Aside0.mk (HGR.out.below hb); replace HG2 := Aside0.mk (HG2.out.below hb); (try clear t3c0 t3c1); obtain ⟨t3c0, t3c1⟩ := cs2 (L3.out); (try clear t4c0 t4c1 t4c2 t4c3 t4c4 t4c5 t4c6 t4c7); obtain ⟨t4c0, t4c1, t4c2, t4c3, t4c4, t4c5, t4c6, t4c7⟩ := cs8 (L4.out); (try clear t5c0 t5c1); obtain ⟨t5c0, t5c1⟩ := cs2 (L5.out); clear hb)))
          go_ret
          exact ⟨by simp, HB.out⟩

    · have hkb : (op.kind == 4) = false := beq_eq_false_iff_ne.2 hk
      have hkc : (op.kind != 4) = true := bne_iff_ne.2 hk
      go_wp2_with (fail)
      go_ret
      exact ⟨by simp, HB.out⟩
  · have hqb : (q == 0) = false := beq_eq_false_iff_ne.2 hq0
    have hqc : (q != 0) = true := bne_iff_ne.2 hq0
    go_wp2_with (fail)
    go_ret
    exact ⟨by simp, HB.out⟩
end Go.Proofs.Ytogmbeifbjgphaa.R
