/- The law FnGraphNone, walked. -/
import Derived.Test.YtogmbeifbjgphaaKL2
namespace Go.Proofs.Ytogmbeifbjgphaa.R
open Go.RowKit Go.Proofs.YtogmbeifbjgphaaV.PrintWords Go.Proofs.YtogmbeifbjgphaaV.PrintLast Go.Proofs.YtogmbeifbjgphaaV.PrintMore Go.Proofs.Ytogmbeifbjgphaa.M
set_option linter.unusedVariables false
set_option linter.unusedSimpArgs false
attribute [local go_sem high] eqN eqE
abbrev sNo13 : Pl := (.tk 0 (.tk 1 (.tk 2 (.tk 3 (.tk 4 (.tk 5 (.tk 6 (.tk 7 (.tk 8 (.tk 9 (.tk 10 (.tk 11 .fin))))))))))))
theorem sNo13_ok : planB .any (opsOf Try.f4 13) [] sNo13 (Array.replicate (opsOf Try.f4 13).size false) = true := by kernel_rfl
abbrev sNo14 : Pl := (.tk 0 (.tk 1 (.tk 2 (.tk 3 (.tk 4 (.tk 5 (.tk 6 (.tk 7 (.tk 8 (.tk 9 (.tk 10 (.tk 11 (.tk 12 (.tk 13 (.tk 14 (.tk 15 (.tk 16 (.tk 17 (.tk 18 (.tk 19 .fin))))))))))))))))))))
theorem sNo14_ok : planB .any (opsOf Try.f4 14) [] sNo14 (Array.replicate (opsOf Try.f4 14).size false) = true := by kernel_rfl
abbrev sNo20 : Pl := (.tk 0 (.tk 1 (.tk 2 (.tk 3 (.tk 4 (.tk 5 (.tk 6 (.tk 7 (.tk 8 (.tk 9 (.tk 10 (.tk 11 .fin))))))))))))
theorem sNo20_ok : planB .any (opsOf Try.f4 20) [] sNo20 (Array.replicate (opsOf Try.f4 20).size false) = true := by kernel_rfl
theorem cpOr {α : Type} (p q : α → Bool) (l : List α) : l.countP (fun x => p x || q x) ≤ l.countP p + l.countP q := by
  induction l with
  | nil => simp
  | cons x l ih =>
    simp only [List.countP_cons]
    cases p x <;> cases q x <;> simp <;> omega
theorem cnt_one {ns : List Nd} (hn : ns.Nodup) (a : Nd) : ns.countP (fun y => decide (y = a)) ≤ (if a ∈ ns then 1 else 0) := by
  induction ns with
  | nil => simp
  | cons x l ih =>
    obtain ⟨hx, hl⟩ := List.nodup_cons.1 hn
    have h := ih hl
    rw [List.countP_cons]
    by_cases e : x = a
    · subst e
      rw [if_neg hx] at h
      rw [if_pos (List.mem_cons.2 (.inl rfl))]
      split <;> omega
    · rw [if_neg (by simpa using e)]
      by_cases ha : a ∈ l
      · rw [if_pos ha] at h
        rw [if_pos (List.mem_cons.2 (.inr ha))]
        exact h
      · rw [if_neg ha] at h
        rw [if_neg fun q => (List.mem_cons.1 q).elim (fun q => e q.symm) ha]
        exact h
theorem asc_nodup {α : Type} {key : α → Int} {l : List α} (h : Asc key l) : l.Nodup := by
  refine List.Pairwise.imp ?_ h
  intro a b hab e
  subst e
  omega
theorem ends_lt {ns : List Nd} (hn : ns.Nodup) {a b : Nd} (h : ¬ (a ∈ ns ∧ b ∈ ns)) : ns.countP (fun y => decide (y = a) || decide (y = b)) < 2 := by
  have h1 := cpOr (fun y => decide (y = a)) (fun y => decide (y = b)) ns
  have h2 := cnt_one hn a
  have h3 := cnt_one hn b
  by_cases ha : a ∈ ns
  · rw [if_neg fun hb => h ⟨ha, hb⟩] at h3
    rw [if_pos ha] at h2
    omega
  · rw [if_neg ha] at h2
    split at h3 <;> omega
/-- What a refusal tells. -/
theorem none_of {ns : List Nd} {es : List Eg} {op : M.Op} (hg : okG ns es = true) (h : doC ns es op = 2 ∨ doC ns es op = 3) :
    (op.kind = 1 ∧ doC ns es op = 2 ∧ op.nd ∈ ns) ∨ (op.kind = 2 ∧ doC ns es op = 2 ∧ op.eg ∈ es) ∨
    (op.kind = 2 ∧ doC ns es op = 3 ∧ op.eg ∉ es ∧ ns.countP (fun y => decide (y = op.eg.a) || decide (y = op.eg.b)) < 2) ∨
    (op.kind = 3 ∧ doC ns es op = 3 ∧ op.eg ∉ es) ∨ (op.kind = 4 ∧ doC ns es op = 3 ∧ op.nd ∉ ns) := by
  have hG := okG_true.1 hg
  have hl : 0 ≤ opLabel op := by
    apply Int.not_lt.1
    intro hl
    have := (doC_form hG (op := op)).2 hl
    omega
  have hc := doC_of hG hl
  rw [hc] at h ⊢
  rcases opLabel_kind hl with k | k | k | k
  · rw [endOf1 k] at h ⊢
    split at h
    · rename_i hm
      exact .inl ⟨k, by rw [if_pos hm], hm⟩
    · split at h <;> omega
  · rw [endOf2 k] at h ⊢
    by_cases hm : op.eg ∈ es
    · exact .inr (.inl ⟨k, by rw [if_pos hm], hm⟩)
    · rw [if_neg hm] at h ⊢
      by_cases hab : op.eg.a ∈ ns ∧ op.eg.b ∈ ns
      · rw [if_pos hab] at h
        split at h <;> omega
      · exact .inr (.inr (.inl ⟨k, by rw [if_neg hab], hm, ends_lt (asc_nodup hG.nasc) hab⟩))
  · rw [endOf3 k] at h ⊢
    split at h
    · omega
    · rename_i hm
      exact .inr (.inr (.inr (.inl ⟨k, by rw [if_neg hm], hm⟩)))
  · rw [endOf4 k] at h ⊢
    split at h
    · omega
    · rename_i hm
      exact .inr (.inr (.inr (.inr ⟨k, by rw [if_neg hm], hm⟩)))
theorem mem_snoc {α : Type} [DecidableEq α] {l : List α} {x y : α} : decide (x ∈ l ++ [y]) = (decide (x ∈ l) || decide (y = x)) := by
  rw [Bool.eq_iff_iff]
  simp only [List.mem_append, List.mem_singleton, Bool.or_eq_true, decide_eq_true_eq]
  exact ⟨fun h => h.imp id Eq.symm, fun h => h.imp id Eq.symm⟩
theorem take_snN {l : List Nd} {j : Nat} (h : j < l.length) : l.take (j + 1) = l.take j ++ [at_ l j] := by
  rw [List.take_add_one, List.getElem?_eq_getElem h, at_lt h]
  rfl
theorem take_snE {l : List Eg} {j : Nat} (h : j < l.length) : l.take (j + 1) = l.take j ++ [eat l j] := by
  rw [List.take_add_one, List.getElem?_eq_getElem h, eat_lt h]
  rfl
def endsIn (a b : Nd) (l : List Nd) : Nat := l.countP (fun y => decide (y = a) || decide (y = b))
theorem endsIn_snoc (a b y : Nd) (l : List Nd) : endsIn a b (l ++ [y]) = endsIn a b l + (if (decide (y = a) || decide (y = b)) = true then 1 else 0) := by
  unfold endsIn
  rw [List.countP_append, List.countP_singleton]
theorem endsIn_le (a b : Nd) (l : List Nd) (h : l.length ≤ 100) : endsIn a b l ≤ 100 := Nat.le_trans List.countP_le_length h
def NonI (w : World) (g3 g4 : Nat) (A1 : Option Addr) (c1 : Nat) (ns : List Nd) (B1 : Option Addr) (d1 : Nat) (es : List Eg) (op : M.Op) (s9 s10 s11 : Value) (wr : World) : Prop :=
  ∃ (j : Nat) (b : Bool) (cn : Nat), j ≤ ns.length ∧ decide (op.nd ∈ ns.take j) = b ∧ endsIn op.eg.a op.eg.b (ns.take j) = cn ∧ cn ≤ 100 ∧ s9 = .bool b ∧ s10 = .int .i64 (cn : Int) ∧ s11 = .int .i64 (j : Int) ∧ wr.heap[g3]? = some (.cells #[.slice A1 ns.length c1, .slice B1 es.length d1] 26 (0, 0)) ∧ wr.heap[g4]? = some (.cells #[.int .i64 op.kind, .int .i64 op.nd.lab, .int .i64 op.nd.num, .int .i64 op.eg.lab, .int .i64 op.eg.a.lab, .int .i64 op.eg.a.num, .int .i64 op.eg.b.lab, .int .i64 op.eg.b.num] 32 (0, 0)) ∧ GR wr A1 c1 ns B1 d1 es ∧ Below w.heap.size w wr
def NonJ (w : World) (g3 g4 : Nat) (A1 : Option Addr) (c1 : Nat) (ns : List Nd) (B1 : Option Addr) (d1 : Nat) (es : List Eg) (op : M.Op) (s12 s13 : Value) (wr : World) : Prop :=
  ∃ (j : Nat) (b : Bool), j ≤ es.length ∧ decide (op.eg ∈ es.take j) = b ∧ s12 = .bool b ∧ s13 = .int .i64 (j : Int) ∧ wr.heap[g3]? = some (.cells #[.slice A1 ns.length c1, .slice B1 es.length d1] 26 (0, 0)) ∧ wr.heap[g4]? = some (.cells #[.int .i64 op.kind, .int .i64 op.nd.lab, .int .i64 op.nd.num, .int .i64 op.eg.lab, .int .i64 op.eg.a.lab, .int .i64 op.eg.a.num, .int .i64 op.eg.b.lab, .int .i64 op.eg.b.num] 32 (0, 0)) ∧ GR wr A1 c1 ns B1 d1 es ∧ Below w.heap.size w wr
set_option maxHeartbeats 12800000 in
set_option maxRecDepth 100000 in
theorem graphNone_walk (A : Option Addr) (c : Nat) (l : List Int) (w : World) (hl : (Kd.int .u8).C w A l.length l) (hc : l.length ≤ c) (hb : ∀ x ∈ l, 0 ≤ x ∧ x < 256) :
    Calls Try.prog 4 #[.slice A l.length c] w fun e w' => e = .returned (.bool true) ∧ Below w.heap.size w w' := by
  have HL := Aside0.mk hl
  have HC := Aside0.mk hc
  have HY := Aside0.mk hb
  have HB := Aside0.mk (Below.refl w.heap.size w)
  clear hl hc hb
  by_cases hlen : 1048576 < l.length
  · have hl1 : (1048576 : Int) < (l.length : Int) := by omega
    go_enter Try.func4, Try.ntmps4
    go_wp2_with (fail)
    go_ret
    exact ⟨rfl, HB.out⟩
  have hl1 : ¬ (1048576 : Int) < (l.length : Int) := by omega
  clear hlen
  go_enter Try.func4, Try.ntmps4
  go_upto_region 6 with (first | (go_at_call 30; go_must ((refine (drawGO_calls A c l _ (Kd.C_below HL.out HB.out) HC.out HY.out).mono ?_); rintro e u_ ⟨⟨A1, c1, ns, B1, d1, es, op, rfl, hgr_, hn_, he_⟩, hb⟩; have HGR := Aside0.mk hgr_; have HLN := Aside0.mk (And.intro hn_ he_); clear hgr_ hn_ he_; obtain ⟨n2, hn2_⟩ : ∃ y, doN ns es op = y := ⟨_, rfl⟩; obtain ⟨e2, he2_⟩ : ∃ y, doE ns es op = y := ⟨_, rfl⟩; obtain ⟨q, hq_⟩ : ∃ y, doC ns es op = y := ⟨_, rfl⟩; have HDO := Aside0.mk (And.intro hn2_ (And.intro he2_ hq_)); clear hn2_ he2_ hq_; obtain ⟨v, hv_⟩ : ∃ v, okG ns es = v := ⟨_, rfl⟩; have HOK := Aside0.mk hv_; clear hv_; replace HB := Aside0.mk (below_step HB.out hb); clear hb)) | ((with_reducible refine gate_dst (N := 3) rfl ?_); go_must ((refine w_new #[.slice none 0 0, .slice none 0 0] 26 rfl (by go_simp; (first | done | rfl)) ?_); intro g3 u_ hge_ hb0_ hb; have HN3 := Aside0.mk (HGR.out.new hge_); have Hg3 := Aside0.mk (show w.heap.size + 0 ≤ g3 from by have hl0_ := HB.out.size; exact by omega); have L3 := Aside0.mk hb0_; replace HB := Aside0.mk (below_step HB.out hb); replace HGR := Aside0.mk (HGR.out.below hb); clear hge_ hb0_ hb; (try clear t3c0 t3c1); obtain ⟨t3c0, t3c1⟩ := cs2 (L3.out))) | ((with_reducible refine gate_dst (N := 4) rfl ?_); go_must ((refine w_new #[.int .i64 0, .int .i64 0, .int .i64 0, .int .i64 0, .int .i64 0, .int .i64 0, .int .i64 0, .int .i64 0] 32 rfl (by go_simp; (first | done | rfl)) ?_); intro g4 u_ hge_ hb0_ hb; have HN4 := Aside0.mk (HGR.out.new hge_); have Hg4 := Aside0.mk (show w.heap.size + 0 ≤ g4 ∧ g3 < g4 from by have hl0_ := HB.out.size; have hl_g3 := blk_lt L3.out; exact ⟨by omega, by omega⟩); have L4 := Aside0.mk hb0_; replace HB := Aside0.mk (below_step HB.out hb); replace L3 := Aside0.mk (blk_below L3.out hb); replace HGR := Aside0.mk (HGR.out.below hb); clear hge_ hb0_ hb; (try clear t3c0 t3c1); obtain ⟨t3c0, t3c1⟩ := cs2 (L3.out); (try clear t4c0 t4c1 t4c2 t4c3 t4c4 t4c5 t4c6 t4c7); obtain ⟨t4c0, t4c1, t4c2, t4c3, t4c4, t4c5, t4c6, t4c7⟩ := cs8 (L4.out))) | ((with_reducible refine gate_store (p := 3) rfl ?_); go_must ((refine wpList_plain rfl fun K_ hK_ => wp_store_row _ _ _ rfl (g3) #[.slice A1 ns.length c1, .slice B1 es.length d1] rfl rfl _ _ L3.out (by kernel_rfl) rfl (by simp [Value.oneCell']) (hK_ _ _ ?_)); refine named _ ?_; intro wz hwz; replace HB := Aside0.mk (sb_ hwz HB.out (by have := Hg3.out; have := Hg4.out; omega)); replace L4 := Aside0.mk (so_ hwz L4.out (by have := Hg3.out; have := Hg4.out; omega)); replace L3 := Aside0.mk (sh_ hwz L3.out); replace HGR := Aside0.mk (show GR wz A1 c1 ns B1 d1 es by rw [hwz]; exact (HGR.out).keep (grown_setRow _ _ _) HN3.out.1 HN3.out.2); (try clear t3c0 t3c1); obtain ⟨t3c0, t3c1⟩ := cs2 (L3.out); (try clear t4c0 t4c1 t4c2 t4c3 t4c4 t4c5 t4c6 t4c7); obtain ⟨t4c0, t4c1, t4c2, t4c3, t4c4, t4c5, t4c6, t4c7⟩ := cs8 (L4.out); clear hwz)) | ((with_reducible refine gate_store (p := 4) rfl ?_); go_must ((refine wpList_plain rfl fun K_ hK_ => wp_store_row _ _ _ rfl (g4) #[.int .i64 op.kind, .int .i64 op.nd.lab, .int .i64 op.nd.num, .int .i64 op.eg.lab, .int .i64 op.eg.a.lab, .int .i64 op.eg.a.num, .int .i64 op.eg.b.lab, .int .i64 op.eg.b.num] rfl rfl _ _ L4.out (by kernel_rfl) rfl (by simp [Value.oneCell']) (hK_ _ _ ?_)); refine named _ ?_; intro wz hwz; replace HB := Aside0.mk (sb_ hwz HB.out (by have := Hg3.out; have := Hg4.out; omega)); replace L3 := Aside0.mk (so_ hwz L3.out (by have := Hg3.out; have := Hg4.out; omega)); replace L4 := Aside0.mk (sh_ hwz L4.out); replace HGR := Aside0.mk (show GR wz A1 c1 ns B1 d1 es by rw [hwz]; exact (HGR.out).keep (grown_setRow _ _ _) HN4.out.1 HN4.out.2); (try clear t3c0 t3c1); obtain ⟨t3c0, t3c1⟩ := cs2 (L3.out); (try clear t4c0 t4c1 t4c2 t4c3 t4c4 t4c5 t4c6 t4c7); obtain ⟨t4c0, t4c1, t4c2, t4c3, t4c4, t4c5, t4c6, t4c7⟩ := cs8 (L4.out); clear hwz)) | (go_at_call 31; go_must ((refine (graphDo_as A1 c1 ns B1 d1 es op n2 e2 q _ HGR.out HDO.out).mono ?_); rintro e u_ ⟨A2, c2, B2, d2, rfl, hg2_, hb⟩; have HG2 := Aside0.mk hg2_; clear hg2_; replace HB := Aside0.mk (below_step HB.out hb); replace L3 := Aside0.mk (blk_below L3.out hb); replace L4 := Aside0.mk (blk_below L4.out hb); replace HGR := Aside0.mk (HGR.out.below hb); (try clear t3c0 t3c1); obtain ⟨t3c0, t3c1⟩ := cs2 (L3.out); (try clear t4c0 t4c1 t4c2 t4c3 t4c4 t4c5 t4c6 t4c7); obtain ⟨t4c0, t4c1, t4c2, t4c3, t4c4, t4c5, t4c6, t4c7⟩ := cs8 (L4.out); clear hb)) | ((with_reducible refine gate_dst (N := 5) rfl ?_); go_must ((refine w_new #[.slice none 0 0, .slice none 0 0] 26 rfl (by go_simp; (first | done | rfl)) ?_); intro g5 u_ hge_ hb0_ hb; have HN5 := Aside0.mk (And.intro (HGR.out.new hge_) (HG2.out.new hge_)); have Hg5 := Aside0.mk (show w.heap.size + 0 ≤ g5 ∧ g3 < g5 ∧ g4 < g5 from by have hl0_ := HB.out.size; have hl_g3 := blk_lt L3.out; have hl_g4 := blk_lt L4.out; exact ⟨by omega, by omega, by omega⟩); have L5 := Aside0.mk hb0_; replace HB := Aside0.mk (below_step HB.out hb); replace L3 := Aside0.mk (blk_below L3.out hb); replace L4 := Aside0.mk (blk_below L4.out hb); replace HGR := Aside0.mk (HGR.out.below hb); replace HG2 := Aside0.mk (HG2.out.below hb); clear hge_ hb0_ hb; (try clear t3c0 t3c1); obtain ⟨t3c0, t3c1⟩ := cs2 (L3.out); (try clear t4c0 t4c1 t4c2 t4c3 t4c4 t4c5 t4c6 t4c7); obtain ⟨t4c0, t4c1, t4c2, t4c3, t4c4, t4c5, t4c6, t4c7⟩ := cs8 (L4.out); (try clear t5c0 t5c1); obtain ⟨t5c0, t5c1⟩ := cs2 (L5.out))) | ((with_reducible refine gate_store (p := 5) rfl ?_); go_must ((refine wpList_plain rfl fun K_ hK_ => wp_store_row _ _ _ rfl (g5) #[.slice A2 n2.length c2, .slice B2 e2.length d2] rfl rfl _ _ L5.out (by kernel_rfl) rfl (by simp [Value.oneCell']) (hK_ _ _ ?_)); refine named _ ?_; intro wz hwz; replace HB := Aside0.mk (sb_ hwz HB.out (by have := Hg3.out; have := Hg4.out; have := Hg5.out; omega)); replace L3 := Aside0.mk (so_ hwz L3.out (by have := Hg3.out; have := Hg4.out; have := Hg5.out; omega)); replace L4 := Aside0.mk (so_ hwz L4.out (by have := Hg3.out; have := Hg4.out; have := Hg5.out; omega)); replace L5 := Aside0.mk (sh_ hwz L5.out); replace HGR := Aside0.mk (show GR wz A1 c1 ns B1 d1 es by rw [hwz]; exact (HGR.out).keep (grown_setRow _ _ _) HN5.out.1.1 HN5.out.1.2); replace HG2 := Aside0.mk (show GR wz A2 c2 n2 B2 d2 e2 by rw [hwz]; exact (HG2.out).keep (grown_setRow _ _ _) HN5.out.2.1 HN5.out.2.2); (try clear t3c0 t3c1); obtain ⟨t3c0, t3c1⟩ := cs2 (L3.out); (try clear t4c0 t4c1 t4c2 t4c3 t4c4 t4c5 t4c6 t4c7); obtain ⟨t4c0, t4c1, t4c2, t4c3, t4c4, t4c5, t4c6, t4c7⟩ := cs8 (L4.out); (try clear t5c0 t5c1); obtain ⟨t5c0, t5c1⟩ := cs2 (L5.out); clear hwz)) | (go_at_call 32; go_must ((refine (sGraphDo_as A1 c1 ns B1 d1 es op n2 e2 q _ HGR.out HLN.out HDO.out).mono ?_); rintro e u_ ⟨A3, c3, B3, d3, rfl, hg3_, hb⟩; have HG3 := Aside0.mk hg3_; clear hg3_; replace HB := Aside0.mk (below_step HB.out hb); replace L3 := Aside0.mk (blk_below L3.out hb); replace L4 := Aside0.mk (blk_below L4.out hb); replace L5 := Aside0.mk (blk_below L5.out hb); replace HGR := Aside0.mk (HGR.out.below hb); replace HG2 := Aside0.mk (HG2.out.below hb); (try clear t3c0 t3c1); obtain ⟨t3c0, t3c1⟩ := cs2 (L3.out); (try clear t4c0 t4c1 t4c2 t4c3 t4c4 t4c5 t4c6 t4c7); obtain ⟨t4c0, t4c1, t4c2, t4c3, t4c4, t4c5, t4c6, t4c7⟩ := cs8 (L4.out); (try clear t5c0 t5c1); obtain ⟨t5c0, t5c1⟩ := cs2 (L5.out); clear hb)) | ((with_reducible refine gate_dst (N := 7) rfl ?_); go_must ((refine w_new #[.slice none 0 0, .slice none 0 0] 26 rfl (by go_simp; (first | done | rfl)) ?_); intro g7 u_ hge_ hb0_ hb; have HN7 := Aside0.mk (And.intro (HGR.out.new hge_) (And.intro (HG2.out.new hge_) (HG3.out.new hge_))); have Hg7 := Aside0.mk (show w.heap.size + 0 ≤ g7 ∧ g3 < g7 ∧ g4 < g7 ∧ g5 < g7 from by have hl0_ := HB.out.size; have hl_g3 := blk_lt L3.out; have hl_g4 := blk_lt L4.out; have hl_g5 := blk_lt L5.out; exact ⟨by omega, by omega, by omega, by omega⟩); have L7 := Aside0.mk hb0_; replace HB := Aside0.mk (below_step HB.out hb); replace L3 := Aside0.mk (blk_below L3.out hb); replace L4 := Aside0.mk (blk_below L4.out hb); replace L5 := Aside0.mk (blk_below L5.out hb); replace HGR := Aside0.mk (HGR.out.below hb); replace HG2 := Aside0.mk (HG2.out.below hb); replace HG3 := Aside0.mk (HG3.out.below hb); clear hge_ hb0_ hb; (try clear t3c0 t3c1); obtain ⟨t3c0, t3c1⟩ := cs2 (L3.out); (try clear t4c0 t4c1 t4c2 t4c3 t4c4 t4c5 t4c6 t4c7); obtain ⟨t4c0, t4c1, t4c2, t4c3, t4c4, t4c5, t4c6, t4c7⟩ := cs8 (L4.out); (try clear t5c0 t5c1); obtain ⟨t5c0, t5c1⟩ := cs2 (L5.out); (try clear t7c0 t7c1); obtain ⟨t7c0, t7c1⟩ := cs2 (L7.out))) | ((with_reducible refine gate_store (p := 7) rfl ?_); go_must ((refine wpList_plain rfl fun K_ hK_ => wp_store_row _ _ _ rfl (g7) #[.slice A3 n2.length c3, .slice B3 e2.length d3] rfl rfl _ _ L7.out (by kernel_rfl) rfl (by simp [Value.oneCell']) (hK_ _ _ ?_)); refine named _ ?_; intro wz hwz; replace HB := Aside0.mk (sb_ hwz HB.out (by have := Hg3.out; have := Hg4.out; have := Hg5.out; have := Hg7.out; omega)); replace L3 := Aside0.mk (so_ hwz L3.out (by have := Hg3.out; have := Hg4.out; have := Hg5.out; have := Hg7.out; omega)); replace L4 := Aside0.mk (so_ hwz L4.out (by have := Hg3.out; have := Hg4.out; have := Hg5.out; have := Hg7.out; omega)); replace L5 := Aside0.mk (so_ hwz L5.out (by have := Hg3.out; have := Hg4.out; have := Hg5.out; have := Hg7.out; omega)); replace L7 := Aside0.mk (sh_ hwz L7.out); replace HGR := Aside0.mk (show GR wz A1 c1 ns B1 d1 es by rw [hwz]; exact (HGR.out).keep (grown_setRow _ _ _) HN7.out.1.1 HN7.out.1.2); replace HG2 := Aside0.mk (show GR wz A2 c2 n2 B2 d2 e2 by rw [hwz]; exact (HG2.out).keep (grown_setRow _ _ _) HN7.out.2.1.1 HN7.out.2.1.2); replace HG3 := Aside0.mk (show GR wz A3 c3 n2 B3 d3 e2 by rw [hwz]; exact (HG3.out).keep (grown_setRow _ _ _) HN7.out.2.2.1 HN7.out.2.2.2); (try clear t3c0 t3c1); obtain ⟨t3c0, t3c1⟩ := cs2 (L3.out); (try clear t4c0 t4c1 t4c2 t4c3 t4c4 t4c5 t4c6 t4c7); obtain ⟨t4c0, t4c1, t4c2, t4c3, t4c4, t4c5, t4c6, t4c7⟩ := cs8 (L4.out); (try clear t5c0 t5c1); obtain ⟨t5c0, t5c1⟩ := cs2 (L5.out); (try clear t7c0 t7c1); obtain ⟨t7c0, t7c1⟩ := cs2 (L7.out); clear hwz)))
  clear HG2 HG3 L5 L7
  cases v
  · go_wp2_with (first | (go_at_call 33; go_must ((refine (sGraphOk_as A1 c1 ns B1 d1 es _ _ HGR.out HLN.out HOK.out).mono ?_); rintro e u_ ⟨rfl, hb⟩; replace HB := Aside0.mk (below_step HB.out hb); replace L3 := Aside0.mk (blk_below L3.out hb); replace L4 := Aside0.mk (blk_below L4.out hb); replace HGR := Aside0.mk (HGR.out.below hb); (try clear t3c0 t3c1); obtain ⟨t3c0, t3c1⟩ := cs2 (L3.out); (try clear t4c0 t4c1 t4c2 t4c3 t4c4 t4c5 t4c6 t4c7); obtain ⟨t4c0, t4c1, t4c2, t4c3, t4c4, t4c5, t4c6, t4c7⟩ := cs8 (L4.out); clear hb)))
    go_ret
    exact ⟨by simp, HB.out⟩
  · have HOG := Aside0.mk HOK.out
    by_cases hq : q = 2 ∨ q = 3
    · rcases hq with rfl | rfl
      all_goals
        go_wp2_with (first | (go_at_call 33; go_must ((refine (sGraphOk_as A1 c1 ns B1 d1 es _ _ HGR.out HLN.out HOK.out).mono ?_); rintro e u_ ⟨rfl, hb⟩; replace HB := Aside0.mk (below_step HB.out hb); replace L3 := Aside0.mk (blk_below L3.out hb); replace L4 := Aside0.mk (blk_below L4.out hb); replace HGR := Aside0.mk (HGR.out.below hb); (try clear t3c0 t3c1); obtain ⟨t3c0, t3c1⟩ := cs2 (L3.out); (try clear t4c0 t4c1 t4c2 t4c3 t4c4 t4c5 t4c6 t4c7); obtain ⟨t4c0, t4c1, t4c2, t4c3, t4c4, t4c5, t4c6, t4c7⟩ := cs8 (L4.out); clear hb)))
        go_loopw [9, 10, 11] (fun s9 s10 s11 wr => NonI w g3 g4 A1 c1 ns B1 d1 es op s9 s10 s11 wr) (fun _ _ s11 _ => (ns.length - intOf s11).toNat)
        case atStart => exact ⟨0, false, 0, Nat.zero_le _, by simp, rfl, by decide, rfl, rfl, rfl, L3.out, L4.out, HGR.out, HB.out⟩
        case round =>
          clear L3 L4 HGR HB
          obtain ⟨j, b, cn, hj, hb0_, hcn_, hcl_, rfl, rfl, rfl, l3_, l4_, gr_, hb_⟩ := hrel
          have L3 := Aside0.mk l3_
          have L4 := Aside0.mk l4_
          have HGR := Aside0.mk gr_
          have HB := Aside0.mk hb_
          have HJ := Aside0.mk hj
          obtain ⟨t3c0, t3c1⟩ := cs2 (L3.out)
          obtain ⟨t4c0, t4c1, t4c2, t4c3, t4c4, t4c5, t4c6, t4c7⟩ := cs8 (L4.out)
          clear l3_ l4_ gr_ hb_ hj
          have HB0 := Aside0.mk hb0_
          have HCN := Aside0.mk hcn_
          have hcn : (cn : Int) ≤ 100 := by omega
          clear hb0_ hcn_ hcl_
          by_cases hlt : j < ns.length
          · have hjl : (j : Int) < (ns.length : Int) := by omega
            have hjm : (j : Int) ≤ 100 := by have := HLN.out.1; omega
            have HLT := Aside0.mk hlt
            have HT := Aside0.mk (take_snN hlt)
            obtain ⟨ad, e1, r0, r1⟩ := nd_at HGR.out.cn j hlt
            cases e1
            generalize at_ ns j = y at r0 r1 HT
            have HN := Aside0.mk (show decide (op.nd ∈ ns.take (j + 1)) = (b || (y.lab == op.nd.lab && (y.num == op.nd.num))) by rw [HT.out, mem_snoc, HB0.out, nd_eq])
            have HE := Aside0.mk (show endsIn op.eg.a op.eg.b (ns.take (j + 1)) = cn + (if ((y.lab == op.eg.a.lab && (y.num == op.eg.a.num)) || (y.lab == op.eg.b.lab && (y.num == op.eg.b.num))) = true then 1 else 0) by rw [HT.out, endsIn_snoc, HCN.out, nd_eq, nd_eq])
            have HEL := Aside0.mk (endsIn_le op.eg.a op.eg.b (ns.take (j + 1)) (by rw [List.length_take]; have := HLN.out.1; omega))
            cases b
            all_goals
              go_wp2_with (fail)
              have ZL3 := L3
              have ZL4 := L4
              refine region_bp [] sNo13 (by kernel_rfl) sNo13_ok (by decide) (fun d _ _ _ _ h => by cases d <;> exact h) ?_
              intro u hb
              have hS := hb
              replace HB := Aside0.mk (below_step HB.out hb)
              replace L3 := Aside0.mk (blk_below L3.out hb)
              replace L4 := Aside0.mk (blk_below L4.out hb)
              replace HGR := Aside0.mk (HGR.out.below hb)
              (try clear t3c0 t3c1)
              obtain ⟨t3c0, t3c1⟩ := cs2 (L3.out)
              (try clear t4c0 t4c1 t4c2 t4c3 t4c4 t4c5 t4c6 t4c7)
              obtain ⟨t4c0, t4c1, t4c2, t4c3, t4c4, t4c5, t4c6, t4c7⟩ := cs8 (L4.out)
              have R0n := Aside0.mk (pw_cell_below hb r0)
              have R1n := Aside0.mk (pw_cell_below hb r1)
              clear hb
              repeat (first | (refine p_off hS gt_ (by rfl) ?_; intro a_ ha_; (simp only [Act.put, List.setIfInBounds_toArray, List.set_cons_zero, List.set_cons_succ] at ha_); subst ha_) | (refine p_on (v := ?_) hS gt_ (by rfl) ?_ ?_; rotate_left; (· rintro w_ hS_; obtain ⟨t3c0_, t3c1_⟩ := cs2 (blk_below ZL3.out hS_); obtain ⟨t4c0_, t4c1_, t4c2_, t4c3_, t4c4_, t4c5_, t4c6_, t4c7_⟩ := cs8 (blk_below ZL4.out hS_); have r0_ := pw_cell_below hS_ r0; have r1_ := pw_cell_below hS_ r1; go_simp; with_reducible rfl); intro a_ ha_; (simp only [Act.put, List.setIfInBounds_toArray, List.set_cons_zero, List.set_cons_succ] at ha_); subst ha_) | (refine p_poff gt_ (by rfl) ?_; intro a_ ha_; (simp only [Act.put, List.setIfInBounds_toArray, List.set_cons_zero, List.set_cons_succ] at ha_); subst ha_) | (refine p_pon (v := ?_) gt_ (by rfl) ?_ ?_; rotate_left; (· go_simp; with_reducible rfl); intro a_ ha_; (simp only [Act.put, List.setIfInBounds_toArray, List.set_cons_zero, List.set_cons_succ] at ha_); subst ha_) | (refine p_ooff hS gt_ (by rfl) ?_; intro a_ ha_; (simp only [Act.put, List.setIfInBounds_toArray, List.set_cons_zero, List.set_cons_succ] at ha_); subst ha_) | (refine p_loff gt_ (by rfl) ?_; intro a_ ha_; (simp only [Act.put, List.setIfInBounds_toArray, List.set_cons_zero, List.set_cons_succ] at ha_); subst ha_))
              refine p_fin ?_
              clear hS ZL3 ZL4
              replace r0 := R0n.out
              replace r1 := R1n.out
              go_wp2_with (fail)
              obtain ⟨v1, hv1⟩ : ∃ v, (y.lab == op.eg.a.lab && (y.num == op.eg.a.num)) = v := ⟨_, rfl⟩
              obtain ⟨v2, hv2⟩ : ∃ v, (y.lab == op.eg.b.lab && (y.num == op.eg.b.num)) = v := ⟨_, rfl⟩
              have HE2 := Aside0.mk HE.out
              rw [hv1, hv2] at HE2
              cases v1
              case' false => cases v2
              all_goals
                have ZL3 := L3
                have ZL4 := L4
                refine region_bp [] sNo14 (by kernel_rfl) sNo14_ok (by decide) (fun d _ _ _ _ h => by cases d <;> exact h) ?_
                intro u hb
                have hS := hb
                replace HB := Aside0.mk (below_step HB.out hb)
                replace L3 := Aside0.mk (blk_below L3.out hb)
                replace L4 := Aside0.mk (blk_below L4.out hb)
                replace HGR := Aside0.mk (HGR.out.below hb)
                (try clear t3c0 t3c1)
                obtain ⟨t3c0, t3c1⟩ := cs2 (L3.out)
                (try clear t4c0 t4c1 t4c2 t4c3 t4c4 t4c5 t4c6 t4c7)
                obtain ⟨t4c0, t4c1, t4c2, t4c3, t4c4, t4c5, t4c6, t4c7⟩ := cs8 (L4.out)
                clear hb
                repeat (first | (refine p_off hS gt_ (by rfl) ?_; intro a_ ha_; (simp only [Act.put, List.setIfInBounds_toArray, List.set_cons_zero, List.set_cons_succ] at ha_); subst ha_) | (refine p_on (v := ?_) hS gt_ (by rfl) ?_ ?_; rotate_left; (· rintro w_ hS_; obtain ⟨t3c0_, t3c1_⟩ := cs2 (blk_below ZL3.out hS_); obtain ⟨t4c0_, t4c1_, t4c2_, t4c3_, t4c4_, t4c5_, t4c6_, t4c7_⟩ := cs8 (blk_below ZL4.out hS_); have r0_ := pw_cell_below hS_ r0; have r1_ := pw_cell_below hS_ r1; go_simp; with_reducible rfl); intro a_ ha_; (simp only [Act.put, List.setIfInBounds_toArray, List.set_cons_zero, List.set_cons_succ] at ha_); subst ha_) | (refine p_poff gt_ (by rfl) ?_; intro a_ ha_; (simp only [Act.put, List.setIfInBounds_toArray, List.set_cons_zero, List.set_cons_succ] at ha_); subst ha_) | (refine p_pon (v := ?_) gt_ (by rfl) ?_ ?_; rotate_left; (· go_simp; with_reducible rfl); intro a_ ha_; (simp only [Act.put, List.setIfInBounds_toArray, List.set_cons_zero, List.set_cons_succ] at ha_); subst ha_) | (refine p_ooff hS gt_ (by rfl) ?_; intro a_ ha_; (simp only [Act.put, List.setIfInBounds_toArray, List.set_cons_zero, List.set_cons_succ] at ha_); subst ha_) | (refine p_loff gt_ (by rfl) ?_; intro a_ ha_; (simp only [Act.put, List.setIfInBounds_toArray, List.set_cons_zero, List.set_cons_succ] at ha_); subst ha_))
                refine p_fin ?_
                clear hS ZL3 ZL4
                go_wp2_with (fail)
                go_roundw
                case rel => exact ⟨j + 1, _, _, HLT.out, HN.out, rfl, HEL.out, by first | rfl | simp, by rw [HE2.out]; first | rfl | go_num, by go_num, L3.out, L4.out, HGR.out, HB.out⟩
                case measure => simp [intOf]; omega
          · have hjl : ¬ (j : Int) < (ns.length : Int) := by omega
            obtain rfl : j = ns.length := by have := HJ.out; omega
            rw [List.take_length] at HB0 HCN
            go_wp2_with (fail)
            go_loopw [12, 13] (fun s12 s13 wr => NonJ w g3 g4 A1 c1 ns B1 d1 es op s12 s13 wr) (fun _ s13 _ => (es.length - intOf s13).toNat)
            case atStart => exact ⟨0, false, Nat.zero_le _, by simp, rfl, rfl, L3.out, L4.out, HGR.out, HB.out⟩
            case round =>
              clear L3 L4 HGR HB HJ
              obtain ⟨j, x, hj, hx0_, rfl, rfl, l3_, l4_, gr_, hb_⟩ := hrel
              have L3 := Aside0.mk l3_
              have L4 := Aside0.mk l4_
              have HGR := Aside0.mk gr_
              have HB := Aside0.mk hb_
              have HJ := Aside0.mk hj
              obtain ⟨t3c0, t3c1⟩ := cs2 (L3.out)
              obtain ⟨t4c0, t4c1, t4c2, t4c3, t4c4, t4c5, t4c6, t4c7⟩ := cs8 (L4.out)
              clear l3_ l4_ gr_ hb_ hj
              have HX0 := Aside0.mk hx0_
              clear hx0_
              by_cases hlt : j < es.length
              · have hjl : (j : Int) < (es.length : Int) := by omega
                have hjm : (j : Int) ≤ 100 := by have := HLN.out.2; omega
                have HLT := Aside0.mk hlt
                have HT := Aside0.mk (take_snE hlt)
                obtain ⟨ad, e1, r0, r1, r2, r3, r4⟩ := eg_at HGR.out.ce j hlt
                cases e1
                generalize eat es j = y at r0 r1 r2 r3 r4 HT
                have HN := Aside0.mk (show decide (op.eg ∈ es.take (j + 1)) = (x || (y.lab == op.eg.lab && ((y.a.lab == op.eg.a.lab && (y.a.num == op.eg.a.num)) && (y.b.lab == op.eg.b.lab && (y.b.num == op.eg.b.num))))) by rw [HT.out, mem_snoc, HX0.out, eg_eq])
                cases x
                all_goals
                  go_wp2_with (fail)
                  have ZL3 := L3
                  have ZL4 := L4
                  refine region_bp [] sNo20 (by kernel_rfl) sNo20_ok (by decide) (fun d _ _ _ _ h => by cases d <;> exact h) ?_
                  intro u hb
                  have hS := hb
                  replace HB := Aside0.mk (below_step HB.out hb)
                  replace L3 := Aside0.mk (blk_below L3.out hb)
                  replace L4 := Aside0.mk (blk_below L4.out hb)
                  replace HGR := Aside0.mk (HGR.out.below hb)
                  (try clear t3c0 t3c1)
                  obtain ⟨t3c0, t3c1⟩ := cs2 (L3.out)
                  (try clear t4c0 t4c1 t4c2 t4c3 t4c4 t4c5 t4c6 t4c7)
                  obtain ⟨t4c0, t4c1, t4c2, t4c3, t4c4, t4c5, t4c6, t4c7⟩ := cs8 (L4.out)
                  clear hb
                  repeat (first | (refine p_off hS gt_ (by rfl) ?_; intro a_ ha_; (simp only [Act.put, List.setIfInBounds_toArray, List.set_cons_zero, List.set_cons_succ] at ha_); subst ha_) | (refine p_on (v := ?_) hS gt_ (by rfl) ?_ ?_; rotate_left; (· rintro w_ hS_; obtain ⟨t3c0_, t3c1_⟩ := cs2 (blk_below ZL3.out hS_); obtain ⟨t4c0_, t4c1_, t4c2_, t4c3_, t4c4_, t4c5_, t4c6_, t4c7_⟩ := cs8 (blk_below ZL4.out hS_); have r0_ := pw_cell_below hS_ r0; have r1_ := pw_cell_below hS_ r1; have r2_ := pw_cell_below hS_ r2; have r3_ := pw_cell_below hS_ r3; have r4_ := pw_cell_below hS_ r4; go_simp; with_reducible rfl); intro a_ ha_; (simp only [Act.put, List.setIfInBounds_toArray, List.set_cons_zero, List.set_cons_succ] at ha_); subst ha_) | (refine p_poff gt_ (by rfl) ?_; intro a_ ha_; (simp only [Act.put, List.setIfInBounds_toArray, List.set_cons_zero, List.set_cons_succ] at ha_); subst ha_) | (refine p_pon (v := ?_) gt_ (by rfl) ?_ ?_; rotate_left; (· go_simp; with_reducible rfl); intro a_ ha_; (simp only [Act.put, List.setIfInBounds_toArray, List.set_cons_zero, List.set_cons_succ] at ha_); subst ha_) | (refine p_ooff hS gt_ (by rfl) ?_; intro a_ ha_; (simp only [Act.put, List.setIfInBounds_toArray, List.set_cons_zero, List.set_cons_succ] at ha_); subst ha_) | (refine p_loff gt_ (by rfl) ?_; intro a_ ha_; (simp only [Act.put, List.setIfInBounds_toArray, List.set_cons_zero, List.set_cons_succ] at ha_); subst ha_))
                  refine p_fin ?_
                  clear hS ZL3 ZL4
                  go_wp2_with (fail)
                  go_roundw
                  case rel => exact ⟨j + 1, _, HLT.out, HN.out, by first | rfl | simp, by go_num, L3.out, L4.out, HGR.out, HB.out⟩
                  case measure => simp [intOf]; omega
              · have hjl : ¬ (j : Int) < (es.length : Int) := by omega
                obtain rfl : j = es.length := by have := HJ.out; omega
                rw [List.take_length] at HX0
                rcases none_of HOG.out (by rw [HDO.out.2.2]; omega) with ⟨hk, hq, hm⟩ | ⟨hk, hq, hm⟩ | ⟨hk, hq, hm, hm2⟩ | ⟨hk, hq, hm⟩ | ⟨hk, hq, hm⟩
                all_goals rw [HDO.out.2.2] at hq
                all_goals first | (exfalso; omega) | skip
                all_goals
                  try (have hcn2 : (cn : Int) < 2 := by have h9 : endsIn op.eg.a op.eg.b ns < 2 := hm2; rw [HCN.out] at h9; omega)
                  try clear hm2
                  first | (have hb9 : b = true := HB0.out.symm.trans (decide_eq_true hm); subst hb9) | (have hb9 : b = false := HB0.out.symm.trans (decide_eq_false hm); subst hb9) | (have hb9 : x = true := HX0.out.symm.trans (decide_eq_true hm); subst hb9) | (have hb9 : x = false := HX0.out.symm.trans (decide_eq_false hm); subst hb9)
                  first | have hk1 : (op.kind == 1) = true := beq_iff_eq.2 hk | have hk1 : (op.kind == 1) = false := beq_eq_false_iff_ne.2 (fun h => absurd (hk.symm.trans h) (by decide))
                  first | have hk2 : (op.kind == 2) = true := beq_iff_eq.2 hk | have hk2 : (op.kind == 2) = false := beq_eq_false_iff_ne.2 (fun h => absurd (hk.symm.trans h) (by decide))
                  first | have hk3 : (op.kind == 3) = true := beq_iff_eq.2 hk | have hk3 : (op.kind == 3) = false := beq_eq_false_iff_ne.2 (fun h => absurd (hk.symm.trans h) (by decide))
                  clear hk hm
                  go_wp2_with (fail)
                  go_ret
                  exact ⟨by simp, HB.out⟩


    · have hq2 : (q == 2) = false := beq_eq_false_iff_ne.2 (by omega)
      have hq3 : (q == 3) = false := beq_eq_false_iff_ne.2 (by omega)
      have hqa : (q != 2) = true := bne_iff_ne.2 (by omega)
      have hqb : (q != 3) = true := bne_iff_ne.2 (by omega)
      clear hq
      go_wp2_with (first | (go_at_call 33; go_must ((refine (sGraphOk_as A1 c1 ns B1 d1 es _ _ HGR.out HLN.out HOK.out).mono ?_); rintro e u_ ⟨rfl, hb⟩; replace HB := Aside0.mk (below_step HB.out hb); replace L3 := Aside0.mk (blk_below L3.out hb); replace L4 := Aside0.mk (blk_below L4.out hb); replace HGR := Aside0.mk (HGR.out.below hb); (try clear t3c0 t3c1); obtain ⟨t3c0, t3c1⟩ := cs2 (L3.out); (try clear t4c0 t4c1 t4c2 t4c3 t4c4 t4c5 t4c6 t4c7); obtain ⟨t4c0, t4c1, t4c2, t4c3, t4c4, t4c5, t4c6, t4c7⟩ := cs8 (L4.out); clear hb)))
      go_ret
      exact ⟨by simp, HB.out⟩
end Go.Proofs.Ytogmbeifbjgphaa.R
