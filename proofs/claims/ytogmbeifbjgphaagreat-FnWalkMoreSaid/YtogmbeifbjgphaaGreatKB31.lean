/- Rows of numbers in blocks of one's own, rows of rows that are built, and how they are read; impl.nearPlaces: for each node the places of those near it. -/
import Derived.Test.YtogmbeifbjgphaaGreatKB30
namespace Go.Proofs.YtogmbeifbjgphaaGreat.R
open Go.RowKit Go.Proofs.YtogmbeifbjgphaaGreatV.PrintWords Go.Proofs.YtogmbeifbjgphaaGreatV.PrintLast Go.Proofs.YtogmbeifbjgphaaGreatV.PrintMore Go.Proofs.YtogmbeifbjgphaaGreat.M
set_option linter.unusedVariables false
set_option linter.unusedSimpArgs false
/-- A row of one-cell values that fills a block. -/
def Rw {α : Type} (enc : α → Value) (t : TypeId) (w : World) (g : Nat) (xs : List α) : Prop := w.heap[g]? = some (.cells (xs.map enc).toArray t (0, 0))
section
variable {α : Type} {enc : α → Value} {t : TypeId} {w u : World} {g : Nat} {xs : List α}
theorem Rw.at (h : Rw enc t w g xs) (z : α) (j : Nat) (hj : j < xs.length) : w.cell? ⟨g, j, none⟩ = some (enc (xs.getD j z)) := by
 rw [blk_cell h j]
 simp [List.getElem?_eq_getElem hj]
theorem Rw.set (h : Rw enc t w g xs) (j : Nat) (v : α) : Rw enc t (w.setCell ⟨g, j, none⟩ (enc v)) g (xs.set j v) := by
 have h1 := blk_set h j (enc v)
 rw [List.setIfInBounds_toArray, ← List.map_set] at h1
 exact h1
theorem Rw.below (h : Rw enc t w g xs) (hb : Below w.heap.size w u) : Rw enc t u g xs := blk_below h hb
theorem Rw.over (h : Rw enc t w g xs) {r : Option Nat} (hg : w.grownBy u r) (hr : some g ≠ r) : Rw enc t u g xs := (hg.block g (blk_lt h) hr).trans h
theorem Rw.frozen (h : Rw enc t w g xs) (j : Nat) : w.frozen? ⟨g, j, none⟩ = false := by simp [World.frozen?, show w.heap[g]? = _ from h]
theorem Rw.has (h : Rw enc t w g xs) (j : Nat) (hj : j < xs.length) : ∃ u, w.cell? ⟨g, j, none⟩ = some u := ⟨_, h.at xs[j] j hj⟩
theorem Rw.C (h : Rw enc t w g xs) (h1 : ∀ x, (enc x).oneCell' = true) (hl : xs.length ≤ 1000000) : (Kd.scalar enc h1).C w (some ⟨g, 0, none⟩) xs.length xs := by
 refine ⟨rfl, by omega, fun _ => ⟨_, rfl, fun j p hj => ⟨[enc p], rfl, rfl, fun i v hi => ?_⟩⟩⟩
 obtain ⟨rfl, rfl⟩ : i = 0 ∧ enc p = v := by
  match i, hi with
  | 0, hi => exact ⟨rfl, Option.some.inj hi⟩
 rw [show j * (Kd.scalar enc h1).sz + 0 = j from Nat.mul_one j, add_plain, blk_cell h j]
 simp [hj]
end
section
variable {P : Program} {ops : Array Oper} {rest : List Oper} {o : Oper} {a : Act} {Q : Exit → Act → World → Prop}
theorem make_raw {W : World} {e : TypeId} (hgd : o.guard = none) (t : TypeId) (x y : Operand) (ho : o.op = .makeSlice t x y) (m : Nat) (hx : a.eval x = .int .i64 (m : Int)) (hy : a.eval y = .int .i64 (m : Int))
 (ht : P.underlying t = some (.slice e)) (z : Value) (bytes : Nat) (hinfo : (P.info? e).map (fun i => (i.zero, i.size, i.bytes)) = some (some z, 1, bytes)) (hz : z.cells = #[z]) (hb0 : 0 < bytes) (hl : m * bytes ≤ 281474976710656)
 (h : ∀ g w1, W.heap.size ≤ g → w1.heap[g]? = some (.cells (List.replicate m z).toArray e (0, 0)) → Below W.heap.size W w1 → wpList P ops Q rest (a.put o.dst (.slice (some ⟨g, 0, none⟩) m m)) w1) : wpList P ops Q (o :: rest) a W := by
 obtain ⟨i0, hi, hzz⟩ := Option.map_eq_some_iff.1 hinfo
 simp only [Prod.mk.injEq] at hzz
 obtain ⟨hz0, hz1, hz2⟩ := hzz
 have hm : m ≤ 281474976710656 := Nat.le_trans (Nat.le_mul_of_pos_right _ hb0) hl
 have hr := run_make (P := P) W t e i0 z ht hi hz0 .i64 .i64 (m : Int) (m : Int) (by omega) (by omega)
  (by
   have h3 : ((i0.bytes * m : Nat) : Int) ≤ 281474976710656 := by rw [hz2, Nat.mul_comm]; omega
   rwa [Int.natCast_mul] at h3) (by omega)
 simp only [Int.toNat_natCast] at hr
 rw [hz1, hz, Nat.mul_one] at hr
 have hc : madeCells #[z] m = (List.replicate m z).toArray := by
  rw [← toList_madeCells_one]
 rw [hc] at hr
 exact Kd.event_run (w1 := W.alloc (.cells (List.replicate m z).toArray e)) hgd (by rw [show execOp a.eval o = (do let v ← Instr.makeSlice t (a.eval x) (a.eval y); pure (.value v)) from by simp only [execOp, ho]]; rw [hx, hy]; simp [hr]) (h _ _ (Nat.le_refl _) (blk_new W _) (below_alloc (Below.refl _ _) _))
end
/-- A row of a row of rows. -/
theorem row_at {e : Nat} {k : IntKind} {w : World} {A : Option Addr} {n : Nat} {L : List (List Int)} (h : (Kd.slice e (Kd.int k)).C w A n L) (j : Nat) (hj : j < n) :
 ∃ ad A' c', A = some ad ∧ w.cell? (ad.add j) = some (.slice A' (L.getD j []).length c') ∧ (L.getD j []).length ≤ c' ∧ (Kd.int k).C w A' (L.getD j []).length (L.getD j []) := by
 obtain ⟨ad, c, h1, h2, ⟨A', c', rfl, h3, h4⟩, h5⟩ := Kd.C_get h [] (j : Int) (by omega) (by omega)
 rw [Int.toNat_natCast] at h3 h4 h5
 refine ⟨ad, A', c', h1, ?_, h3, h4⟩
 have h6 := h5 0 _ rfl
 rwa [show j * (Kd.slice e (Kd.int k)).sz + 0 = j from Nat.mul_one j] at h6
/-- A row of rows that is built: rows below i stand, row i is v, the others are empty. -/
structure Jag (w : World) (g n i : Nat) (rows : Array Value) (L : Nat → List Int) (b : Nat) (v : Value) : Prop where
 blk : w.heap[g]? = some (.cells rows 37 (0, 0))
 size : rows.size = n
 done : ∀ k, k < i → ∃ A c, rows[k]? = some (.slice A (L k).length c) ∧ (L k).length ≤ c ∧ (Kd.int .i64).C w A (L k).length (L k) ∧ (0 < (L k).length → ∀ ad, A = some ad → ad.block ≠ g ∧ ad.block < b)
 cur : i < n → rows[i]? = some v
 todo : ∀ k, i < k → k < n → rows[k]? = some (.slice none 0 0)
section
variable {w u : World} {g n i b : Nat} {rows : Array Value} {L : Nat → List Int} {v : Value}
theorem Jag.start (h : w.heap[g]? = some (.cells (List.replicate n (.slice none 0 0)).toArray 37 (0, 0))) : Jag w g n 0 (List.replicate n (.slice none 0 0)).toArray L b (.slice none 0 0) :=
 ⟨h, by simp, fun k hk => absurd hk (Nat.not_lt_zero _), fun hi => by simp [hi], fun k _ hk => by simp [hk]⟩
theorem Jag.below (h : Jag w g n i rows L b v) (hb : Below w.heap.size w u) : Jag u g n i rows L b v :=
 ⟨blk_below h.blk hb, h.size, fun k hk => by
  obtain ⟨A, c, h1, h2, h3, h4⟩ := h.done k hk
  exact ⟨A, c, h1, h2, Kd.C_below h3 hb, h4⟩, h.cur, h.todo⟩
theorem Jag.over (h : Jag w g n i rows L b v) {r : Option Nat} (hg : w.grownBy u r) (hr : ∀ k, r = some k → b ≤ k ∧ k ≠ g) : Jag u g n i rows L b v :=
 ⟨(hg.block g (blk_lt h.blk) (fun e => (hr g e.symm).2 rfl)).trans h.blk, h.size, fun k hk => by
   obtain ⟨A, c, h1, h2, h3, h4⟩ := h.done k hk
   exact ⟨A, c, h1, h2, C_over (flatI .i64) h3 hg fun hn ad e he => by have := (hr _ he.symm).1; have := (h4 hn ad e).2; omega, h4⟩, h.cur, h.todo⟩
theorem Jag.wide (h : Jag w g n i rows L b v) (hb : b ≤ w.heap.size) : Jag w g n i rows L w.heap.size v :=
 ⟨h.blk, h.size, fun k hk => by
  obtain ⟨A, c, h1, h2, h3, h4⟩ := h.done k hk
  exact ⟨A, c, h1, h2, h3, fun hn ad e => ⟨(h4 hn ad e).1, Nat.lt_of_lt_of_le (h4 hn ad e).2 hb⟩⟩, h.cur, h.todo⟩
theorem Jag.put (h : Jag w g n i rows L b v) (v' : Value) : Jag (w.setCell ⟨g, i, none⟩ v') g n i (rows.setIfInBounds i v') L b v' :=
 ⟨blk_set h.blk i v', by rw [Array.size_setIfInBounds]; exact h.size, fun k hk => by
  obtain ⟨A, c, h1, h2, h3, h4⟩ := h.done k hk
  exact ⟨A, c, by rw [Array.getElem?_setIfInBounds_ne (by omega)]; exact h1, h2, C_over (flatI .i64) h3 (grown_setCell w g i v') fun hn ad e he => (h4 hn ad e).1 (Option.some.inj he), h4⟩,
  fun hi => by rw [Array.getElem?_setIfInBounds_self_of_lt (by rw [h.size]; exact hi)], fun k h1 h2 => by rw [Array.getElem?_setIfInBounds_ne (by omega)]; exact h.todo k h1 h2⟩
theorem Jag.next {A : Option Addr} {c : Nat} (h : Jag w g n i rows L b (.slice A (L i).length c)) (hi : i < n) (hc : (L i).length ≤ c) (hC : (Kd.int .i64).C w A (L i).length (L i)) (hne : ∀ ad, A = some ad → ad.block ≠ g) : Jag w g n (i + 1) rows L w.heap.size (.slice none 0 0) :=
 ⟨h.blk, h.size, fun k hk => by
  rcases Nat.lt_or_ge k i with hlt | hge
  ·obtain ⟨A, c, h1, h2, h3, h4⟩ := h.done k hlt
   exact ⟨A, c, h1, h2, h3, fun hn ad e => ⟨(h4 hn ad e).1, C_lt (flatI .i64) h3 hn ad e⟩⟩
  ·obtain rfl : k = i := by omega
   exact ⟨A, c, h.cur hi, hc, hC, fun hn ad e => ⟨hne ad e, C_lt (flatI .i64) hC hn ad e⟩⟩,
  fun h1 => h.todo _ (Nat.lt_succ_self _) h1, fun k h1 h2 => h.todo k (by omega) h2⟩
theorem Jag.row (h : Jag w g n n rows L b v) (hn : n ≤ 1000000) : (Kd.slice 3 (Kd.int .i64)).C w (some ⟨g, 0, none⟩) n ((List.range n).map L) := by
 refine ⟨by simp, by omega, fun _ => ⟨_, rfl, fun j p hj => ?_⟩⟩
 have hj1 : j < n := by
  have h1 := (List.getElem?_eq_some_iff.1 hj).1
  simpa using h1
 obtain rfl : L j = p := by
  rw [List.getElem?_map, List.getElem?_range hj1] at hj
  exact Option.some.inj hj
 obtain ⟨A, c, h1, h2, h3, h4⟩ := h.done j hj1
 refine ⟨[.slice A (L j).length c], rfl, ⟨A, c, rfl, h2, h3⟩, fun i v hi => ?_⟩
 obtain ⟨rfl, rfl⟩ : i = 0 ∧ .slice A (L j).length c = v := by
  match i, hi with
  | 0, hi => exact ⟨rfl, Option.some.inj hi⟩
 rw [show j * (Kd.slice 3 (Kd.int .i64)).sz + 0 = j from Nat.mul_one j, add_plain, blk_cell h.blk j]
 exact h1
end
theorem gw_blk {w u : World} {r : Option Nat} {g : Nat} {o : Obj} (hg : w.grownBy u r) (h : w.heap[g]? = some o) (hne : some g ≠ r) : u.heap[g]? = some o := (hg.block g (blk_lt h) hne).trans h
theorem gw_cell {w u : World} {r : Option Nat} {a : Addr} {v : Value} (hg : w.grownBy u r) (h : w.cell? a = some v) (hne : some a.block ≠ r) : u.cell? a = some v := (World.cell?_of_block (w := w) (hg.block _ (World.block_lt_of_cell? w a h) hne)).trans h
/-- Nothing but block r of what was there turns. -/
def Gb (w : World) (r : Option Nat) (v : World) : Prop := w.grownBy v r
section
variable {α : Type} {d : Kd α} {P : Program} {ops : Array Oper} {Q : Exit → Act → World → Prop} {S : World → Prop} {i : Nat} {p : Pl} {o : Oper} {a : Act}
/-- A region that turns nothing but block r of what was there. -/
theorem region_gb {id : Nat} {w : World} (r : Option Nat) (ds : List Nat) (p : Pl) (hm : P.follows .mixedOrders = true) (hc : planB .any ops ds p (Array.replicate ops.size false) = true) (hl : p.depth ≤ ops.size)
 (hQ : ∀ (d : Option Tmp) (v : Value) (c : _) (a : Act) (w : World), Q (.panic c) (a.put d v) w → Q (.panic c) a w) (h : ∀ u, Below w.heap.size w u → wpP P ops Q (Gb w r) p a u) : (Code.region id ops true).wp P Q a w :=
 region_pl (Gb w r) ds p hm hc hl hQ (grown_of_below ((Below.refl _ _).drew) r) fun u hb _ => h u hb
theorem p_append1 (hf : Flat d) {W : World} {base e : Nat} {t : TypeId} {s x : Operand} (z : Value) (bytes : Nat) (v : Value) (xs ys : List α) (A : Option Addr) (m c : Nat)
 (ho : ops[i]? = some o) (hw : Region.wanted o (yielded ops a.tmps) = true) (hop : o.op = .call { callee := .builtin .append, args := #[s, x], argTypes := #[t, t] })
 (ht : P.underlying t = some (.slice e)) (hinfo : (P.info? e).map (fun i => (i.zero, i.size, i.bytes)) = some (some z, d.sz, bytes)) (hz : z.cells.size = d.sz) (hb0 : 0 < bytes)
 (hs : a.eval s = v) (hx : a.eval x = .slice A m c) (HO : d.R e W base (fun _ => True) v xs) (HC : d.C W A m ys) (hbase : base ≤ W.heap.size) (hl : (xs.length + m) * bytes ≤ 140737488355328) (hS : ∀ w1, W.grownBy w1 v.ownBlock → S w1)
 (h : ∀ B n cp w1, n = (xs ++ ys).length → n ≤ cp → d.R e w1 base (fun _ => True) (.slice B n cp) (xs ++ ys) → W.grownBy w1 v.ownBlock → S w1 → ((Value.slice B n cp).ownBlock = v.ownBlock ∨ ∃ b, (Value.slice B n cp).ownBlock = some b ∧ W.heap.size ≤ b) → ∀ a', a.put o.dst (.slice B n cp) = a' → wpP P ops Q S p a' w1) : wpP P ops Q S (.nd .one i p) a W := by
 refine p_one ho hw fun K hK => ?_
 have h9 := Kd.R_append_rows_step d (Rr := d.K W) (w0 := W) (Kc := K) (Q := Q) base hw s x t e z bytes hop ht hinfo hz hf.1 hb0 v xs ys A m c (fun _ => True) (fun _ => False) hs hx HO HC (fun y cs hy => hf.2 y cs W hy W base _) (fun k hk => hk.elim) (fun _ _ => trivial) (Below.refl _ _) hbase hl fun v1 w1 h1 h2 h3 h4 => by
  obtain ⟨B, cp, rfl, hn, -⟩ := Kd.R_reads h1
  exact hK _ _ (hS _ h3) (h B _ cp w1 rfl hn h1 h3 (hS _ h3) h4 _ rfl)
 rwa [if_pos hw] at h9
end
theorem near_asF {ns : List Nd} {es : List Eg} {n : Nd} {m : List Nd} (hm : nearG ns es n = m) (A : Option Addr) (c : Nat) (B : Option Addr) (d : Nat) (w : World) (hr : GR w A c ns B d es) :
 Calls Tryz.prog 20 #[.agg #[.slice A ns.length c, .slice B es.length d], .agg #[.int .i64 n.lab, .int .i64 n.num]] w fun e w' => ∃ A' c', e = .returned (.slice A' m.length c') ∧ kN.C w' A' m.length m ∧ m.length ≤ c' ∧ (∀ ad, A' = some ad → w.heap.size ≤ ad.block) ∧ Below w.heap.size w w' := by
 rw [← hm]
 exact near_callsF A c ns B d es n w hr
end Go.Proofs.YtogmbeifbjgphaaGreat.R
namespace Go.Proofs.YtogmbeifbjgphaaGreat.R
open Go.RowKit Go.Proofs.YtogmbeifbjgphaaGreatV.PrintWords Go.Proofs.YtogmbeifbjgphaaGreatV.PrintLast Go.Proofs.YtogmbeifbjgphaaGreatV.PrintMore Go.Proofs.YtogmbeifbjgphaaGreat.M
set_option linter.unusedVariables false
set_option linter.unusedSimpArgs false
attribute [local go_sem high] eqN eqE
/-- The places near place i. -/
def nearZ (adj : Nat → Nat → Bool) (n i : Nat) : List Int := (nearI adj n i).map fun k : Nat => (k : Int)
theorem nearZ_len (adj : Nat → Nat → Bool) (n i : Nat) : (nearZ adj n i).length ≤ n := by
 unfold nearZ nearI
 rw [List.length_map]
 exact Nat.le_trans (List.length_filter_le _ _) (by simp)
theorem nearZ_of {ns : List Nd} {es : List Eg} (hg : OkG ns es) {i : Nat} (hi : i < ns.length) : (nearG ns es (at_ ns i)).map (placeI ns) = nearZ (adjI ns es) ns.length i := by
 rw [near_at hg hi, List.map_map]
 unfold nearZ
 refine List.map_congr_left fun k hk => ?_
 have h1 := (nearI_mem.1 hk).1
 show placeI ns (at_ ns k) = k
 rw [placeI_in (at_mem h1), idx_at hg h1]
theorem near_len2 {ns : List Nd} {es : List Eg} (hg : OkG ns es) (n : Nd) : (nearG ns es n).length ≤ ns.length := by
 rw [near_of hg]
 exact List.length_filter_le _ _
def NpO (w : World) (A : Option Addr) (c : Nat) (ns : List Nd) (B : Option Addr) (d : Nat) (es : List Eg) (gO : Nat) (s15 : Value) (wr : World) : Prop :=
 ∃ (i : Nat) (rows : Array Value) (b : Nat), i ≤ ns.length ∧ s15 = .int .i64 (i : Int) ∧ Jag wr gO ns.length i rows (nearZ (adjI ns es) ns.length) b (.slice none 0 0) ∧ b ≤ wr.heap.size ∧ wr.heap[w.heap.size]? = some (.cells #[.slice A ns.length c, .slice B es.length d] 26 (0, 0)) ∧ Below w.heap.size w wr
def NpI (w : World) (A : Option Addr) (c : Nat) (ns : List Nd) (B : Option Addr) (d : Nat) (es : List Eg) (gO b i : Nat) (Am : Option Addr) (m : List Nd) (s24 : Value) (wr : World) : Prop :=
 ∃ (j : Nat) (rows : Array Value) (A5 : Option Addr) (c5 : Nat) (ys : List Int), j ≤ m.length ∧ ys = (m.take j).map (placeI ns) ∧ s24 = .int .i64 (j : Int) ∧ Jag wr gO ns.length i rows (nearZ (adjI ns es) ns.length) b (.slice A5 ys.length c5) ∧ (Kd.int .i64).R 3 wr b (fun _ => True) (.slice A5 ys.length c5) ys ∧ kN.C wr Am m.length m ∧ b ≤ wr.heap.size ∧ wr.heap[w.heap.size]? = some (.cells #[.slice A ns.length c, .slice B es.length d] 26 (0, 0)) ∧ Below w.heap.size w wr
abbrev sNp8 : Pl := (.tk 0 (.tk 1 (.tk 2 (.tk 3 (.tk 4 (.tk 5 (.tk 6 (.tk 7 (.nd .one 8 (.nd .one 9 (.nd .one 10 (.tk 11 (.nd .last 12 .fin)))))))))))))
theorem sNp8_ok : planB .any (opsOf Tryz.f44 8) [12] sNp8 (Array.replicate (opsOf Tryz.f44 8).size false) = true := by kernel_rfl
set_option maxHeartbeats 12800000 in
set_option maxRecDepth 100000 in
theorem nearPlaces_calls (A : Option Addr) (c : Nat) (ns : List Nd) (B : Option Addr) (d : Nat) (es : List Eg) (w : World) (hr : GR w A c ns B d es) (hg : OkG ns es) :
 Calls Tryz.prog 44 #[.agg #[.slice A ns.length c, .slice B es.length d]] w fun e w' => ∃ g, e = .returned (.slice (some ⟨g, 0, none⟩) ns.length ns.length) ∧ (Kd.slice 3 (Kd.int .i64)).C w' (some ⟨g, 0, none⟩) ns.length ((List.range ns.length).map (nearZ (adjI ns es) ns.length)) ∧ Below w.heap.size w w' := by
 have HR := Aside0.mk hr
 have HOG := Aside0.mk hg
 have HNS := Aside0.mk (NsOk.mk hg.nok hg.nasc hg.nfew)
 have HLN := Aside0.mk (show ns.length ≤ 40 from (NsOk.mk hg.nok hg.nasc hg.nfew).len)
 clear hr hg
 obtain ⟨L0, HB⟩ := al1 w #[.slice A ns.length c, .slice B es.length d] 26
 go_enter Tryz.func44, Tryz.ntmps44
 go_wp2_with (first | ((with_reducible refine gate_dst (N := 11) rfl ?_); go_must (refine make_raw rfl 66 _ _ rfl ns.length rfl rfl Tryz.underlying66 (.slice none 0 0) 24 (by kernel_rfl) rfl (by decide) (by have := HLN.out; omega) ?_; intro gO u_ hge_ hblk_ hb; have HGO := Aside0.mk (show w.heap.size < gO from Nat.lt_of_lt_of_le (blk_lt L0.out) hge_); have HBK := Aside0.mk hblk_; replace HB := Aside0.mk (below_step HB.out hb); replace L0 := Aside0.mk (blk_below L0.out hb); (try clear c0 c1); obtain ⟨c0, c1⟩ := cs2 (L0.out); clear hge_ hblk_ hb)))
 go_loopw [4, 5, 7, 15, 24] (fun _ _ _ s15 _ wr => NpO w A c ns B d es gO s15 wr) (fun _ _ _ s15 _ _ => (ns.length - intOf s15).toNat)
 case atStart => exact ⟨0, _, 0, Nat.zero_le _, rfl, Jag.start HBK.out, Nat.zero_le _, L0.out, HB.out⟩
 case round =>
  clear L0 HB HBK
  obtain ⟨i, rows, b0, hi, rfl, hj_, hz_, l0_, hb_⟩ := hrel
  have HI := Aside0.mk hi
  have HJ := Aside0.mk hj_
  have HBZ := Aside0.mk hz_
  have L0 := Aside0.mk l0_
  have HB := Aside0.mk hb_
  obtain ⟨c0, c1⟩ := cs2 (L0.out)
  clear hi hj_ hz_ l0_ hb_
  by_cases hlt : i < ns.length
  ·have hil : (i : Int) < (ns.length : Int) := by omega
   have HIL := Aside0.mk hlt
   have hi40 : (i : Int) < 40 := by have := HLN.out; omega
   obtain ⟨ad, ea, r0, r1⟩ := nd_at (Kd.C_below HR.out.cn HB.out) i hlt
   cases ea
   obtain ⟨y, hy⟩ : ∃ y, at_ ns i = y := ⟨_, rfl⟩
   rw [hy] at r0 r1
   obtain ⟨m, hm⟩ : ∃ m, nearG ns es y = m := ⟨_, rfl⟩
   have HMQ := Aside0.mk hm
   have HMP := Aside0.mk (show m.map (placeI ns) = (nearZ (adjI ns es) ns.length) i by rw [← hm, ← hy]; exact nearZ_of HOG.out hlt)
   have HML := Aside0.mk (show m.length ≤ ns.length by rw [← hm]; exact near_len2 HOG.out _)
   clear hy hm hlt
   go_wp2_with (first | ((with_reducible refine gate_dst (N := 5) rfl ?_); go_must ((refine w_new #[.int .i64 0, .int .i64 0] 28 rfl (by go_simp; (first | done | rfl)) ?_); intro g5 u_ hge_ hb0_ hb; have HQ5 := Aside0.mk (show b0 ≤ g5 ∧ gO < g5 from ⟨Nat.le_trans HBZ.out hge_, Nat.lt_of_lt_of_le (blk_lt HJ.out.blk) hge_⟩); have Hg5 := Aside0.mk (show w.heap.size + 1 ≤ g5 from by have hl0_ := blk_lt L0.out; exact by omega); have L5 := Aside0.mk hb0_; replace HB := Aside0.mk (below_step HB.out hb); replace L0 := Aside0.mk (blk_below L0.out hb); replace HJ := Aside0.mk (HJ.out.below hb); replace HBZ := Aside0.mk (Nat.le_trans (HBZ.out) hb.size); clear hge_ hb0_ hb; (try clear c0 c1); obtain ⟨c0, c1⟩ := cs2 (L0.out); (try clear t0 t1); obtain ⟨t0, t1⟩ := cs2 (L5.out))) | ((with_reducible refine gate_store (p := 5) rfl ?_); go_must ((refine wpList_plain rfl fun K_ hK_ => wp_store_row _ _ _ rfl (g5) #[.int .i64 y.lab, .int .i64 y.num] rfl rfl _ _ L5.out (by kernel_rfl) rfl (by simp [Value.oneCell']) (hK_ _ _ ?_)); refine named _ ?_; intro wz hwz; replace HB := Aside0.mk (sb_ hwz HB.out (by have := Hg5.out; omega)); replace L0 := Aside0.mk (so_ hwz L0.out (by have := Hg5.out; omega)); replace L5 := Aside0.mk (sh_ hwz L5.out); replace HJ := Aside0.mk ((HJ.out).over (hwz ▸ grown_setRow _ _ _) (fun k e => by have := Option.some.inj e; have := HQ5.out; omega)); replace HBZ := Aside0.mk (Nat.le_trans (HBZ.out) (World.grownBy.size (hwz ▸ grown_setRow _ _ _))); (try clear c0 c1); obtain ⟨c0, c1⟩ := cs2 (L0.out); (try clear t0 t1); obtain ⟨t0, t1⟩ := cs2 (L5.out); clear hwz)) | (go_at_call 20; go_must ((refine (near_asF HMQ.out (some ad) c B d _ (HR.out.below HB.out)).mono ?_); rintro e u_ ⟨Am, cm, rfl, hc_, hl_, hf_, hb⟩; have HM := Aside0.mk hc_; have HMF := Aside0.mk (show ∀ ad, Am = some ad → ad.block ≠ gO from fun ad e => by have := hf_ ad e; have := blk_lt HJ.out.blk; omega); clear hc_ hl_ hf_; replace HB := Aside0.mk (below_step HB.out hb); replace L0 := Aside0.mk (blk_below L0.out hb); replace L5 := Aside0.mk (blk_below L5.out hb); replace HJ := Aside0.mk (HJ.out.below hb); replace HBZ := Aside0.mk (Nat.le_trans (HBZ.out) hb.size); (try clear c0 c1); obtain ⟨c0, c1⟩ := cs2 (L0.out); (try clear t0 t1); obtain ⟨t0, t1⟩ := cs2 (L5.out); clear hb)))
   obtain ⟨b, hbq⟩ : ∃ b, b = u_.heap.size := ⟨_, rfl⟩
   have HGB := Aside0.mk (show gO < b by rw [hbq]; exact blk_lt HJ.out.blk)
   have HMB := Aside0.mk (show 0 < m.length → ∀ ad, Am = some ad → ad.block < b ∧ ad.block ≠ gO from fun hn ad e => ⟨by rw [hbq]; exact C_lt flatN HM.out hn ad e, HMF.out ad e⟩)
   go_loopw [7, 24] (fun _ s24 wr => NpI w (some ad) c ns B d es gO b i Am m s24 wr) (fun _ s24 _ => (m.length - intOf s24).toNat)
   case atStart => exact ⟨0, _, none, 0, [], Nat.zero_le _, rfl, rfl, hbq ▸ HJ.out.wide HBZ.out, Kd.R_nil _ _ _ _ _, HM.out, Nat.le_of_eq hbq, L0.out, HB.out⟩
   case round =>
    clear L0 HB HBZ HJ HM L5 rows
    obtain ⟨j, rows, A5, c5, ys, hj, hys_, rfl, hj_, hy_, hm_, hz_, l0_, hb_⟩ := hrel
    have HJL := Aside0.mk hj
    have HYS := Aside0.mk hys_
    have HJ := Aside0.mk hj_
    have HY5 := Aside0.mk hy_
    have HM := Aside0.mk hm_
    have HBZ := Aside0.mk hz_
    have L0 := Aside0.mk l0_
    have HB := Aside0.mk hb_
    have HYL := Aside0.mk (show ys.length ≤ 40 by rw [hys_, List.length_map, List.length_take]; have := HML.out; have := HLN.out; omega)
    obtain ⟨c0, c1⟩ := cs2 (L0.out)
    clear hj hys_ hj_ hy_ hm_ hz_ l0_ hb_
    by_cases hlt : j < m.length
    ·have hjl : (j : Int) < (m.length : Int) := by omega
     have HJT := Aside0.mk hlt
     have hj40 : (j : Int) < 40 := by have := HLN.out; have := HML.out; omega
     obtain ⟨ad2, ea, r0, r1⟩ := nd_at HM.out j hlt
     cases ea
     have HT := Aside0.mk (show (m.take (j + 1)).map (placeI ns) = ys ++ [placeI ns (at_ m j)] by rw [take_snN' hlt, List.map_append, ← HYS.out]; rfl)
     generalize at_ m j = z at r0 r1 HT
     clear hlt
     go_wp2_with (first | ((with_reducible refine gate_dst (N := 7) rfl ?_); go_must ((refine w_new #[.int .i64 0, .int .i64 0] 28 rfl (by go_simp; (first | done | rfl)) ?_); intro gx u_ hge_ hb0_ hb; have HQX := Aside0.mk (show b ≤ gx ∧ gO < gx from ⟨Nat.le_trans HBZ.out hge_, Nat.lt_of_lt_of_le (blk_lt HJ.out.blk) hge_⟩); have HRN := Aside0.mk (show ∀ k, (Value.slice A5 ys.length c5).ownBlock = some k → b ≤ k ∧ k < gx from fun k hk => ⟨Kd.R_base HY5.out k hk, Nat.lt_of_lt_of_le (Kd.R_lt HY5.out k hk) hge_⟩); have Hgx := Aside0.mk (show w.heap.size + 1 ≤ gx from by have hl0_ := blk_lt L0.out; exact by omega); have LX := Aside0.mk hb0_; replace HB := Aside0.mk (below_step HB.out hb); replace L0 := Aside0.mk (blk_below L0.out hb); replace HJ := Aside0.mk (HJ.out.below hb); replace HY5 := Aside0.mk (Kd.R_below (HY5.out) hb); replace HM := Aside0.mk (Kd.C_below (HM.out) hb); replace HBZ := Aside0.mk (Nat.le_trans (HBZ.out) hb.size); clear hge_ hb0_ hb; (try clear c0 c1); obtain ⟨c0, c1⟩ := cs2 (L0.out); (try clear x0 x1); obtain ⟨x0, x1⟩ := cs2 (LX.out))) | ((with_reducible refine gate_store (p := 7) rfl ?_); go_must ((refine wpList_plain rfl fun K_ hK_ => wp_store_row _ _ _ rfl (gx) #[.int .i64 z.lab, .int .i64 z.num] rfl rfl _ _ LX.out (by kernel_rfl) rfl (by simp [Value.oneCell']) (hK_ _ _ ?_)); refine named _ ?_; intro wz hwz; replace HB := Aside0.mk (sb_ hwz HB.out (by have := Hgx.out; omega)); replace L0 := Aside0.mk (so_ hwz L0.out (by have := Hgx.out; omega)); replace LX := Aside0.mk (sh_ hwz LX.out); replace HJ := Aside0.mk ((HJ.out).over (hwz ▸ grown_setRow _ _ _) (fun k e => by have := Option.some.inj e; have := HQX.out; omega)); replace HY5 := Aside0.mk (Kd.R_grown1 (HY5.out) rfl (hwz ▸ grown_setRow _ _ _) (fun e => by have := HRN.out _ e.symm; omega)); replace HM := Aside0.mk (C_over flatN (HM.out) (hwz ▸ grown_setRow _ _ _) (fun hn ad e he => by have := HMB.out hn ad e; have := Option.some.inj he; have := HQX.out; omega)); replace HBZ := Aside0.mk (Nat.le_trans (HBZ.out) (World.grownBy.size (hwz ▸ grown_setRow _ _ _))); (try clear c0 c1); obtain ⟨c0, c1⟩ := cs2 (L0.out); (try clear x0 x1); obtain ⟨x0, x1⟩ := cs2 (LX.out); clear hwz)))
     (try simp only [Act.put, pu1, pu2, pu3])
     have ZL0 := L0
     have ZLX := LX
     have k0 := (blk_cell HJ.out.blk i).trans (HJ.out.cur HIL.out)
     refine region_gb (Value.slice A5 ys.length c5).ownBlock [12] sNp8 (by kernel_rfl) sNp8_ok (by decide) (fun d _ _ _ _ h => by cases d <;> exact h) ?_
     intro u hb
     have hS : Gb _ (Value.slice A5 ys.length c5).ownBlock u := grown_of_below hb (Value.slice A5 ys.length c5).ownBlock
     replace HB := Aside0.mk (below_step HB.out hb)
     replace L0 := Aside0.mk (blk_below L0.out hb)
     replace LX := Aside0.mk (blk_below LX.out hb)
     replace HJ := Aside0.mk (HJ.out.below hb)
     replace HY5 := Aside0.mk (Kd.R_below (HY5.out) hb)
     replace HM := Aside0.mk (Kd.C_below (HM.out) hb)
     replace HBZ := Aside0.mk (Nat.le_trans (HBZ.out) hb.size)
     (try clear c0 c1)
     obtain ⟨c0, c1⟩ := cs2 (L0.out)
     (try clear x0 x1)
     obtain ⟨x0, x1⟩ := cs2 (LX.out)
     clear hb
     repeat (first | (refine p_off hS gt_ (by rfl) ?_; intro a_ ha_; (simp only [Act.put, pu1, pu2, pu3] at ha_); subst ha_) | (refine p_on (v := ?_) hS gt_ (by rfl) ?_ ?_; rotate_left; (· rintro w_ hS_; obtain ⟨c0_, c1_⟩ := cs2 (gw_blk hS_ ZL0.out (fun e => by have := HRN.out _ e.symm; have := HGB.out; have := HGO.out; omega)); obtain ⟨x0_, x1_⟩ := cs2 (gw_blk hS_ ZLX.out (fun e => by have := HRN.out _ e.symm; have := HGB.out; have := HGO.out; omega)); have k0_ := gw_cell hS_ k0 (show some gO ≠ _ from (fun e => by have := HRN.out _ e.symm; have := HGB.out; have := HGO.out; omega)); go_simp; with_reducible rfl); intro a_ ha_; (simp only [Act.put, pu1, pu2, pu3] at ha_); subst ha_) | (refine p_poff gt_ (by rfl) ?_; intro a_ ha_; (simp only [Act.put, pu1, pu2, pu3] at ha_); subst ha_) | (refine p_pon (v := ?_) gt_ (by rfl) ?_ ?_; rotate_left; (· go_simp; with_reducible rfl); intro a_ ha_; (simp only [Act.put, pu1, pu2, pu3] at ha_); subst ha_) | (refine p_ooff hS gt_ (by rfl) ?_; intro a_ ha_; (simp only [Act.put, pu1, pu2, pu3] at ha_); subst ha_) | (refine p_loff gt_ (by rfl) ?_; intro a_ ha_; (simp only [Act.put, pu1, pu2, pu3] at ha_); subst ha_) | (refine p_call (f := 46) (args := #[.agg #[.slice (some ad) ns.length c, .slice B es.length d], .agg #[.int .i64 z.lab, .int .i64 z.num]]) Tryz.func46 (by kernel_rfl) rfl gt_ (by rfl) (by rfl) mp_ ?_; (refine (nodePlace_calls (some ad) c ns B d es z _ (HR.out.below HB.out) HNS.out).mono ?_); rintro e_ u_ ⟨rfl, hb⟩; replace HB := Aside0.mk (below_step HB.out hb); replace L0 := Aside0.mk (blk_below L0.out hb); replace LX := Aside0.mk (blk_below LX.out hb); replace HJ := Aside0.mk (HJ.out.below hb); replace HY5 := Aside0.mk (Kd.R_below (HY5.out) hb); replace HM := Aside0.mk (Kd.C_below (HM.out) hb); replace HBZ := Aside0.mk (Nat.le_trans (HBZ.out) hb.size); (try clear c0 c1); obtain ⟨c0, c1⟩ := cs2 (L0.out); (try clear x0 x1); obtain ⟨x0, x1⟩ := cs2 (LX.out); replace hS : Gb _ (Value.slice A5 ys.length c5).ownBlock u_ := grown_trans hS (grown_of_below hb _); refine ⟨_, rfl, hS, fun a_ ha_ => ?_⟩; (simp only [Act.put, pu1, pu2, pu3] at ha_); subst ha_; clear hb) | (refine p_lit #[.int .i64 (placeI ns z)] 3 1 gt_ (by rfl) (by go_simp; (first | done | rfl)) (grown_trans hS (grown_of_below (below_alloc (Below.refl _ _) _) _)) ?_; intro gl u_ hge_ hb0_ hb hS_ a_ ha_; (simp only [Act.put, pu1, pu2, pu3] at ha_); subst ha_; have LT := Aside0.mk hb0_; replace HB := Aside0.mk (below_step HB.out hb); replace L0 := Aside0.mk (blk_below L0.out hb); replace LX := Aside0.mk (blk_below LX.out hb); replace HJ := Aside0.mk (HJ.out.below hb); replace HY5 := Aside0.mk (Kd.R_below (HY5.out) hb); replace HM := Aside0.mk (Kd.C_below (HM.out) hb); replace HBZ := Aside0.mk (Nat.le_trans (HBZ.out) hb.size); (try clear c0 c1); obtain ⟨c0, c1⟩ := cs2 (L0.out); (try clear x0 x1); obtain ⟨x0, x1⟩ := cs2 (LX.out); replace hS := hS_; clear hge_ hb0_ hb hS_) | (refine p_append1 (flatI .i64) (base := b) (.int .i64 0) 8 (.slice A5 ys.length c5) ys [placeI ns z] (some ⟨gl, 0, none⟩) 1 1 gt_ (by rfl) rfl Tryz.underlying37 (by kernel_rfl) rfl (by decide) rfl rfl HY5.out (C_lit [placeI ns z] LT.out rfl (by simp)) HBZ.out (by have := HYL.out; omega) (fun w1 hw1 => grown_trans hS hw1) ?_; intro A9 n9 p9 w1 hn9_ hc9_ hr_ hg_ hS_ ho_ a_ ha_; (simp only [Act.put, pu1, pu2, pu3] at ha_); subst ha_; obtain rfl : n9 = (ys ++ [placeI ns z]).length := hn9_; have HY9 := Aside0.mk hr_; replace L0 := Aside0.mk (gw_blk hg_ L0.out (fun e => by have := HRN.out _ e.symm; have := HGB.out; have := HGO.out; omega)); replace LX := Aside0.mk (gw_blk hg_ LX.out (fun e => by have := HRN.out _ e.symm; have := HGB.out; have := HGO.out; omega)); replace HB := Aside0.mk (HB.out.grown hg_ HB.out.size (fun k hk => by have := HRN.out k hk; have := HGB.out; have := HGO.out; omega)); replace HJ := Aside0.mk (HJ.out.over hg_ (fun k hk => by have := HRN.out k hk; have := HGB.out; omega)); replace HM := Aside0.mk (C_over flatN HM.out hg_ (fun hn ad e he => by have := HRN.out _ he.symm; have := HMB.out hn ad e; omega)); replace HBZ := Aside0.mk (Nat.le_trans HBZ.out hg_.size); replace hS := hS_; clear hc9_ hr_ hg_ hS_ ho_ HY5) | (refine p_last gt_ (by rfl) fun K_ hK_ => ?_; refine wp_cell gO i A9 (ys ++ [placeI ns z]).length p9 rfl rfl rfl ⟨_, (blk_cell HJ.out.blk i).trans (HJ.out.cur HIL.out)⟩ (by simp [World.frozen?, HJ.out.blk]) (by kernel_rfl) (hK_ _ _ ?_); (try simp only [Act.put, pu1, pu2, pu3]); refine named _ ?_; intro wz hwz; have hg_ : World.grownBy _ wz (some gO) := hwz ▸ grown_setCell _ _ _ _; replace HJ := Aside0.mk (show Jag wz gO ns.length i _ (nearZ (adjI ns es) ns.length) b (.slice A9 (ys ++ [placeI ns z]).length p9) from hwz ▸ HJ.out.put _); replace L0 := Aside0.mk (blk_g hg_ L0.out (by have := HGO.out; omega)); (try clear c0 c1); obtain ⟨c0, c1⟩ := cs2 (L0.out); replace HY9 := Aside0.mk (Kd.R_grown1 HY9.out rfl hg_ (fun e => by have := Kd.R_base HY9.out _ e.symm; have := HGB.out; omega)); replace HM := Aside0.mk (C_over flatN HM.out hg_ (fun hn ad e he => by have := HMB.out hn ad e; have := Option.some.inj he; omega)); replace HBZ := Aside0.mk (Nat.le_trans HBZ.out hg_.size); replace HB := Aside0.mk (HB.out.grown hg_ HB.out.size (fun k hk => by have := Option.some.inj hk; have := HGO.out; omega)); clear hwz hg_))
     refine p_fin ?_
     clear hS ZL0 ZLX
     go_wp2_with (fail)
     go_roundw
     case rel => exact ⟨j + 1, _, A9, p9, ys ++ [placeI ns z], HJT.out, HT.out.symm, by go_num, HJ.out, HY9.out, HM.out, HBZ.out, L0.out, HB.out⟩
     case measure => simp [intOf]; omega
    ·have hjl : ¬ (j : Int) < (m.length : Int) := by omega
     obtain rfl : j = m.length := by have := HJL.out; omega
     rw [List.take_length, HMP.out] at HYS
     obtain rfl := HYS.out
     go_wp2_with (fail)
     go_roundw
     case rel => exact ⟨i + 1, rows, _, HIL.out, by go_num, HJ.out.next HIL.out (Kd.R_reads' HY5.out).2.1 (Kd.R_reads' HY5.out).2.2 (fun ad e => by have := Kd.R_base HY5.out ad.block (by rw [e]; rfl); have := HGB.out; omega), Nat.le_refl _, L0.out, HB.out⟩
     case measure => simp [intOf]; omega
  ·have hil : ¬ (i : Int) < (ns.length : Int) := by omega
   obtain rfl : i = ns.length := by have := HI.out; omega
   go_wp2_with (fail)
   go_ret
   exact ⟨gO, rfl, HJ.out.row (by have := HLN.out; omega), HB.out⟩
end Go.Proofs.YtogmbeifbjgphaaGreat.R
