/- Rows of numbers in blocks of one's own, rows of rows that are built, and how they are read. -/
import Derived.Test.YtogmbeifbjgphaaKHA
namespace Go.Proofs.Ytogmbeifbjgphaa.R
open Go.RowKit Go.Proofs.YtogmbeifbjgphaaV.PrintWords Go.Proofs.YtogmbeifbjgphaaV.PrintLast Go.Proofs.YtogmbeifbjgphaaV.PrintMore Go.Proofs.Ytogmbeifbjgphaa.M
set_option linter.unusedVariables false
set_option linter.unusedSimpArgs false
/-- A row of one-cell values that fills a block. -/
def Rw {α : Type} (enc : α → Value) (t : TypeId) (w : World) (g : Nat) (xs : List α) : Prop := w.heap[g]? = some (.cells (xs.map enc).toArray t (0, 0))
section
variable {α : Type} {enc : α → Value} {t : TypeId} {w u : World} {g : Nat} {xs : List α}
theorem Rw.at (h : Rw enc t w g xs) (z : α) (j : Nat) (hj : j < xs.length) : w.cell? ⟨g, j, none⟩ = some (enc (xs.getD j z)) := by
  rw [blk_cell h j]
  simp [List.getElem?_eq_getElem hj]
theorem Rw.set (h : Rw enc t w g xs) (j : Nat) (v : α) : Rw enc t (w.setCell ⟨g, j, none⟩ (enc v)) g (xs.set j v) := by
  have h1 := blk_set h j (enc v)
  rw [List.setIfInBounds_toArray, ← List.map_set] at h1
  exact h1
theorem Rw.below (h : Rw enc t w g xs) (hb : Below w.heap.size w u) : Rw enc t u g xs := blk_below h hb
theorem Rw.over (h : Rw enc t w g xs) {r : Option Nat} (hg : w.grownBy u r) (hr : some g ≠ r) : Rw enc t u g xs := (hg.block g (blk_lt h) hr).trans h
theorem Rw.frozen (h : Rw enc t w g xs) (j : Nat) : w.frozen? ⟨g, j, none⟩ = false := by simp [World.frozen?, show w.heap[g]? = _ from h]
theorem Rw.has (h : Rw enc t w g xs) (j : Nat) (hj : j < xs.length) : ∃ u, w.cell? ⟨g, j, none⟩ = some u := ⟨_, h.at xs[j] j hj⟩
theorem Rw.C (h : Rw enc t w g xs) (h1 : ∀ x, (enc x).oneCell' = true) (hl : xs.length ≤ 1000000) : (Kd.scalar enc h1).C w (some ⟨g, 0, none⟩) xs.length xs := by
  refine ⟨rfl, by omega, fun _ => ⟨_, rfl, fun j p hj => ⟨[enc p], rfl, rfl, fun i v hi => ?_⟩⟩⟩
  obtain ⟨rfl, rfl⟩ : i = 0 ∧ enc p = v := by
    match i, hi with
    | 0, hi => exact ⟨rfl, Option.some.inj hi⟩
  rw [show j * (Kd.scalar enc h1).sz + 0 = j from Nat.mul_one j, add_plain, blk_cell h j]
  simp [hj]
end
section
variable {P : Program} {ops : Array Oper} {rest : List Oper} {o : Oper} {a : Act} {Q : Exit → Act → World → Prop}
theorem make_raw {W : World} {e : TypeId} (hgd : o.guard = none) (t : TypeId) (x y : Operand) (ho : o.op = .makeSlice t x y) (m : Nat) (hx : a.eval x = .int .i64 (m : Int)) (hy : a.eval y = .int .i64 (m : Int))
    (ht : P.underlying t = some (.slice e)) (z : Value) (bytes : Nat) (hinfo : (P.info? e).map (fun i => (i.zero, i.size, i.bytes)) = some (some z, 1, bytes)) (hz : z.cells = #[z]) (hb0 : 0 < bytes) (hl : m * bytes ≤ 281474976710656)
    (h : ∀ g w1, W.heap.size ≤ g → w1.heap[g]? = some (.cells (List.replicate m z).toArray e (0, 0)) → Below W.heap.size W w1 → wpList P ops Q rest (a.put o.dst (.slice (some ⟨g, 0, none⟩) m m)) w1) : wpList P ops Q (o :: rest) a W := by
  obtain ⟨i0, hi, hzz⟩ := Option.map_eq_some_iff.1 hinfo
  simp only [Prod.mk.injEq] at hzz
  obtain ⟨hz0, hz1, hz2⟩ := hzz
  have hm : m ≤ 281474976710656 := Nat.le_trans (Nat.le_mul_of_pos_right _ hb0) hl
  have hr := run_make (P := P) W t e i0 z ht hi hz0 .i64 .i64 (m : Int) (m : Int) (by omega) (by omega)
    (by
      have h3 : ((i0.bytes * m : Nat) : Int) ≤ 281474976710656 := by rw [hz2, Nat.mul_comm]; omega
      rwa [Int.natCast_mul] at h3) (by omega)
  simp only [Int.toNat_natCast] at hr
  rw [hz1, hz, Nat.mul_one] at hr
  have hc : madeCells #[z] m = (List.replicate m z).toArray := by
    rw [← toList_madeCells_one]
  rw [hc] at hr
  exact Kd.event_run (w1 := W.alloc (.cells (List.replicate m z).toArray e)) hgd (by rw [show execOp a.eval o = (do let v ← Instr.makeSlice t (a.eval x) (a.eval y); pure (.value v)) from by simp only [execOp, ho]]; rw [hx, hy]; simp [hr]) (h _ _ (Nat.le_refl _) (blk_new W _) (below_alloc (Below.refl _ _) _))
end
/-- A row of a row of rows. -/
theorem row_at {e : Nat} {k : IntKind} {w : World} {A : Option Addr} {n : Nat} {L : List (List Int)} (h : (Kd.slice e (Kd.int k)).C w A n L) (j : Nat) (hj : j < n) :
    ∃ ad A' c', A = some ad ∧ w.cell? (ad.add j) = some (.slice A' (L.getD j []).length c') ∧ (L.getD j []).length ≤ c' ∧ (Kd.int k).C w A' (L.getD j []).length (L.getD j []) := by
  obtain ⟨ad, c, h1, h2, ⟨A', c', rfl, h3, h4⟩, h5⟩ := Kd.C_get h [] (j : Int) (by omega) (by omega)
  rw [Int.toNat_natCast] at h3 h4 h5
  refine ⟨ad, A', c', h1, ?_, h3, h4⟩
  have h6 := h5 0 _ rfl
  rwa [show j * (Kd.slice e (Kd.int k)).sz + 0 = j from Nat.mul_one j] at h6
/-- A row of rows that is built: rows below i stand, row i is v, the others are empty. -/
structure Jag (w : World) (g n i : Nat) (rows : Array Value) (L : Nat → List Int) (b : Nat) (v : Value) : Prop where
  blk : w.heap[g]? = some (.cells rows 58 (0, 0))
  size : rows.size = n
  done : ∀ k, k < i → ∃ A c, rows[k]? = some (.slice A (L k).length c) ∧ (L k).length ≤ c ∧ (Kd.int .i64).C w A (L k).length (L k) ∧ (0 < (L k).length → ∀ ad, A = some ad → ad.block ≠ g ∧ ad.block < b)
  cur : i < n → rows[i]? = some v
  todo : ∀ k, i < k → k < n → rows[k]? = some (.slice none 0 0)
section
variable {w u : World} {g n i b : Nat} {rows : Array Value} {L : Nat → List Int} {v : Value}
theorem Jag.start (h : w.heap[g]? = some (.cells (List.replicate n (.slice none 0 0)).toArray 58 (0, 0))) : Jag w g n 0 (List.replicate n (.slice none 0 0)).toArray L b (.slice none 0 0) :=
  ⟨h, by simp, fun k hk => absurd hk (Nat.not_lt_zero _), fun hi => by simp [hi], fun k _ hk => by simp [hk]⟩
theorem Jag.below (h : Jag w g n i rows L b v) (hb : Below w.heap.size w u) : Jag u g n i rows L b v :=
  ⟨blk_below h.blk hb, h.size, fun k hk => by
    obtain ⟨A, c, h1, h2, h3, h4⟩ := h.done k hk
    exact ⟨A, c, h1, h2, Kd.C_below h3 hb, h4⟩, h.cur, h.todo⟩
theorem Jag.over (h : Jag w g n i rows L b v) {r : Option Nat} (hg : w.grownBy u r) (hr : ∀ k, r = some k → b ≤ k ∧ k ≠ g) : Jag u g n i rows L b v :=
  ⟨(hg.block g (blk_lt h.blk) (fun e => (hr g e.symm).2 rfl)).trans h.blk, h.size, fun k hk => by
    obtain ⟨A, c, h1, h2, h3, h4⟩ := h.done k hk
    exact ⟨A, c, h1, h2, C_over (flatI .i64) h3 hg fun hn ad e he => by have := (hr _ he.symm).1; have := (h4 hn ad e).2; omega, h4⟩, h.cur, h.todo⟩
theorem Jag.wide (h : Jag w g n i rows L b v) (hb : b ≤ w.heap.size) : Jag w g n i rows L w.heap.size v :=
  ⟨h.blk, h.size, fun k hk => by
    obtain ⟨A, c, h1, h2, h3, h4⟩ := h.done k hk
    exact ⟨A, c, h1, h2, h3, fun hn ad e => ⟨(h4 hn ad e).1, Nat.lt_of_lt_of_le (h4 hn ad e).2 hb⟩⟩, h.cur, h.todo⟩
theorem Jag.put (h : Jag w g n i rows L b v) (v' : Value) : Jag (w.setCell ⟨g, i, none⟩ v') g n i (rows.setIfInBounds i v') L b v' :=
  ⟨blk_set h.blk i v', by rw [Array.size_setIfInBounds]; exact h.size, fun k hk => by
    obtain ⟨A, c, h1, h2, h3, h4⟩ := h.done k hk
    exact ⟨A, c, by rw [Array.getElem?_setIfInBounds_ne (by omega)]; exact h1, h2, C_over (flatI .i64) h3 (grown_setCell w g i v') fun hn ad e he => (h4 hn ad e).1 (Option.some.inj he), h4⟩,
   fun hi => by rw [Array.getElem?_setIfInBounds_self_of_lt (by rw [h.size]; exact hi)], fun k h1 h2 => by rw [Array.getElem?_setIfInBounds_ne (by omega)]; exact h.todo k h1 h2⟩
theorem Jag.next {A : Option Addr} {c : Nat} (h : Jag w g n i rows L b (.slice A (L i).length c)) (hi : i < n) (hc : (L i).length ≤ c) (hC : (Kd.int .i64).C w A (L i).length (L i)) (hne : ∀ ad, A = some ad → ad.block ≠ g) : Jag w g n (i + 1) rows L w.heap.size (.slice none 0 0) :=
  ⟨h.blk, h.size, fun k hk => by
    rcases Nat.lt_or_ge k i with hlt | hge
    · obtain ⟨A, c, h1, h2, h3, h4⟩ := h.done k hlt
      exact ⟨A, c, h1, h2, h3, fun hn ad e => ⟨(h4 hn ad e).1, C_lt (flatI .i64) h3 hn ad e⟩⟩
    · obtain rfl : k = i := by omega
      exact ⟨A, c, h.cur hi, hc, hC, fun hn ad e => ⟨hne ad e, C_lt (flatI .i64) hC hn ad e⟩⟩,
   fun h1 => h.todo _ (Nat.lt_succ_self _) h1, fun k h1 h2 => h.todo k (by omega) h2⟩
theorem Jag.row (h : Jag w g n n rows L b v) (hn : n ≤ 1000000) : (Kd.slice 3 (Kd.int .i64)).C w (some ⟨g, 0, none⟩) n ((List.range n).map L) := by
  refine ⟨by simp, by omega, fun _ => ⟨_, rfl, fun j p hj => ?_⟩⟩
  have hj1 : j < n := by
    have h1 := (List.getElem?_eq_some_iff.1 hj).1
    simpa using h1
  obtain rfl : L j = p := by
    rw [List.getElem?_map, List.getElem?_range hj1] at hj
    exact Option.some.inj hj
  obtain ⟨A, c, h1, h2, h3, h4⟩ := h.done j hj1
  refine ⟨[.slice A (L j).length c], rfl, ⟨A, c, rfl, h2, h3⟩, fun i v hi => ?_⟩
  obtain ⟨rfl, rfl⟩ : i = 0 ∧ .slice A (L j).length c = v := by
    match i, hi with
    | 0, hi => exact ⟨rfl, Option.some.inj hi⟩
  rw [show j * (Kd.slice 3 (Kd.int .i64)).sz + 0 = j from Nat.mul_one j, add_plain, blk_cell h.blk j]
  exact h1
end
theorem gw_blk {w u : World} {r : Option Nat} {g : Nat} {o : Obj} (hg : w.grownBy u r) (h : w.heap[g]? = some o) (hne : some g ≠ r) : u.heap[g]? = some o := (hg.block g (blk_lt h) hne).trans h
theorem gw_cell {w u : World} {r : Option Nat} {a : Addr} {v : Value} (hg : w.grownBy u r) (h : w.cell? a = some v) (hne : some a.block ≠ r) : u.cell? a = some v := (World.cell?_of_block (w := w) (hg.block _ (World.block_lt_of_cell? w a h) hne)).trans h
/-- Nothing but block r of what was there turns. -/
def Gb (w : World) (r : Option Nat) (v : World) : Prop := w.grownBy v r
section
variable {α : Type} {d : Kd α} {P : Program} {ops : Array Oper} {Q : Exit → Act → World → Prop} {S : World → Prop} {i : Nat} {p : Pl} {o : Oper} {a : Act}
/-- A region that turns nothing but block r of what was there. -/
theorem region_gb {id : Nat} {w : World} (r : Option Nat) (ds : List Nat) (p : Pl) (hm : P.follows .mixedOrders = true) (hc : planB .any ops ds p (Array.replicate ops.size false) = true) (hl : p.depth ≤ ops.size)
    (hQ : ∀ (d : Option Tmp) (v : Value) (c : _) (a : Act) (w : World), Q (.panic c) (a.put d v) w → Q (.panic c) a w) (h : ∀ u, Below w.heap.size w u → wpP P ops Q (Gb w r) p a u) : (Code.region id ops true).wp P Q a w :=
  region_pl (Gb w r) ds p hm hc hl hQ (grown_of_below ((Below.refl _ _).drew) r) fun u hb _ => h u hb
theorem p_append1 (hf : Flat d) {W : World} {base e : Nat} {t : TypeId} {s x : Operand} (z : Value) (bytes : Nat) (v : Value) (xs ys : List α) (A : Option Addr) (m c : Nat)
    (ho : ops[i]? = some o) (hw : Region.wanted o (yielded ops a.tmps) = true) (hop : o.op = .call { callee := .builtin .append, args := #[s, x], argTypes := #[t, t] })
    (ht : P.underlying t = some (.slice e)) (hinfo : (P.info? e).map (fun i => (i.zero, i.size, i.bytes)) = some (some z, d.sz, bytes)) (hz : z.cells.size = d.sz) (hb0 : 0 < bytes)
    (hs : a.eval s = v) (hx : a.eval x = .slice A m c) (HO : d.R e W base (fun _ => True) v xs) (HC : d.C W A m ys) (hbase : base ≤ W.heap.size) (hl : (xs.length + m) * bytes ≤ 140737488355328) (hS : ∀ w1, W.grownBy w1 v.ownBlock → S w1)
    (h : ∀ B n cp w1, n = (xs ++ ys).length → n ≤ cp → d.R e w1 base (fun _ => True) (.slice B n cp) (xs ++ ys) → W.grownBy w1 v.ownBlock → S w1 → ((Value.slice B n cp).ownBlock = v.ownBlock ∨ ∃ b, (Value.slice B n cp).ownBlock = some b ∧ W.heap.size ≤ b) → ∀ a', a.put o.dst (.slice B n cp) = a' → wpP P ops Q S p a' w1) : wpP P ops Q S (.nd .one i p) a W := by
  refine p_one ho hw fun K hK => ?_
  have h9 := Kd.R_append_rows_step d (Rr := d.K W) (w0 := W) (Kc := K) (Q := Q) base hw s x t e z bytes hop ht hinfo hz hf.1 hb0 v xs ys A m c (fun _ => True) (fun _ => False) hs hx HO HC (fun y cs hy => hf.2 y cs W hy W base _) (fun k hk => hk.elim) (fun _ _ => trivial) (Below.refl _ _) hbase hl fun v1 w1 h1 h2 h3 h4 => by
    obtain ⟨B, cp, rfl, hn, -⟩ := Kd.R_reads h1
    exact hK _ _ (hS _ h3) (h B _ cp w1 rfl hn h1 h3 (hS _ h3) h4 _ rfl)
  rwa [if_pos hw] at h9
end
theorem near_asF {ns : List Nd} {es : List Eg} {n : Nd} {m : List Nd} (hm : nearG ns es n = m) (A : Option Addr) (c : Nat) (B : Option Addr) (d : Nat) (w : World) (hr : GR w A c ns B d es) :
    Calls Try.prog 42 #[.agg #[.slice A ns.length c, .slice B es.length d], .agg #[.int .i64 n.lab, .int .i64 n.num]] w fun e w' => ∃ A' c', e = .returned (.slice A' m.length c') ∧ kN.C w' A' m.length m ∧ m.length ≤ c' ∧ (∀ ad, A' = some ad → w.heap.size ≤ ad.block) ∧ Below w.heap.size w w' := by
  rw [← hm]
  exact near_callsF A c ns B d es n w hr
end Go.Proofs.Ytogmbeifbjgphaa.R
