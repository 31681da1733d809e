/- The reference: what is done to a graph; Walks: a region whose loads read what was there when it began; the cells of a block of known length. -/
import Derived.Test.YtogmbeifbjgphaaGreatKB19
import Derived.Test.YtogmbeifbjgphaaGreatKB11
namespace Go.Proofs.YtogmbeifbjgphaaGreat.R
open Go.RowKit Go.Proofs.YtogmbeifbjgphaaGreatV.PrintWords Go.Proofs.YtogmbeifbjgphaaGreatV.PrintLast Go.Proofs.YtogmbeifbjgphaaGreatV.PrintMore Go.Proofs.YtogmbeifbjgphaaGreat.M
set_option linter.unusedVariables false
set_option linter.unusedSimpArgs false
attribute [local go_sem high] eqN eqE
section
variable {P : Program} {ops : Array Oper} {Q : Exit → Act → World → Prop} {S : World → Prop} {E : Act → World → Prop} {i : Nat} {r : List (Nat × Bool)} {o : Oper} {a : Act} {w : World}
/-- A call of a region that may write into rows of one's own: what is held is shown anew. -/
theorem h_call2 {f : FuncId} {fn : Func} {as_ : Array Operand} {ts : Array TypeId} (hf : P.funcs[f]? = some fn) (hname : (fn.name == "runtime.NumGoroutine") = false) (hb : fn.body.isSome = true) (ho : ops[i]? = some o) (hop : o.op = .call { callee := .value (.func f), args := as_, argTypes := ts })
 (hw : Region.wanted o (yielded ops a.tmps) = true) {args : Array Value} (hargs : as_.map a.eval = args) (h : Calls P f args w fun e w' => ∃ v, e = .returned v ∧ S w' ∧ ∀ a', a.put o.dst v = a' → wpH P ops Q S E r a' w') : wpH P ops Q S E ((i, false) :: r) a w := by
 refine ⟨o, ho, fun K hK => ?_⟩
 refine goes_ hf hname hb args hw rfl hop hargs (h.mono fun e w' hh => ?_)
 obtain ⟨v, he, hS', hr⟩ := hh
 exact ⟨v, he, hK _ _ hS' fun _ => hr _ rfl⟩
end
/-- What comes back when something is done to a graph in the reference: a graph hardly longer; if the graph was right, the model's. -/
def FarO (b : Nat) (A A' : Option Addr) : Prop := A' = A ∨ ∀ a, A' = some a → b ≤ a.block
theorem far_RN {e : TypeId} {w : World} {b base : Nat} {ok : Nat → Prop} {A A' : Option Addr} {n c : Nat} {xs : List Nd} (h : kN.R e w base ok (.slice A' n c) xs) (hb : b ≤ base) : FarO b A A' := .inr fun a ha => Nat.le_trans hb (Kd.R_base h a.block (by rw [ha]; rfl))
theorem far_RE {e : TypeId} {w : World} {b base : Nat} {ok : Nat → Prop} {A A' : Option Addr} {n c : Nat} {xs : List Eg} (h : kE.R e w base ok (.slice A' n c) xs) (hb : b ≤ base) : FarO b A A' := .inr fun a ha => Nat.le_trans hb (Kd.R_base h a.block (by rw [ha]; rfl))
def Did (b : Nat) (A B : Option Addr) (ns : List Nd) (es : List Eg) (op : M.Op) (e : Ending) (w' : World) : Prop :=
 ∃ A' c' B' d' ns' es' q, e = .returned (.tuple #[.agg #[.slice A' (ns' : List Nd).length c', .slice B' (es' : List Eg).length d'], .int .i64 q]) ∧ GR w' A' c' ns' B' d' es' ∧ (FarO b A A' ∧ FarO b B B') ∧ ns'.length ≤ ns.length + 1 ∧ es'.length ≤ es.length + 1 ∧ (okG ns es = true → ns' = doN ns es op ∧ es' = doE ns es op ∧ q = doC ns es op)
set_option maxHeartbeats 6400000 in
set_option maxRecDepth 100000 in
theorem l2Do_form (A : Option Addr) (c : Nat) (ns : List Nd) (B : Option Addr) (d : Nat) (es : List Eg) (k : Int) (n : Nd) (x : Eg) (w : World) (hr : GR w A c ns B d es) (hn : ns.length ≤ 1000000) (he : es.length ≤ 1000000) (hl : opLabel ⟨k, n, x⟩ < 0) :
 Calls Tryz.prog 42 #[.agg #[.slice A ns.length c, .slice B es.length d], .agg #[.int .i64 k, .int .i64 n.lab, .int .i64 n.num, .int .i64 x.lab, .int .i64 x.a.lab, .int .i64 x.a.num, .int .i64 x.b.lab, .int .i64 x.b.num]] w fun e w' => Did w.heap.size A B ns es ⟨k, n, x⟩ e w' ∧ Below w.heap.size w w' := by
 have HR := Aside0.mk hr
 have HNL := Aside0.mk hn
 have HEL := Aside0.mk he
 have HH := Aside0.mk hl
 clear hr hn he hl
 have W1 := Aside0.mk (show Below w.heap.size w (((w.alloc (.cells #[.slice A ns.length c, .slice B es.length d] 26)).alloc (.cells #[.int .i64 k, .int .i64 n.lab, .int .i64 n.num, .int .i64 x.lab, .int .i64 x.a.lab, .int .i64 x.a.num, .int .i64 x.b.lab, .int .i64 x.b.num] 32)).alloc (.cells #[.slice none 0 0, .slice none 0 0] 26)) from below_alloc (below_alloc (below_alloc (Below.refl _ _) _) _) _)
 have B0 := Aside0.mk (show (((w.alloc (.cells #[.slice A ns.length c, .slice B es.length d] 26)).alloc (.cells #[.int .i64 k, .int .i64 n.lab, .int .i64 n.num, .int .i64 x.lab, .int .i64 x.a.lab, .int .i64 x.a.num, .int .i64 x.b.lab, .int .i64 x.b.num] 32)).alloc (.cells #[.slice none 0 0, .slice none 0 0] 26)).heap[w.heap.size]? = some (.cells #[.slice A ns.length c, .slice B es.length d] 26) from blk_alloc (blk_alloc (blk_new w _) _) _)
 have B1 := Aside0.mk (show (((w.alloc (.cells #[.slice A ns.length c, .slice B es.length d] 26)).alloc (.cells #[.int .i64 k, .int .i64 n.lab, .int .i64 n.num, .int .i64 x.lab, .int .i64 x.a.lab, .int .i64 x.a.num, .int .i64 x.b.lab, .int .i64 x.b.num] 32)).alloc (.cells #[.slice none 0 0, .slice none 0 0] 26)).heap[w.heap.size + 1]? = some (.cells #[.int .i64 k, .int .i64 n.lab, .int .i64 n.num, .int .i64 x.lab, .int .i64 x.a.lab, .int .i64 x.a.num, .int .i64 x.b.lab, .int .i64 x.b.num] 32) from blk_alloc (by have h := blk_new (w.alloc (.cells #[.slice A ns.length c, .slice B es.length d] 26)) (.cells #[.int .i64 k, .int .i64 n.lab, .int .i64 n.num, .int .i64 x.lab, .int .i64 x.a.lab, .int .i64 x.a.num, .int .i64 x.b.lab, .int .i64 x.b.num] 32); simpa using h) _)
 have B2 := Aside0.mk (show (((w.alloc (.cells #[.slice A ns.length c, .slice B es.length d] 26)).alloc (.cells #[.int .i64 k, .int .i64 n.lab, .int .i64 n.num, .int .i64 x.lab, .int .i64 x.a.lab, .int .i64 x.a.num, .int .i64 x.b.lab, .int .i64 x.b.num] 32)).alloc (.cells #[.slice none 0 0, .slice none 0 0] 26)).heap[w.heap.size + 2]? = some (.cells #[.slice none 0 0, .slice none 0 0] 26) from by have h := blk_new ((w.alloc (.cells #[.slice A ns.length c, .slice B es.length d] 26)).alloc (.cells #[.int .i64 k, .int .i64 n.lab, .int .i64 n.num, .int .i64 x.lab, .int .i64 x.a.lab, .int .i64 x.a.num, .int .i64 x.b.lab, .int .i64 x.b.num] 32)) (.cells #[.slice none 0 0, .slice none 0 0] 26); simpa using h)
 have hlab := HH.out
 go_enter Tryz.func42, Tryz.ntmps42
 go_wp2_with (first | (go_at_call 98; go_must ((refine (sOpLabel_calls k n x _).mono ?_); rintro e w1 ⟨rfl, hb⟩; have HB1 := Aside0.mk (below_step W1.out hb); have C0 := Aside0.mk (blk_below B0.out hb); have C1 := Aside0.mk (blk_below B1.out hb); have C2 := Aside0.mk (blk_below B2.out hb); have cg0 : w1.cell? ⟨w.heap.size, 0, none⟩ = some (.slice A ns.length c) := (blk_cell C0.out 0).trans rfl; have cg1 : w1.cell? ⟨w.heap.size, 1, none⟩ = some (.slice B es.length d) := (blk_cell C0.out 1).trans rfl; have co0 : w1.cell? ⟨w.heap.size + 1, 0, none⟩ = some (.int .i64 k) := (blk_cell C1.out 0).trans rfl; have co1 : w1.cell? ⟨w.heap.size + 1, 1, none⟩ = some (.int .i64 n.lab) := (blk_cell C1.out 1).trans rfl; have co2 : w1.cell? ⟨w.heap.size + 1, 2, none⟩ = some (.int .i64 n.num) := (blk_cell C1.out 2).trans rfl; have co3 : w1.cell? ⟨w.heap.size + 1, 3, none⟩ = some (.int .i64 x.lab) := (blk_cell C1.out 3).trans rfl; have co4 : w1.cell? ⟨w.heap.size + 1, 4, none⟩ = some (.int .i64 x.a.lab) := (blk_cell C1.out 4).trans rfl; have co5 : w1.cell? ⟨w.heap.size + 1, 5, none⟩ = some (.int .i64 x.a.num) := (blk_cell C1.out 5).trans rfl; have co6 : w1.cell? ⟨w.heap.size + 1, 6, none⟩ = some (.int .i64 x.b.lab) := (blk_cell C1.out 6).trans rfl; have co7 : w1.cell? ⟨w.heap.size + 1, 7, none⟩ = some (.int .i64 x.b.num) := (blk_cell C1.out 7).trans rfl; clear hb)) | ((with_reducible refine gate_store (p := 4) rfl ?_); go_must ((refine wpList_plain rfl fun K_ hK_ => wp_store_row _ _ _ rfl (w.heap.size + 2) #[.slice A ns.length c, .slice B es.length d] rfl rfl _ _ C2.out (by kernel_rfl) rfl (by simp [Value.oneCell']) (hK_ _ _ ?_)); refine named _ ?_; intro wz hwz; have RZ := Aside0.mk (show wz.heap[w.heap.size + 2]? = some (.cells #[.slice A ns.length c, .slice B es.length d] 26 (0, 0)) by rw [hwz]; exact setRow_heap _ _ _ _ _ _ C2.out); have HBZ := Aside0.mk (show Below w.heap.size w wz by rw [hwz]; exact below_setRow HB1.out (by omega) _); clear hwz)))
 refine bodyPost_ret (results_ct rfl _ _ (w.heap.size + 2) _ #[.slice A ns.length c, .slice B es.length d] (0, 0) _ rfl RZ.out Tryz.underlying26 rfl (by kernel_rfl)) rfl ⟨⟨A, c, B, d, ns, es, 1, rfl, HR.out.below HBZ.out, ⟨.inl rfl, .inl rfl⟩, by omega, by omega, fun h => by obtain ⟨h1, h2, h3⟩ := do_form (op := ⟨k, n, x⟩) h HH.out; exact ⟨h1.symm, h2.symm, h3.symm⟩⟩, HBZ.out⟩
theorem do_not {ns : List Nd} {es : List Eg} {op : M.Op} (h : okG ns es = true) (hl : 0 ≤ opLabel op) (he : endOf ns es op ≠ 0) : doN ns es op = ns ∧ doE ns es op = es ∧ doC ns es op = endOf ns es op := by
 simp [doN, doE, doC, h, hl, he]
set_option maxHeartbeats 6400000 in
set_option maxRecDepth 100000 in
theorem l2Do_not (A : Option Addr) (c : Nat) (ns : List Nd) (B : Option Addr) (d : Nat) (es : List Eg) (k : Int) (n : Nd) (x : Eg) (w : World) (hr : GR w A c ns B d es) (hn : ns.length ≤ 1000000) (he : es.length ≤ 1000000) (hl : 0 ≤ opLabel ⟨k, n, x⟩ ∧ endOf ns es ⟨k, n, x⟩ ≠ 0) :
 Calls Tryz.prog 42 #[.agg #[.slice A ns.length c, .slice B es.length d], .agg #[.int .i64 k, .int .i64 n.lab, .int .i64 n.num, .int .i64 x.lab, .int .i64 x.a.lab, .int .i64 x.a.num, .int .i64 x.b.lab, .int .i64 x.b.num]] w fun e w' => Did w.heap.size A B ns es ⟨k, n, x⟩ e w' ∧ Below w.heap.size w w' := by
 have HR := Aside0.mk hr
 have HNL := Aside0.mk hn
 have HEL := Aside0.mk he
 have HH := Aside0.mk hl
 clear hr hn he hl
 have W1 := Aside0.mk (show Below w.heap.size w (((w.alloc (.cells #[.slice A ns.length c, .slice B es.length d] 26)).alloc (.cells #[.int .i64 k, .int .i64 n.lab, .int .i64 n.num, .int .i64 x.lab, .int .i64 x.a.lab, .int .i64 x.a.num, .int .i64 x.b.lab, .int .i64 x.b.num] 32)).alloc (.cells #[.slice none 0 0, .slice none 0 0] 26)) from below_alloc (below_alloc (below_alloc (Below.refl _ _) _) _) _)
 have B0 := Aside0.mk (show (((w.alloc (.cells #[.slice A ns.length c, .slice B es.length d] 26)).alloc (.cells #[.int .i64 k, .int .i64 n.lab, .int .i64 n.num, .int .i64 x.lab, .int .i64 x.a.lab, .int .i64 x.a.num, .int .i64 x.b.lab, .int .i64 x.b.num] 32)).alloc (.cells #[.slice none 0 0, .slice none 0 0] 26)).heap[w.heap.size]? = some (.cells #[.slice A ns.length c, .slice B es.length d] 26) from blk_alloc (blk_alloc (blk_new w _) _) _)
 have B1 := Aside0.mk (show (((w.alloc (.cells #[.slice A ns.length c, .slice B es.length d] 26)).alloc (.cells #[.int .i64 k, .int .i64 n.lab, .int .i64 n.num, .int .i64 x.lab, .int .i64 x.a.lab, .int .i64 x.a.num, .int .i64 x.b.lab, .int .i64 x.b.num] 32)).alloc (.cells #[.slice none 0 0, .slice none 0 0] 26)).heap[w.heap.size + 1]? = some (.cells #[.int .i64 k, .int .i64 n.lab, .int .i64 n.num, .int .i64 x.lab, .int .i64 x.a.lab, .int .i64 x.a.num, .int .i64 x.b.lab, .int .i64 x.b.num] 32) from blk_alloc (by have h := blk_new (w.alloc (.cells #[.slice A ns.length c, .slice B es.length d] 26)) (.cells #[.int .i64 k, .int .i64 n.lab, .int .i64 n.num, .int .i64 x.lab, .int .i64 x.a.lab, .int .i64 x.a.num, .int .i64 x.b.lab, .int .i64 x.b.num] 32); simpa using h) _)
 have B2 := Aside0.mk (show (((w.alloc (.cells #[.slice A ns.length c, .slice B es.length d] 26)).alloc (.cells #[.int .i64 k, .int .i64 n.lab, .int .i64 n.num, .int .i64 x.lab, .int .i64 x.a.lab, .int .i64 x.a.num, .int .i64 x.b.lab, .int .i64 x.b.num] 32)).alloc (.cells #[.slice none 0 0, .slice none 0 0] 26)).heap[w.heap.size + 2]? = some (.cells #[.slice none 0 0, .slice none 0 0] 26) from by have h := blk_new ((w.alloc (.cells #[.slice A ns.length c, .slice B es.length d] 26)).alloc (.cells #[.int .i64 k, .int .i64 n.lab, .int .i64 n.num, .int .i64 x.lab, .int .i64 x.a.lab, .int .i64 x.a.num, .int .i64 x.b.lab, .int .i64 x.b.num] 32)) (.cells #[.slice none 0 0, .slice none 0 0] 26); simpa using h)
 have HK := Aside0.mk (opLabel_kind HH.out.1)
 have hlab : ¬ opLabel ⟨k, n, x⟩ < 0 := by have := HH.out.1; omega
 generalize hq : endOf ns es ⟨k, n, x⟩ = q at HH
 have HQ := Aside0.mk hq
 have hq0 : (q == 0) = false := beq_eq_false_iff_ne.2 HH.out.2
 clear hq
 go_enter Tryz.func42, Tryz.ntmps42
 go_wp2_with (first | (go_at_call 98; go_must ((refine (sOpLabel_calls k n x _).mono ?_); rintro e w1 ⟨rfl, hb⟩; have HB1 := Aside0.mk (below_step W1.out hb); have C0 := Aside0.mk (blk_below B0.out hb); have C1 := Aside0.mk (blk_below B1.out hb); have C2 := Aside0.mk (blk_below B2.out hb); have cg0 : w1.cell? ⟨w.heap.size, 0, none⟩ = some (.slice A ns.length c) := (blk_cell C0.out 0).trans rfl; have cg1 : w1.cell? ⟨w.heap.size, 1, none⟩ = some (.slice B es.length d) := (blk_cell C0.out 1).trans rfl; have co0 : w1.cell? ⟨w.heap.size + 1, 0, none⟩ = some (.int .i64 k) := (blk_cell C1.out 0).trans rfl; have co1 : w1.cell? ⟨w.heap.size + 1, 1, none⟩ = some (.int .i64 n.lab) := (blk_cell C1.out 1).trans rfl; have co2 : w1.cell? ⟨w.heap.size + 1, 2, none⟩ = some (.int .i64 n.num) := (blk_cell C1.out 2).trans rfl; have co3 : w1.cell? ⟨w.heap.size + 1, 3, none⟩ = some (.int .i64 x.lab) := (blk_cell C1.out 3).trans rfl; have co4 : w1.cell? ⟨w.heap.size + 1, 4, none⟩ = some (.int .i64 x.a.lab) := (blk_cell C1.out 4).trans rfl; have co5 : w1.cell? ⟨w.heap.size + 1, 5, none⟩ = some (.int .i64 x.a.num) := (blk_cell C1.out 5).trans rfl; have co6 : w1.cell? ⟨w.heap.size + 1, 6, none⟩ = some (.int .i64 x.b.lab) := (blk_cell C1.out 6).trans rfl; have co7 : w1.cell? ⟨w.heap.size + 1, 7, none⟩ = some (.int .i64 x.b.num) := (blk_cell C1.out 7).trans rfl; clear hb)) | (go_at_call 99; go_must ((refine (ends_calls_all A c ns B d es k n x _ (HR.out.below HB1.out) HNL.out HEL.out HK.out).mono ?_); rintro e w2 ⟨rfl, hb⟩; rw [HQ.out]; have HB2 := Aside0.mk (below_step HB1.out hb); have D0 := Aside0.mk (blk_below C0.out hb); have D1 := Aside0.mk (blk_below C1.out hb); have D2 := Aside0.mk (blk_below C2.out hb); have dg0 : w2.cell? ⟨w.heap.size, 0, none⟩ = some (.slice A ns.length c) := (blk_cell D0.out 0).trans rfl; have dg1 : w2.cell? ⟨w.heap.size, 1, none⟩ = some (.slice B es.length d) := (blk_cell D0.out 1).trans rfl; have do0 : w2.cell? ⟨w.heap.size + 1, 0, none⟩ = some (.int .i64 k) := (blk_cell D1.out 0).trans rfl; have do1 : w2.cell? ⟨w.heap.size + 1, 1, none⟩ = some (.int .i64 n.lab) := (blk_cell D1.out 1).trans rfl; have do2 : w2.cell? ⟨w.heap.size + 1, 2, none⟩ = some (.int .i64 n.num) := (blk_cell D1.out 2).trans rfl; have do3 : w2.cell? ⟨w.heap.size + 1, 3, none⟩ = some (.int .i64 x.lab) := (blk_cell D1.out 3).trans rfl; have do4 : w2.cell? ⟨w.heap.size + 1, 4, none⟩ = some (.int .i64 x.a.lab) := (blk_cell D1.out 4).trans rfl; have do5 : w2.cell? ⟨w.heap.size + 1, 5, none⟩ = some (.int .i64 x.a.num) := (blk_cell D1.out 5).trans rfl; have do6 : w2.cell? ⟨w.heap.size + 1, 6, none⟩ = some (.int .i64 x.b.lab) := (blk_cell D1.out 6).trans rfl; have do7 : w2.cell? ⟨w.heap.size + 1, 7, none⟩ = some (.int .i64 x.b.num) := (blk_cell D1.out 7).trans rfl; clear hb)) | ((with_reducible refine gate_store (p := 4) rfl ?_); go_must ((refine wpList_plain rfl fun K_ hK_ => wp_store_row _ _ _ rfl (w.heap.size + 2) #[.slice A ns.length c, .slice B es.length d] rfl rfl _ _ D2.out (by kernel_rfl) rfl (by simp [Value.oneCell']) (hK_ _ _ ?_)); refine named _ ?_; intro wz hwz; have RZ := Aside0.mk (show wz.heap[w.heap.size + 2]? = some (.cells #[.slice A ns.length c, .slice B es.length d] 26 (0, 0)) by rw [hwz]; exact setRow_heap _ _ _ _ _ _ D2.out); have HBZ := Aside0.mk (show Below w.heap.size w wz by rw [hwz]; exact below_setRow HB2.out (by omega) _); clear hwz)))
 refine bodyPost_ret (results_ct rfl _ _ (w.heap.size + 2) _ #[.slice A ns.length c, .slice B es.length d] (0, 0) _ rfl RZ.out Tryz.underlying26 rfl (by kernel_rfl)) rfl ⟨⟨A, c, B, d, ns, es, q, rfl, HR.out.below HBZ.out, ⟨.inl rfl, .inl rfl⟩, by omega, by omega, fun h => by obtain ⟨h1, h2, h3⟩ := do_not (op := ⟨k, n, x⟩) h HH.out.1 (by rw [HQ.out]; exact HH.out.2); exact ⟨h1.symm, h2.symm, by rw [h3, HQ.out]⟩⟩, HBZ.out⟩
set_option maxHeartbeats 6400000 in
set_option maxRecDepth 100000 in
theorem l2Do_3 (A : Option Addr) (c : Nat) (ns : List Nd) (B : Option Addr) (d : Nat) (es : List Eg) (n : Nd) (x : Eg) (w : World) (hr : GR w A c ns B d es) (hn : ns.length ≤ 1000000) (he : es.length ≤ 1000000) (hl : 0 ≤ opLabel ⟨3, n, x⟩ ∧ endOf ns es ⟨3, n, x⟩ = 0) :
 Calls Tryz.prog 42 #[.agg #[.slice A ns.length c, .slice B es.length d], .agg #[.int .i64 3, .int .i64 n.lab, .int .i64 n.num, .int .i64 x.lab, .int .i64 x.a.lab, .int .i64 x.a.num, .int .i64 x.b.lab, .int .i64 x.b.num]] w fun e w' => Did w.heap.size A B ns es ⟨3, n, x⟩ e w' ∧ Below w.heap.size w w' := by
 have HR := Aside0.mk hr
 have HNL := Aside0.mk hn
 have HEL := Aside0.mk he
 have HH := Aside0.mk hl
 clear hr hn he hl
 have W1 := Aside0.mk (show Below w.heap.size w (((w.alloc (.cells #[.slice A ns.length c, .slice B es.length d] 26)).alloc (.cells #[.int .i64 3, .int .i64 n.lab, .int .i64 n.num, .int .i64 x.lab, .int .i64 x.a.lab, .int .i64 x.a.num, .int .i64 x.b.lab, .int .i64 x.b.num] 32)).alloc (.cells #[.slice none 0 0, .slice none 0 0] 26)) from below_alloc (below_alloc (below_alloc (Below.refl _ _) _) _) _)
 have B0 := Aside0.mk (show (((w.alloc (.cells #[.slice A ns.length c, .slice B es.length d] 26)).alloc (.cells #[.int .i64 3, .int .i64 n.lab, .int .i64 n.num, .int .i64 x.lab, .int .i64 x.a.lab, .int .i64 x.a.num, .int .i64 x.b.lab, .int .i64 x.b.num] 32)).alloc (.cells #[.slice none 0 0, .slice none 0 0] 26)).heap[w.heap.size]? = some (.cells #[.slice A ns.length c, .slice B es.length d] 26) from blk_alloc (blk_alloc (blk_new w _) _) _)
 have B1 := Aside0.mk (show (((w.alloc (.cells #[.slice A ns.length c, .slice B es.length d] 26)).alloc (.cells #[.int .i64 3, .int .i64 n.lab, .int .i64 n.num, .int .i64 x.lab, .int .i64 x.a.lab, .int .i64 x.a.num, .int .i64 x.b.lab, .int .i64 x.b.num] 32)).alloc (.cells #[.slice none 0 0, .slice none 0 0] 26)).heap[w.heap.size + 1]? = some (.cells #[.int .i64 3, .int .i64 n.lab, .int .i64 n.num, .int .i64 x.lab, .int .i64 x.a.lab, .int .i64 x.a.num, .int .i64 x.b.lab, .int .i64 x.b.num] 32) from blk_alloc (by have h := blk_new (w.alloc (.cells #[.slice A ns.length c, .slice B es.length d] 26)) (.cells #[.int .i64 3, .int .i64 n.lab, .int .i64 n.num, .int .i64 x.lab, .int .i64 x.a.lab, .int .i64 x.a.num, .int .i64 x.b.lab, .int .i64 x.b.num] 32); simpa using h) _)
 have B2 := Aside0.mk (show (((w.alloc (.cells #[.slice A ns.length c, .slice B es.length d] 26)).alloc (.cells #[.int .i64 3, .int .i64 n.lab, .int .i64 n.num, .int .i64 x.lab, .int .i64 x.a.lab, .int .i64 x.a.num, .int .i64 x.b.lab, .int .i64 x.b.num] 32)).alloc (.cells #[.slice none 0 0, .slice none 0 0] 26)).heap[w.heap.size + 2]? = some (.cells #[.slice none 0 0, .slice none 0 0] 26) from by have h := blk_new ((w.alloc (.cells #[.slice A ns.length c, .slice B es.length d] 26)).alloc (.cells #[.int .i64 3, .int .i64 n.lab, .int .i64 n.num, .int .i64 x.lab, .int .i64 x.a.lab, .int .i64 x.a.num, .int .i64 x.b.lab, .int .i64 x.b.num] 32)) (.cells #[.slice none 0 0, .slice none 0 0] 26); simpa using h)
 have HK := Aside0.mk (opLabel_kind HH.out.1)
 have hlab : ¬ opLabel ⟨3, n, x⟩ < 0 := by have := HH.out.1; omega
 have HQ := Aside0.mk HH.out.2
 go_enter Tryz.func42, Tryz.ntmps42
 go_wp2_with (first | (go_at_call 98; go_must ((refine (sOpLabel_calls 3 n x _).mono ?_); rintro e w1 ⟨rfl, hb⟩; have HB1 := Aside0.mk (below_step W1.out hb); have C0 := Aside0.mk (blk_below B0.out hb); have C1 := Aside0.mk (blk_below B1.out hb); have C2 := Aside0.mk (blk_below B2.out hb); have cg0 : w1.cell? ⟨w.heap.size, 0, none⟩ = some (.slice A ns.length c) := (blk_cell C0.out 0).trans rfl; have cg1 : w1.cell? ⟨w.heap.size, 1, none⟩ = some (.slice B es.length d) := (blk_cell C0.out 1).trans rfl; have co0 : w1.cell? ⟨w.heap.size + 1, 0, none⟩ = some (.int .i64 3) := (blk_cell C1.out 0).trans rfl; have co1 : w1.cell? ⟨w.heap.size + 1, 1, none⟩ = some (.int .i64 n.lab) := (blk_cell C1.out 1).trans rfl; have co2 : w1.cell? ⟨w.heap.size + 1, 2, none⟩ = some (.int .i64 n.num) := (blk_cell C1.out 2).trans rfl; have co3 : w1.cell? ⟨w.heap.size + 1, 3, none⟩ = some (.int .i64 x.lab) := (blk_cell C1.out 3).trans rfl; have co4 : w1.cell? ⟨w.heap.size + 1, 4, none⟩ = some (.int .i64 x.a.lab) := (blk_cell C1.out 4).trans rfl; have co5 : w1.cell? ⟨w.heap.size + 1, 5, none⟩ = some (.int .i64 x.a.num) := (blk_cell C1.out 5).trans rfl; have co6 : w1.cell? ⟨w.heap.size + 1, 6, none⟩ = some (.int .i64 x.b.lab) := (blk_cell C1.out 6).trans rfl; have co7 : w1.cell? ⟨w.heap.size + 1, 7, none⟩ = some (.int .i64 x.b.num) := (blk_cell C1.out 7).trans rfl; clear hb)) | (go_at_call 99; go_must ((refine (ends_calls_all A c ns B d es 3 n x _ (HR.out.below HB1.out) HNL.out HEL.out (by decide)).mono ?_); rintro e w2 ⟨rfl, hb⟩; rw [HQ.out]; have HB2 := Aside0.mk (below_step HB1.out hb); have D0 := Aside0.mk (blk_below C0.out hb); have D1 := Aside0.mk (blk_below C1.out hb); have D2 := Aside0.mk (blk_below C2.out hb); have dg0 : w2.cell? ⟨w.heap.size, 0, none⟩ = some (.slice A ns.length c) := (blk_cell D0.out 0).trans rfl; have dg1 : w2.cell? ⟨w.heap.size, 1, none⟩ = some (.slice B es.length d) := (blk_cell D0.out 1).trans rfl; have do0 : w2.cell? ⟨w.heap.size + 1, 0, none⟩ = some (.int .i64 3) := (blk_cell D1.out 0).trans rfl; have do1 : w2.cell? ⟨w.heap.size + 1, 1, none⟩ = some (.int .i64 n.lab) := (blk_cell D1.out 1).trans rfl; have do2 : w2.cell? ⟨w.heap.size + 1, 2, none⟩ = some (.int .i64 n.num) := (blk_cell D1.out 2).trans rfl; have do3 : w2.cell? ⟨w.heap.size + 1, 3, none⟩ = some (.int .i64 x.lab) := (blk_cell D1.out 3).trans rfl; have do4 : w2.cell? ⟨w.heap.size + 1, 4, none⟩ = some (.int .i64 x.a.lab) := (blk_cell D1.out 4).trans rfl; have do5 : w2.cell? ⟨w.heap.size + 1, 5, none⟩ = some (.int .i64 x.a.num) := (blk_cell D1.out 5).trans rfl; have do6 : w2.cell? ⟨w.heap.size + 1, 6, none⟩ = some (.int .i64 x.b.lab) := (blk_cell D1.out 6).trans rfl; have do7 : w2.cell? ⟨w.heap.size + 1, 7, none⟩ = some (.int .i64 x.b.num) := (blk_cell D1.out 7).trans rfl; clear hb)) | (go_at_call 101; go_must ((refine (cut_calls A c ns B d es x _ (HR.out.below HB2.out).ce HEL.out).mono ?_); rintro e w3 ⟨B', d', rfl, hr3, hb⟩; obtain ⟨zs, hzs⟩ : ∃ zs, zs = (es.filter fun e => decide (e ≠ x)) := ⟨_, rfl⟩; rw [← hzs] at hr3 ⊢; have HZS := Aside0.mk hzs; clear hzs; have HR3 := Aside0.mk hr3; have HB3 := Aside0.mk (below_step HB2.out hb); have HSZ := Aside0.mk (blk_lt D2.out); have E2 := Aside0.mk (blk_below D2.out hb); clear hb hr3)) | ((with_reducible refine gate_store (p := 4) rfl ?_); go_must ((refine wpList_plain rfl fun K_ hK_ => wp_store_row _ _ _ rfl (w.heap.size + 2) #[.slice A ns.length c, .slice B' zs.length d'] rfl rfl _ _ E2.out (by kernel_rfl) rfl (by simp [Value.oneCell']) (hK_ _ _ ?_)); refine named _ ?_; intro wz hwz; have RZ := Aside0.mk (show wz.heap[w.heap.size + 2]? = some (.cells #[.slice A ns.length c, .slice B' zs.length d'] 26 (0, 0)) by rw [hwz]; exact setRow_heap _ _ _ _ _ _ E2.out); have HBZ := Aside0.mk (show Below w.heap.size w wz by rw [hwz]; exact below_setRow HB3.out (by omega) _); have HRZ := Aside0.mk (show kE.R 30 wz w2.heap.size (fun _ => True) (.slice B' zs.length d') zs by rw [hwz]; exact R_farE HR3.out (grown_setRow _ _ _) (fun k hk e => by have h1 := Kd.R_base HR3.out k hk; have := Option.some.inj e; have := HSZ.out; omega)); clear hwz)))
 refine bodyPost_ret (results_ct rfl _ _ (w.heap.size + 2) _ #[.slice A ns.length c, .slice B' zs.length d'] (0, 0) _ rfl RZ.out Tryz.underlying26 rfl (by kernel_rfl)) rfl ⟨⟨A, c, B', d', ns, zs, 0, rfl, ⟨(HR.out.below HBZ.out).cn, (Kd.R_reads' HRZ.out).2.2, HR.out.hc, (Kd.R_reads' HRZ.out).2.1⟩, ⟨.inl rfl, far_RE HRZ.out HB2.out.size⟩, by omega, by rw [HZS.out]; exact Nat.le_trans (List.length_filter_le _ _) (Nat.le_succ _), fun h => by obtain ⟨h1, h2, h3⟩ := Go.Proofs.YtogmbeifbjgphaaGreat.R.do3 h HH.out.1; have h4 : takeEC es x = 0 := (by rw [← h3]; unfold doC; rw [if_pos h, if_pos HH.out.1, HH.out.2]); have h5 : x ∈ es := Classical.byContradiction fun h6 => (by unfold takeEC at h4; rw [if_neg h6] at h4; omega); exact ⟨h1.symm, by rw [h2, HZS.out]; unfold takeEE; rw [if_pos h5], by rw [h3, h4]⟩⟩, HBZ.out⟩
set_option maxHeartbeats 6400000 in
set_option maxRecDepth 100000 in
theorem l2Do_4 (A : Option Addr) (c : Nat) (ns : List Nd) (B : Option Addr) (d : Nat) (es : List Eg) (n : Nd) (x : Eg) (w : World) (hr : GR w A c ns B d es) (hn : ns.length ≤ 1000000) (he : es.length ≤ 1000000) (hl : 0 ≤ opLabel ⟨4, n, x⟩ ∧ endOf ns es ⟨4, n, x⟩ = 0) :
 Calls Tryz.prog 42 #[.agg #[.slice A ns.length c, .slice B es.length d], .agg #[.int .i64 4, .int .i64 n.lab, .int .i64 n.num, .int .i64 x.lab, .int .i64 x.a.lab, .int .i64 x.a.num, .int .i64 x.b.lab, .int .i64 x.b.num]] w fun e w' => Did w.heap.size A B ns es ⟨4, n, x⟩ e w' ∧ Below w.heap.size w w' := by
 have HR := Aside0.mk hr
 have HNL := Aside0.mk hn
 have HEL := Aside0.mk he
 have HH := Aside0.mk hl
 clear hr hn he hl
 have W1 := Aside0.mk (show Below w.heap.size w (((w.alloc (.cells #[.slice A ns.length c, .slice B es.length d] 26)).alloc (.cells #[.int .i64 4, .int .i64 n.lab, .int .i64 n.num, .int .i64 x.lab, .int .i64 x.a.lab, .int .i64 x.a.num, .int .i64 x.b.lab, .int .i64 x.b.num] 32)).alloc (.cells #[.slice none 0 0, .slice none 0 0] 26)) from below_alloc (below_alloc (below_alloc (Below.refl _ _) _) _) _)
 have B0 := Aside0.mk (show (((w.alloc (.cells #[.slice A ns.length c, .slice B es.length d] 26)).alloc (.cells #[.int .i64 4, .int .i64 n.lab, .int .i64 n.num, .int .i64 x.lab, .int .i64 x.a.lab, .int .i64 x.a.num, .int .i64 x.b.lab, .int .i64 x.b.num] 32)).alloc (.cells #[.slice none 0 0, .slice none 0 0] 26)).heap[w.heap.size]? = some (.cells #[.slice A ns.length c, .slice B es.length d] 26) from blk_alloc (blk_alloc (blk_new w _) _) _)
 have B1 := Aside0.mk (show (((w.alloc (.cells #[.slice A ns.length c, .slice B es.length d] 26)).alloc (.cells #[.int .i64 4, .int .i64 n.lab, .int .i64 n.num, .int .i64 x.lab, .int .i64 x.a.lab, .int .i64 x.a.num, .int .i64 x.b.lab, .int .i64 x.b.num] 32)).alloc (.cells #[.slice none 0 0, .slice none 0 0] 26)).heap[w.heap.size + 1]? = some (.cells #[.int .i64 4, .int .i64 n.lab, .int .i64 n.num, .int .i64 x.lab, .int .i64 x.a.lab, .int .i64 x.a.num, .int .i64 x.b.lab, .int .i64 x.b.num] 32) from blk_alloc (by have h := blk_new (w.alloc (.cells #[.slice A ns.length c, .slice B es.length d] 26)) (.cells #[.int .i64 4, .int .i64 n.lab, .int .i64 n.num, .int .i64 x.lab, .int .i64 x.a.lab, .int .i64 x.a.num, .int .i64 x.b.lab, .int .i64 x.b.num] 32); simpa using h) _)
 have B2 := Aside0.mk (show (((w.alloc (.cells #[.slice A ns.length c, .slice B es.length d] 26)).alloc (.cells #[.int .i64 4, .int .i64 n.lab, .int .i64 n.num, .int .i64 x.lab, .int .i64 x.a.lab, .int .i64 x.a.num, .int .i64 x.b.lab, .int .i64 x.b.num] 32)).alloc (.cells #[.slice none 0 0, .slice none 0 0] 26)).heap[w.heap.size + 2]? = some (.cells #[.slice none 0 0, .slice none 0 0] 26) from by have h := blk_new ((w.alloc (.cells #[.slice A ns.length c, .slice B es.length d] 26)).alloc (.cells #[.int .i64 4, .int .i64 n.lab, .int .i64 n.num, .int .i64 x.lab, .int .i64 x.a.lab, .int .i64 x.a.num, .int .i64 x.b.lab, .int .i64 x.b.num] 32)) (.cells #[.slice none 0 0, .slice none 0 0] 26); simpa using h)
 have HK := Aside0.mk (opLabel_kind HH.out.1)
 have hlab : ¬ opLabel ⟨4, n, x⟩ < 0 := by have := HH.out.1; omega
 have HQ := Aside0.mk HH.out.2
 go_enter Tryz.func42, Tryz.ntmps42
 go_wp2_with (first | (go_at_call 98; go_must ((refine (sOpLabel_calls 4 n x _).mono ?_); rintro e w1 ⟨rfl, hb⟩; have HB1 := Aside0.mk (below_step W1.out hb); have C0 := Aside0.mk (blk_below B0.out hb); have C1 := Aside0.mk (blk_below B1.out hb); have C2 := Aside0.mk (blk_below B2.out hb); have cg0 : w1.cell? ⟨w.heap.size, 0, none⟩ = some (.slice A ns.length c) := (blk_cell C0.out 0).trans rfl; have cg1 : w1.cell? ⟨w.heap.size, 1, none⟩ = some (.slice B es.length d) := (blk_cell C0.out 1).trans rfl; have co0 : w1.cell? ⟨w.heap.size + 1, 0, none⟩ = some (.int .i64 4) := (blk_cell C1.out 0).trans rfl; have co1 : w1.cell? ⟨w.heap.size + 1, 1, none⟩ = some (.int .i64 n.lab) := (blk_cell C1.out 1).trans rfl; have co2 : w1.cell? ⟨w.heap.size + 1, 2, none⟩ = some (.int .i64 n.num) := (blk_cell C1.out 2).trans rfl; have co3 : w1.cell? ⟨w.heap.size + 1, 3, none⟩ = some (.int .i64 x.lab) := (blk_cell C1.out 3).trans rfl; have co4 : w1.cell? ⟨w.heap.size + 1, 4, none⟩ = some (.int .i64 x.a.lab) := (blk_cell C1.out 4).trans rfl; have co5 : w1.cell? ⟨w.heap.size + 1, 5, none⟩ = some (.int .i64 x.a.num) := (blk_cell C1.out 5).trans rfl; have co6 : w1.cell? ⟨w.heap.size + 1, 6, none⟩ = some (.int .i64 x.b.lab) := (blk_cell C1.out 6).trans rfl; have co7 : w1.cell? ⟨w.heap.size + 1, 7, none⟩ = some (.int .i64 x.b.num) := (blk_cell C1.out 7).trans rfl; clear hb)) | (go_at_call 99; go_must ((refine (ends_calls_all A c ns B d es 4 n x _ (HR.out.below HB1.out) HNL.out HEL.out (by decide)).mono ?_); rintro e w2 ⟨rfl, hb⟩; rw [HQ.out]; have HB2 := Aside0.mk (below_step HB1.out hb); have D0 := Aside0.mk (blk_below C0.out hb); have D1 := Aside0.mk (blk_below C1.out hb); have D2 := Aside0.mk (blk_below C2.out hb); have dg0 : w2.cell? ⟨w.heap.size, 0, none⟩ = some (.slice A ns.length c) := (blk_cell D0.out 0).trans rfl; have dg1 : w2.cell? ⟨w.heap.size, 1, none⟩ = some (.slice B es.length d) := (blk_cell D0.out 1).trans rfl; have do0 : w2.cell? ⟨w.heap.size + 1, 0, none⟩ = some (.int .i64 4) := (blk_cell D1.out 0).trans rfl; have do1 : w2.cell? ⟨w.heap.size + 1, 1, none⟩ = some (.int .i64 n.lab) := (blk_cell D1.out 1).trans rfl; have do2 : w2.cell? ⟨w.heap.size + 1, 2, none⟩ = some (.int .i64 n.num) := (blk_cell D1.out 2).trans rfl; have do3 : w2.cell? ⟨w.heap.size + 1, 3, none⟩ = some (.int .i64 x.lab) := (blk_cell D1.out 3).trans rfl; have do4 : w2.cell? ⟨w.heap.size + 1, 4, none⟩ = some (.int .i64 x.a.lab) := (blk_cell D1.out 4).trans rfl; have do5 : w2.cell? ⟨w.heap.size + 1, 5, none⟩ = some (.int .i64 x.a.num) := (blk_cell D1.out 5).trans rfl; have do6 : w2.cell? ⟨w.heap.size + 1, 6, none⟩ = some (.int .i64 x.b.lab) := (blk_cell D1.out 6).trans rfl; have do7 : w2.cell? ⟨w.heap.size + 1, 7, none⟩ = some (.int .i64 x.b.num) := (blk_cell D1.out 7).trans rfl; clear hb)) | (go_at_call 102; go_must ((refine (off_calls A c ns B d es n _ (HR.out.below HB2.out) HNL.out HEL.out).mono ?_); rintro e w3 ⟨A', c', B', d', rfl, hgr3, hn3, hr3, hb⟩; obtain ⟨zs, hzs⟩ : ∃ zs, zs = (es.filter fun y => !endB n y) := ⟨_, rfl⟩; obtain ⟨ys, hys⟩ : ∃ ys, ys = (ns.filter fun y => decide (y ≠ n)) := ⟨_, rfl⟩; rw [← hzs] at hr3 ⊢; rw [← hys] at hn3 ⊢; have HZS := Aside0.mk hzs; have HYS := Aside0.mk hys; clear hzs hys hgr3; have HN3 := Aside0.mk hn3; have HR3 := Aside0.mk hr3; have HB3 := Aside0.mk (below_step HB2.out hb); have HSZ := Aside0.mk (blk_lt D2.out); have E2 := Aside0.mk (blk_below D2.out hb); clear hb hr3 hn3)) | ((with_reducible refine gate_store (p := 4) rfl ?_); go_must ((refine wpList_plain rfl fun K_ hK_ => wp_store_row _ _ _ rfl (w.heap.size + 2) #[.slice A' ys.length c', .slice B' zs.length d'] rfl rfl _ _ E2.out (by kernel_rfl) rfl (by simp [Value.oneCell']) (hK_ _ _ ?_)); refine named _ ?_; intro wz hwz; have RZ := Aside0.mk (show wz.heap[w.heap.size + 2]? = some (.cells #[.slice A' ys.length c', .slice B' zs.length d'] 26 (0, 0)) by rw [hwz]; exact setRow_heap _ _ _ _ _ _ E2.out); have HBZ := Aside0.mk (show Below w.heap.size w wz by rw [hwz]; exact below_setRow HB3.out (by omega) _); have HRZ := Aside0.mk (show kE.R 30 wz w2.heap.size (fun _ => True) (.slice B' zs.length d') zs by rw [hwz]; exact R_farE HR3.out (grown_setRow _ _ _) (fun k hk e => by have h1 := Kd.R_base HR3.out k hk; have := Option.some.inj e; have := HSZ.out; omega)); have HNZ := Aside0.mk (show kN.R 28 wz w2.heap.size (fun _ => True) (.slice A' ys.length c') ys by rw [hwz]; exact R_farN HN3.out (grown_setRow _ _ _) (fun k hk e => by have h1 := Kd.R_base HN3.out k hk; have := Option.some.inj e; have := HSZ.out; omega)); clear hwz)))
 refine bodyPost_ret (results_ct rfl _ _ (w.heap.size + 2) _ #[.slice A' ys.length c', .slice B' zs.length d'] (0, 0) _ rfl RZ.out Tryz.underlying26 rfl (by kernel_rfl)) rfl ⟨⟨A', c', B', d', ys, zs, 0, rfl, ⟨(Kd.R_reads' HNZ.out).2.2, (Kd.R_reads' HRZ.out).2.2, (Kd.R_reads' HNZ.out).2.1, (Kd.R_reads' HRZ.out).2.1⟩, ⟨far_RN HNZ.out HB2.out.size, far_RE HRZ.out HB2.out.size⟩, by rw [HYS.out]; exact Nat.le_trans (List.length_filter_le _ _) (Nat.le_succ _), by rw [HZS.out]; exact Nat.le_trans (List.length_filter_le _ _) (Nat.le_succ _), fun h => by obtain ⟨h1, h2, h3⟩ := Go.Proofs.YtogmbeifbjgphaaGreat.R.do4 h HH.out.1; have h4 : takeNC ns n = 0 := (by rw [← h3]; unfold doC; rw [if_pos h, if_pos HH.out.1, HH.out.2]); have h5 : n ∈ ns := Classical.byContradiction fun h6 => (by unfold takeNC at h4; rw [if_neg h6] at h4; omega); exact ⟨by rw [h1, HYS.out]; unfold takeNN; rw [if_pos h5], by rw [h2, HZS.out]; unfold takeNE; rw [if_pos h5], by rw [h3, h4]⟩⟩, HBZ.out⟩
end Go.Proofs.YtogmbeifbjgphaaGreat.R
namespace Go.Proofs.YtogmbeifbjgphaaGreat.R
open Go.RowKit Go.Proofs.YtogmbeifbjgphaaGreatV.PrintWords Go.Proofs.YtogmbeifbjgphaaGreatV.PrintLast Go.Proofs.YtogmbeifbjgphaaGreatV.PrintMore Go.Proofs.YtogmbeifbjgphaaGreat.M
set_option linter.unusedVariables false
section
variable {P : Program} {ops : Array Oper} {Q : Exit → Act → World → Prop}
/-- A region that turns nothing below block B. -/
theorem region_b {id : Nat} {a : Act} {w : World} (B : Nat) (hB : B ≤ w.heap.size) (sched : List (Nat × Bool)) (hm : P.follows .mixedOrders = true) (hc : schedB .any ops sched (Array.replicate ops.size false) = true) (hl : sched.length = ops.size)
 (hQ : ∀ (d : Option Tmp) (v : Value) (c : _) (a : Act) (w : World), Q (.panic c) (a.put d v) w → Q (.panic c) a w) (h : ∀ u, Below w.heap.size w u → wpH P ops Q (Below B w) (Q .normal) sched a u) : (Code.region id ops true).wp P Q a w :=
 wp_region_last hm (last_of_wpH hQ sched ops.size _ a w.drew hc (Nat.le_of_eq hl) ((Below.refl _ _).drew) (h _ ((Below.refl _ _).drew)))
end
section
variable {w u : World} {g : Nat} {t : TypeId} {a b c d e f i j : Value}
theorem blk_b {B : Nat} {o : Obj} (hb : Below B w u) (h : w.heap[g]? = some o) (hg : g < B) : u.heap[g]? = some o := (hb.block g hg).trans h
end
section
variable {P : Program} {ops : Array Oper} {Q : Exit → Act → World → Prop}
/-- The same by a tree of orders. -/
theorem region_tb {id : Nat} {a : Act} {w : World} (B : Nat) (hB : B ≤ w.heap.size) (sched : List (Nat × Bool)) (T : Sch) (hm : P.follows .mixedOrders = true) (hc : schedT .any ops T sched (Array.replicate ops.size false) = true) (hl : sched.length + depthT T ≤ ops.size)
 (hQ : ∀ (d : Option Tmp) (v : Value) (c : _) (a : Act) (w : World), Q (.panic c) (a.put d v) w → Q (.panic c) a w) (h : ∀ u, Below w.heap.size w u → wpH P ops Q (Below B w) (EndT P ops Q (Below B w) T) sched a u) : (Code.region id ops true).wp P Q a w :=
 wp_region_last hm (last_of_wpT hQ T sched ops.size _ a w.drew hc hl ((Below.refl _ _).drew) (h _ ((Below.refl _ _).drew)))
variable {S : World → Prop} {E : Act → World → Prop} {i : Nat} {r : List (Nat × Bool)} {o : Oper} {a : Act} {w : World}
/-- A block of its own for a struct. -/
theorem h_new (cs : Array Value) (t : TypeId) (ho : ops[i]? = some o) (hw : Region.wanted o (yielded ops a.tmps) = true) (hrun : (execOp a.eval o).run P w = .ok (.value (.pointer (some ⟨w.heap.size, 0, none⟩))) (w.alloc (.cells cs t))) (hS : S (w.alloc (.cells cs t)))
 (h : ∀ g u, w.heap.size ≤ g → u.heap[g]? = some (.cells cs t (0, 0)) → Below w.heap.size w u → S u → ∀ a', a.put o.dst (.pointer (some ⟨g, 0, none⟩)) = a' → wpH P ops Q S E r a' u) : wpH P ops Q S E ((i, false) :: r) a w :=
 ⟨o, ho, fun K hK => value_ hw rfl hrun (hK _ _ hS fun _ => h _ _ (Nat.le_refl _) (blk_new w _) (below_alloc (Below.refl _ _) _) hS _ rfl)⟩
end
/-- Cells laid over others, from place k on. -/
def putAt (cur : Array Value) (k : Nat) : List Value → Array Value
 | [] => cur
 | v :: r => putAt (cur.setIfInBounds k v) (k + 1) r
theorem run_storeCells_at {P : Program} (g k : Nat) (t : TypeId) : ∀ (vs : List Value) (i : Nat) (cur : Array Value) (w : World), w.heap[g]? = some (.cells cur t (0, 0)) → k + i + vs.length ≤ cur.size → (∀ v ∈ vs, v.oneCell' = true) → vs ≠ [] →
 (storeCells ⟨g, k, none⟩ vs i).run P w = .ok () (w.setRow g (putAt cur (k + i) vs))
 | [], _, _, _, _, _, _, hne => absurd rfl hne
 | v :: rest, i, cur, w, hg, hl, h1, _ => by
   have hi : k + i < cur.size := by simp at hl; omega
   have hadd : (⟨g, k, none⟩ : Addr).add i = ⟨g, k + i, none⟩ := by unfold Addr.add; split <;> simp_all
   have hcell : w.cell? ⟨g, k + i, none⟩ = some cur[k + i] := by simp [World.cell?, hg, hi]
   have hfro : w.frozen? ⟨g, k + i, none⟩ = false := by simp [World.frozen?, hg]
   have hst : (store ((⟨g, k, none⟩ : Addr).add i) v).run P w = .ok () (w.setRow g (cur.setIfInBounds (k + i) v)) := by
    rw [hadd, run_store P w _ v _ (h1 v (by simp)), hcell]
    simp [hfro, setCell_eq_setRow w g (k + i) cur t (0, 0) v hg]
   cases rest with
   | nil =>
     simp only [storeCells, Sem.run_bind, hst, Result.andThen_ok, putAt]
     rfl
   | cons u r =>
     have ih := run_storeCells_at (P := P) g k t (u :: r) (i + 1) (cur.setIfInBounds (k + i) v) (w.setRow g (cur.setIfInBounds (k + i) v)) (setRow_heap w g cur _ t _ hg) (by simp at hl ⊢; omega) (fun x hx => h1 x (by simp at hx ⊢; right; exact hx)) (by simp)
     rw [storeCells]
     simp only [Sem.run_bind, hst, Result.andThen_ok, ih, setRow_setRow]
     rw [show putAt cur (k + i) (v :: u :: r) = putAt (cur.setIfInBounds (k + i) v) (k + (i + 1)) (u :: r) from rfl]
/-- A value is stored into a part of a block. -/
theorem wp_part {P : Program} {o : Oper} {a : Act} {w : World} {K : Act → World → Prop} {Q : Exit → Act → World → Prop} (ty : TypeId) (x y : Operand) (ho : o.op = .store ty x y) (g k : Nat) (v : Value) (hx : a.eval x = .pointer (some ⟨g, k, none⟩)) (hy : a.eval y = v)
 (t : TypeId) (old : Array Value) (new : Array Value) (hg : w.heap[g]? = some (.cells old t (0, 0))) (hi : (P.info? ty).map (·.size) = some v.cells.size) (h0 : v.cells.toList ≠ []) (hn : putAt old k v.cells.toList = new)
 (hl : k + v.cells.toList.length ≤ old.size) (h1 : ∀ u ∈ v.cells.toList, u.oneCell' = true) (h : K (a.put o.dst undef) (w.setRow g new)) : o.wp P a w K Q := by
 have hs := run_storeCells_at (P := P) g k t v.cells.toList 0 old w hg (by simpa using hl) h1 h0
 rw [Nat.add_zero, hn] at hs
 have hv : (storeVar ty ⟨g, k, none⟩ v).run P w = .ok () (w.setRow g new) := by
  obtain ⟨i, hq, hz⟩ := Option.map_eq_some_iff.1 hi
  simp [storeVar, sizeOf, typeInfo, hq, hz, hs]
 unfold Oper.wp execOp
 simp only [ho, hx, hy, Instr.storeAt, Instr.sureAddr, Sem.run_bind, Sem.run_pure, Result.andThen_ok, hv]
 exact h
section
variable {P : Program} {ops : Array Oper} {Q : Exit → Act → World → Prop} {S : World → Prop} {E : Act → World → Prop} {i : Nat} {r : List (Nat × Bool)} {o : Oper} {a : Act} {w : World}
theorem h_part {ty : TypeId} {x y : Operand} (g k : Nat) (v : Value) (t : TypeId) (old new : Array Value) (hg : w.heap[g]? = some (.cells old t (0, 0)))
 (ho : ops[i]? = some o) (hw : Region.wanted o (yielded ops a.tmps) = true) (hop : o.op = .store ty x y) (hx : a.eval x = .pointer (some ⟨g, k, none⟩)) (hy : a.eval y = v) (hi : (P.info? ty).map (·.size) = some v.cells.size) (h0 : v.cells.toList ≠ []) (hn : putAt old k v.cells.toList = new)
 (hl : k + v.cells.toList.length ≤ old.size) (h1 : ∀ u ∈ v.cells.toList, u.oneCell' = true) (hS : S (w.setRow g new)) (h : ∀ a', a.put o.dst undef = a' → wpH P ops Q S E r a' (w.setRow g new)) : wpH P ops Q S E ((i, false) :: r) a w :=
 ⟨o, ho, fun K hK => by
  rw [hw, if_pos rfl]
  exact wp_part ty x y hop g k v hx hy t old new hg hi h0 hn hl h1 (hK _ _ hS fun _ => h _ rfl)⟩
end
theorem gate_calls {P : Program} {f : FuncId} (args : Array Value) {w : World} {Q : Ending → World → Prop} (h : Calls P f args w Q) : Calls P f args w Q := h
section
variable {α : Type} {d : Kd α} {w u : World} {A : Option Addr} {n : Nat} {xs : List α}
/-- A row that is read lies in blocks that are there. -/
theorem C_lt (hf : Flat d) (h : d.C w A n xs) (hn : 0 < n) (ad : Addr) (e : A = some ad) : ad.block < w.heap.size := by
 obtain ⟨ad', h', hc⟩ := h.2.2 hn
 obtain rfl : ad' = ad := Option.some.inj (h'.symm.trans e)
 obtain ⟨c, hs, hr, hcell⟩ := hc 0 _ (List.getElem?_eq_getElem (show 0 < xs.length by rw [h.1]; exact hn))
 have h0 : 0 < c.length := by rw [hs]; exact hf.1
 have := World.block_lt_of_cell? w _ (hcell 0 _ (List.getElem?_eq_getElem h0))
 rw [add_block] at this
 exact this
/-- A row that is read stays where no block of its own has been written. -/
theorem C_over (hf : Flat d) (h : d.C w A n xs) {row : Option Nat} (hg : w.grownBy u row) (hne : 0 < n → ∀ ad, A = some ad → some ad.block ≠ row) : d.C u A n xs :=
 ⟨h.1, h.2.1, fun hn => by
  obtain ⟨ad, e, hc⟩ := h.2.2 hn
  refine ⟨ad, e, fun j p hj => ?_⟩
  obtain ⟨c, hs, hr, hcell⟩ := hc j p hj
  refine ⟨c, hs, d.K_of_M (hf.2 p c w hr u 0 (fun _ => True)), fun i v hi => ?_⟩
  have h1 := hcell i v hi
  have h2 := World.block_lt_of_cell? w _ h1
  rw [World.cell?_of_block (w := w) (hg.block _ h2 (by rw [add_block]; exact hne hn ad e))]
  exact h1⟩
end
/-- Does a row of n elements lie outside block g? -/
def NotIn (g : Nat) (A : Option Addr) (n : Nat) : Prop := 0 < n → ∀ ad, A = some ad → ad.block ≠ g
theorem GR.keep {w u : World} {A B : Option Addr} {c d g : Nat} {ns : List Nd} {es : List Eg} (h : GR w A c ns B d es) (hg : w.grownBy u (some g)) (hA : NotIn g A ns.length) (hB : NotIn g B es.length) : GR u A c ns B d es :=
 ⟨C_over flatN h.cn hg fun hn ad e he => hA hn ad e (Option.some.inj he), C_over flatE h.ce hg fun hn ad e he => hB hn ad e (Option.some.inj he), h.hc, h.hd⟩
theorem GR.new {w : World} {A B : Option Addr} {c d g : Nat} {ns : List Nd} {es : List Eg} (h : GR w A c ns B d es) (hg : w.heap.size ≤ g) : NotIn g A ns.length ∧ NotIn g B es.length :=
 ⟨fun hn ad e => by have := C_lt flatN h.cn hn ad e; omega, fun hn ad e => by have := C_lt flatE h.ce hn ad e; omega⟩
theorem notIn_fresh {b g n : Nat} {A : Option Addr} (h : ∀ a, A = some a → b ≤ a.block) (hg : g < b) : NotIn g A n := fun _ ad e => by have := h ad e; omega
theorem notIn_far {b g m : Nat} {A A' : Option Addr} (h : FarO b A A') (hA : ∀ a, A = some a → a.block ≠ g) (hg : g < b) : NotIn g A' m := fun _ ad e => by
 rcases h with h | h
 ·exact hA ad (h ▸ e)
 ·have := h ad e
  omega
end Go.Proofs.YtogmbeifbjgphaaGreat.R
