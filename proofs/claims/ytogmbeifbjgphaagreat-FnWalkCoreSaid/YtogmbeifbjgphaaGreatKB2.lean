/- Plain laws of lists that ascend by a key; The plain model of graphs: nodes, edges, what is right, what is done, what is seen, what is near; What is done to graphs: laws of the plain model; Ways and distances in a graph of places, and what a breadth-first search keeps; Sums over places: the laws of counting that the statements on walks want. -/
namespace Go.Proofs.YtogmbeifbjgphaaGreat.M
set_option linter.unusedVariables false
set_option linter.unusedSimpArgs false
/-- The list ascends by the key, no two alike. -/
def Asc {α : Type} (key : α → Int) (l : List α) : Prop := l.Pairwise fun a b => key a < key b
section
variable {α : Type} {key : α → Int}
theorem Asc.nil : Asc key [] := List.Pairwise.nil
theorem asc_cons {x : α} {l : List α} : Asc key (x :: l) ↔ (∀ y ∈ l, key x < key y) ∧ Asc key l := List.pairwise_cons
theorem asc_append {l m : List α} : Asc key (l ++ m) ↔ Asc key l ∧ Asc key m ∧ ∀ a ∈ l, ∀ b ∈ m, key a < key b := List.pairwise_append
theorem Asc.filter {l : List α} (p : α → Bool) (h : Asc key l) : Asc key (l.filter p) := List.Pairwise.filter p h
theorem Asc.sub {l m : List α} (h : Asc key l) (hs : m.Sublist l) : Asc key m := List.Pairwise.sublist hs h
/-- Two that ascend and hold the same are one. -/
theorem asc_ext : ∀ {l m : List α}, Asc key l → Asc key m → (∀ x, x ∈ l ↔ x ∈ m) → l = m
 | [], [], _, _, _ => rfl
 | [], y :: m, _, _, h => absurd ((h y).2 (by simp)) (by simp)
 | x :: l, [], _, _, h => absurd ((h x).1 (by simp)) (by simp)
 | x :: l, y :: m, hl, hm, h => by
   obtain ⟨hx, hl'⟩ := asc_cons.1 hl
   obtain ⟨hy, hm'⟩ := asc_cons.1 hm
   have e : x = y := by
    rcases List.mem_cons.1 ((h x).1 (by simp)) with e | e
    ·exact e
    ·rcases List.mem_cons.1 ((h y).2 (by simp)) with e' | e'
     ·exact e'.symm
     ·have h1 := hy x e
      have h2 := hx y e'
      omega
   subst e
   rw [asc_ext hl' hm' fun z => ⟨fun hz => ?_, fun hz => ?_⟩]
   ·rcases List.mem_cons.1 ((h z).1 (List.mem_cons_of_mem _ hz)) with e | e
    ·subst e
     have := hx z hz
     omega
    ·exact e
   ·rcases List.mem_cons.1 ((h z).2 (List.mem_cons_of_mem _ hz)) with e | e
    ·subst e
     have := hy z hz
     omega
    ·exact e
theorem Asc.nodup {l : List α} (h : Asc key l) : l.Nodup := List.Pairwise.imp (fun hab e => by subst e; omega) h
theorem Asc.lt {l : List α} (h : Asc key l) {i j : Nat} (hij : i < j) (hj : j < l.length) : key (l[i]'(by omega)) < key l[j] :=
 List.pairwise_iff_getElem.1 h i j (by omega) hj hij
theorem Asc.le {l : List α} (h : Asc key l) {i j : Nat} (hij : i ≤ j) (hj : j < l.length) : key (l[i]'(by omega)) ≤ key l[j] := by
 rcases Nat.lt_or_eq_of_le hij with e | e
 ·have := h.lt e hj
  omega
 ·subst e
  omega
/-- x laid into l at its place. -/
def ins (key : α → Int) (l : List α) (x : α) : List α := l.filter (fun a => decide (key a < key x)) ++ x :: l.filter (fun a => decide (key x < key a))
theorem asc_ins {l : List α} (h : Asc key l) (x : α) : Asc key (ins key l x) := by
 unfold ins
 refine asc_append.2 ⟨h.filter _, asc_cons.2 ⟨fun y hy => ?_, h.filter _⟩, fun a ha b hb => ?_⟩
 ·have := (List.mem_filter.1 hy).2
  simpa using this
 ·have h1 : key a < key x := by simpa using (List.mem_filter.1 ha).2
  rcases List.mem_cons.1 hb with e | e
  ·subst e
   exact h1
  ·have h2 : key x < key b := by simpa using (List.mem_filter.1 e).2
   omega
theorem mem_ins {l : List α} {x : α} (h : ∀ a ∈ l, key a = key x → a = x) (y : α) : y ∈ ins key l x ↔ y = x ∨ y ∈ l := by
 unfold ins
 simp only [List.mem_append, List.mem_cons, List.mem_filter, decide_eq_true_eq]
 constructor
 ·rintro (⟨hy, _⟩ | rfl | ⟨hy, _⟩)
  ·exact .inr hy
  ·exact .inl rfl
  ·exact .inr hy
 ·rintro (rfl | hy)
  ·exact .inr (.inl rfl)
  ·rcases Int.lt_trichotomy (key y) (key x) with e | e | e
   ·exact .inl ⟨hy, e⟩
   ·exact .inr (.inl (h y hy e))
   ·exact .inr (.inr ⟨hy, e⟩)
theorem filter_ge {l : List α} {x : α} (h : ∀ a ∈ l, key a ≠ key x) : l.filter (fun a => decide (key x < key a)) = l.filter (fun a => !decide (key a < key x)) := by
 apply List.filter_congr
 intro a ha
 have := h a ha
 by_cases e : key a < key x
 ·simp [e]; omega
 ·simp [e]; omega
/-- What precedes c stands ahead. -/
theorem asc_split (p : α → Bool) : ∀ (l : List α), (l.Pairwise fun a b => p b = true → p a = true) → l.filter p = l.take (l.countP p) ∧ l.filter (fun a => !p a) = l.drop (l.countP p)
 | [], _ => ⟨rfl, rfl⟩
 | x :: l, h => by
   obtain ⟨hx, hl⟩ := List.pairwise_cons.1 h
   obtain ⟨h1, h2⟩ := asc_split p l hl
   cases hp : p x with
   | true =>
     rw [List.countP_cons_of_pos hp]
     simp [hp, h1, h2]
   | false =>
     have hz : l.countP p = 0 := by
      rw [List.countP_eq_zero]
      intro a ha hpa
      have := hx a ha hpa
      rw [hp] at this
      cases this
     have hf : l.filter p = [] := by rw [h1, hz]; rfl
     have hd : l.filter (fun a => !p a) = l := by rw [h2, hz]; rfl
     rw [List.countP_cons_of_neg (by rw [hp]; decide), hz]
     simp [hp, hf, hd]
theorem Asc.split {l : List α} (h : Asc key l) (c : Int) :
 l.filter (fun a => decide (key a < c)) = l.take (l.countP fun a => decide (key a < c)) ∧ l.filter (fun a => !decide (key a < c)) = l.drop (l.countP fun a => decide (key a < c)) :=
 asc_split _ l (List.Pairwise.imp (fun {a b} hab hb => by
  have : key b < c := by simpa using hb
  simp only [decide_eq_true_eq]
  omega) h)
/-- The place of what stands in the list: as many precede it. -/
theorem Asc.place {l : List α} (h : Asc key l) {i : Nat} (hi : i < l.length) : (l.countP fun a => decide (key a < key l[i])) = i := by
 obtain ⟨h1, _⟩ := h.split (key l[i])
 have hc : (l.countP fun a => decide (key a < key l[i])) ≤ l.length := List.countP_le_length
 rcases Nat.lt_trichotomy (l.countP fun a => decide (key a < key l[i])) i with e | e | e
 ·-- the element at the count does not precede, yet stands ahead of i
  have hlt := h.lt e hi
  have hm : l[l.countP fun a => decide (key a < key l[i])]'(by omega) ∈ l.filter (fun a => decide (key a < key l[i])) := List.mem_filter.2 ⟨List.getElem_mem _, by simpa using hlt⟩
  rw [h1] at hm
  obtain ⟨j, hj, he⟩ := List.getElem_of_mem hm
  rw [List.getElem_take] at he
  rw [List.length_take] at hj
  have := h.lt (i := j) (j := l.countP fun a => decide (key a < key l[i])) (by omega) (by omega)
  rw [he] at this
  omega
 ·exact e
 ·have hm : l[i] ∈ l.take (l.countP fun a => decide (key a < key l[i])) := by
   rw [List.mem_take_iff_getElem]
   exact ⟨i, by omega, rfl⟩
  rw [← h1] at hm
  have := (List.mem_filter.1 hm).2
  simp at this
theorem ins_eq {l : List α} (h : Asc key l) {x : α} (hx : ∀ a ∈ l, key a ≠ key x) :
 ins key l x = l.take (l.countP fun a => decide (key a < key x)) ++ x :: l.drop (l.countP fun a => decide (key a < key x)) := by
 unfold ins
 rw [filter_ge hx, (h.split _).1, (h.split _).2]
/-- The i-th taken out: all that are not it. -/
theorem erase_eq [DecidableEq α] : ∀ {l : List α}, l.Nodup → ∀ {i : Nat} (hi : i < l.length), l.take i ++ l.drop (i + 1) = l.filter (fun a => decide (a ≠ l[i]))
 | x :: l, h, 0, hi => by
   obtain ⟨hx, hl⟩ := List.nodup_cons.1 h
   simp only [List.take_zero, List.drop_succ_cons, List.drop_zero, List.nil_append, List.getElem_cons_zero]
   rw [List.filter_cons_of_neg (by simp)]
   rw [List.filter_eq_self.2]
   intro a ha
   simp only [ne_eq, decide_eq_true_eq]
   rintro rfl
   exact hx ha
 | x :: l, h, i + 1, hi => by
   obtain ⟨hx, hl⟩ := List.nodup_cons.1 h
   have hi' : i < l.length := by simpa using hi
   simp only [List.take_succ_cons, List.drop_succ_cons, List.cons_append, List.getElem_cons_succ]
   rw [List.filter_cons_of_pos, erase_eq hl hi']
   simp only [ne_eq, decide_eq_true_eq]
   intro e
   rw [e] at hx
   exact hx (List.getElem_mem _)
end
end Go.Proofs.YtogmbeifbjgphaaGreat.M
namespace Go.Proofs.YtogmbeifbjgphaaGreat.M
set_option linter.unusedVariables false
set_option linter.unusedSimpArgs false
structure Nd where
 lab : Int
 num : Int
 deriving DecidableEq
structure Eg where
 lab : Int
 a : Nd
 b : Nd
 deriving DecidableEq
structure Op where
 kind : Int
 nd : Nd
 eg : Eg
 deriving DecidableEq
def okL (a : Int) : Bool := decide (0 ≤ a) && decide (a ≤ 7)
/-- Are all letters of the one among those of the other? -/
def under (a b : Int) : Bool := okL a && okL b && (a.toNat &&& b.toNat == a.toNat)
def okN (n : Nd) : Bool := okL n.lab && decide (0 ≤ n.num) && decide (n.num ≤ 40)
def code (n : Nd) : Int := 64 * n.lab + n.num
def okE (e : Eg) : Bool := okL e.lab && okN e.a && okN e.b && decide (code e.a < code e.b) && under e.a.lab e.lab && under e.b.lab e.lab
def key (e : Eg) : Int := e.lab * 1048576 + code e.a * 1024 + code e.b
theorem okL_iff {a : Int} : okL a = true ↔ 0 ≤ a ∧ a ≤ 7 := by simp [okL]
theorem okN_iff {n : Nd} : okN n = true ↔ (0 ≤ n.lab ∧ n.lab ≤ 7) ∧ 0 ≤ n.num ∧ n.num ≤ 40 := by simp [okN, okL, and_assoc]
theorem okE_iff {e : Eg} : okE e = true ↔ (0 ≤ e.lab ∧ e.lab ≤ 7) ∧ okN e.a = true ∧ okN e.b = true ∧ code e.a < code e.b ∧ under e.a.lab e.lab = true ∧ under e.b.lab e.lab = true := by simp [okE, okL, and_assoc]
theorem code_rng {n : Nd} (h : okN n = true) : 0 ≤ code n ∧ code n ≤ 488 := by
 have := okN_iff.1 h
 unfold code
 omega
theorem code_inj {a b : Nd} (ha : okN a = true) (hb : okN b = true) (h : code a = code b) : a = b := by
 have h1 := okN_iff.1 ha
 have h2 := okN_iff.1 hb
 unfold code at h
 cases a
 cases b
 simp only [Nd.mk.injEq] at *
 omega
theorem key_inj {x y : Eg} (hx : okE x = true) (hy : okE y = true) (h : key x = key y) : x = y := by
 obtain ⟨l1, a1, b1, _⟩ := okE_iff.1 hx
 obtain ⟨l2, a2, b2, _⟩ := okE_iff.1 hy
 have r1 := code_rng a1
 have r2 := code_rng a2
 have r3 := code_rng b1
 have r4 := code_rng b2
 unfold key at h
 have e1 := code_inj a1 a2 (by omega)
 have e2 := code_inj b1 b2 (by omega)
 cases x
 cases y
 simp only [Eg.mk.injEq] at *
 exact ⟨by rw [e1, e2] at h; omega, e1, e2⟩
/-- The keys' order is label, first end, second end. -/
theorem key_lt {x y : Eg} (hx : okE x = true) (hy : okE y = true) : key x < key y ↔ x.lab < y.lab ∨ x.lab = y.lab ∧ (code x.a < code y.a ∨ code x.a = code y.a ∧ code x.b < code y.b) := by
 obtain ⟨l1, a1, b1, _⟩ := okE_iff.1 hx
 obtain ⟨l2, a2, b2, _⟩ := okE_iff.1 hy
 have r1 := code_rng a1
 have r2 := code_rng a2
 have r3 := code_rng b1
 have r4 := code_rng b2
 unfold key
 omega
/-- A right graph. -/
structure OkG (ns : List Nd) (es : List Eg) : Prop where
 nok : ∀ n ∈ ns, okN n = true
 nasc : Asc code ns
 nfew : ∀ a, (ns.countP fun n => n.lab == a) ≤ 5
 eok : ∀ e ∈ es, okE e = true
 easc : Asc key es
 efew : ∀ a, (es.countP fun e => e.lab == a) ≤ 7
 ends : ∀ e ∈ es, e.a ∈ ns ∧ e.b ∈ ns
open Classical in
noncomputable def okG (ns : List Nd) (es : List Eg) : Bool := decide (OkG ns es)
theorem okG_true {ns : List Nd} {es : List Eg} : okG ns es = true ↔ OkG ns es := by simp [okG]
theorem okG_false {ns : List Nd} {es : List Eg} : okG ns es = false ↔ ¬ OkG ns es := by simp [okG]
def zN : Nd := ⟨0, 0⟩
def zE : Eg := ⟨0, zN, zN⟩
def opLabel (op : Op) : Int :=
 if op.kind = 1 ∨ op.kind = 4 then (if okN op.nd = true ∧ op.eg = zE then op.nd.lab else -1)
 else if op.kind = 2 ∨ op.kind = 3 then (if okE op.eg = true ∧ op.nd = zN then op.eg.lab else -1)
 else -1
/-- How it ends: 0 done, 2 there, 3 none, 4 full. -/
def endOf (ns : List Nd) (es : List Eg) (op : Op) : Int :=
 if op.kind = 1 then (if op.nd ∈ ns then 2 else if 5 ≤ (ns.countP fun n => n.lab == op.nd.lab) then 4 else 0)
 else if op.kind = 2 then (if op.eg ∈ es then 2 else if op.eg.a ∈ ns ∧ op.eg.b ∈ ns then (if 7 ≤ (es.countP fun e => e.lab == op.eg.lab) then 4 else 0) else 3)
 else if op.kind = 3 then (if op.eg ∈ es then 0 else 3)
 else (if op.nd ∈ ns then 0 else 3)
def nodesAfter (ns : List Nd) (op : Op) : List Nd := if op.kind = 1 then ins code ns op.nd else if op.kind = 4 then ns.filter (fun n => decide (n ≠ op.nd)) else ns
def edgesAfter (es : List Eg) (op : Op) : List Eg :=
 if op.kind = 2 then ins key es op.eg else if op.kind = 3 then es.filter (fun e => decide (e ≠ op.eg)) else if op.kind = 4 then es.filter (fun e => decide (e.a ≠ op.nd ∧ e.b ≠ op.nd)) else es
noncomputable def doN (ns : List Nd) (es : List Eg) (op : Op) : List Nd := if okG ns es = true then (if 0 ≤ opLabel op ∧ endOf ns es op = 0 then nodesAfter ns op else ns) else []
noncomputable def doE (ns : List Nd) (es : List Eg) (op : Op) : List Eg := if okG ns es = true then (if 0 ≤ opLabel op ∧ endOf ns es op = 0 then edgesAfter es op else es) else []
noncomputable def doC (ns : List Nd) (es : List Eg) (op : Op) : Int := if okG ns es = true then (if 0 ≤ opLabel op then endOf ns es op else 1) else 1
/-- Does an edge join the two? -/
def adjE (es : List Eg) (n m : Nd) : Bool := es.any fun e => (e.a == n && e.b == m) || (e.b == n && e.a == m)
noncomputable def nearG (ns : List Nd) (es : List Eg) (n : Nd) : List Nd := if okG ns es = true then ns.filter (fun m => adjE es n m) else []
/-! what the label tells -/
theorem opLabel_node {op : Op} (h : 0 ≤ opLabel op) (hk : op.kind = 1 ∨ op.kind = 4) : okN op.nd = true ∧ op.eg = zE ∧ opLabel op = op.nd.lab := by
 unfold opLabel at *
 rw [if_pos hk] at *
 split at h
 ·rename_i c
  rw [if_pos c]
  exact ⟨c.1, c.2, rfl⟩
 ·omega
theorem opLabel_edge {op : Op} (h : 0 ≤ opLabel op) (hk : op.kind = 2 ∨ op.kind = 3) : okE op.eg = true ∧ op.nd = zN ∧ opLabel op = op.eg.lab := by
 unfold opLabel at *
 rw [if_neg (by omega), if_pos hk] at *
 split at h
 ·rename_i c
  rw [if_pos c]
  exact ⟨c.1, c.2, rfl⟩
 ·omega
theorem opLabel_kind {op : Op} (h : 0 ≤ opLabel op) : op.kind = 1 ∨ op.kind = 2 ∨ op.kind = 3 ∨ op.kind = 4 := by
 unfold opLabel at h
 split at h
 ·omega
 ·split at h
  ·omega
  ·omega
theorem countP_ins {α : Type} {key : α → Int} {l : List α} {x : α} (h : ∀ a ∈ l, key a ≠ key x) (p : α → Bool) : (ins key l x).countP p = l.countP p + (if p x = true then 1 else 0) := by
 unfold ins
 rw [filter_ge h, List.countP_append, List.countP_cons, List.countP_eq_countP_filter_add l p (fun a => decide (key a < key x))]
 omega
theorem mem_ins_ok {α : Type} {key : α → Int} {l : List α} {x : α} {ok : α → Bool} (hl : ∀ a ∈ l, ok a = true) (hx : ok x = true) (hi : ∀ a b, ok a = true → ok b = true → key a = key b → a = b) (y : α) : y ∈ ins key l x ↔ y = x ∨ y ∈ l :=
 mem_ins (fun a ha e => hi a x (hl a ha) hx e) y
theorem key_ne {α : Type} {key : α → Int} {l : List α} {x : α} {ok : α → Bool} (hl : ∀ a ∈ l, ok a = true) (hx : ok x = true) (hi : ∀ a b, ok a = true → ok b = true → key a = key b → a = b) (hn : x ∉ l) : ∀ a ∈ l, key a ≠ key x :=
 fun a ha e => hn (hi a x (hl a ha) hx e ▸ ha)
/-! a right graph stays right -/
theorem after_ok {ns : List Nd} {es : List Eg} {op : Op} (h : OkG ns es) (hl : 0 ≤ opLabel op) (he : endOf ns es op = 0) : OkG (nodesAfter ns op) (edgesAfter es op) := by
 rcases opLabel_kind hl with k | k | k | k
 ·obtain ⟨h1, _, _⟩ := opLabel_node hl (.inl k)
  unfold endOf at he
  unfold nodesAfter edgesAfter
  rw [if_pos k] at he
  simp only [k, if_true] at *
  have hn : op.nd ∉ ns := by
   intro hn
   rw [if_pos hn] at he
   omega
  rw [if_neg hn] at he
  have hc : ¬ 5 ≤ (ns.countP fun n => n.lab == op.nd.lab) := by
   intro hc
   rw [if_pos hc] at he
   omega
  have hne := key_ne (key := code) h.nok h1 (fun _ _ => code_inj) hn
  have hm := fun y => mem_ins_ok (key := code) h.nok h1 (fun _ _ => code_inj) y
  refine ⟨fun n hn' => ?_, asc_ins h.nasc _, fun a => ?_, by simpa using h.eok, by simpa using h.easc, by simpa using h.efew, fun e he' => ?_⟩
  ·rcases (hm n).1 hn' with rfl | hn'
   ·exact h1
   ·exact h.nok n hn'
  ·rw [countP_ins hne]
   have := h.nfew a
   by_cases e : op.nd.lab = a
   ·subst e
    simp
    omega
   ·rw [if_neg (by simpa using e)]
    omega
  ·have := h.ends e (by simpa using he')
   exact ⟨(hm _).2 (.inr this.1), (hm _).2 (.inr this.2)⟩
 ·obtain ⟨h1, _, _⟩ := opLabel_edge hl (.inl k)
  unfold endOf at he
  unfold nodesAfter edgesAfter
  rw [if_neg (by omega), if_pos k] at he
  have hn : op.eg ∉ es := by
   intro hn
   rw [if_pos hn] at he
   omega
  rw [if_neg hn] at he
  have hab : op.eg.a ∈ ns ∧ op.eg.b ∈ ns := by
   refine Decidable.byContradiction fun hab => ?_
   rw [if_neg hab] at he
   omega
  rw [if_pos hab] at he
  have hc : ¬ 7 ≤ (es.countP fun e => e.lab == op.eg.lab) := by
   intro hc
   rw [if_pos hc] at he
   omega
  rw [if_neg (by omega), if_neg (by omega), if_pos k]
  have hne := key_ne (key := key) h.eok h1 (fun _ _ => key_inj) hn
  have hm := fun y => mem_ins_ok (key := key) h.eok h1 (fun _ _ => key_inj) y
  refine ⟨h.nok, h.nasc, h.nfew, fun e he' => ?_, asc_ins h.easc _, fun a => ?_, fun e he' => ?_⟩
  ·rcases (hm e).1 he' with rfl | he'
   ·exact h1
   ·exact h.eok e he'
  ·rw [countP_ins hne]
   have := h.efew a
   by_cases e : op.eg.lab = a
   ·subst e
    simp
    omega
   ·rw [if_neg (by simpa using e)]
    omega
  ·rcases (hm e).1 he' with rfl | he'
   ·exact hab
   ·exact h.ends e he'
 ·unfold nodesAfter edgesAfter
  rw [if_neg (by omega), if_neg (by omega), if_neg (by omega), if_pos k]
  exact ⟨h.nok, h.nasc, h.nfew, fun e he' => h.eok e (List.mem_filter.1 he').1, h.easc.filter _, fun a => Nat.le_trans ((List.filter_sublist).countP_le) (h.efew a), fun e he' => h.ends e (List.mem_filter.1 he').1⟩
 ·unfold nodesAfter edgesAfter
  rw [if_neg (by omega), if_pos k, if_neg (by omega), if_neg (by omega), if_pos k]
  refine ⟨fun n hn => h.nok n (List.mem_filter.1 hn).1, h.nasc.filter _, fun a => Nat.le_trans ((List.filter_sublist).countP_le) (h.nfew a), fun e he' => h.eok e (List.mem_filter.1 he').1, h.easc.filter _, fun a => Nat.le_trans ((List.filter_sublist).countP_le) (h.efew a), fun e he' => ?_⟩
  obtain ⟨h1, h2⟩ := List.mem_filter.1 he'
  have h3 := h.ends e h1
  simp only [ne_eq, decide_eq_true_eq] at h2
  exact ⟨List.mem_filter.2 ⟨h3.1, by simpa using h2.1⟩, List.mem_filter.2 ⟨h3.2, by simpa using h2.2⟩⟩
end Go.Proofs.YtogmbeifbjgphaaGreat.M
namespace Go.Proofs.YtogmbeifbjgphaaGreat.M
set_option linter.unusedVariables false
set_option linter.unusedSimpArgs false
variable {ns : List Nd} {es : List Eg} {op : Op}
theorem doC_zero (h : doC ns es op = 0) : OkG ns es ∧ 0 ≤ opLabel op ∧ endOf ns es op = 0 ∧ doN ns es op = nodesAfter ns op ∧ doE ns es op = edgesAfter es op := by
 unfold doC at h
 split at h
 ·rename_i hg
  split at h
  ·rename_i hl
   refine ⟨okG_true.1 hg, hl, h, ?_, ?_⟩
   ·unfold doN
    rw [if_pos hg, if_pos ⟨hl, h⟩]
   ·unfold doE
    rw [if_pos hg, if_pos ⟨hl, h⟩]
  ·omega
 ·omega
theorem doC_ne (hg : OkG ns es) (h : doC ns es op ≠ 0) : doN ns es op = ns ∧ doE ns es op = es := by
 have hg' := okG_true.2 hg
 unfold doC at h
 rw [if_pos hg'] at h
 unfold doN doE
 rw [if_pos hg', if_pos hg']
 have : ¬ (0 ≤ opLabel op ∧ endOf ns es op = 0) := by
  rintro ⟨h1, h2⟩
  rw [if_pos h1] at h
  exact h h2
 rw [if_neg this, if_neg this]
 exact ⟨rfl, rfl⟩
theorem do_ok (hg : OkG ns es) : OkG (doN ns es op) (doE ns es op) := by
 by_cases h : doC ns es op = 0
 ·obtain ⟨_, h1, h2, h3, h4⟩ := doC_zero h
  rw [h3, h4]
  exact after_ok hg h1 h2
 ·obtain ⟨h1, h2⟩ := doC_ne hg h
  rw [h1, h2]
  exact hg
theorem doC_of {ns : List Nd} {es : List Eg} (hg : OkG ns es) (h : 0 ≤ opLabel op) : doC ns es op = endOf ns es op := by
 unfold doC
 rw [if_pos (okG_true.2 hg), if_pos h]
/-! what 'done' says, kind by kind -/
theorem fine_edge (h : doC ns es op = 0) (k : op.kind = 2) : okE op.eg = true ∧ op.nd = zN ∧ op.eg ∉ es ∧ (op.eg.a ∈ ns ∧ op.eg.b ∈ ns) ∧ (es.countP fun e => e.lab == op.eg.lab) < 7 ∧ doN ns es op = ns ∧ doE ns es op = ins key es op.eg := by
 obtain ⟨hg, hl, he, h3, h4⟩ := doC_zero h
 obtain ⟨h1, h2, _⟩ := opLabel_edge hl (.inl k)
 unfold endOf at he
 rw [if_neg (by omega), if_pos k] at he
 have hn : op.eg ∉ es := by
  intro hn
  rw [if_pos hn] at he
  omega
 rw [if_neg hn] at he
 have hab : op.eg.a ∈ ns ∧ op.eg.b ∈ ns := by
  refine Decidable.byContradiction fun hab => ?_
  rw [if_neg hab] at he
  omega
 rw [if_pos hab] at he
 refine ⟨h1, h2, hn, hab, Nat.lt_of_not_le fun hc => ?_, ?_, ?_⟩
 ·rw [if_pos hc] at he
  omega
 ·rw [h3]
  unfold nodesAfter
  rw [if_neg (by omega), if_neg (by omega)]
 ·rw [h4]
  unfold edgesAfter
  rw [if_pos k]
theorem fine_cut (h : doC ns es op = 0) (k : op.kind = 3) : okE op.eg = true ∧ op.nd = zN ∧ op.eg ∈ es ∧ doN ns es op = ns ∧ doE ns es op = es.filter (fun e => decide (e ≠ op.eg)) := by
 obtain ⟨hg, hl, he, h3, h4⟩ := doC_zero h
 obtain ⟨h1, h2, _⟩ := opLabel_edge hl (.inr k)
 unfold endOf at he
 rw [if_neg (by omega), if_neg (by omega), if_pos k] at he
 refine ⟨h1, h2, ?_, ?_, ?_⟩
 ·refine Decidable.byContradiction fun hn => ?_
  rw [if_neg hn] at he
  omega
 ·rw [h3]
  unfold nodesAfter
  rw [if_neg (by omega), if_neg (by omega)]
 ·rw [h4]
  unfold edgesAfter
  rw [if_neg (by omega), if_pos k]
theorem fine_gone (h : doC ns es op = 0) (k : op.kind = 4) : okN op.nd = true ∧ op.eg = zE ∧ op.nd ∈ ns ∧ doN ns es op = ns.filter (fun n => decide (n ≠ op.nd)) ∧ doE ns es op = es.filter (fun e => decide (e.a ≠ op.nd ∧ e.b ≠ op.nd)) := by
 obtain ⟨hg, hl, he, h3, h4⟩ := doC_zero h
 obtain ⟨h1, h2, _⟩ := opLabel_node hl (.inr k)
 unfold endOf at he
 rw [if_neg (by omega), if_neg (by omega), if_neg (by omega)] at he
 refine ⟨h1, h2, ?_, ?_, ?_⟩
 ·refine Decidable.byContradiction fun hn => ?_
  rw [if_neg hn] at he
  omega
 ·rw [h3]
  unfold nodesAfter
  rw [if_neg (by omega), if_pos k]
 ·rw [h4]
  unfold edgesAfter
  rw [if_neg (by omega), if_neg (by omega), if_pos k]
theorem fine_kind (h : doC ns es op = 0) : op.kind = 1 ∨ op.kind = 2 ∨ op.kind = 3 ∨ op.kind = 4 := opLabel_kind (doC_zero h).2.1
theorem mem_insE {ns : List Nd} {es : List Eg} (hg : OkG ns es) {e : Eg} (hn : okE e = true) (y : Eg) : y ∈ ins key es e ↔ y = e ∨ y ∈ es := mem_ins_ok hg.eok hn (fun _ _ => key_inj) y
/-! done once more, it ends otherwise; and something has turned -/
theorem endOf4 (k : op.kind = 4) : endOf ns es op = if op.nd ∈ ns then 0 else 3 := by
 unfold endOf
 rw [if_neg (by omega), if_neg (by omega), if_neg (by omega)]
theorem adjE_iff {es : List Eg} {n m : Nd} : adjE es n m = true ↔ ∃ e ∈ es, (e.a = n ∧ e.b = m) ∨ (e.b = n ∧ e.a = m) := by
 unfold adjE
 rw [List.any_eq_true]
 simp only [Bool.or_eq_true, Bool.and_eq_true, beq_iff_eq]
theorem adjE_ne (hg : OkG ns es) {n m : Nd} (h : adjE es n m = true) : n ≠ m := by
 obtain ⟨e, he, h⟩ := adjE_iff.1 h
 have := (okE_iff.1 (hg.eok e he)).2.2.2.1
 rintro rfl
 rcases h with ⟨h1, h2⟩ | ⟨h1, h2⟩ <;> (rw [h1, h2] at this; omega)
theorem adjE_mem (hg : OkG ns es) {n m : Nd} (h : adjE es n m = true) : n ∈ ns ∧ m ∈ ns := by
 obtain ⟨e, he, h⟩ := adjE_iff.1 h
 have := hg.ends e he
 rcases h with ⟨h1, h2⟩ | ⟨h1, h2⟩
 ·rw [h1, h2] at this
  exact this
 ·rw [h1, h2] at this
  exact this.symm
theorem adjE_sub {es fs : List Eg} (h : ∀ e ∈ es, e ∈ fs) {n m : Nd} (ha : adjE es n m = true) : adjE fs n m = true := by
 obtain ⟨e, he, h'⟩ := adjE_iff.1 ha
 exact adjE_iff.2 ⟨e, h e he, h'⟩
theorem near_of (hg : OkG ns es) (n : Nd) : nearG ns es n = ns.filter (fun m => adjE es n m) := by
 unfold nearG
 rw [if_pos (okG_true.2 hg)]
theorem mem_near (hg : OkG ns es) {n m : Nd} : m ∈ nearG ns es n ↔ adjE es n m = true := by
 rw [near_of hg, List.mem_filter]
 exact ⟨fun h => h.2, fun h => ⟨(adjE_mem hg h).2, h⟩⟩
end Go.Proofs.YtogmbeifbjgphaaGreat.M
namespace Go.Proofs.YtogmbeifbjgphaaGreat.M
set_option linter.unusedVariables false
set_option linter.unusedSimpArgs false
/-- A way of so many steps. -/
inductive Way (adj : Nat → Nat → Bool) : Nat → Nat → Nat → Prop
 | here (s : Nat) : Way adj 0 s s
 | step {k s u v : Nat} (h : Way adj k s u) (e : adj u v = true) : Way adj (k + 1) s v
section
variable {adj : Nat → Nat → Bool}
theorem Way.zero {s v : Nat} (h : Way adj 0 s v) : s = v := by cases h; rfl
theorem Way.last {k s v : Nat} (h : Way adj (k + 1) s v) : ∃ u, Way adj k s u ∧ adj u v = true := by
 cases h with
 | step h e => exact ⟨_, h, e⟩
theorem Way.mono {adj' : Nat → Nat → Bool} (hs : ∀ u v, adj u v = true → adj' u v = true) {k s v : Nat} (h : Way adj k s v) : Way adj' k s v := by
 induction h with
 | here => exact .here _
 | step _ e ih => exact .step ih (hs _ _ e)
theorem Way.map {adj' : Nat → Nat → Bool} (f : Nat → Nat) (hs : ∀ u v, adj u v = true → adj' (f u) (f v) = true) {k s v : Nat} (h : Way adj k s v) : Way adj' k (f s) (f v) := by
 induction h with
 | here => exact .here _
 | step _ e ih => exact .step ih (hs _ _ e)
end
theorem least (P : Nat → Prop) (h : ∃ k, P k) : ∃ k, P k ∧ ∀ j, P j → k ≤ j := by
 obtain ⟨k, hk⟩ := h
 induction k using Nat.strongRecOn with
 | ind k ih =>
   by_cases h : ∃ j, j < k ∧ P j
   ·obtain ⟨j, h1, h2⟩ := h
    exact ih j h1 h2
   ·refine ⟨k, hk, fun j hj => ?_⟩
    rcases Nat.lt_or_ge j k with h1 | h1
    ·exact absurd ⟨j, h1, hj⟩ h
    ·exact h1
open Classical in
/-- How far; -1 where no way leads. -/
noncomputable def dist (adj : Nat → Nat → Bool) (s v : Nat) : Int := if h : ∃ k, Way adj k s v then ((Classical.choose (least _ h) : Nat) : Int) else -1
structure IsDist (adj : Nat → Nat → Bool) (s v : Nat) (d : Int) : Prop where
 low : -1 ≤ d
 way : 0 ≤ d → Way adj d.toNat s v
 few : ∀ k, Way adj k s v → 0 ≤ d ∧ d ≤ k
theorem IsDist.uniq {adj : Nat → Nat → Bool} {s v : Nat} {d d' : Int} (h : IsDist adj s v d) (h' : IsDist adj s v d') : d = d' := by
 have l1 := h.low
 have l2 := h'.low
 by_cases h0 : 0 ≤ d
 ·have := h'.few _ (h.way h0)
  have := h.few _ (h'.way this.1)
  omega
 ·by_cases h1 : 0 ≤ d'
  ·have := h.few _ (h'.way h1)
   omega
  ·omega
section
variable {adj : Nat → Nat → Bool}
theorem dist_is (s v : Nat) : IsDist adj s v (dist adj s v) := by
 unfold dist
 split
 ·rename_i h
  obtain ⟨h1, h2⟩ := Classical.choose_spec (least _ h)
  exact ⟨by omega, fun _ => by rw [Int.toNat_natCast]; exact h1, fun k hk => ⟨by omega, by have := h2 k hk; omega⟩⟩
 ·rename_i h
  exact ⟨by omega, fun h0 => by omega, fun k hk => absurd ⟨k, hk⟩ h⟩
theorem dist_way {s v : Nat} (h : 0 ≤ dist adj s v) : Way adj (dist adj s v).toNat s v := (dist_is s v).way h
theorem dist_le {k s v : Nat} (h : Way adj k s v) : 0 ≤ dist adj s v ∧ dist adj s v ≤ k := (dist_is s v).few k h
theorem dist_self (s : Nat) : dist adj s s = 0 := by
 have := dist_le (Way.here (adj := adj) s)
 omega
theorem dist_zero {s v : Nat} (h : dist adj s v = 0) : s = v := by
 have := dist_way (adj := adj) (s := s) (v := v) (by omega)
 rw [h] at this
 exact this.zero
theorem dist_adj {s u v : Nat} (h : 0 ≤ dist adj s u) (e : adj u v = true) : 0 ≤ dist adj s v ∧ dist adj s v ≤ dist adj s u + 1 := by
 have := dist_le ((dist_way h).step e)
 omega
theorem dist_map {adj' : Nat → Nat → Bool} (f : Nat → Nat) (hs : ∀ u v, adj u v = true → adj' (f u) (f v) = true) {s v : Nat} (h : 0 ≤ dist adj s v) : 0 ≤ dist adj' (f s) (f v) ∧ dist adj' (f s) (f v) ≤ dist adj s v := by
 have := dist_le ((dist_way h).map f hs)
 omega
end
/-- The distances from s, place by place. -/
noncomputable def distL (adj : Nat → Nat → Bool) (n s : Nat) : List Int := (List.range n).map (dist adj s)
/-! ### the search -/
def gt (st : List Int) (v : Nat) : Int := st.getD v 0
theorem gt_set {st : List Int} {v : Nat} (hv : v < st.length) (x : Int) (u : Nat) : gt (st.set v x) u = if v = u then x else gt st u := by
 unfold gt
 simp only [List.getD_eq_getElem?_getD, List.getElem?_set]
 by_cases h : v = u
 ·subst h
  simp [hv]
 ·simp [h]
theorem gt_ext {st st' : List Int} (hl : st.length = st'.length) (h : ∀ v, v < st.length → gt st v = gt st' v) : st = st' := by
 apply List.ext_getElem hl
 intro i h1 h2
 have := h i h1
 unfold gt at this
 simpa [List.getD_eq_getElem?_getD, h1, h2] using this
theorem gt_distL {adj : Nat → Nat → Bool} {n s v : Nat} (hv : v < n) : gt (distL adj n s) v = dist adj s v := by
 unfold gt distL
 simp [List.getD_eq_getElem?_getD, hv]
theorem distL_length (adj : Nat → Nat → Bool) (n s : Nat) : (distL adj n s).length = n := by simp [distL]
/-- What the search keeps: q the places met, those ahead of 'next' done, of the next one the places of r. -/
structure Bfs (adj : Nat → Nat → Bool) (n s : Nat) (st : List Int) (q : List Nat) (next : Nat) (r : List Nat) : Prop where
 len : st.length = n
 start : q[0]? = some s
 inq : ∀ v, v < n → (v ∈ q ↔ 0 ≤ gt st v)
 qlt : ∀ v ∈ q, v < n
 nodup : q.Nodup
 low : ∀ v, v < n → -1 ≤ gt st v
 s0 : gt st s = 0
 way : ∀ v ∈ q, Way adj (gt st v).toNat s v
 mono : ∀ i j : Nat, i ≤ j → ∀ a b, q[i]? = some a → q[j]? = some b → gt st a ≤ gt st b
 near : ∀ c, q[next]? = some c → ∀ v ∈ q, gt st v ≤ gt st c + 1
 done : ∀ i, i < next → ∀ a, q[i]? = some a → ∀ v, v < n → adj a v = true → 0 ≤ gt st v ∧ gt st v ≤ gt st a + 1
 part : ∀ c, q[next]? = some c → ∀ v ∈ r, v < n → 0 ≤ gt st v ∧ gt st v ≤ gt st c + 1
theorem gt_replicate {n v : Nat} (h : v < n) : gt (List.replicate n (-1)) v = -1 := by
 unfold gt
 simp [List.getD_eq_getElem?_getD, h]
section
variable {adj : Nat → Nat → Bool} {n s : Nat} {st : List Int} {q r : List Nat} {next : Nat}
theorem Bfs.begin (hs : s < n) : Bfs adj n s ((List.replicate n (-1)).set s 0) [s] 0 [] := by
 have hl : s < (List.replicate n (-1 : Int)).length := by simpa using hs
 have hg : ∀ v, v < n → gt ((List.replicate n (-1)).set s 0) v = if s = v then 0 else -1 := fun v hv => by
  rw [gt_set hl, gt_replicate hv]
 refine ⟨by simp, rfl, fun v hv => ?_, by simpa using hs, by simp, fun v hv => ?_, by rw [hg s hs, if_pos rfl], fun v hv => ?_, fun i j hij a b ha hb => ?_, fun c hc v hv => ?_, fun i hi => by omega, fun c hc v hv => by simp at hv⟩
 ·rw [hg v hv, List.mem_singleton]
  by_cases e : s = v
  ·simp [e]
  ·rw [if_neg e]
   exact ⟨fun h => absurd h.symm e, fun h => by omega⟩
 ·rw [hg v hv]
  split <;> omega
 ·obtain rfl := List.mem_singleton.1 hv
  rw [hg v hs, if_pos rfl]
  exact .here v
 ·have ha' := List.mem_of_getElem? ha
  have hb' := List.mem_of_getElem? hb
  obtain rfl := List.mem_singleton.1 ha'
  obtain rfl := List.mem_singleton.1 hb'
  omega
 ·have hc' := List.mem_of_getElem? hc
  obtain rfl := List.mem_singleton.1 hc'
  obtain rfl := List.mem_singleton.1 hv
  omega
theorem Bfs.skip {c v : Nat} (h : Bfs adj n s st q next r) (hc : q[next]? = some c) (hv : v < n) (hs : 0 ≤ gt st v) : Bfs adj n s st q next (r ++ [v]) :=
 { h with
  part := fun c' hc' u hu hun => by
   rw [hc] at hc'
   obtain rfl := Option.some.inj hc'
   rcases List.mem_append.1 hu with hu | hu
   ·exact h.part c hc u hu hun
   ·obtain rfl := List.mem_singleton.1 hu
    exact ⟨hs, h.near c hc u ((h.inq u hv).2 hs)⟩ }
theorem Bfs.meet {c v : Nat} (h : Bfs adj n s st q next r) (hc : q[next]? = some c) (hv : v < n) (ha : adj c v = true) (hs : gt st v < 0) : Bfs adj n s (st.set v (gt st c + 1)) (q ++ [v]) next (r ++ [v]) := by
 have hl : v < st.length := by rw [h.len]; exact hv
 have hcq : c ∈ q := List.mem_of_getElem? hc
 have hcn := h.qlt c hcq
 have hc0 := (h.inq c hcn).1 hcq
 have hg : ∀ u, gt (st.set v (gt st c + 1)) u = if v = u then gt st c + 1 else gt st u := gt_set hl _
 have hvq : v ∉ q := fun hq => by have := (h.inq v hv).1 hq; omega
 have hold : ∀ u ∈ q, gt (st.set v (gt st c + 1)) u = gt st u := fun u hu => by
  rw [hg, if_neg (fun e => hvq (by rw [e]; exact hu))]
 have hnx : next < q.length := (List.getElem?_eq_some_iff.1 hc).1
 have hc' : (q ++ [v])[next]? = some c := by rw [List.getElem?_append_left hnx]; exact hc
 refine ⟨by rw [List.length_set]; exact h.len, ?_, fun u hu => ?_, fun u hu => ?_, ?_, fun u hu => ?_, ?_, fun u hu => ?_, fun i j hij a b ha hb => ?_, fun c' hc'' u hu => ?_, fun i hi a ha u hu e => ?_, fun c' hc'' u hu hun => ?_⟩
 ·rw [List.getElem?_append_left (by omega)]
  exact h.start
 ·rw [hg, List.mem_append, List.mem_singleton]
  by_cases e : v = u
  ·subst e
   simp
   omega
  ·rw [if_neg e, h.inq u hu]
   exact ⟨fun q => q.resolve_right (fun e' => e e'.symm), .inl⟩
 ·rcases List.mem_append.1 hu with hu | hu
  ·exact h.qlt u hu
  ·obtain rfl := List.mem_singleton.1 hu
   exact hv
 ·rw [List.nodup_append]
  refine ⟨h.nodup, by simp, fun a hza b hb => ?_⟩
  obtain rfl := List.mem_singleton.1 hb
  rintro rfl
  exact hvq hza
 ·rw [hg]
  split
  ·omega
  ·exact h.low u hu
 ·rw [hold s (List.mem_of_getElem? h.start)]
  exact h.s0
 ·rcases List.mem_append.1 hu with hu | hu
  ·rw [hold u hu]
   exact h.way u hu
  ·obtain rfl := List.mem_singleton.1 hu
   rw [hg, if_pos rfl, show (gt st c + 1).toNat = (gt st c).toNat + 1 by omega]
   exact (h.way c hcq).step ha
 ·have hla := (List.getElem?_eq_some_iff.1 ha).1
  have hlb := (List.getElem?_eq_some_iff.1 hb).1
  rw [List.length_append, List.length_singleton] at hla hlb
  rcases Nat.lt_or_ge j q.length with hj | hj
  ·rw [List.getElem?_append_left (by omega)] at ha hb
   rw [hold a (List.mem_of_getElem? ha), hold b (List.mem_of_getElem? hb)]
   exact h.mono i j hij a b ha hb
  ·have hjl : j = q.length := by omega
   subst hjl
   have hb' : v = b := by simpa using hb
   subst hb'
   rw [hg v, if_pos rfl]
   rcases Nat.lt_or_ge i q.length with hi | hi
   ·rw [List.getElem?_append_left hi] at ha
    rw [hold a (List.mem_of_getElem? ha)]
    exact h.near c hc a (List.mem_of_getElem? ha)
   ·have hil : i = q.length := by omega
    subst hil
    have ha' : v = a := by simpa using ha
    subst ha'
    rw [hg, if_pos rfl]
    omega
 ·rw [hc'] at hc''
  obtain rfl := Option.some.inj hc''
  rw [hold c hcq]
  rcases List.mem_append.1 hu with hu | hu
  ·rw [hold u hu]
   exact h.near c hc u hu
  ·obtain rfl := List.mem_singleton.1 hu
   rw [hg, if_pos rfl]
   omega
 ·rw [List.getElem?_append_left (by omega)] at ha
  have haq := List.mem_of_getElem? ha
  rw [hold a haq]
  have := h.done i hi a ha u hu e
  rw [hg, if_neg (fun e' => by subst e'; omega)]
  exact this
 ·rw [hc'] at hc''
  obtain rfl := Option.some.inj hc''
  rw [hold c hcq]
  rcases List.mem_append.1 hu with hu | hu
  ·have := h.part c hc u hu hun
   rw [hg, if_neg (fun e' => by subst e'; omega)]
   exact this
  ·obtain rfl := List.mem_singleton.1 hu
   rw [hg, if_pos rfl]
   omega
theorem Bfs.close {c : Nat} (h : Bfs adj n s st q next r) (hc : q[next]? = some c) (hr : ∀ v, v < n → adj c v = true → v ∈ r) : Bfs adj n s st q (next + 1) [] :=
 { h with
  near := fun c' hc' v hv => by
   have h1 := h.near c hc v hv
   have h2 := h.mono next (next + 1) (by omega) c c' hc hc'
   omega
  done := fun i hi a ha v hv e => by
   rcases Nat.lt_or_eq_of_le (Nat.le_of_lt_succ hi) with h1 | h1
   ·exact h.done i h1 a ha v hv e
   ·subst h1
    rw [hc] at ha
    obtain rfl := Option.some.inj ha
    exact h.part c hc v (hr v hv e) hv
  part := fun c' hc' v hv => by simp at hv }
theorem nodup_le {n : Nat} : ∀ {l : List Nat}, l.Nodup → (∀ v ∈ l, v < n) → l.length ≤ n := by
 induction n with
 | zero =>
   intro l _ h
   cases l with
   | nil => simp
   | cons a l => exact absurd (h a (by simp)) (by omega)
 | succ n ih =>
   intro l hd h
   have h1 := ih (l := l.filter (fun v => decide (v ≠ n))) (hd.filter _) (fun v hv => by
    obtain ⟨h1, h2⟩ := List.mem_filter.1 hv
    have := h v h1
    simp only [ne_eq, decide_eq_true_eq] at h2
    omega)
   have h2 : l.length ≤ (l.filter (fun v => decide (v ≠ n))).length + 1 := by
    clear ih h1 h
    induction l with
    | nil => simp
    | cons a l ihl =>
      obtain ⟨ha, hl⟩ := List.nodup_cons.1 hd
      by_cases e : a = n
      ·subst e
       have : l.filter (fun v => decide (v ≠ a)) = l := by
        rw [List.filter_eq_self]
        intro b hb
        simp only [ne_eq, decide_eq_true_eq]
        rintro rfl
        exact ha hb
       rw [List.filter_cons_of_neg (by simp), this, List.length_cons]
       exact Nat.le_refl _
      ·have := ihl hl
       rw [List.filter_cons_of_pos (by simpa using e), List.length_cons, List.length_cons]
       omega
   omega
theorem Bfs.size (h : Bfs adj n s st q next r) : q.length ≤ n := nodup_le h.nodup h.qlt
theorem Bfs.end_ (hn : ∀ u v, adj u v = true → u < n ∧ v < n) (h : Bfs adj n s st q next r) (he : q.length ≤ next) : st = distL adj n s ∧ (∀ v, v ∈ q ↔ v < n ∧ 0 ≤ dist adj s v) := by
 have hsq : s ∈ q := List.mem_of_getElem? h.start
 have hsn := h.qlt s hsq
 have hup : ∀ k v, Way adj k s v → v < n ∧ 0 ≤ gt st v ∧ gt st v ≤ k := by
  intro k
  induction k with
  | zero =>
    intro v hw
    obtain rfl := hw.zero
    have := h.s0
    exact ⟨hsn, by omega, by omega⟩
  | succ k ih =>
    intro v hw
    obtain ⟨u, hu, e⟩ := hw.last
    obtain ⟨h1, h2, h3⟩ := ih u hu
    have huq := (h.inq u h1).2 h2
    obtain ⟨i, hi, hie⟩ := List.getElem_of_mem huq
    have := h.done i (by omega) u (by rw [List.getElem?_eq_getElem hi, hie]) v (hn u v e).2 e
    exact ⟨(hn u v e).2, this.1, by omega⟩
 have hd : ∀ v, v < n → IsDist adj s v (gt st v) := fun v hv =>
  ⟨h.low v hv, fun h0 => h.way v ((h.inq v hv).2 h0), fun k hk => (hup k v hk).2⟩
 have heq : ∀ v, v < n → gt st v = dist adj s v := fun v hv => (hd v hv).uniq (dist_is s v)
 refine ⟨gt_ext (by rw [h.len, distL_length]) fun v hv => ?_, fun v => ⟨fun hq => ?_, fun hq => ?_⟩⟩
 ·rw [h.len] at hv
  rw [gt_distL hv]
  exact heq v hv
 ·have := h.qlt v hq
  exact ⟨this, by rw [← heq v this]; exact (h.inq v this).1 hq⟩
 ·exact (h.inq v hq.1).2 (by rw [heq v hq.1]; exact hq.2)
end
end Go.Proofs.YtogmbeifbjgphaaGreat.M
namespace Go.Proofs.YtogmbeifbjgphaaGreat.M
set_option linter.unusedVariables false
set_option linter.unusedSimpArgs false
def sm : Nat → (Nat → Nat) → Nat
 | 0, _ => 0
 | n + 1, f => sm n f + f n
theorem sm_succ (n : Nat) (f : Nat → Nat) : sm (n + 1) f = sm n f + f n := rfl
theorem sm_congr {f g : Nat → Nat} : ∀ {n : Nat}, (∀ i, i < n → f i = g i) → sm n f = sm n g
 | 0, _ => rfl
 | n + 1, h => by
   simp only [sm_succ]
   rw [sm_congr fun i hi => h i (by omega), h n (by omega)]
theorem sm_le {f g : Nat → Nat} : ∀ {n : Nat}, (∀ i, i < n → f i ≤ g i) → sm n f ≤ sm n g
 | 0, _ => Nat.le_refl _
 | n + 1, h => by
   have h1 := sm_le (n := n) fun i hi => h i (by omega)
   have h2 := h n (by omega)
   simp only [sm_succ]
   omega
theorem sm_add (f g : Nat → Nat) : ∀ n : Nat, sm n (fun i => f i + g i) = sm n f + sm n g
 | 0 => rfl
 | n + 1 => by
   simp only [sm_succ]
   rw [sm_add f g n]
   omega
theorem sm_zero : ∀ n : Nat, sm n (fun _ => 0) = 0
 | 0 => rfl
 | n + 1 => by
   simp only [sm_succ]
   rw [sm_zero n]
theorem sm_mono {f : Nat → Nat} {n m : Nat} (h : n ≤ m) : sm n f ≤ sm m f := by
 induction m with
 | zero => obtain rfl : n = 0 := by omega
           exact Nat.le_refl _
 | succ m ih =>
   rcases Nat.lt_or_eq_of_le h with h1 | h1
   ·have := ih (by omega)
    simp only [sm_succ]
    omega
   ·subst h1
    exact Nat.le_refl _
theorem sm_one (a c : Nat) : ∀ n : Nat, sm n (fun i => if i = a then c else 0) = if a < n then c else 0
 | 0 => by simp [sm]
 | n + 1 => by
   simp only [sm_succ]
   rw [sm_one a c n]
   by_cases h1 : n = a
   ·subst h1
    simp
   ·rw [if_neg h1]
    by_cases h2 : a < n
    ·rw [if_pos h2, if_pos (by omega), Nat.add_zero]
    ·rw [if_neg h2, if_neg (by omega)]
theorem sm_count (p : Nat → Bool) : ∀ n : Nat, (List.range n).countP p = sm n (fun i => (p i).toNat)
 | 0 => rfl
 | n + 1 => by
   rw [List.range_succ, List.countP_append, sm_count p n]
   simp only [sm_succ]
   cases h : p n <;> simp [h]
theorem sm_list (p : Nat → Bool) (f : Nat → Nat) : ∀ n : Nat, (((List.range n).filter p).map f).sum = sm n (fun i => if p i = true then f i else 0)
 | 0 => rfl
 | n + 1 => by
   rw [List.range_succ, List.filter_append, List.map_append, List.sum_append, sm_list p f n]
   show _ = sm n _ + _
   cases h : p n <;> simp [h]
theorem sm_filter_len (p : Nat → Bool) (n : Nat) : ((List.range n).filter p).length = sm n (fun i => (p i).toNat) := by
 rw [← sm_count, List.countP_eq_length_filter]
theorem toNat_le (b : Bool) : b.toNat ≤ 1 := by cases b <;> decide
section
variable {adj : Nat → Nat → Bool}
/-! each pair twice -/
def tris (adj : Nat → Nat → Bool) (n : Nat) : Nat := sm n fun a => sm n fun b => sm n fun c => (decide (a < b) && adj a b && (decide (b < c) && adj b c && adj a c)).toNat
end
end Go.Proofs.YtogmbeifbjgphaaGreat.M
