/- Plain laws of lists that ascend by a key; The plain model of graphs: nodes, edges, what is right, what is done, what is seen, what is near; What is done to graphs: laws of the plain model; A right graph as a graph of places: its nodes in their order. -/
namespace Go.Proofs.Ytogmbeifbjgphaa.M
set_option linter.unusedVariables false
set_option linter.unusedSimpArgs false
/-- The list ascends by the key, no two alike. -/
def Asc {α : Type} (key : α → Int) (l : List α) : Prop := l.Pairwise fun a b => key a < key b
section
variable {α : Type} {key : α → Int}
theorem Asc.nil : Asc key [] := List.Pairwise.nil
theorem asc_cons {x : α} {l : List α} : Asc key (x :: l) ↔ (∀ y ∈ l, key x < key y) ∧ Asc key l := List.pairwise_cons
theorem asc_append {l m : List α} : Asc key (l ++ m) ↔ Asc key l ∧ Asc key m ∧ ∀ a ∈ l, ∀ b ∈ m, key a < key b := List.pairwise_append
theorem Asc.filter {l : List α} (p : α → Bool) (h : Asc key l) : Asc key (l.filter p) := List.Pairwise.filter p h
theorem Asc.sub {l m : List α} (h : Asc key l) (hs : m.Sublist l) : Asc key m := List.Pairwise.sublist hs h
/-- Two that ascend and hold the same are one. -/
theorem asc_ext : ∀ {l m : List α}, Asc key l → Asc key m → (∀ x, x ∈ l ↔ x ∈ m) → l = m
  | [], [], _, _, _ => rfl
  | [], y :: m, _, _, h => absurd ((h y).2 (by simp)) (by simp)
  | x :: l, [], _, _, h => absurd ((h x).1 (by simp)) (by simp)
  | x :: l, y :: m, hl, hm, h => by
    obtain ⟨hx, hl'⟩ := asc_cons.1 hl
    obtain ⟨hy, hm'⟩ := asc_cons.1 hm
    have e : x = y := by
      rcases List.mem_cons.1 ((h x).1 (by simp)) with e | e
      · exact e
      · rcases List.mem_cons.1 ((h y).2 (by simp)) with e' | e'
        · exact e'.symm
        · have h1 := hy x e
          have h2 := hx y e'
          omega
    subst e
    rw [asc_ext hl' hm' fun z => ⟨fun hz => ?_, fun hz => ?_⟩]
    · rcases List.mem_cons.1 ((h z).1 (List.mem_cons_of_mem _ hz)) with e | e
      · subst e
        have := hx z hz
        omega
      · exact e
    · rcases List.mem_cons.1 ((h z).2 (List.mem_cons_of_mem _ hz)) with e | e
      · subst e
        have := hy z hz
        omega
      · exact e
theorem Asc.lt {l : List α} (h : Asc key l) {i j : Nat} (hij : i < j) (hj : j < l.length) : key (l[i]'(by omega)) < key l[j] :=
  List.pairwise_iff_getElem.1 h i j (by omega) hj hij
theorem Asc.le {l : List α} (h : Asc key l) {i j : Nat} (hij : i ≤ j) (hj : j < l.length) : key (l[i]'(by omega)) ≤ key l[j] := by
  rcases Nat.lt_or_eq_of_le hij with e | e
  · have := h.lt e hj
    omega
  · subst e
    omega
/-- x laid into l at its place. -/
def ins (key : α → Int) (l : List α) (x : α) : List α := l.filter (fun a => decide (key a < key x)) ++ x :: l.filter (fun a => decide (key x < key a))
theorem asc_ins {l : List α} (h : Asc key l) (x : α) : Asc key (ins key l x) := by
  unfold ins
  refine asc_append.2 ⟨h.filter _, asc_cons.2 ⟨fun y hy => ?_, h.filter _⟩, fun a ha b hb => ?_⟩
  · have := (List.mem_filter.1 hy).2
    simpa using this
  · have h1 : key a < key x := by simpa using (List.mem_filter.1 ha).2
    rcases List.mem_cons.1 hb with e | e
    · subst e
      exact h1
    · have h2 : key x < key b := by simpa using (List.mem_filter.1 e).2
      omega
theorem mem_ins {l : List α} {x : α} (h : ∀ a ∈ l, key a = key x → a = x) (y : α) : y ∈ ins key l x ↔ y = x ∨ y ∈ l := by
  unfold ins
  simp only [List.mem_append, List.mem_cons, List.mem_filter, decide_eq_true_eq]
  constructor
  · rintro (⟨hy, _⟩ | rfl | ⟨hy, _⟩)
    · exact .inr hy
    · exact .inl rfl
    · exact .inr hy
  · rintro (rfl | hy)
    · exact .inr (.inl rfl)
    · rcases Int.lt_trichotomy (key y) (key x) with e | e | e
      · exact .inl ⟨hy, e⟩
      · exact .inr (.inl (h y hy e))
      · exact .inr (.inr ⟨hy, e⟩)
theorem filter_ge {l : List α} {x : α} (h : ∀ a ∈ l, key a ≠ key x) : l.filter (fun a => decide (key x < key a)) = l.filter (fun a => !decide (key a < key x)) := by
  apply List.filter_congr
  intro a ha
  have := h a ha
  by_cases e : key a < key x
  · simp [e]; omega
  · simp [e]; omega
/-- What precedes c stands ahead. -/
theorem asc_split (p : α → Bool) : ∀ (l : List α), (l.Pairwise fun a b => p b = true → p a = true) → l.filter p = l.take (l.countP p) ∧ l.filter (fun a => !p a) = l.drop (l.countP p)
  | [], _ => ⟨rfl, rfl⟩
  | x :: l, h => by
    obtain ⟨hx, hl⟩ := List.pairwise_cons.1 h
    obtain ⟨h1, h2⟩ := asc_split p l hl
    cases hp : p x with
    | true =>
      rw [List.countP_cons_of_pos hp]
      simp [hp, h1, h2]
    | false =>
      have hz : l.countP p = 0 := by
        rw [List.countP_eq_zero]
        intro a ha hpa
        have := hx a ha hpa
        rw [hp] at this
        cases this
      have hf : l.filter p = [] := by rw [h1, hz]; rfl
      have hd : l.filter (fun a => !p a) = l := by rw [h2, hz]; rfl
      rw [List.countP_cons_of_neg (by rw [hp]; decide), hz]
      simp [hp, hf, hd]
theorem Asc.split {l : List α} (h : Asc key l) (c : Int) :
    l.filter (fun a => decide (key a < c)) = l.take (l.countP fun a => decide (key a < c)) ∧ l.filter (fun a => !decide (key a < c)) = l.drop (l.countP fun a => decide (key a < c)) :=
  asc_split _ l (List.Pairwise.imp (fun {a b} hab hb => by
    have : key b < c := by simpa using hb
    simp only [decide_eq_true_eq]
    omega) h)
/-- The place of what stands in the list: as many precede it. -/
theorem Asc.place {l : List α} (h : Asc key l) {i : Nat} (hi : i < l.length) : (l.countP fun a => decide (key a < key l[i])) = i := by
  obtain ⟨h1, _⟩ := h.split (key l[i])
  have hc : (l.countP fun a => decide (key a < key l[i])) ≤ l.length := List.countP_le_length
  rcases Nat.lt_trichotomy (l.countP fun a => decide (key a < key l[i])) i with e | e | e
  · -- the element at the count does not precede, yet stands ahead of i
    have hlt := h.lt e hi
    have hm : l[l.countP fun a => decide (key a < key l[i])]'(by omega) ∈ l.filter (fun a => decide (key a < key l[i])) := List.mem_filter.2 ⟨List.getElem_mem _, by simpa using hlt⟩
    rw [h1] at hm
    obtain ⟨j, hj, he⟩ := List.getElem_of_mem hm
    rw [List.getElem_take] at he
    rw [List.length_take] at hj
    have := h.lt (i := j) (j := l.countP fun a => decide (key a < key l[i])) (by omega) (by omega)
    rw [he] at this
    omega
  · exact e
  · have hm : l[i] ∈ l.take (l.countP fun a => decide (key a < key l[i])) := by
      rw [List.mem_take_iff_getElem]
      exact ⟨i, by omega, rfl⟩
    rw [← h1] at hm
    have := (List.mem_filter.1 hm).2
    simp at this
theorem ins_eq {l : List α} (h : Asc key l) {x : α} (hx : ∀ a ∈ l, key a ≠ key x) :
    ins key l x = l.take (l.countP fun a => decide (key a < key x)) ++ x :: l.drop (l.countP fun a => decide (key a < key x)) := by
  unfold ins
  rw [filter_ge hx, (h.split _).1, (h.split _).2]
end
end Go.Proofs.Ytogmbeifbjgphaa.M
namespace Go.Proofs.Ytogmbeifbjgphaa.M
set_option linter.unusedVariables false
set_option linter.unusedSimpArgs false
structure Nd where
  lab : Int
  num : Int
  deriving DecidableEq
structure Eg where
  lab : Int
  a : Nd
  b : Nd
  deriving DecidableEq
structure Op where
  kind : Int
  nd : Nd
  eg : Eg
  deriving DecidableEq
def okL (a : Int) : Bool := decide (0 ≤ a) && decide (a ≤ 7)
/-- Are all letters of the one among those of the other? -/
def under (a b : Int) : Bool := okL a && okL b && (a.toNat &&& b.toNat == a.toNat)
def okN (n : Nd) : Bool := okL n.lab && decide (0 ≤ n.num) && decide (n.num ≤ 40)
def code (n : Nd) : Int := 64 * n.lab + n.num
def okE (e : Eg) : Bool := okL e.lab && okN e.a && okN e.b && decide (code e.a < code e.b) && under e.a.lab e.lab && under e.b.lab e.lab
def key (e : Eg) : Int := e.lab * 1048576 + code e.a * 1024 + code e.b
theorem okL_iff {a : Int} : okL a = true ↔ 0 ≤ a ∧ a ≤ 7 := by simp [okL]
theorem okN_iff {n : Nd} : okN n = true ↔ (0 ≤ n.lab ∧ n.lab ≤ 7) ∧ 0 ≤ n.num ∧ n.num ≤ 40 := by simp [okN, okL, and_assoc]
theorem okE_iff {e : Eg} : okE e = true ↔ (0 ≤ e.lab ∧ e.lab ≤ 7) ∧ okN e.a = true ∧ okN e.b = true ∧ code e.a < code e.b ∧ under e.a.lab e.lab = true ∧ under e.b.lab e.lab = true := by simp [okE, okL, and_assoc]
theorem code_rng {n : Nd} (h : okN n = true) : 0 ≤ code n ∧ code n ≤ 488 := by
  have := okN_iff.1 h
  unfold code
  omega
theorem code_inj {a b : Nd} (ha : okN a = true) (hb : okN b = true) (h : code a = code b) : a = b := by
  have h1 := okN_iff.1 ha
  have h2 := okN_iff.1 hb
  unfold code at h
  cases a
  cases b
  simp only [Nd.mk.injEq] at *
  omega
theorem key_inj {x y : Eg} (hx : okE x = true) (hy : okE y = true) (h : key x = key y) : x = y := by
  obtain ⟨l1, a1, b1, _⟩ := okE_iff.1 hx
  obtain ⟨l2, a2, b2, _⟩ := okE_iff.1 hy
  have r1 := code_rng a1
  have r2 := code_rng a2
  have r3 := code_rng b1
  have r4 := code_rng b2
  unfold key at h
  have e1 := code_inj a1 a2 (by omega)
  have e2 := code_inj b1 b2 (by omega)
  cases x
  cases y
  simp only [Eg.mk.injEq] at *
  exact ⟨by rw [e1, e2] at h; omega, e1, e2⟩
/-- The keys' order is label, first end, second end. -/
theorem key_lt {x y : Eg} (hx : okE x = true) (hy : okE y = true) : key x < key y ↔ x.lab < y.lab ∨ x.lab = y.lab ∧ (code x.a < code y.a ∨ code x.a = code y.a ∧ code x.b < code y.b) := by
  obtain ⟨l1, a1, b1, _⟩ := okE_iff.1 hx
  obtain ⟨l2, a2, b2, _⟩ := okE_iff.1 hy
  have r1 := code_rng a1
  have r2 := code_rng a2
  have r3 := code_rng b1
  have r4 := code_rng b2
  unfold key
  omega
theorem under_trans {a b c : Int} (h1 : under a b = true) (h2 : under b c = true) : under a c = true := by
  simp only [under, Bool.and_eq_true, beq_iff_eq] at *
  refine ⟨⟨h1.1.1, h2.1.2⟩, ?_⟩
  have e1 := h1.2
  have e2 := h2.2
  rw [← e1, Nat.and_assoc, e2]
/-- A right graph. -/
structure OkG (ns : List Nd) (es : List Eg) : Prop where
  nok : ∀ n ∈ ns, okN n = true
  nasc : Asc code ns
  nfew : ∀ a, (ns.countP fun n => n.lab == a) ≤ 5
  eok : ∀ e ∈ es, okE e = true
  easc : Asc key es
  efew : ∀ a, (es.countP fun e => e.lab == a) ≤ 7
  ends : ∀ e ∈ es, e.a ∈ ns ∧ e.b ∈ ns
open Classical in
noncomputable def okG (ns : List Nd) (es : List Eg) : Bool := decide (OkG ns es)
theorem okG_true {ns : List Nd} {es : List Eg} : okG ns es = true ↔ OkG ns es := by simp [okG]
theorem okG_false {ns : List Nd} {es : List Eg} : okG ns es = false ↔ ¬ OkG ns es := by simp [okG]
def zN : Nd := ⟨0, 0⟩
def zE : Eg := ⟨0, zN, zN⟩
def opLabel (op : Op) : Int :=
  if op.kind = 1 ∨ op.kind = 4 then (if okN op.nd = true ∧ op.eg = zE then op.nd.lab else -1)
  else if op.kind = 2 ∨ op.kind = 3 then (if okE op.eg = true ∧ op.nd = zN then op.eg.lab else -1)
  else -1
/-- How it ends: 0 done, 2 there, 3 none, 4 full. -/
def endOf (ns : List Nd) (es : List Eg) (op : Op) : Int :=
  if op.kind = 1 then (if op.nd ∈ ns then 2 else if 5 ≤ (ns.countP fun n => n.lab == op.nd.lab) then 4 else 0)
  else if op.kind = 2 then (if op.eg ∈ es then 2 else if op.eg.a ∈ ns ∧ op.eg.b ∈ ns then (if 7 ≤ (es.countP fun e => e.lab == op.eg.lab) then 4 else 0) else 3)
  else if op.kind = 3 then (if op.eg ∈ es then 0 else 3)
  else (if op.nd ∈ ns then 0 else 3)
def nodesAfter (ns : List Nd) (op : Op) : List Nd := if op.kind = 1 then ins code ns op.nd else if op.kind = 4 then ns.filter (fun n => decide (n ≠ op.nd)) else ns
def edgesAfter (es : List Eg) (op : Op) : List Eg :=
  if op.kind = 2 then ins key es op.eg else if op.kind = 3 then es.filter (fun e => decide (e ≠ op.eg)) else if op.kind = 4 then es.filter (fun e => decide (e.a ≠ op.nd ∧ e.b ≠ op.nd)) else es
noncomputable def doN (ns : List Nd) (es : List Eg) (op : Op) : List Nd := if okG ns es = true then (if 0 ≤ opLabel op ∧ endOf ns es op = 0 then nodesAfter ns op else ns) else []
noncomputable def doE (ns : List Nd) (es : List Eg) (op : Op) : List Eg := if okG ns es = true then (if 0 ≤ opLabel op ∧ endOf ns es op = 0 then edgesAfter es op else es) else []
noncomputable def doC (ns : List Nd) (es : List Eg) (op : Op) : Int := if okG ns es = true then (if 0 ≤ opLabel op then endOf ns es op else 1) else 1
/-- What is seen. -/
noncomputable def viewN (ns : List Nd) (es : List Eg) (c : Int) : List Nd := if okG ns es = true then ns.filter (fun n => under n.lab c) else []
noncomputable def viewE (ns : List Nd) (es : List Eg) (c : Int) : List Eg := if okG ns es = true then es.filter (fun e => under e.lab c) else []
/-- Does an edge join the two? -/
def adjE (es : List Eg) (n m : Nd) : Bool := es.any fun e => (e.a == n && e.b == m) || (e.b == n && e.a == m)
noncomputable def nearG (ns : List Nd) (es : List Eg) (n : Nd) : List Nd := if okG ns es = true then ns.filter (fun m => adjE es n m) else []
/-! what the label tells -/
theorem opLabel_node {op : Op} (h : 0 ≤ opLabel op) (hk : op.kind = 1 ∨ op.kind = 4) : okN op.nd = true ∧ op.eg = zE ∧ opLabel op = op.nd.lab := by
  unfold opLabel at *
  rw [if_pos hk] at *
  split at h
  · rename_i c
    rw [if_pos c]
    exact ⟨c.1, c.2, rfl⟩
  · omega
theorem opLabel_edge {op : Op} (h : 0 ≤ opLabel op) (hk : op.kind = 2 ∨ op.kind = 3) : okE op.eg = true ∧ op.nd = zN ∧ opLabel op = op.eg.lab := by
  unfold opLabel at *
  rw [if_neg (by omega), if_pos hk] at *
  split at h
  · rename_i c
    rw [if_pos c]
    exact ⟨c.1, c.2, rfl⟩
  · omega
theorem opLabel_kind {op : Op} (h : 0 ≤ opLabel op) : op.kind = 1 ∨ op.kind = 2 ∨ op.kind = 3 ∨ op.kind = 4 := by
  unfold opLabel at h
  split at h
  · omega
  · split at h
    · omega
    · omega
theorem mem_ins_ok {α : Type} {key : α → Int} {l : List α} {x : α} {ok : α → Bool} (hl : ∀ a ∈ l, ok a = true) (hx : ok x = true) (hi : ∀ a b, ok a = true → ok b = true → key a = key b → a = b) (y : α) : y ∈ ins key l x ↔ y = x ∨ y ∈ l :=
  mem_ins (fun a ha e => hi a x (hl a ha) hx e) y
theorem key_ne {α : Type} {key : α → Int} {l : List α} {x : α} {ok : α → Bool} (hl : ∀ a ∈ l, ok a = true) (hx : ok x = true) (hi : ∀ a b, ok a = true → ok b = true → key a = key b → a = b) (hn : x ∉ l) : ∀ a ∈ l, key a ≠ key x :=
  fun a ha e => hn (hi a x (hl a ha) hx e ▸ ha)
/-! a right graph stays right -/
theorem view_ok {ns : List Nd} {es : List Eg} (h : OkG ns es) (c : Int) : OkG (ns.filter fun n => under n.lab c) (es.filter fun e => under e.lab c) := by
  refine ⟨fun n hn => h.nok n (List.mem_filter.1 hn).1, h.nasc.filter _, fun a => Nat.le_trans ((List.filter_sublist).countP_le) (h.nfew a), fun e he' => h.eok e (List.mem_filter.1 he').1, h.easc.filter _, fun a => Nat.le_trans ((List.filter_sublist).countP_le) (h.efew a), fun e he' => ?_⟩
  obtain ⟨h1, h2⟩ := List.mem_filter.1 he'
  have h3 := h.ends e h1
  obtain ⟨_, _, _, _, h4, h5⟩ := okE_iff.1 (h.eok e h1)
  exact ⟨List.mem_filter.2 ⟨h3.1, under_trans h4 h2⟩, List.mem_filter.2 ⟨h3.2, under_trans h5 h2⟩⟩
end Go.Proofs.Ytogmbeifbjgphaa.M
namespace Go.Proofs.Ytogmbeifbjgphaa.M
set_option linter.unusedVariables false
set_option linter.unusedSimpArgs false
variable {ns : List Nd} {es : List Eg} {op : Op}
theorem view_of (hg : OkG ns es) (c : Int) : viewN ns es c = ns.filter (fun n => under n.lab c) ∧ viewE ns es c = es.filter (fun e => under e.lab c) := by
  unfold viewN viewE
  rw [if_pos (okG_true.2 hg), if_pos (okG_true.2 hg)]
  exact ⟨rfl, rfl⟩
theorem adjE_comm (es : List Eg) (n m : Nd) : adjE es n m = adjE es m n := by
  unfold adjE
  congr 1
  funext e
  rw [Bool.or_comm]
  congr 1 <;> rw [Bool.and_comm]
theorem adjE_iff {es : List Eg} {n m : Nd} : adjE es n m = true ↔ ∃ e ∈ es, (e.a = n ∧ e.b = m) ∨ (e.b = n ∧ e.a = m) := by
  unfold adjE
  rw [List.any_eq_true]
  simp only [Bool.or_eq_true, Bool.and_eq_true, beq_iff_eq]
theorem adjE_ne (hg : OkG ns es) {n m : Nd} (h : adjE es n m = true) : n ≠ m := by
  obtain ⟨e, he, h⟩ := adjE_iff.1 h
  have := (okE_iff.1 (hg.eok e he)).2.2.2.1
  rintro rfl
  rcases h with ⟨h1, h2⟩ | ⟨h1, h2⟩ <;> (rw [h1, h2] at this; omega)
theorem adjE_mem (hg : OkG ns es) {n m : Nd} (h : adjE es n m = true) : n ∈ ns ∧ m ∈ ns := by
  obtain ⟨e, he, h⟩ := adjE_iff.1 h
  have := hg.ends e he
  rcases h with ⟨h1, h2⟩ | ⟨h1, h2⟩
  · rw [h1, h2] at this
    exact this
  · rw [h1, h2] at this
    exact this.symm
theorem adjE_sub {es fs : List Eg} (h : ∀ e ∈ es, e ∈ fs) {n m : Nd} (ha : adjE es n m = true) : adjE fs n m = true := by
  obtain ⟨e, he, h'⟩ := adjE_iff.1 ha
  exact adjE_iff.2 ⟨e, h e he, h'⟩
theorem near_of (hg : OkG ns es) (n : Nd) : nearG ns es n = ns.filter (fun m => adjE es n m) := by
  unfold nearG
  rw [if_pos (okG_true.2 hg)]
theorem mem_near (hg : OkG ns es) {n m : Nd} : m ∈ nearG ns es n ↔ adjE es n m = true := by
  rw [near_of hg, List.mem_filter]
  exact ⟨fun h => h.2, fun h => ⟨(adjE_mem hg h).2, h⟩⟩
end Go.Proofs.Ytogmbeifbjgphaa.M
namespace Go.Proofs.Ytogmbeifbjgphaa.M
set_option linter.unusedVariables false
set_option linter.unusedSimpArgs false
def at_ (ns : List Nd) (i : Nat) : Nd := ns.getD i zN
theorem at_lt {ns : List Nd} {i : Nat} (h : i < ns.length) : at_ ns i = ns[i] := by
  unfold at_
  simp [List.getD_eq_getElem?_getD, h]
theorem at_mem {ns : List Nd} {i : Nat} (h : i < ns.length) : at_ ns i ∈ ns := by
  rw [at_lt h]
  exact List.getElem_mem h
section
variable {ns : List Nd} {es : List Eg}
/-- Nodes and edges of the one are among those of the other. -/
structure Sub (ns : List Nd) (es : List Eg) (ms : List Nd) (fs : List Eg) : Prop where
  n : ∀ x ∈ ns, x ∈ ms
  e : ∀ x ∈ es, x ∈ fs
variable {ms : List Nd} {fs : List Eg}
end
end Go.Proofs.Ytogmbeifbjgphaa.M
