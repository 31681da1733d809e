/- Plain laws of lists that ascend by a key; The plain model of graphs: nodes, edges, what is right, what is done, what is seen, what is near; What is done to graphs: laws of the plain model. -/
namespace Go.Proofs.Ytogmbeifbjgphaa.M
set_option linter.unusedVariables false
set_option linter.unusedSimpArgs false
/-- The list ascends by the key, no two alike. -/
def Asc {α : Type} (key : α → Int) (l : List α) : Prop := l.Pairwise fun a b => key a < key b
section
variable {α : Type} {key : α → Int}
theorem Asc.nil : Asc key [] := List.Pairwise.nil
theorem asc_cons {x : α} {l : List α} : Asc key (x :: l) ↔ (∀ y ∈ l, key x < key y) ∧ Asc key l := List.pairwise_cons
theorem asc_append {l m : List α} : Asc key (l ++ m) ↔ Asc key l ∧ Asc key m ∧ ∀ a ∈ l, ∀ b ∈ m, key a < key b := List.pairwise_append
theorem Asc.filter {l : List α} (p : α → Bool) (h : Asc key l) : Asc key (l.filter p) := List.Pairwise.filter p h
theorem Asc.sub {l m : List α} (h : Asc key l) (hs : m.Sublist l) : Asc key m := List.Pairwise.sublist hs h
/-- Two that ascend and hold the same are one. -/
theorem asc_ext : ∀ {l m : List α}, Asc key l → Asc key m → (∀ x, x ∈ l ↔ x ∈ m) → l = m
  | [], [], _, _, _ => rfl
  | [], y :: m, _, _, h => absurd ((h y).2 (by simp)) (by simp)
  | x :: l, [], _, _, h => absurd ((h x).1 (by simp)) (by simp)
  | x :: l, y :: m, hl, hm, h => by
    obtain ⟨hx, hl'⟩ := asc_cons.1 hl
    obtain ⟨hy, hm'⟩ := asc_cons.1 hm
    have e : x = y := by
      rcases List.mem_cons.1 ((h x).1 (by simp)) with e | e
      · exact e
      · rcases List.mem_cons.1 ((h y).2 (by simp)) with e' | e'
        · exact e'.symm
        · have h1 := hy x e
          have h2 := hx y e'
          omega
    subst e
    rw [asc_ext hl' hm' fun z => ⟨fun hz => ?_, fun hz => ?_⟩]
    · rcases List.mem_cons.1 ((h z).1 (List.mem_cons_of_mem _ hz)) with e | e
      · subst e
        have := hx z hz
        omega
      · exact e
    · rcases List.mem_cons.1 ((h z).2 (List.mem_cons_of_mem _ hz)) with e | e
      · subst e
        have := hy z hz
        omega
      · exact e
theorem Asc.nodup {l : List α} (h : Asc key l) : l.Nodup := List.Pairwise.imp (fun hab e => by subst e; omega) h
theorem Asc.lt {l : List α} (h : Asc key l) {i j : Nat} (hij : i < j) (hj : j < l.length) : key (l[i]'(by omega)) < key l[j] :=
  List.pairwise_iff_getElem.1 h i j (by omega) hj hij
theorem Asc.le {l : List α} (h : Asc key l) {i j : Nat} (hij : i ≤ j) (hj : j < l.length) : key (l[i]'(by omega)) ≤ key l[j] := by
  rcases Nat.lt_or_eq_of_le hij with e | e
  · have := h.lt e hj
    omega
  · subst e
    omega
/-- x laid into l at its place. -/
def ins (key : α → Int) (l : List α) (x : α) : List α := l.filter (fun a => decide (key a < key x)) ++ x :: l.filter (fun a => decide (key x < key a))
theorem asc_ins {l : List α} (h : Asc key l) (x : α) : Asc key (ins key l x) := by
  unfold ins
  refine asc_append.2 ⟨h.filter _, asc_cons.2 ⟨fun y hy => ?_, h.filter _⟩, fun a ha b hb => ?_⟩
  · have := (List.mem_filter.1 hy).2
    simpa using this
  · have h1 : key a < key x := by simpa using (List.mem_filter.1 ha).2
    rcases List.mem_cons.1 hb with e | e
    · subst e
      exact h1
    · have h2 : key x < key b := by simpa using (List.mem_filter.1 e).2
      omega
theorem mem_ins {l : List α} {x : α} (h : ∀ a ∈ l, key a = key x → a = x) (y : α) : y ∈ ins key l x ↔ y = x ∨ y ∈ l := by
  unfold ins
  simp only [List.mem_append, List.mem_cons, List.mem_filter, decide_eq_true_eq]
  constructor
  · rintro (⟨hy, _⟩ | rfl | ⟨hy, _⟩)
    · exact .inr hy
    · exact .inl rfl
    · exact .inr hy
  · rintro (rfl | hy)
    · exact .inr (.inl rfl)
    · rcases Int.lt_trichotomy (key y) (key x) with e | e | e
      · exact .inl ⟨hy, e⟩
      · exact .inr (.inl (h y hy e))
      · exact .inr (.inr ⟨hy, e⟩)
theorem filter_ge {l : List α} {x : α} (h : ∀ a ∈ l, key a ≠ key x) : l.filter (fun a => decide (key x < key a)) = l.filter (fun a => !decide (key a < key x)) := by
  apply List.filter_congr
  intro a ha
  have := h a ha
  by_cases e : key a < key x
  · simp [e]; omega
  · simp [e]; omega
/-- What precedes c stands ahead. -/
theorem asc_split (p : α → Bool) : ∀ (l : List α), (l.Pairwise fun a b => p b = true → p a = true) → l.filter p = l.take (l.countP p) ∧ l.filter (fun a => !p a) = l.drop (l.countP p)
  | [], _ => ⟨rfl, rfl⟩
  | x :: l, h => by
    obtain ⟨hx, hl⟩ := List.pairwise_cons.1 h
    obtain ⟨h1, h2⟩ := asc_split p l hl
    cases hp : p x with
    | true =>
      rw [List.countP_cons_of_pos hp]
      simp [hp, h1, h2]
    | false =>
      have hz : l.countP p = 0 := by
        rw [List.countP_eq_zero]
        intro a ha hpa
        have := hx a ha hpa
        rw [hp] at this
        cases this
      have hf : l.filter p = [] := by rw [h1, hz]; rfl
      have hd : l.filter (fun a => !p a) = l := by rw [h2, hz]; rfl
      rw [List.countP_cons_of_neg (by rw [hp]; decide), hz]
      simp [hp, hf, hd]
theorem Asc.split {l : List α} (h : Asc key l) (c : Int) :
    l.filter (fun a => decide (key a < c)) = l.take (l.countP fun a => decide (key a < c)) ∧ l.filter (fun a => !decide (key a < c)) = l.drop (l.countP fun a => decide (key a < c)) :=
  asc_split _ l (List.Pairwise.imp (fun {a b} hab hb => by
    have : key b < c := by simpa using hb
    simp only [decide_eq_true_eq]
    omega) h)
/-- The place of what stands in the list: as many precede it. -/
theorem Asc.place {l : List α} (h : Asc key l) {i : Nat} (hi : i < l.length) : (l.countP fun a => decide (key a < key l[i])) = i := by
  obtain ⟨h1, _⟩ := h.split (key l[i])
  have hc : (l.countP fun a => decide (key a < key l[i])) ≤ l.length := List.countP_le_length
  rcases Nat.lt_trichotomy (l.countP fun a => decide (key a < key l[i])) i with e | e | e
  · -- the element at the count does not precede, yet stands ahead of i
    have hlt := h.lt e hi
    have hm : l[l.countP fun a => decide (key a < key l[i])]'(by omega) ∈ l.filter (fun a => decide (key a < key l[i])) := List.mem_filter.2 ⟨List.getElem_mem _, by simpa using hlt⟩
    rw [h1] at hm
    obtain ⟨j, hj, he⟩ := List.getElem_of_mem hm
    rw [List.getElem_take] at he
    rw [List.length_take] at hj
    have := h.lt (i := j) (j := l.countP fun a => decide (key a < key l[i])) (by omega) (by omega)
    rw [he] at this
    omega
  · exact e
  · have hm : l[i] ∈ l.take (l.countP fun a => decide (key a < key l[i])) := by
      rw [List.mem_take_iff_getElem]
      exact ⟨i, by omega, rfl⟩
    rw [← h1] at hm
    have := (List.mem_filter.1 hm).2
    simp at this
theorem ins_eq {l : List α} (h : Asc key l) {x : α} (hx : ∀ a ∈ l, key a ≠ key x) :
    ins key l x = l.take (l.countP fun a => decide (key a < key x)) ++ x :: l.drop (l.countP fun a => decide (key a < key x)) := by
  unfold ins
  rw [filter_ge hx, (h.split _).1, (h.split _).2]
/-- The i-th taken out: all that are not it. -/
theorem erase_eq [DecidableEq α] : ∀ {l : List α}, l.Nodup → ∀ {i : Nat} (hi : i < l.length), l.take i ++ l.drop (i + 1) = l.filter (fun a => decide (a ≠ l[i]))
  | x :: l, h, 0, hi => by
    obtain ⟨hx, hl⟩ := List.nodup_cons.1 h
    simp only [List.take_zero, List.drop_succ_cons, List.drop_zero, List.nil_append, List.getElem_cons_zero]
    rw [List.filter_cons_of_neg (by simp)]
    rw [List.filter_eq_self.2]
    intro a ha
    simp only [ne_eq, decide_eq_true_eq]
    rintro rfl
    exact hx ha
  | x :: l, h, i + 1, hi => by
    obtain ⟨hx, hl⟩ := List.nodup_cons.1 h
    have hi' : i < l.length := by simpa using hi
    simp only [List.take_succ_cons, List.drop_succ_cons, List.cons_append, List.getElem_cons_succ]
    rw [List.filter_cons_of_pos, erase_eq hl hi']
    simp only [ne_eq, decide_eq_true_eq]
    intro e
    rw [e] at hx
    exact hx (List.getElem_mem _)
end
end Go.Proofs.Ytogmbeifbjgphaa.M
namespace Go.Proofs.Ytogmbeifbjgphaa.M
set_option linter.unusedVariables false
set_option linter.unusedSimpArgs false
structure Nd where
  lab : Int
  num : Int
  deriving DecidableEq
structure Eg where
  lab : Int
  a : Nd
  b : Nd
  deriving DecidableEq
structure Op where
  kind : Int
  nd : Nd
  eg : Eg
  deriving DecidableEq
def okL (a : Int) : Bool := decide (0 ≤ a) && decide (a ≤ 7)
/-- Are all letters of the one among those of the other? -/
def under (a b : Int) : Bool := okL a && okL b && (a.toNat &&& b.toNat == a.toNat)
def okN (n : Nd) : Bool := okL n.lab && decide (0 ≤ n.num) && decide (n.num ≤ 40)
def code (n : Nd) : Int := 64 * n.lab + n.num
def okE (e : Eg) : Bool := okL e.lab && okN e.a && okN e.b && decide (code e.a < code e.b) && under e.a.lab e.lab && under e.b.lab e.lab
def key (e : Eg) : Int := e.lab * 1048576 + code e.a * 1024 + code e.b
theorem okL_iff {a : Int} : okL a = true ↔ 0 ≤ a ∧ a ≤ 7 := by simp [okL]
theorem okN_iff {n : Nd} : okN n = true ↔ (0 ≤ n.lab ∧ n.lab ≤ 7) ∧ 0 ≤ n.num ∧ n.num ≤ 40 := by simp [okN, okL, and_assoc]
theorem okE_iff {e : Eg} : okE e = true ↔ (0 ≤ e.lab ∧ e.lab ≤ 7) ∧ okN e.a = true ∧ okN e.b = true ∧ code e.a < code e.b ∧ under e.a.lab e.lab = true ∧ under e.b.lab e.lab = true := by simp [okE, okL, and_assoc]
theorem code_rng {n : Nd} (h : okN n = true) : 0 ≤ code n ∧ code n ≤ 488 := by
  have := okN_iff.1 h
  unfold code
  omega
theorem code_inj {a b : Nd} (ha : okN a = true) (hb : okN b = true) (h : code a = code b) : a = b := by
  have h1 := okN_iff.1 ha
  have h2 := okN_iff.1 hb
  unfold code at h
  cases a
  cases b
  simp only [Nd.mk.injEq] at *
  omega
theorem key_inj {x y : Eg} (hx : okE x = true) (hy : okE y = true) (h : key x = key y) : x = y := by
  obtain ⟨l1, a1, b1, _⟩ := okE_iff.1 hx
  obtain ⟨l2, a2, b2, _⟩ := okE_iff.1 hy
  have r1 := code_rng a1
  have r2 := code_rng a2
  have r3 := code_rng b1
  have r4 := code_rng b2
  unfold key at h
  have e1 := code_inj a1 a2 (by omega)
  have e2 := code_inj b1 b2 (by omega)
  cases x
  cases y
  simp only [Eg.mk.injEq] at *
  exact ⟨by rw [e1, e2] at h; omega, e1, e2⟩
/-- The keys' order is label, first end, second end. -/
theorem key_lt {x y : Eg} (hx : okE x = true) (hy : okE y = true) : key x < key y ↔ x.lab < y.lab ∨ x.lab = y.lab ∧ (code x.a < code y.a ∨ code x.a = code y.a ∧ code x.b < code y.b) := by
  obtain ⟨l1, a1, b1, _⟩ := okE_iff.1 hx
  obtain ⟨l2, a2, b2, _⟩ := okE_iff.1 hy
  have r1 := code_rng a1
  have r2 := code_rng a2
  have r3 := code_rng b1
  have r4 := code_rng b2
  unfold key
  omega
theorem under_trans {a b c : Int} (h1 : under a b = true) (h2 : under b c = true) : under a c = true := by
  simp only [under, Bool.and_eq_true, beq_iff_eq] at *
  refine ⟨⟨h1.1.1, h2.1.2⟩, ?_⟩
  have e1 := h1.2
  have e2 := h2.2
  rw [← e1, Nat.and_assoc, e2]
theorem under_ok {a b : Int} (h : under a b = true) : okL a = true ∧ okL b = true := by
  simp only [under, Bool.and_eq_true] at h
  exact h.1
/-- A right graph. -/
structure OkG (ns : List Nd) (es : List Eg) : Prop where
  nok : ∀ n ∈ ns, okN n = true
  nasc : Asc code ns
  nfew : ∀ a, (ns.countP fun n => n.lab == a) ≤ 5
  eok : ∀ e ∈ es, okE e = true
  easc : Asc key es
  efew : ∀ a, (es.countP fun e => e.lab == a) ≤ 7
  ends : ∀ e ∈ es, e.a ∈ ns ∧ e.b ∈ ns
open Classical in
noncomputable def okG (ns : List Nd) (es : List Eg) : Bool := decide (OkG ns es)
theorem okG_true {ns : List Nd} {es : List Eg} : okG ns es = true ↔ OkG ns es := by simp [okG]
theorem okG_false {ns : List Nd} {es : List Eg} : okG ns es = false ↔ ¬ OkG ns es := by simp [okG]
def zN : Nd := ⟨0, 0⟩
def zE : Eg := ⟨0, zN, zN⟩
def opLabel (op : Op) : Int :=
  if op.kind = 1 ∨ op.kind = 4 then (if okN op.nd = true ∧ op.eg = zE then op.nd.lab else -1)
  else if op.kind = 2 ∨ op.kind = 3 then (if okE op.eg = true ∧ op.nd = zN then op.eg.lab else -1)
  else -1
/-- How it ends: 0 done, 2 there, 3 none, 4 full. -/
def endOf (ns : List Nd) (es : List Eg) (op : Op) : Int :=
  if op.kind = 1 then (if op.nd ∈ ns then 2 else if 5 ≤ (ns.countP fun n => n.lab == op.nd.lab) then 4 else 0)
  else if op.kind = 2 then (if op.eg ∈ es then 2 else if op.eg.a ∈ ns ∧ op.eg.b ∈ ns then (if 7 ≤ (es.countP fun e => e.lab == op.eg.lab) then 4 else 0) else 3)
  else if op.kind = 3 then (if op.eg ∈ es then 0 else 3)
  else (if op.nd ∈ ns then 0 else 3)
def nodesAfter (ns : List Nd) (op : Op) : List Nd := if op.kind = 1 then ins code ns op.nd else if op.kind = 4 then ns.filter (fun n => decide (n ≠ op.nd)) else ns
def edgesAfter (es : List Eg) (op : Op) : List Eg :=
  if op.kind = 2 then ins key es op.eg else if op.kind = 3 then es.filter (fun e => decide (e ≠ op.eg)) else if op.kind = 4 then es.filter (fun e => decide (e.a ≠ op.nd ∧ e.b ≠ op.nd)) else es
noncomputable def doN (ns : List Nd) (es : List Eg) (op : Op) : List Nd := if okG ns es = true then (if 0 ≤ opLabel op ∧ endOf ns es op = 0 then nodesAfter ns op else ns) else []
noncomputable def doE (ns : List Nd) (es : List Eg) (op : Op) : List Eg := if okG ns es = true then (if 0 ≤ opLabel op ∧ endOf ns es op = 0 then edgesAfter es op else es) else []
noncomputable def doC (ns : List Nd) (es : List Eg) (op : Op) : Int := if okG ns es = true then (if 0 ≤ opLabel op then endOf ns es op else 1) else 1
/-- What is seen. -/
noncomputable def viewN (ns : List Nd) (es : List Eg) (c : Int) : List Nd := if okG ns es = true then ns.filter (fun n => under n.lab c) else []
noncomputable def viewE (ns : List Nd) (es : List Eg) (c : Int) : List Eg := if okG ns es = true then es.filter (fun e => under e.lab c) else []
theorem opLabel_node {op : Op} (h : 0 ≤ opLabel op) (hk : op.kind = 1 ∨ op.kind = 4) : okN op.nd = true ∧ op.eg = zE ∧ opLabel op = op.nd.lab := by
  unfold opLabel at *
  rw [if_pos hk] at *
  split at h
  · rename_i c
    rw [if_pos c]
    exact ⟨c.1, c.2, rfl⟩
  · omega
theorem opLabel_edge {op : Op} (h : 0 ≤ opLabel op) (hk : op.kind = 2 ∨ op.kind = 3) : okE op.eg = true ∧ op.nd = zN ∧ opLabel op = op.eg.lab := by
  unfold opLabel at *
  rw [if_neg (by omega), if_pos hk] at *
  split at h
  · rename_i c
    rw [if_pos c]
    exact ⟨c.1, c.2, rfl⟩
  · omega
theorem opLabel_kind {op : Op} (h : 0 ≤ opLabel op) : op.kind = 1 ∨ op.kind = 2 ∨ op.kind = 3 ∨ op.kind = 4 := by
  unfold opLabel at h
  split at h
  · omega
  · split at h
    · omega
    · omega
theorem endOf_rng (ns : List Nd) (es : List Eg) (op : Op) : endOf ns es op = 0 ∨ endOf ns es op = 2 ∨ endOf ns es op = 3 ∨ endOf ns es op = 4 := by
  unfold endOf
  repeat' split
  all_goals simp
/-! counts -/
theorem countP_ins {α : Type} {key : α → Int} {l : List α} {x : α} (h : ∀ a ∈ l, key a ≠ key x) (p : α → Bool) : (ins key l x).countP p = l.countP p + (if p x = true then 1 else 0) := by
  unfold ins
  rw [filter_ge h, List.countP_append, List.countP_cons, List.countP_eq_countP_filter_add l p (fun a => decide (key a < key x))]
  omega
theorem mem_ins_ok {α : Type} {key : α → Int} {l : List α} {x : α} {ok : α → Bool} (hl : ∀ a ∈ l, ok a = true) (hx : ok x = true) (hi : ∀ a b, ok a = true → ok b = true → key a = key b → a = b) (y : α) : y ∈ ins key l x ↔ y = x ∨ y ∈ l :=
  mem_ins (fun a ha e => hi a x (hl a ha) hx e) y
theorem key_ne {α : Type} {key : α → Int} {l : List α} {x : α} {ok : α → Bool} (hl : ∀ a ∈ l, ok a = true) (hx : ok x = true) (hi : ∀ a b, ok a = true → ok b = true → key a = key b → a = b) (hn : x ∉ l) : ∀ a ∈ l, key a ≠ key x :=
  fun a ha e => hn (hi a x (hl a ha) hx e ▸ ha)
/-! a right graph stays right -/
theorem after_ok {ns : List Nd} {es : List Eg} {op : Op} (h : OkG ns es) (hl : 0 ≤ opLabel op) (he : endOf ns es op = 0) : OkG (nodesAfter ns op) (edgesAfter es op) := by
  rcases opLabel_kind hl with k | k | k | k
  · obtain ⟨h1, _, _⟩ := opLabel_node hl (.inl k)
    unfold endOf at he
    unfold nodesAfter edgesAfter
    rw [if_pos k] at he
    simp only [k, if_true] at *
    have hn : op.nd ∉ ns := by
      intro hn
      rw [if_pos hn] at he
      omega
    rw [if_neg hn] at he
    have hc : ¬ 5 ≤ (ns.countP fun n => n.lab == op.nd.lab) := by
      intro hc
      rw [if_pos hc] at he
      omega
    have hne := key_ne (key := code) h.nok h1 (fun _ _ => code_inj) hn
    have hm := fun y => mem_ins_ok (key := code) h.nok h1 (fun _ _ => code_inj) y
    refine ⟨fun n hn' => ?_, asc_ins h.nasc _, fun a => ?_, by simpa using h.eok, by simpa using h.easc, by simpa using h.efew, fun e he' => ?_⟩
    · rcases (hm n).1 hn' with rfl | hn'
      · exact h1
      · exact h.nok n hn'
    · rw [countP_ins hne]
      have := h.nfew a
      by_cases e : op.nd.lab = a
      · subst e
        simp
        omega
      · rw [if_neg (by simpa using e)]
        omega
    · have := h.ends e (by simpa using he')
      exact ⟨(hm _).2 (.inr this.1), (hm _).2 (.inr this.2)⟩
  · obtain ⟨h1, _, _⟩ := opLabel_edge hl (.inl k)
    unfold endOf at he
    unfold nodesAfter edgesAfter
    rw [if_neg (by omega), if_pos k] at he
    have hn : op.eg ∉ es := by
      intro hn
      rw [if_pos hn] at he
      omega
    rw [if_neg hn] at he
    have hab : op.eg.a ∈ ns ∧ op.eg.b ∈ ns := by
      refine Decidable.byContradiction fun hab => ?_
      rw [if_neg hab] at he
      omega
    rw [if_pos hab] at he
    have hc : ¬ 7 ≤ (es.countP fun e => e.lab == op.eg.lab) := by
      intro hc
      rw [if_pos hc] at he
      omega
    rw [if_neg (by omega), if_neg (by omega), if_pos k]
    have hne := key_ne (key := key) h.eok h1 (fun _ _ => key_inj) hn
    have hm := fun y => mem_ins_ok (key := key) h.eok h1 (fun _ _ => key_inj) y
    refine ⟨h.nok, h.nasc, h.nfew, fun e he' => ?_, asc_ins h.easc _, fun a => ?_, fun e he' => ?_⟩
    · rcases (hm e).1 he' with rfl | he'
      · exact h1
      · exact h.eok e he'
    · rw [countP_ins hne]
      have := h.efew a
      by_cases e : op.eg.lab = a
      · subst e
        simp
        omega
      · rw [if_neg (by simpa using e)]
        omega
    · rcases (hm e).1 he' with rfl | he'
      · exact hab
      · exact h.ends e he'
  · unfold nodesAfter edgesAfter
    rw [if_neg (by omega), if_neg (by omega), if_neg (by omega), if_pos k]
    exact ⟨h.nok, h.nasc, h.nfew, fun e he' => h.eok e (List.mem_filter.1 he').1, h.easc.filter _, fun a => Nat.le_trans ((List.filter_sublist).countP_le) (h.efew a), fun e he' => h.ends e (List.mem_filter.1 he').1⟩
  · unfold nodesAfter edgesAfter
    rw [if_neg (by omega), if_pos k, if_neg (by omega), if_neg (by omega), if_pos k]
    refine ⟨fun n hn => h.nok n (List.mem_filter.1 hn).1, h.nasc.filter _, fun a => Nat.le_trans ((List.filter_sublist).countP_le) (h.nfew a), fun e he' => h.eok e (List.mem_filter.1 he').1, h.easc.filter _, fun a => Nat.le_trans ((List.filter_sublist).countP_le) (h.efew a), fun e he' => ?_⟩
    obtain ⟨h1, h2⟩ := List.mem_filter.1 he'
    have h3 := h.ends e h1
    simp only [ne_eq, decide_eq_true_eq] at h2
    exact ⟨List.mem_filter.2 ⟨h3.1, by simpa using h2.1⟩, List.mem_filter.2 ⟨h3.2, by simpa using h2.2⟩⟩
theorem view_ok {ns : List Nd} {es : List Eg} (h : OkG ns es) (c : Int) : OkG (ns.filter fun n => under n.lab c) (es.filter fun e => under e.lab c) := by
  refine ⟨fun n hn => h.nok n (List.mem_filter.1 hn).1, h.nasc.filter _, fun a => Nat.le_trans ((List.filter_sublist).countP_le) (h.nfew a), fun e he' => h.eok e (List.mem_filter.1 he').1, h.easc.filter _, fun a => Nat.le_trans ((List.filter_sublist).countP_le) (h.efew a), fun e he' => ?_⟩
  obtain ⟨h1, h2⟩ := List.mem_filter.1 he'
  have h3 := h.ends e h1
  obtain ⟨_, _, _, _, h4, h5⟩ := okE_iff.1 (h.eok e h1)
  exact ⟨List.mem_filter.2 ⟨h3.1, under_trans h4 h2⟩, List.mem_filter.2 ⟨h3.2, under_trans h5 h2⟩⟩
end Go.Proofs.Ytogmbeifbjgphaa.M
namespace Go.Proofs.Ytogmbeifbjgphaa.M
set_option linter.unusedVariables false
set_option linter.unusedSimpArgs false
variable {ns : List Nd} {es : List Eg} {op : Op}
theorem doC_zero (h : doC ns es op = 0) : OkG ns es ∧ 0 ≤ opLabel op ∧ endOf ns es op = 0 ∧ doN ns es op = nodesAfter ns op ∧ doE ns es op = edgesAfter es op := by
  unfold doC at h
  split at h
  · rename_i hg
    split at h
    · rename_i hl
      refine ⟨okG_true.1 hg, hl, h, ?_, ?_⟩
      · unfold doN
        rw [if_pos hg, if_pos ⟨hl, h⟩]
      · unfold doE
        rw [if_pos hg, if_pos ⟨hl, h⟩]
    · omega
  · omega
theorem doC_ne (hg : OkG ns es) (h : doC ns es op ≠ 0) : doN ns es op = ns ∧ doE ns es op = es := by
  have hg' := okG_true.2 hg
  unfold doC at h
  rw [if_pos hg'] at h
  unfold doN doE
  rw [if_pos hg', if_pos hg']
  have : ¬ (0 ≤ opLabel op ∧ endOf ns es op = 0) := by
    rintro ⟨h1, h2⟩
    rw [if_pos h1] at h
    exact h h2
  rw [if_neg this, if_neg this]
  exact ⟨rfl, rfl⟩
theorem doC_form (hg : OkG ns es) : doC ns es op = 1 ↔ opLabel op < 0 := by
  unfold doC
  rw [if_pos (okG_true.2 hg)]
  have := endOf_rng ns es op
  split <;> omega
theorem doC_rng : doC ns es op = 0 ∨ doC ns es op = 1 ∨ doC ns es op = 2 ∨ doC ns es op = 3 ∨ doC ns es op = 4 := by
  unfold doC
  have := endOf_rng ns es op
  split
  · split <;> omega
  · omega
theorem doC_bent (hg : ¬ OkG ns es) : doC ns es op = 1 ∧ doN ns es op = [] ∧ doE ns es op = [] := by
  have := okG_false.2 hg
  unfold doC doN doE
  rw [this]
  exact ⟨rfl, rfl, rfl⟩
theorem do_ok (hg : OkG ns es) : OkG (doN ns es op) (doE ns es op) := by
  by_cases h : doC ns es op = 0
  · obtain ⟨_, h1, h2, h3, h4⟩ := doC_zero h
    rw [h3, h4]
    exact after_ok hg h1 h2
  · obtain ⟨h1, h2⟩ := doC_ne hg h
    rw [h1, h2]
    exact hg
theorem doC_of {ns : List Nd} {es : List Eg} (hg : OkG ns es) (h : 0 ≤ opLabel op) : doC ns es op = endOf ns es op := by
  unfold doC
  rw [if_pos (okG_true.2 hg), if_pos h]
/-! what 'done' says, kind by kind -/
theorem fine_node (h : doC ns es op = 0) (k : op.kind = 1) : okN op.nd = true ∧ op.eg = zE ∧ op.nd ∉ ns ∧ (ns.countP fun n => n.lab == op.nd.lab) < 5 ∧ doN ns es op = ins code ns op.nd ∧ doE ns es op = es := by
  obtain ⟨hg, hl, he, h3, h4⟩ := doC_zero h
  obtain ⟨h1, h2, _⟩ := opLabel_node hl (.inl k)
  unfold endOf at he
  rw [if_pos k] at he
  refine ⟨h1, h2, fun hn => ?_, Nat.lt_of_not_le fun hc => ?_, ?_, ?_⟩
  · rw [if_pos hn] at he
    omega
  · split at he
    · omega
    · omega
  · rw [h3]
    unfold nodesAfter
    rw [if_pos k]
  · rw [h4]
    unfold edgesAfter
    rw [if_neg (by omega), if_neg (by omega), if_neg (by omega)]
theorem fine_edge (h : doC ns es op = 0) (k : op.kind = 2) : okE op.eg = true ∧ op.nd = zN ∧ op.eg ∉ es ∧ (op.eg.a ∈ ns ∧ op.eg.b ∈ ns) ∧ (es.countP fun e => e.lab == op.eg.lab) < 7 ∧ doN ns es op = ns ∧ doE ns es op = ins key es op.eg := by
  obtain ⟨hg, hl, he, h3, h4⟩ := doC_zero h
  obtain ⟨h1, h2, _⟩ := opLabel_edge hl (.inl k)
  unfold endOf at he
  rw [if_neg (by omega), if_pos k] at he
  have hn : op.eg ∉ es := by
    intro hn
    rw [if_pos hn] at he
    omega
  rw [if_neg hn] at he
  have hab : op.eg.a ∈ ns ∧ op.eg.b ∈ ns := by
    refine Decidable.byContradiction fun hab => ?_
    rw [if_neg hab] at he
    omega
  rw [if_pos hab] at he
  refine ⟨h1, h2, hn, hab, Nat.lt_of_not_le fun hc => ?_, ?_, ?_⟩
  · rw [if_pos hc] at he
    omega
  · rw [h3]
    unfold nodesAfter
    rw [if_neg (by omega), if_neg (by omega)]
  · rw [h4]
    unfold edgesAfter
    rw [if_pos k]
theorem fine_cut (h : doC ns es op = 0) (k : op.kind = 3) : okE op.eg = true ∧ op.nd = zN ∧ op.eg ∈ es ∧ doN ns es op = ns ∧ doE ns es op = es.filter (fun e => decide (e ≠ op.eg)) := by
  obtain ⟨hg, hl, he, h3, h4⟩ := doC_zero h
  obtain ⟨h1, h2, _⟩ := opLabel_edge hl (.inr k)
  unfold endOf at he
  rw [if_neg (by omega), if_neg (by omega), if_pos k] at he
  refine ⟨h1, h2, ?_, ?_, ?_⟩
  · refine Decidable.byContradiction fun hn => ?_
    rw [if_neg hn] at he
    omega
  · rw [h3]
    unfold nodesAfter
    rw [if_neg (by omega), if_neg (by omega)]
  · rw [h4]
    unfold edgesAfter
    rw [if_neg (by omega), if_pos k]
theorem fine_gone (h : doC ns es op = 0) (k : op.kind = 4) : okN op.nd = true ∧ op.eg = zE ∧ op.nd ∈ ns ∧ doN ns es op = ns.filter (fun n => decide (n ≠ op.nd)) ∧ doE ns es op = es.filter (fun e => decide (e.a ≠ op.nd ∧ e.b ≠ op.nd)) := by
  obtain ⟨hg, hl, he, h3, h4⟩ := doC_zero h
  obtain ⟨h1, h2, _⟩ := opLabel_node hl (.inr k)
  unfold endOf at he
  rw [if_neg (by omega), if_neg (by omega), if_neg (by omega)] at he
  refine ⟨h1, h2, ?_, ?_, ?_⟩
  · refine Decidable.byContradiction fun hn => ?_
    rw [if_neg hn] at he
    omega
  · rw [h3]
    unfold nodesAfter
    rw [if_neg (by omega), if_pos k]
  · rw [h4]
    unfold edgesAfter
    rw [if_neg (by omega), if_neg (by omega), if_pos k]
theorem fine_kind (h : doC ns es op = 0) : op.kind = 1 ∨ op.kind = 2 ∨ op.kind = 3 ∨ op.kind = 4 := opLabel_kind (doC_zero h).2.1
theorem mem_insN {ns : List Nd} {es : List Eg} (hg : OkG ns es) {n : Nd} (hn : okN n = true) (y : Nd) : y ∈ ins code ns n ↔ y = n ∨ y ∈ ns := mem_ins_ok hg.nok hn (fun _ _ => code_inj) y
theorem mem_insE {ns : List Nd} {es : List Eg} (hg : OkG ns es) {e : Eg} (hn : okE e = true) (y : Eg) : y ∈ ins key es e ↔ y = e ∨ y ∈ es := mem_ins_ok hg.eok hn (fun _ _ => key_inj) y
/-! done once more, it ends otherwise; and something has turned -/
theorem do_again (h : doC ns es op = 0) : doC (doN ns es op) (doE ns es op) op ≠ 0 := by
  obtain ⟨hg, hl, _⟩ := doC_zero h
  rw [doC_of (do_ok hg) hl]
  rcases fine_kind h with k | k | k | k
  · obtain ⟨h1, _, _, _, e1, e2⟩ := fine_node h k
    rw [e1, e2]
    unfold endOf
    rw [if_pos k, if_pos ((mem_insN hg h1 _).2 (.inl rfl))]
    decide
  · obtain ⟨h1, _, _, _, _, e1, e2⟩ := fine_edge h k
    rw [e1, e2]
    unfold endOf
    rw [if_neg (by omega), if_pos k, if_pos ((mem_insE hg h1 _).2 (.inl rfl))]
    decide
  · obtain ⟨h1, _, _, e1, e2⟩ := fine_cut h k
    rw [e1, e2]
    unfold endOf
    rw [if_neg (by omega), if_neg (by omega), if_pos k, if_neg (by simp)]
    decide
  · obtain ⟨h1, _, _, e1, e2⟩ := fine_gone h k
    rw [e1, e2]
    unfold endOf
    rw [if_neg (by omega), if_neg (by omega), if_neg (by omega), if_neg (by simp)]
    decide
theorem do_other (h : doC ns es op = 0) : ¬ (doN ns es op = ns ∧ doE ns es op = es) := by
  rintro ⟨e1, e2⟩
  have := do_again h
  rw [e1, e2] at this
  exact this h
/-! and back again -/
def back (op : Op) : Op := { op with kind := if op.kind = 1 then 4 else if op.kind = 2 then 3 else 2 }
theorem do_back (h : doC ns es op = 0) (h4 : op.kind ≠ 4) : doC (doN ns es op) (doE ns es op) (back op) = 0 ∧ doN (doN ns es op) (doE ns es op) (back op) = ns ∧ doE (doN ns es op) (doE ns es op) (back op) = es := by
  obtain ⟨hg, hl, _⟩ := doC_zero h
  have hg' := do_ok (op := op) hg
  have key0 : 0 ≤ opLabel (back op) ∧ endOf (doN ns es op) (doE ns es op) (back op) = 0 ∧ nodesAfter (doN ns es op) (back op) = ns ∧ edgesAfter (doE ns es op) (back op) = es := by
    rcases fine_kind h with k | k | k | k
    · obtain ⟨h1, h2, h3, _, e1, e2⟩ := fine_node h k
      have hb : back op = { op with kind := 4 } := by unfold back; rw [if_pos k]
      rw [hb, e1, e2]
      refine ⟨?_, ?_, ?_, ?_⟩
      · unfold opLabel at *
        simp only [k] at hl
        simpa using hl
      · unfold endOf
        simp only
        rw [if_neg (by omega), if_neg (by omega), if_neg (by omega), if_pos ((mem_insN hg h1 _).2 (.inl rfl))]
      · unfold nodesAfter
        simp only
        rw [if_neg (by omega), if_pos (by trivial)]
        refine asc_ext ((asc_ins hg.nasc _).filter _) hg.nasc fun y => ?_
        rw [List.mem_filter, mem_insN hg h1]
        simp only [ne_eq, decide_eq_true_eq]
        constructor
        · rintro ⟨rfl | hy, hne⟩
          · exact absurd rfl hne
          · exact hy
        · intro hy
          exact ⟨.inr hy, fun e => h3 (e ▸ hy)⟩
      · unfold edgesAfter
        simp only
        rw [if_neg (by omega), if_neg (by omega), if_pos (by trivial), List.filter_eq_self]
        intro e he
        have := hg.ends e he
        simp only [ne_eq, decide_eq_true_eq]
        exact ⟨fun e' => h3 (e' ▸ this.1), fun e' => h3 (e' ▸ this.2)⟩
    · obtain ⟨h1, h2, h3, h5, h6, e1, e2⟩ := fine_edge h k
      have hb : back op = { op with kind := 3 } := by unfold back; rw [if_neg (by omega), if_pos k]
      rw [hb, e1, e2]
      refine ⟨?_, ?_, ?_, ?_⟩
      · unfold opLabel at *
        simp only [k] at hl
        simpa using hl
      · unfold endOf
        simp only
        rw [if_neg (by omega), if_neg (by omega), if_pos (by trivial), if_pos ((mem_insE hg h1 _).2 (.inl rfl))]
      · unfold nodesAfter
        simp only
        rw [if_neg (by omega), if_neg (by omega)]
      · unfold edgesAfter
        simp only
        rw [if_neg (by omega), if_pos (by trivial)]
        refine asc_ext ((asc_ins hg.easc _).filter _) hg.easc fun y => ?_
        rw [List.mem_filter, mem_insE hg h1]
        simp only [ne_eq, decide_eq_true_eq]
        constructor
        · rintro ⟨rfl | hy, hne⟩
          · exact absurd rfl hne
          · exact hy
        · intro hy
          exact ⟨.inr hy, fun e => h3 (e ▸ hy)⟩
    · obtain ⟨h1, h2, h3, e1, e2⟩ := fine_cut h k
      have hb : back op = { op with kind := 2 } := by unfold back; rw [if_neg (by omega), if_neg (by omega)]
      rw [hb, e1, e2]
      have hsub : ∀ y ∈ es.filter (fun e => decide (e ≠ op.eg)), okE y = true := fun y hy => hg.eok y (List.mem_filter.1 hy).1
      have hnot : op.eg ∉ es.filter (fun e => decide (e ≠ op.eg)) := by simp
      have hcnt : (es.filter (fun e => decide (e ≠ op.eg))).countP (fun e => e.lab == op.eg.lab) < 7 := by
        have h7 := hg.efew op.eg.lab
        rw [List.countP_eq_countP_filter_add es _ (fun e => decide (e ≠ op.eg))] at h7
        have : 0 < (es.filter (fun a => !decide (a ≠ op.eg))).countP (fun e => e.lab == op.eg.lab) := by
          rw [List.countP_pos_iff]
          exact ⟨op.eg, List.mem_filter.2 ⟨h3, by simp⟩, by simp⟩
        omega
      refine ⟨?_, ?_, ?_, ?_⟩
      · unfold opLabel at *
        simp only [k] at hl
        simpa using hl
      · unfold endOf
        simp only
        rw [if_neg (by omega), if_pos (by trivial), if_neg hnot, if_pos (hg.ends _ h3), if_neg (by omega)]
      · unfold nodesAfter
        simp only
        rw [if_neg (by omega), if_neg (by omega)]
      · unfold edgesAfter
        simp only
        rw [if_pos (by trivial)]
        refine asc_ext (asc_ins (hg.easc.filter _) _) hg.easc fun y => ?_
        rw [mem_ins_ok hsub h1 (fun _ _ => key_inj), List.mem_filter]
        simp only [ne_eq, decide_eq_true_eq]
        constructor
        · rintro (rfl | hy)
          · exact h3
          · exact hy.1
        · intro hy
          by_cases e : y = op.eg
          · exact .inl e
          · exact .inr ⟨hy, e⟩
    · exact absurd k h4
  obtain ⟨k1, k2, k3, k4⟩ := key0
  have hc : doC (doN ns es op) (doE ns es op) (back op) = 0 := by rw [doC_of hg' k1, k2]
  obtain ⟨_, _, _, e3, e4⟩ := doC_zero hc
  exact ⟨hc, e3.trans k3, e4.trans k4⟩
/-! two additions, in either order -/
theorem op_ext {a b : Op} (h1 : a.kind = b.kind) (h2 : a.nd = b.nd) (h3 : a.eg = b.eg) : a = b := by
  cases a
  cases b
  simp only at h1 h2 h3
  rw [h1, h2, h3]
theorem endOf1 (k : op.kind = 1) : endOf ns es op = if op.nd ∈ ns then 2 else if 5 ≤ (ns.countP fun n => n.lab == op.nd.lab) then 4 else 0 := by
  unfold endOf
  rw [if_pos k]
theorem endOf2 (k : op.kind = 2) : endOf ns es op = if op.eg ∈ es then 2 else if op.eg.a ∈ ns ∧ op.eg.b ∈ ns then (if 7 ≤ (es.countP fun e => e.lab == op.eg.lab) then 4 else 0) else 3 := by
  unfold endOf
  rw [if_neg (by omega), if_pos k]
theorem endOf3 (k : op.kind = 3) : endOf ns es op = if op.eg ∈ es then 0 else 3 := by
  unfold endOf
  rw [if_neg (by omega), if_neg (by omega), if_pos k]
theorem endOf4 (k : op.kind = 4) : endOf ns es op = if op.nd ∈ ns then 0 else 3 := by
  unfold endOf
  rw [if_neg (by omega), if_neg (by omega), if_neg (by omega)]
theorem ins_comm {α : Type} {key : α → Int} {l : List α} {x y : α} {ok : α → Bool} (h : Asc key l) (hl : ∀ a ∈ l, ok a = true) (hx : ok x = true) (hy : ok y = true) (hi : ∀ a b, ok a = true → ok b = true → key a = key b → a = b) :
    ins key (ins key l x) y = ins key (ins key l y) x := by
  have h1 : ∀ a ∈ ins key l x, ok a = true := fun a ha => by
    rcases (mem_ins_ok hl hx hi a).1 ha with rfl | ha
    · exact hx
    · exact hl a ha
  have h2 : ∀ a ∈ ins key l y, ok a = true := fun a ha => by
    rcases (mem_ins_ok hl hy hi a).1 ha with rfl | ha
    · exact hy
    · exact hl a ha
  refine asc_ext (asc_ins (asc_ins h _) _) (asc_ins (asc_ins h _) _) fun z => ?_
  rw [mem_ins_ok h1 hy hi, mem_ins_ok hl hx hi, mem_ins_ok h2 hx hi, mem_ins_ok hl hy hi]
  constructor
  · rintro (h | h | h)
    · exact .inr (.inl h)
    · exact .inl h
    · exact .inr (.inr h)
  · rintro (h | h | h)
    · exact .inr (.inl h)
    · exact .inl h
    · exact .inr (.inr h)
theorem do_swap {a b : Op} (ha : doC ns es a = 0) (hb : doC ns es b = 0) (ka : a.kind ≤ 2) (kb : b.kind ≤ 2) :
    (doC (doN ns es a) (doE ns es a) b = 0 ∧ doC (doN ns es b) (doE ns es b) a = 0 ∧ doN (doN ns es a) (doE ns es a) b = doN (doN ns es b) (doE ns es b) a ∧ doE (doN ns es a) (doE ns es a) b = doE (doN ns es b) (doE ns es b) a) ∨
    (doC (doN ns es a) (doE ns es a) b = 2 ∧ doC (doN ns es b) (doE ns es b) a = 2 ∧ a = b) ∨ doC (doN ns es a) (doE ns es a) b = 4 ∨ doC (doN ns es b) (doE ns es b) a = 4 := by
  obtain ⟨hg, la, _⟩ := doC_zero ha
  obtain ⟨_, lb, _⟩ := doC_zero hb
  have hga := do_ok (op := a) hg
  have hgb := do_ok (op := b) hg
  have fin : ∀ {e f : Int}, doC (doN ns es a) (doE ns es a) b = 0 → doC (doN ns es b) (doE ns es b) a = 0 → nodesAfter (doN ns es a) b = nodesAfter (doN ns es b) a → edgesAfter (doE ns es a) b = edgesAfter (doE ns es b) a →
      doN (doN ns es a) (doE ns es a) b = doN (doN ns es b) (doE ns es b) a ∧ doE (doN ns es a) (doE ns es a) b = doE (doN ns es b) (doE ns es b) a := by
    intro e f h1 h2 h3 h4
    obtain ⟨_, _, _, q1, q2⟩ := doC_zero h1
    obtain ⟨_, _, _, q3, q4⟩ := doC_zero h2
    rw [q1, q2, q3, q4]
    exact ⟨h3, h4⟩
  have ka' : a.kind = 1 ∨ a.kind = 2 := by rcases fine_kind ha with k | k | k | k <;> omega
  have kb' : b.kind = 1 ∨ b.kind = 2 := by rcases fine_kind hb with k | k | k | k <;> omega
  rw [doC_of hga lb, doC_of hgb la] at *
  rcases ka' with ka' | ka' <;> rcases kb' with kb' | kb'
  · obtain ⟨a1, a2, a3, a4, a5, a6⟩ := fine_node ha ka'
    obtain ⟨b1, b2, b3, b4, b5, b6⟩ := fine_node hb kb'
    by_cases e : a.nd = b.nd
    · refine .inr (.inl ⟨?_, ?_, ?_⟩)
      · unfold endOf
        rw [if_pos kb', a5, if_pos ((mem_insN hg a1 _).2 (.inl e.symm))]
      · unfold endOf
        rw [if_pos ka', b5, if_pos ((mem_insN hg b1 _).2 (.inl e))]
      · exact op_ext (by omega) e (a2.trans b2.symm)
    · have q1 : b.nd ∉ doN ns es a := by
        rw [a5, mem_insN hg a1]
        rintro (h | h)
        · exact e h.symm
        · exact b3 h
      have q2 : a.nd ∉ doN ns es b := by
        rw [b5, mem_insN hg b1]
        rintro (h | h)
        · exact e h
        · exact a3 h
      by_cases c1 : 5 ≤ ((doN ns es a).countP fun n => n.lab == b.nd.lab)
      · refine .inr (.inr (.inl ?_))
        unfold endOf
        rw [if_pos kb', if_neg q1, if_pos c1]
      · by_cases c2 : 5 ≤ ((doN ns es b).countP fun n => n.lab == a.nd.lab)
        · refine .inr (.inr (.inr ?_))
          unfold endOf
          rw [if_pos ka', if_neg q2, if_pos c2]
        · have z1 : endOf (doN ns es a) (doE ns es a) b = 0 := by
            unfold endOf
            rw [if_pos kb', if_neg q1, if_neg c1]
          have z2 : endOf (doN ns es b) (doE ns es b) a = 0 := by
            unfold endOf
            rw [if_pos ka', if_neg q2, if_neg c2]
          refine .inl ⟨z1, z2, fin (e := 0) (f := 0) (by rw [z1]) (by rw [z2]) ?_ ?_⟩
          · unfold nodesAfter
            rw [if_pos kb', if_pos ka', a5, b5]
            exact ins_comm hg.nasc hg.nok a1 b1 (fun _ _ => code_inj)
          · unfold edgesAfter
            rw [if_neg (by omega), if_neg (by omega), if_neg (by omega), if_neg (by omega), if_neg (by omega), if_neg (by omega), a6, b6]
  · obtain ⟨a1, a2, a3, a4, a5, a6⟩ := fine_node ha ka'
    obtain ⟨b1, b2, b3, b4, b7, b5, b6⟩ := fine_edge hb kb'
    have z1 : endOf (doN ns es a) (doE ns es a) b = 0 := by
      unfold endOf
      rw [if_neg (by omega), if_pos kb', a5, a6, if_neg b3, if_pos ⟨(mem_insN hg a1 _).2 (.inr b4.1), (mem_insN hg a1 _).2 (.inr b4.2)⟩, if_neg (by omega)]
    have z2 : endOf (doN ns es b) (doE ns es b) a = 0 := by
      unfold endOf
      rw [if_pos ka', b5, if_neg a3, if_neg (by omega)]
    refine .inl ⟨z1, z2, fin (e := 0) (f := 0) (by rw [z1]) (by rw [z2]) ?_ ?_⟩
    · unfold nodesAfter
      rw [if_neg (by omega), if_neg (by omega), if_pos ka', a5, b5]
    · unfold edgesAfter
      rw [if_pos kb', if_neg (by omega), if_neg (by omega), if_neg (by omega), a6, b6]
  · obtain ⟨a1, a2, a3, a4, a7, a5, a6⟩ := fine_edge ha ka'
    obtain ⟨b1, b2, b3, b4, b5, b6⟩ := fine_node hb kb'
    have z1 : endOf (doN ns es a) (doE ns es a) b = 0 := by
      unfold endOf
      rw [if_pos kb', a5, if_neg b3, if_neg (by omega)]
    have z2 : endOf (doN ns es b) (doE ns es b) a = 0 := by
      unfold endOf
      rw [if_neg (by omega), if_pos ka', b5, b6, if_neg a3, if_pos ⟨(mem_insN hg b1 _).2 (.inr a4.1), (mem_insN hg b1 _).2 (.inr a4.2)⟩, if_neg (by omega)]
    refine .inl ⟨z1, z2, fin (e := 0) (f := 0) (by rw [z1]) (by rw [z2]) ?_ ?_⟩
    · unfold nodesAfter
      rw [if_pos kb', if_neg (by omega), if_neg (by omega), a5, b5]
    · unfold edgesAfter
      rw [if_neg (by omega), if_neg (by omega), if_neg (by omega), if_pos ka', a6, b6]
  · obtain ⟨a1, a2, a3, a4, a7, a5, a6⟩ := fine_edge ha ka'
    obtain ⟨b1, b2, b3, b4, b7, b5, b6⟩ := fine_edge hb kb'
    by_cases e : a.eg = b.eg
    · refine .inr (.inl ⟨?_, ?_, ?_⟩)
      · unfold endOf
        rw [if_neg (by omega), if_pos kb', a6, if_pos ((mem_insE hg a1 _).2 (.inl e.symm))]
      · unfold endOf
        rw [if_neg (by omega), if_pos ka', b6, if_pos ((mem_insE hg b1 _).2 (.inl e))]
      · exact op_ext (by omega) (a2.trans b2.symm) e
    · have q1 : b.eg ∉ doE ns es a := by
        rw [a6, mem_insE hg a1]
        rintro (h | h)
        · exact e h.symm
        · exact b3 h
      have q2 : a.eg ∉ doE ns es b := by
        rw [b6, mem_insE hg b1]
        rintro (h | h)
        · exact e h
        · exact a3 h
      by_cases c1 : 7 ≤ ((doE ns es a).countP fun n => n.lab == b.eg.lab)
      · refine .inr (.inr (.inl ?_))
        unfold endOf
        rw [if_neg (by omega), if_pos kb', if_neg q1, a5, if_pos b4, if_pos c1]
      · by_cases c2 : 7 ≤ ((doE ns es b).countP fun n => n.lab == a.eg.lab)
        · refine .inr (.inr (.inr ?_))
          unfold endOf
          rw [if_neg (by omega), if_pos ka', if_neg q2, b5, if_pos a4, if_pos c2]
        · have z1 : endOf (doN ns es a) (doE ns es a) b = 0 := by
            unfold endOf
            rw [if_neg (by omega), if_pos kb', if_neg q1, a5, if_pos b4, if_neg c1]
          have z2 : endOf (doN ns es b) (doE ns es b) a = 0 := by
            unfold endOf
            rw [if_neg (by omega), if_pos ka', if_neg q2, b5, if_pos a4, if_neg c2]
          refine .inl ⟨z1, z2, fin (e := 0) (f := 0) (by rw [z1]) (by rw [z2]) ?_ ?_⟩
          · unfold nodesAfter
            rw [if_neg (by omega), if_neg (by omega), if_neg (by omega), if_neg (by omega), a5, b5]
          · unfold edgesAfter
            rw [if_pos kb', if_pos ka', a6, b6]
            exact ins_comm hg.easc hg.eok a1 b1 (fun _ _ => key_inj)
/-! what is seen of what is done -/
theorem view_of (hg : OkG ns es) (c : Int) : viewN ns es c = ns.filter (fun n => under n.lab c) ∧ viewE ns es c = es.filter (fun e => under e.lab c) := by
  unfold viewN viewE
  rw [if_pos (okG_true.2 hg), if_pos (okG_true.2 hg)]
  exact ⟨rfl, rfl⟩
theorem filter_ins_in {α : Type} {key : α → Int} {l : List α} {x : α} {ok : α → Bool} (h : Asc key l) (hl : ∀ a ∈ l, ok a = true) (hx : ok x = true) (hi : ∀ a b, ok a = true → ok b = true → key a = key b → a = b) (p : α → Bool) :
    (ins key l x).filter p = if p x = true then ins key (l.filter p) x else l.filter p := by
  have hl' : ∀ a ∈ l.filter p, ok a = true := fun a ha => hl a (List.mem_filter.1 ha).1
  split
  · rename_i hp
    refine asc_ext ((asc_ins h _).filter _) (asc_ins (h.filter _) _) fun z => ?_
    rw [List.mem_filter, mem_ins_ok hl hx hi, mem_ins_ok hl' hx hi, List.mem_filter]
    constructor
    · rintro ⟨rfl | h1, h2⟩
      · exact .inl rfl
      · exact .inr ⟨h1, h2⟩
    · rintro (rfl | ⟨h1, h2⟩)
      · exact ⟨.inl rfl, hp⟩
      · exact ⟨.inr h1, h2⟩
  · rename_i hp
    refine asc_ext ((asc_ins h _).filter _) (h.filter _) fun z => ?_
    rw [List.mem_filter, mem_ins_ok hl hx hi, List.mem_filter]
    constructor
    · rintro ⟨rfl | h1, h2⟩
      · exact absurd h2 hp
      · exact ⟨h1, h2⟩
    · rintro ⟨h1, h2⟩
      exact ⟨.inr h1, h2⟩
theorem countP_under {α : Type} (lab : α → Int) (l : List α) {a c : Int} (h : under a c = true) : (l.filter fun x => under (lab x) c).countP (fun x => lab x == a) = l.countP (fun x => lab x == a) := by
  rw [List.countP_filter]
  apply List.countP_congr
  intro x _
  simp only [Bool.and_eq_true, beq_iff_eq]
  constructor
  · rintro ⟨e, _⟩
    exact e
  · intro e
    exact ⟨e, by rw [e]; exact h⟩
theorem filter_comm {α : Type} (p q : α → Bool) (l : List α) : (l.filter p).filter q = (l.filter q).filter p := by
  rw [List.filter_filter, List.filter_filter]
  apply List.filter_congr
  intro a _
  rw [Bool.and_comm]
theorem do_unseen (hg : OkG ns es) {c : Int} (h : under (opLabel op) c = false) : viewN (doN ns es op) (doE ns es op) c = viewN ns es c ∧ viewE (doN ns es op) (doE ns es op) c = viewE ns es c := by
  by_cases hz : doC ns es op = 0
  · rw [(view_of (do_ok hg) c).1, (view_of (do_ok hg) c).2, (view_of hg c).1, (view_of hg c).2]
    obtain ⟨_, hl, _⟩ := doC_zero hz
    rcases fine_kind hz with k | k | k | k
    · obtain ⟨h1, h2, h3, _, e1, e2⟩ := fine_node hz k
      rw [(opLabel_node hl (.inl k)).2.2] at h
      rw [e1, e2, filter_ins_in hg.nasc hg.nok h1 (fun _ _ => code_inj), if_neg (by rw [h]; decide)]
      exact ⟨rfl, rfl⟩
    · obtain ⟨h1, h2, h3, _, _, e1, e2⟩ := fine_edge hz k
      rw [(opLabel_edge hl (.inl k)).2.2] at h
      rw [e1, e2, filter_ins_in hg.easc hg.eok h1 (fun _ _ => key_inj), if_neg (by rw [h]; decide)]
      exact ⟨rfl, rfl⟩
    · obtain ⟨h1, h2, h3, e1, e2⟩ := fine_cut hz k
      rw [(opLabel_edge hl (.inr k)).2.2] at h
      rw [e1, e2]
      refine ⟨rfl, ?_⟩
      rw [filter_comm]
      refine List.filter_eq_self.2 fun e he => ?_
      simp only [ne_eq, decide_eq_true_eq]
      rintro rfl
      rw [(List.mem_filter.1 he).2] at h
      cases h
    · obtain ⟨h1, h2, h3, e1, e2⟩ := fine_gone hz k
      rw [(opLabel_node hl (.inr k)).2.2] at h
      rw [e1, e2]
      refine ⟨?_, ?_⟩
      · rw [filter_comm]
        refine List.filter_eq_self.2 fun e he => ?_
        simp only [ne_eq, decide_eq_true_eq]
        rintro rfl
        rw [(List.mem_filter.1 he).2] at h
        cases h
      · rw [filter_comm]
        refine List.filter_eq_self.2 fun e he => ?_
        obtain ⟨q1, q2⟩ := List.mem_filter.1 he
        obtain ⟨_, _, _, _, q4, q5⟩ := okE_iff.1 (hg.eok e q1)
        simp only [ne_eq, decide_eq_true_eq]
        refine ⟨fun e' => ?_, fun e' => ?_⟩
        · rw [e'] at q4
          rw [under_trans q4 q2] at h
          cases h
        · rw [e'] at q5
          rw [under_trans q5 q2] at h
          cases h
  · obtain ⟨e1, e2⟩ := doC_ne hg hz
    rw [e1, e2]
    exact ⟨rfl, rfl⟩
theorem endOf_seen (hg : OkG ns es) {c : Int} (hl : 0 ≤ opLabel op) (h : under (opLabel op) c = true) : endOf (ns.filter fun n => under n.lab c) (es.filter fun e => under e.lab c) op = endOf ns es op := by
  have mn : ∀ n : Nd, under n.lab c = true → (n ∈ (ns.filter fun n => under n.lab c) ↔ n ∈ ns) := fun n hn => by
    rw [List.mem_filter]
    exact ⟨fun q => q.1, fun q => ⟨q, hn⟩⟩
  have me : ∀ n : Eg, under n.lab c = true → (n ∈ (es.filter fun n => under n.lab c) ↔ n ∈ es) := fun n hn => by
    rw [List.mem_filter]
    exact ⟨fun q => q.1, fun q => ⟨q, hn⟩⟩
  rcases opLabel_kind hl with k | k | k | k
  · have h0 := h
    rw [(opLabel_node hl (.inl k)).2.2] at h0
    rw [endOf1 k, endOf1 k, countP_under (fun n : Nd => n.lab) ns h0]
    simp only [mn _ h0]
  · have h0 := h
    obtain ⟨h1, _, h2⟩ := opLabel_edge hl (.inl k)
    rw [h2] at h0
    obtain ⟨_, _, _, _, q4, q5⟩ := okE_iff.1 h1
    rw [endOf2 k, endOf2 k, countP_under (fun n : Eg => n.lab) es h0]
    simp only [me _ h0, mn _ (under_trans q4 h0), mn _ (under_trans q5 h0)]
  · have h0 := h
    obtain ⟨h1, _, h2⟩ := opLabel_edge hl (.inr k)
    rw [h2] at h0
    rw [endOf3 k, endOf3 k]
    simp only [me _ h0]
  · have h0 := h
    rw [(opLabel_node hl (.inr k)).2.2] at h0
    rw [endOf4 k, endOf4 k]
    simp only [mn _ h0]
theorem do_seen (hg : OkG ns es) {c : Int} (hl : 0 ≤ opLabel op) (h : under (opLabel op) c = true) :
    doC (viewN ns es c) (viewE ns es c) op = doC ns es op ∧ doN (viewN ns es c) (viewE ns es c) op = viewN (doN ns es op) (doE ns es op) c ∧ doE (viewN ns es c) (viewE ns es c) op = viewE (doN ns es op) (doE ns es op) c := by
  rw [(view_of hg c).1, (view_of hg c).2, (view_of (do_ok hg) c).1, (view_of (do_ok hg) c).2]
  have hv := view_ok hg c
  have hc : doC (ns.filter fun n => under n.lab c) (es.filter fun e => under e.lab c) op = doC ns es op := by rw [doC_of hv hl, doC_of hg hl, endOf_seen hg hl h]
  refine ⟨hc, ?_⟩
  by_cases hz : doC ns es op = 0
  · have hz' := hc.trans hz
    rcases fine_kind hz with k | k | k | k
    · obtain ⟨h1, h2, h3, _, e1, e2⟩ := fine_node hz k
      obtain ⟨_, _, _, _, f1, f2⟩ := fine_node hz' k
      have h0 := h
      rw [(opLabel_node hl (.inl k)).2.2] at h0
      rw [e1, e2, f1, f2, filter_ins_in hg.nasc hg.nok h1 (fun _ _ => code_inj), if_pos h0]
      exact ⟨rfl, rfl⟩
    · obtain ⟨h1, h2, h3, _, _, e1, e2⟩ := fine_edge hz k
      obtain ⟨_, _, _, _, _, f1, f2⟩ := fine_edge hz' k
      have h0 := h
      rw [(opLabel_edge hl (.inl k)).2.2] at h0
      rw [e1, e2, f1, f2, filter_ins_in hg.easc hg.eok h1 (fun _ _ => key_inj), if_pos h0]
      exact ⟨rfl, rfl⟩
    · obtain ⟨h1, h2, h3, e1, e2⟩ := fine_cut hz k
      obtain ⟨_, _, _, f1, f2⟩ := fine_cut hz' k
      rw [e1, e2, f1, f2]
      exact ⟨rfl, filter_comm _ _ _⟩
    · obtain ⟨h1, h2, h3, e1, e2⟩ := fine_gone hz k
      obtain ⟨_, _, _, f1, f2⟩ := fine_gone hz' k
      rw [e1, e2, f1, f2]
      exact ⟨filter_comm _ _ _, filter_comm _ _ _⟩
  · obtain ⟨e1, e2⟩ := doC_ne hg hz
    obtain ⟨f1, f2⟩ := doC_ne hv (fun q => hz (hc.symm.trans q))
    rw [e1, e2, f1, f2]
    exact ⟨rfl, rfl⟩
/-! who is near -/
end Go.Proofs.Ytogmbeifbjgphaa.M
