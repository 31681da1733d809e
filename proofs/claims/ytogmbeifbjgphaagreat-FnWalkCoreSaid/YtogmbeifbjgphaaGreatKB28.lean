/- The order of nodes, as a sort asks it: what is called only lays blocks and draws; slices.SortFunc at nodes: the row holds the same nodes, in order of their numbers; impl.GraphNear. -/
import Derived.Sort.Grow
import Derived.Test.YtogmbeifbjgphaaGreatKB27
import Derived.Test.YtogmbeifbjgphaaGreatKGV
import Derived.Test.YtogmbeifbjgphaaGreatKB7
import Derived.Test.YtogmbeifbjgphaaGreatKB11
import Derived.Test.YtogmbeifbjgphaaGreatKB25
namespace Go.Proofs.YtogmbeifbjgphaaGreat.R
open Go.Sort Go.RowKit Go.Proofs.YtogmbeifbjgphaaGreatV.PrintWords Go.Proofs.YtogmbeifbjgphaaGreatV.PrintLast Go.Proofs.YtogmbeifbjgphaaGreatV.PrintMore Go.Proofs.YtogmbeifbjgphaaGreat.M
set_option linter.unusedVariables false
set_option linter.unusedSimpArgs false
attribute [local go_sem high] eqN eqE
abbrev sNo1 : Pl := (.tk 0 (.tk 2 (.nd .one 1 (.nd .one 3 (.nd .one 4 (.tk 5 .fin))))))
theorem sNo1_ok : planB .any (opsOf Tryz.f59 1) [] sNo1 (Array.replicate (opsOf Tryz.f59 1).size false) = true := by kernel_rfl
/-- Only blocks are laid and draws made. -/
def Bd (w w' : World) : Prop := Below w.heap.size w w' ∧ w.drawn ≤ w'.drawn
theorem Bd.step {w a b : World} (h : Bd w a) (k : Bd a b) : Bd w b := ⟨below_step h.1 k.1, Nat.le_trans h.2 k.2⟩
theorem Bd.alloc (w : World) (o : Obj) : Bd w (w.alloc o) := ⟨below_alloc (Below.refl _ _) _, Nat.le_refl _⟩
theorem Bd.allocs {w u : World} (h : Bd w u) (o : Obj) : Bd w (u.alloc o) := h.step (Bd.alloc u o)
theorem grow_of {w w' : World} (h : Bd w w') : ∃ q os, w' = grow (w.drewN q) os := by
 obtain ⟨⟨h1, h2, h3, h4, h5⟩, h6⟩ := h
 refine ⟨w'.drawn - w.drawn, w'.heap.extract w.heap.size w'.heap.size, ?_⟩
 have hh : w'.heap = w.heap ++ w'.heap.extract w.heap.size w'.heap.size := by
  apply Array.ext_getElem?
  intro i
  by_cases hi : i < w.heap.size
  ·rw [Array.getElem?_append_left hi]
   exact h5 i hi
  ·rw [Array.getElem?_append_right (by omega), Array.getElem?_extract]
   split
   ·congr 1
    omega
   ·rw [Array.getElem?_eq_none (by omega)]
 cases w
 cases w'
 simp only [grow, World.drewN] at *
 subst h1 h2 h3
 congr 1
 omega
section
variable {P : Program} {ops : Array Oper} {Q : Exit → Act → World → Prop}
theorem region_bd {id : Nat} {a : Act} {w : World} (ds : List Nat) (p : Pl) (hm : P.follows .mixedOrders = true) (hc : planB .any ops ds p (Array.replicate ops.size false) = true) (hl : p.depth ≤ ops.size)
 (hQ : ∀ (d : Option Tmp) (v : Value) (c : _) (a : Act) (w : World), Q (.panic c) (a.put d v) w → Q (.panic c) a w) (h : ∀ u, Bd w u → wpP P ops Q (Bd w) p a u) : (Code.region id ops true).wp P Q a w :=
 region_pl (Bd w) ds p hm hc hl hQ ⟨(Below.refl _ _).drew, Nat.le_succ _⟩ fun u _ hS => h u hS
end
theorem nodeOk_bd (n : Nd) (w : World) : Calls Tryz.prog 74 #[.agg #[.int .i64 n.lab, .int .i64 n.num]] w fun e w' => e = .returned (.bool (okN n)) ∧ Bd w w' := by
 rcases okN_tests n with ⟨h0, h1, h2, h3⟩ | ⟨h0, h1⟩ | ⟨h0, h1, h2⟩ | ⟨h0, h1, h2, h3⟩
 all_goals
  have H0 := Aside0.mk h0
  have H1 := Aside0.mk h1
  clear h0 h1
  go_enter Tryz.func74, Tryz.ntmps74
  go_wp2_with (first | (go_at_call 62; (refine (labelOk_calls n.lab _).mono ?_); rintro e w' ⟨rfl, rfl⟩; rw [H1.out]))
  go_ret
  exact ⟨retB (by rw [H0.out]; first | done | rfl | exact decide_eq_false (by omega) | exact decide_eq_true (by omega)), Bd.alloc _ _⟩
set_option maxHeartbeats 800000 in
theorem nodeCode_bd (n : Nd) (w : World) : Calls Tryz.prog 113 #[.agg #[.int .i64 n.lab, .int .i64 n.num]] w fun e w' => e = .returned (.int .i64 (codeI n)) ∧ Bd w w' := by
 cases h : okN n with
 | false =>
   have HC := Aside0.mk (show codeI n = -1 by unfold codeI; rw [h]; rfl)
   have H := Aside0.mk h
   clear h
   go_enter Tryz.func113, Tryz.ntmps113
   go_wp2_with (first | (go_at_call 74; (refine (nodeOk_bd n _).mono ?_); rintro e w' ⟨rfl, hb⟩; rw [H.out]; have HB := Aside0.mk ((Bd.alloc w _).step hb); clear hb))
   go_ret
   exact ⟨retI HC.out.symm, HB.out⟩
 | true =>
   have HC := Aside0.mk (show codeI n = 64 * n.lab + n.num by unfold codeI; rw [h]; rfl)
   obtain ⟨⟨l0, l7⟩, m0, m1⟩ := okN_iff.1 h
   have H := Aside0.mk h
   clear h
   go_enter Tryz.func113, Tryz.ntmps113
   go_wp2_with (first | (go_at_call 74; (refine (nodeOk_bd n _).mono ?_); rintro e w' ⟨rfl, hb⟩; rw [H.out]; have HB := Aside0.mk ((Bd.alloc w _).step hb); have hc0 : w'.cell? ⟨w.heap.size, 0, none⟩ = some (.int .i64 n.lab) := (hb.1.cell (by simp)).trans (by simp); have hc1 : w'.cell? ⟨w.heap.size, 1, none⟩ = some (.int .i64 n.num) := (hb.1.cell (by simp)).trans (by simp); clear hb))
   go_ret
   exact ⟨retI HC.out.symm, HB.out⟩
set_option maxHeartbeats 3200000 in
set_option maxRecDepth 100000 in
theorem nodeOrder_bd (x y : Nd) (w : World) : Calls Tryz.prog 59 #[.agg #[.int .i64 x.lab, .int .i64 x.num], .agg #[.int .i64 y.lab, .int .i64 y.num]] w fun e w' => e = .returned (.int .i64 (cmpI (codeI x) (codeI y))) ∧ Bd w w' := by
 obtain ⟨L0, L1, HB⟩ := al2 w #[.int .i64 x.lab, .int .i64 x.num] #[.int .i64 y.lab, .int .i64 y.num] 28 28
 clear HB
 have HB := Aside0.mk ((Bd.alloc w (.cells #[.int .i64 x.lab, .int .i64 x.num] 28)).allocs (.cells #[.int .i64 y.lab, .int .i64 y.num] 28))
 go_enter Tryz.func59, Tryz.ntmps59
 go_wp2_with (fail)
 have ZL0 := L0
 have ZL1 := L1
 refine region_bd [] sNo1 (by kernel_rfl) sNo1_ok (by decide) (fun d _ _ _ _ h => by cases d <;> exact h) ?_
 intro u hb
 have hS := hb
 replace HB := Aside0.mk (HB.out.step hb)
 clear hb
 repeat (first | (refine p_off hS gt_ (by rfl) ?_; intro a_ ha_; (simp only [Act.put, pu1, pu2, pu3] at ha_); subst ha_) | (refine p_on (v := ?_) hS gt_ (by rfl) ?_ ?_; rotate_left; (· rintro w_ hS_; obtain ⟨c0_, c1_⟩ := cs2 (blk_below ZL0.out hS_.1); obtain ⟨e0_, e1_⟩ := cs2 (blk_below ZL1.out hS_.1); go_simp; with_reducible rfl); intro a_ ha_; (simp only [Act.put, pu1, pu2, pu3] at ha_); subst ha_) | (refine p_poff gt_ (by rfl) ?_; intro a_ ha_; (simp only [Act.put, pu1, pu2, pu3] at ha_); subst ha_) | (refine p_pon (v := ?_) gt_ (by rfl) ?_ ?_; rotate_left; (· go_simp; with_reducible rfl); intro a_ ha_; (simp only [Act.put, pu1, pu2, pu3] at ha_); subst ha_) | (refine p_ooff hS gt_ (by rfl) ?_; intro a_ ha_; (simp only [Act.put, pu1, pu2, pu3] at ha_); subst ha_) | (refine p_loff gt_ (by rfl) ?_; intro a_ ha_; (simp only [Act.put, pu1, pu2, pu3] at ha_); subst ha_) | (refine p_call (f := 113) (args := #[.agg #[.int .i64 x.lab, .int .i64 x.num]]) Tryz.func113 (by kernel_rfl) rfl gt_ (by rfl) (by rfl) mp_ ?_; (with_reducible refine (nodeCode_bd x _).mono ?_); rintro e_ u_ ⟨rfl, hb⟩; replace HB := Aside0.mk (HB.out.step hb); replace hS := hS.step hb; refine ⟨_, rfl, hS, fun a_ ha_ => ?_⟩; (simp only [Act.put, pu1, pu2, pu3] at ha_); subst ha_; clear hb) | (refine p_call (f := 113) (args := #[.agg #[.int .i64 y.lab, .int .i64 y.num]]) Tryz.func113 (by kernel_rfl) rfl gt_ (by rfl) (by rfl) mp_ ?_; (with_reducible refine (nodeCode_bd y _).mono ?_); rintro e_ u_ ⟨rfl, hb⟩; replace HB := Aside0.mk (HB.out.step hb); replace hS := hS.step hb; refine ⟨_, rfl, hS, fun a_ ha_ => ?_⟩; (simp only [Act.put, pu1, pu2, pu3] at ha_); subst ha_; clear hb) | (refine p_call (f := 112) (args := #[.int .i64 (codeI x), .int .i64 (codeI y)]) Tryz.func112 (by kernel_rfl) rfl gt_ (by rfl) (by rfl) mp_ ?_; (with_reducible refine (compare_calls _ _ _).mono ?_); rintro e_ u_ ⟨rfl, rfl⟩; refine ⟨_, rfl, hS, fun a_ ha_ => ?_⟩; (simp only [Act.put, pu1, pu2, pu3] at ha_); subst ha_))
 refine p_fin ?_
 clear hS ZL0 ZL1
 go_wp2
 go_ret
 exact ⟨rfl, HB.out⟩
end Go.Proofs.YtogmbeifbjgphaaGreat.R
namespace Go.Proofs.YtogmbeifbjgphaaGreat.R
open Go.Sort Go.RowKit Go.Proofs.YtogmbeifbjgphaaGreatV.PrintWords Go.Proofs.YtogmbeifbjgphaaGreatV.PrintLast Go.Proofs.YtogmbeifbjgphaaGreatV.PrintMore Go.Proofs.YtogmbeifbjgphaaGreat.M
set_option linter.unusedVariables false
set_option linter.unusedSimpArgs false
instance : Inhabited Nd := ⟨zN⟩
def flatL (l : List Nd) : List Value := l.flatMap cN
theorem flatL_len (l : List Nd) : (flatL l).length = l.length * 2 := by
 induction l with
 | nil => rfl
 | cons x l ih =>
   show (cN x ++ flatL l).length = _
   rw [List.length_append, ih, List.length_cons]
   simp
   omega
theorem flatL_get : ∀ (l : List Nd) (t : Nat), t < l.length * 2 → (flatL l)[t]? = some ((cN (l[t / 2]!))[t % 2]!)
 | [], t, h => by simp at h
 | x :: l, 0, _ => rfl
 | x :: l, 1, _ => rfl
 | x :: l, t + 2, h => by
   have h1 : (t + 2) / 2 = t / 2 + 1 := by omega
   have h2 : (t + 2) % 2 = t % 2 := by omega
   rw [h1, h2, show (flatL (x :: l))[t + 2]? = (flatL l)[t]? from rfl, flatL_get l t (by simp at h; omega)]
   rfl
theorem reps_flat (w : World) : ∀ l : List Nd, Reps (kN.K w) 2 l (flatL l)
 | [] => Reps.none _ _
 | x :: l => Reps.c2 (kN_mk w x) (reps_flat w l)
theorem flat_reps {w : World} {l : List Nd} {cs : List Value} (h : Reps (kN.K w) 2 l cs) : cs = flatL l := by
 refine List.ext_getElem? fun t => ?_
 by_cases ht : t < l.length * 2
 ·have hj : l[t / 2]? = some (l[t / 2]!) := by
   have h9 : t / 2 < l.length := by omega
   rw [List.getElem?_eq_getElem h9, getElem!_pos l _ h9]
  have hx := kN_open (h.2 _ _ hj)
  rw [flatL_get l t ht]
  have h1 : ((cs.drop (t / 2 * 2)).take 2)[t % 2]? = cs[t]? := by
   rw [List.getElem?_take, if_pos (by omega), List.getElem?_drop]
   congr 1
   omega
  rw [← h1, hx]
  rcases Nat.mod_two_eq_zero_or_one t with e | e <;> rw [e] <;> rfl
 ·rw [List.getElem?_eq_none (by rw [h.1]; omega), List.getElem?_eq_none (by rw [flatL_len]; omega)]
theorem flatK_list (d : Array Nd) : (flatK cN 2 d).toList = flatL d.toList := by
 refine List.ext_getElem? fun t => ?_
 by_cases ht : t < d.size * 2
 ·rw [flatL_get _ t (by simpa using ht), Array.getElem?_toList, Array.getElem?_eq_getElem (by simpa using ht)]
  have h := get_flatK cN 2 d t ht
  rw [getElem!_pos _ t (by simpa using ht)] at h
  rw [h]
  congr 3
  have h9 : t / 2 < d.size := by omega
  rw [getElem!_pos d _ h9, getElem!_pos d.toList _ (by simpa using h9)]
  rfl
 ·rw [List.getElem?_eq_none (by simp; omega), List.getElem?_eq_none (by rw [flatL_len]; simp; omega)]
theorem take_put (F cur : Array Value) (h : F.size ≤ cur.size) : (putCells id 0 F cur).toList.take F.size = F.toList := by
 refine List.ext_getElem? fun t => ?_
 rw [List.getElem?_take]
 split
 ·rename_i ht
  rw [Array.getElem?_toList, putCells, Array.getElem?_mapIdx, Array.getElem?_eq_getElem (by omega : t < cur.size), Option.map_some, if_pos (by omega), Array.getElem?_toList, Array.getElem?_eq_getElem ht]
  simp [getElem!_pos F t ht]
 ·rename_i ht
  rw [List.getElem?_eq_none (by simp; omega)]
theorem ltOf_code (x y : Nd) : ltOf (fun a b : Nd => cmpI (codeI a) (codeI b)) x y = decide (codeI x < codeI y) := by
 unfold ltOf cmpI
 by_cases h1 : codeI x < codeI y
 ·simp [h1]
 ·by_cases h2 : codeI y < codeI x <;> simp [h1, h2]
theorem swoCode : SWO (ltOf fun a b : Nd => cmpI (codeI a) (codeI b)) where
 irrefl x := by rw [ltOf_code]; simp
 trans x y z h1 h2 := by rw [ltOf_code] at *; simp at *; omega
 ntrans x y z h1 h2 := by rw [ltOf_code] at *; simp at *; omega
theorem sortCmp (blk off size : Nat) (w : World) : CmpLays Tryz.prog 59 #[] cN 2 (fun a b => cmpI (codeI a) (codeI b)) blk off size w :=
 fun _ _ _ _ x y => (nodeOrder_bd x y _).mono fun _ _ h => ⟨h.1, grow_of h.2⟩
theorem sorted_block {w : World} {g : Nat} {e : TypeId} {cur F : Array Value} (h : w.heap[g]? = some (.cells cur e (0, 0))) (n : Nat) (os : Array Obj) : (grow (putRow id (Sort.ahead w n) g 0 F) os).heap[g]? = some (.cells (putCells id 0 F cur) e (0, 0)) ∧ w.grownBy (grow (putRow id (Sort.ahead w n) g 0 F) os) (some g) := by
 have hg : g < w.heap.size := blk_lt h
 have hp : ∀ k, k < w.heap.size → (grow (putRow id (Sort.ahead w n) g 0 F) os).heap[k]? = (putRow id (Sort.ahead w n) g 0 F).heap[k]? := fun k hk => by
  unfold grow
  exact Array.getElem?_append_left (by rw [Go.Sort.size_putRow]; exact hk)
 refine ⟨?_, rfl, rfl, rfl, by simp [grow], fun k hk hne => ?_⟩
 ·rw [hp g hg]
  unfold putRow mapBlock
  rw [Array.getElem?_modify, if_pos rfl]
  show (w.heap[g]?).map _ = _
  rw [h]
  rfl
 ·rw [hp k hk]
  unfold putRow mapBlock
  rw [Array.getElem?_modify, if_neg (fun e => hne (by rw [e]))]
  rfl
set_option maxHeartbeats 1000000 in
theorem sortN_calls (base g c : Nat) (l : List Nd) (w : World) (hr : kN.R 28 w base (fun _ => True) (.slice (some ⟨g, 0, none⟩) l.length c) l) (hl : l.length ≤ 1000000) :
 Calls Tryz.prog 58 #[.slice (some ⟨g, 0, none⟩) l.length c, .func (.func 59) #[] #[]] w fun e w' => e = .returned (.tuple #[]) ∧ ∃ m : List Nd, m.Perm l ∧ (m.Pairwise fun x y => codeI x ≤ codeI y) ∧ kN.R 28 w' base (fun _ => True) (.slice (some ⟨g, 0, none⟩) m.length c) m ∧ w.grownBy w' (some g) := by
 obtain ⟨cs, cur, -, hR, hcl, hb, hh, hnc, hcm, hcs, htk⟩ := flat_open flatN.1 hr
 have hz : kN.sz = 2 := rfl
 rw [hz] at hR hcl hcs htk
 have hcf := flat_reps hR
 have eg : ∀ args w, (callFunc 59 args).run Tryz.prog w = .ok (.enter 59 args) w := enters_of Tryz.func59 (by kernel_rfl) rfl
 have hH : HoldsK cN 2 w g 0 l.toArray := by
  intro j hj
  rw [size_flatK] at hj
  have hj' : j < l.length * 2 := by simpa using hj
  have h1 : (flatK cN 2 l.toArray)[j]! = cs[j]'(by rw [hcl]; exact hj') := by
   have h2 : (flatK cN 2 l.toArray).toList = cs := by rw [flatK_list, hcf]
   rw [getElem!_pos _ j (by simpa using hj), ← Array.getElem_toList]
   congr 1
  refine ⟨?_, ?_⟩
  ·rw [Nat.zero_add, blk_cell hh, h1, ← Array.getElem?_toList]
   have h3 : cur.toList[j]? = (cur.toList.take (l.length * 2))[j]? := by rw [List.getElem?_take, if_pos hj']
   rw [h3, htk, List.getElem?_eq_getElem (by rw [hcl]; exact hj')]
   rfl
  ·rw [Nat.zero_add]
   exact blk_frozen hh j
 have hcon := AnyQ.slices_SortFunc sortLays 2 Tryz.isAgg28 Tryz.sizeOf28 cN (fun _ => rfl) (fun x v hv => by simp [cN] at hv; rcases hv with rfl | rfl <;> rfl) (fun x y => cmpI (codeI x) (codeI y)) swoCode 59 #[] g 0 c l.toArray w eg (sortCmp g 0 _ w) hH (blk_lt hh) (by simp; omega)
 change Calls Tryz.prog 58 _ _ _ at hcon
 refine hcon.mono ?_
 rintro e w' ⟨rfl, d', n, os, hp, hs, rfl⟩
 obtain ⟨hsz, -, hpm⟩ := hp
 have hsz' : d'.size = l.length := by simpa using hsz
 have hfs : (flatK cN 2 d').size = l.length * 2 := by rw [size_flatK, hsz']
 obtain ⟨hb2, hg2⟩ := sorted_block (F := flatK cN 2 d') hh n os
 refine ⟨rfl, d'.toList, ?_, ?_, ?_, hg2⟩
 ·have h1 : d'.extract 0 l.toArray.size = d' := by rw [← hsz]; exact Array.extract_size
  have h2 : l.toArray.extract 0 l.toArray.size = l.toArray := Array.extract_size
  rw [h1, h2] at hpm
  simpa using hpm
 ·rw [List.pairwise_iff_getElem]
  intro i j hi hj hij
  have h1 := hs i j (Nat.zero_le _) hij (by simp at hj ⊢; omega)
  rw [ltOf_code, getElem!_pos d' j (by simpa using hj), getElem!_pos d' i (by simpa using hi)] at h1
  have := of_decide_eq_false h1
  simp only [Array.getElem_toList]
  omega
 ·rw [show d'.toList.length = l.length by simpa using hsz']
  refine flat_close (W := w) flatN (reps_flat w d'.toList) (by simpa using hsz') hb hb2 hnc hcm ?_ ?_
  ·rw [hz, ← hcs]
   simp [putCells]
  ·rw [hz, ← hfs, take_put _ _ (by rw [hfs, hcs]; exact Nat.mul_le_mul_right _ hnc), flatK_list]
end Go.Proofs.YtogmbeifbjgphaaGreat.R
namespace Go.Proofs.YtogmbeifbjgphaaGreat.R
open Go.RowKit Go.Proofs.YtogmbeifbjgphaaGreatV.PrintWords Go.Proofs.YtogmbeifbjgphaaGreatV.PrintLast Go.Proofs.YtogmbeifbjgphaaGreatV.PrintMore Go.Proofs.YtogmbeifbjgphaaGreat.M
set_option linter.unusedVariables false
set_option linter.unusedSimpArgs false
attribute [local go_sem high] eqN eqE
/-- The first node of an edge's end that is near n. -/
def nearOf (n : Nd) (e : Eg) : List Nd := if n = e.a then [e.b] else if n = e.b then [e.a] else []
def nearL (n : Nd) (l : List Eg) : List Nd := l.flatMap (nearOf n)
theorem nearL_snoc (n : Nd) (l : List Eg) (e : Eg) : nearL n (l ++ [e]) = nearL n l ++ nearOf n e := by
 unfold nearL
 rw [List.flatMap_append]
 simp
theorem nearL_len (n : Nd) (l : List Eg) : (nearL n l).length ≤ l.length := by
 induction l with
 | nil => exact Nat.le_refl _
 | cons e l ih =>
   have h1 : nearL n (e :: l) = nearOf n e ++ nearL n l := rfl
   have h2 : (nearOf n e).length ≤ 1 := by unfold nearOf; split <;> (try split) <;> simp
   rw [h1, List.length_append, List.length_cons]
   omega
theorem mem_nearL {ns : List Nd} {es : List Eg} (hg : OkG ns es) {n m : Nd} : m ∈ nearL n es ↔ adjE es n m = true := by
 rw [adjE_iff]
 unfold nearL
 rw [List.mem_flatMap]
 constructor
 ·rintro ⟨e, he, hm⟩
  refine ⟨e, he, ?_⟩
  unfold nearOf at hm
  split at hm
  ·rename_i h
   exact .inl ⟨h.symm, (List.mem_singleton.1 hm).symm⟩
  ·split at hm
   ·rename_i h
    exact .inr ⟨h.symm, (List.mem_singleton.1 hm).symm⟩
   ·cases hm
 ·rintro ⟨e, he, ⟨h1, h2⟩ | ⟨h1, h2⟩⟩
  ·exact ⟨e, he, by unfold nearOf; rw [if_pos h1.symm]; exact List.mem_singleton.2 h2.symm⟩
  ·refine ⟨e, he, ?_⟩
   have hne : e.a ≠ e.b := fun q => by
    obtain ⟨-, -, -, h3, -⟩ := okE_iff.1 (hg.eok e he)
    rw [q] at h3
    omega
   unfold nearOf
   rw [if_neg (fun q => hne (by rw [← q, h1])), if_pos h1.symm]
   exact List.mem_singleton.2 h2.symm
theorem nearL_ok {ns : List Nd} {es : List Eg} (hg : OkG ns es) {n : Nd} : ∀ m ∈ nearL n es, okN m = true := fun m hm => hg.nok m (adjE_mem hg ((mem_nearL hg).1 hm)).2
theorem mem_ddT {l : List Nd} {x : Nd} : ∀ j, j ≤ l.length → (x ∈ ddT l j ↔ x ∈ l.take j)
 | 0, _ => by simp [ddT]
 | j + 1, h => by
   have ih := mem_ddT (l := l) (x := x) j (by omega)
   rw [take_snN' (show j < l.length by omega), List.mem_append, List.mem_singleton]
   by_cases hq : 0 < j ∧ at_ l j = at_ l (j - 1)
   ·rw [ddT_same hq.1 hq.2, ih]
    refine ⟨.inl, fun h2 => h2.elim id fun h3 => ?_⟩
    rw [h3, hq.2, at_lt (show j - 1 < l.length by omega)]
    exact List.mem_take_iff_getElem.2 ⟨j - 1, by omega, rfl⟩
   ·have h3 : ddT l (j + 1) = ddT l j ++ [at_ l j] := if_neg hq
    rw [h3, List.mem_append, List.mem_singleton, ih]
theorem asc_ddT {l : List Nd} (hok : ∀ x ∈ l, okN x = true) (hs : l.Pairwise fun x y => codeI x ≤ codeI y) : ∀ j, j ≤ l.length → Asc code (ddT l j)
 | 0, _ => List.Pairwise.nil
 | j + 1, h => by
   have ih := asc_ddT hok hs j (by omega)
   by_cases hq : 0 < j ∧ at_ l j = at_ l (j - 1)
   ·rw [ddT_same hq.1 hq.2]
    exact ih
   ·have h3 : ddT l (j + 1) = ddT l j ++ [at_ l j] := if_neg hq
    rw [h3]
    refine asc_append.2 ⟨ih, asc_cons.2 ⟨fun y hy => (List.not_mem_nil hy).elim, List.Pairwise.nil⟩, fun a ha b hb => ?_⟩
    obtain rfl := List.mem_singleton.1 hb
    have h0 : 0 < j := by
     rcases Nat.eq_zero_or_pos j with e | e
     ·subst e
      cases ha
     ·exact e
    have hne : at_ l j ≠ at_ l (j - 1) := fun e => hq ⟨h0, e⟩
    obtain ⟨i, hi, rfl⟩ := List.mem_take_iff_getElem.1 ((mem_ddT j (by omega)).1 ha)
    have hi' : i < j ∧ i < l.length := by omega
    have hle : ∀ p q (hq : q < l.length) (hpq : p ≤ q), code (l[p]'(by omega)) ≤ code l[q] := fun p q hq hpq => by
     rcases Nat.lt_or_ge p q with e | e
     ·have := List.pairwise_iff_getElem.1 hs p q (by omega) hq e
      rwa [codeI_ok (hok _ (List.getElem_mem _)), codeI_ok (hok _ (List.getElem_mem _))] at this
     ·obtain rfl : p = q := by omega
      exact Int.le_refl _
    have h1 := hle i (j - 1) (by omega) (by omega)
    have h2 := hle (j - 1) j (by omega) (by omega)
    rw [at_lt (show j < l.length by omega)]
    have hne2 : code (l[j - 1]'(by omega)) ≠ code (l[j]'(by omega)) := fun e => hne (by
     rw [at_lt (show j < l.length by omega), at_lt (show j - 1 < l.length by omega)]
     exact (code_inj (hok _ (List.getElem_mem _)) (hok _ (List.getElem_mem _)) e).symm)
    omega
theorem near_dd {ns : List Nd} {es : List Eg} (hg : OkG ns es) {n : Nd} {m : List Nd} (hp : m.Perm (nearL n es)) (hs : m.Pairwise fun x y => codeI x ≤ codeI y) : dd m = nearG ns es n := by
 have hok : ∀ x ∈ m, okN x = true := fun x hx => nearL_ok hg x (hp.mem_iff.1 hx)
 refine asc_ext (key := code) (asc_ddT hok hs _ (Nat.le_refl _)) ?_ fun x => ?_
 ·rw [near_of hg]
  exact hg.nasc.filter _
 ·unfold dd
  rw [mem_ddT _ (Nat.le_refl _), List.take_length, hp.mem_iff, mem_nearL hg, mem_near hg]
def NearJ (w : World) (A : Option Addr) (c : Nat) (ns : List Nd) (B : Option Addr) (d : Nat) (es : List Eg) (n : Nd) (s5 s14 : Value) (wr : World) : Prop :=
 ∃ (j : Nat) (A2 : Option Addr) (c2 : Nat) (ys : List Nd), j ≤ es.length ∧ ys = nearL n (es.take j) ∧ (ys = [] → A2 = none ∧ c2 = 0) ∧ s5 = .slice A2 ys.length c2 ∧ s14 = .int .i64 (j : Int) ∧ kN.R 28 wr (w.heap.size + 2) (fun _ => True) (.slice A2 ys.length c2) ys ∧ wr.heap[w.heap.size]? = some (.cells #[.slice A ns.length c, .slice B es.length d] 26 (0, 0)) ∧ wr.heap[w.heap.size + 1]? = some (.cells #[.int .i64 n.lab, .int .i64 n.num] 28 (0, 0)) ∧ Below w.heap.size w wr
set_option maxHeartbeats 6400000 in
set_option maxRecDepth 100000 in
theorem near_callsF (A : Option Addr) (c : Nat) (ns : List Nd) (B : Option Addr) (d : Nat) (es : List Eg) (n : Nd) (w : World) (hr : GR w A c ns B d es) :
 Calls Tryz.prog 20 #[.agg #[.slice A ns.length c, .slice B es.length d], .agg #[.int .i64 n.lab, .int .i64 n.num]] w fun e w' => ∃ A' c', e = .returned (.slice A' (nearG ns es n).length c') ∧ kN.C w' A' (nearG ns es n).length (nearG ns es n) ∧ (nearG ns es n).length ≤ c' ∧ (∀ ad, A' = some ad → w.heap.size ≤ ad.block) ∧ Below w.heap.size w w' := by
 have HR := Aside0.mk hr
 clear hr
 obtain ⟨v, hv⟩ : ∃ v, okG ns es = v := ⟨_, rfl⟩
 have HOK := Aside0.mk hv
 clear hv
 obtain ⟨L0, L1, HB⟩ := al2 w #[.slice A ns.length c, .slice B es.length d] #[.int .i64 n.lab, .int .i64 n.num] 26 28
 cases v
 ·have HN := Aside0.mk (show nearG ns es n = [] by unfold nearG; rw [HOK.out]; rfl)
  go_enter Tryz.func20, Tryz.ntmps20
  go_wp2_with (first | (go_at_call 29; go_must ((refine (graphOk_calls A c ns B d es _ (Kd.C_below HR.out.cn HB.out) (Kd.C_below HR.out.ce HB.out)).mono ?_); rintro e u_ ⟨rfl, hb⟩; rw [HOK.out]; replace HB := Aside0.mk (below_step HB.out hb); replace L0 := Aside0.mk (blk_below L0.out hb); replace L1 := Aside0.mk (blk_below L1.out hb); (try clear c0 c1); obtain ⟨c0, c1⟩ := cs2 (L0.out); (try clear e0 e1); obtain ⟨e0, e1⟩ := cs2 (L1.out); clear hb)))
  go_ret
  exact ⟨none, 0, by rw [HN.out]; rfl, by rw [HN.out]; exact ⟨rfl, by decide, fun h => absurd h (Nat.lt_irrefl 0)⟩, by rw [HN.out]; exact Nat.le_refl _, fun ad h => (nomatch h), HB.out⟩
 ·have HOG := Aside0.mk (okG_true.1 HOK.out)
  have HLN := Aside0.mk (show es.length ≤ 56 from (EsOk.mk HOG.out.eok HOG.out.easc HOG.out.efew HOG.out.ends).len)
  go_enter Tryz.func20, Tryz.ntmps20
  go_wp2_with (first | (go_at_call 29; go_must ((refine (graphOk_calls A c ns B d es _ (Kd.C_below HR.out.cn HB.out) (Kd.C_below HR.out.ce HB.out)).mono ?_); rintro e u_ ⟨rfl, hb⟩; rw [HOK.out]; replace HB := Aside0.mk (below_step HB.out hb); replace L0 := Aside0.mk (blk_below L0.out hb); replace L1 := Aside0.mk (blk_below L1.out hb); (try clear c0 c1); obtain ⟨c0, c1⟩ := cs2 (L0.out); (try clear e0 e1); obtain ⟨e0, e1⟩ := cs2 (L1.out); clear hb)))
  go_loopw [5, 7, 14, 19, 28] (fun s5 _ s14 _ _ wr => NearJ w A c ns B d es n s5 s14 wr) (fun _ _ s14 _ _ _ => (es.length - intOf s14).toNat)
  case atStart => exact ⟨0, none, 0, [], Nat.zero_le _, rfl, fun _ => ⟨rfl, rfl⟩, rfl, rfl, Kd.R_nil _ _ _ _ _, L0.out, L1.out, HB.out⟩
  case round =>
   clear L0 L1 HB
   obtain ⟨j, A2, c2, ys, hj, hys_, hnil_, rfl, rfl, rn_, l0_, l1_, hb_⟩ := hrel
   have HJ := Aside0.mk hj
   have HYS := Aside0.mk hys_
   have HNIL := Aside0.mk hnil_
   have RN := Aside0.mk rn_
   have L0 := Aside0.mk l0_
   have L1 := Aside0.mk l1_
   have HB := Aside0.mk hb_
   have HYL := Aside0.mk (show (ys.length + 1) * 16 ≤ 140737488355328 by
    have h1 := nearL_len n (es.take j)
    rw [← HYS.out, List.length_take] at h1
    have := HLN.out
    omega)
   obtain ⟨c0, c1⟩ := cs2 (L0.out)
   obtain ⟨e0, e1⟩ := cs2 (L1.out)
   clear hj hys_ hnil_ rn_ l0_ l1_ hb_
   by_cases hlt : j < es.length
   ·have hjl : (j : Int) < (es.length : Int) := by omega
    have HLTJ := Aside0.mk hlt
    have hjm : (j : Int) ≤ 56 := by have := HLN.out; omega
    have HT := Aside0.mk (show nearL n (es.take (j + 1)) = ys ++ nearOf n (eat es j) by rw [takeE_snoc hlt, nearL_snoc, ← HYS.out])
    obtain ⟨ad, ea, r0, r1, r2, r3, r4⟩ := eg_at (Kd.C_below HR.out.ce HB.out) j hlt
    cases ea
    generalize eat es j = y at r0 r1 r2 r3 r4 HT
    obtain ⟨v1, hv1⟩ : ∃ v, (n.lab == y.a.lab && (n.num == y.a.num)) = v := ⟨_, rfl⟩
    obtain ⟨v2, hv2⟩ : ∃ v, (n.lab == y.b.lab && (n.num == y.b.num)) = v := ⟨_, rfl⟩
    have HV1 := Aside0.mk ((nd_eq n y.a).symm.trans hv1)
    have HV2 := Aside0.mk ((nd_eq n y.b).symm.trans hv2)
    cases v1
    case' false => cases v2
    all_goals
     go_wp2_with (first | ((with_reducible refine gate_dst (N := 7) rfl ?_); go_must ((refine w_new #[.int .i64 0, .int .i64 0, .int .i64 0, .int .i64 0, .int .i64 0] 30 rfl (by go_simp; (first | done | rfl)) ?_); intro gx u_ hge_ hb0_ hb; have HLT := Aside0.mk (show ∀ k, (Value.slice A2 ys.length c2).ownBlock = some k → k < gx from fun k hk => Nat.lt_of_lt_of_le (Kd.R_lt RN.out k hk) hge_); have Hgx := Aside0.mk (show w.heap.size + 2 ≤ gx from by have hl0_ := blk_lt L1.out; exact by omega); have LX := Aside0.mk hb0_; replace HB := Aside0.mk (below_step HB.out hb); replace L0 := Aside0.mk (blk_below L0.out hb); replace L1 := Aside0.mk (blk_below L1.out hb); replace RN := Aside0.mk (Kd.R_below (RN.out) hb); clear hge_ hb0_ hb; (try clear c0 c1); obtain ⟨c0, c1⟩ := cs2 (L0.out); (try clear e0 e1); obtain ⟨e0, e1⟩ := cs2 (L1.out); (try clear x0 x1 x2 x3 x4); obtain ⟨x0, x1, x2, x3, x4⟩ := cs5 (LX.out))) | ((with_reducible refine gate_store (p := 7) rfl ?_); go_must ((refine wpList_plain rfl fun K_ hK_ => wp_store_row _ _ _ rfl (gx) #[.int .i64 y.lab, .int .i64 y.a.lab, .int .i64 y.a.num, .int .i64 y.b.lab, .int .i64 y.b.num] rfl rfl _ _ LX.out (by kernel_rfl) rfl (by simp [Value.oneCell']) (hK_ _ _ ?_)); refine named _ ?_; intro wz hwz; replace HB := Aside0.mk (sb_ hwz HB.out (by have := Hgx.out; omega)); replace L0 := Aside0.mk (so_ hwz L0.out (by have := Hgx.out; omega)); replace L1 := Aside0.mk (so_ hwz L1.out (by have := Hgx.out; omega)); replace LX := Aside0.mk (sh_ hwz LX.out); replace RN := Aside0.mk (R_farN (RN.out) (hwz ▸ grown_setRow _ _ _) (fun k hk e => by have := HLT.out k hk; have := Option.some.inj e; omega)); (try clear c0 c1); obtain ⟨c0, c1⟩ := cs2 (L0.out); (try clear e0 e1); obtain ⟨e0, e1⟩ := cs2 (L1.out); (try clear x0 x1 x2 x3 x4); obtain ⟨x0, x1, x2, x3, x4⟩ := cs5 (LX.out); clear hwz)) | ((with_reducible refine gate_dst (N := 26) rfl ?_); go_must ((refine w_lit #[.int .i64 y.b.lab, .int .i64 y.b.num] 28 1 rfl (by go_simp; (first | done | rfl)) ?_); intro gl u_ hge_ hb0_ hb; have LT := Aside0.mk hb0_; replace HB := Aside0.mk (below_step HB.out hb); replace L0 := Aside0.mk (blk_below L0.out hb); replace L1 := Aside0.mk (blk_below L1.out hb); replace LX := Aside0.mk (blk_below LX.out hb); replace RN := Aside0.mk (Kd.R_below (RN.out) hb); (try clear c0 c1); obtain ⟨c0, c1⟩ := cs2 (L0.out); (try clear e0 e1); obtain ⟨e0, e1⟩ := cs2 (L1.out); (try clear x0 x1 x2 x3 x4); obtain ⟨x0, x1, x2, x3, x4⟩ := cs5 (LX.out); clear hge_ hb0_ hb)) | ((with_reducible refine gate_dst (N := 35) rfl ?_); go_must ((refine w_lit #[.int .i64 y.a.lab, .int .i64 y.a.num] 28 1 rfl (by go_simp; (first | done | rfl)) ?_); intro gl u_ hge_ hb0_ hb; have LT := Aside0.mk hb0_; replace HB := Aside0.mk (below_step HB.out hb); replace L0 := Aside0.mk (blk_below L0.out hb); replace L1 := Aside0.mk (blk_below L1.out hb); replace LX := Aside0.mk (blk_below LX.out hb); replace RN := Aside0.mk (Kd.R_below (RN.out) hb); (try clear c0 c1); obtain ⟨c0, c1⟩ := cs2 (L0.out); (try clear e0 e1); obtain ⟨e0, e1⟩ := cs2 (L1.out); (try clear x0 x1 x2 x3 x4); obtain ⟨x0, x1, x2, x3, x4⟩ := cs5 (LX.out); clear hge_ hb0_ hb)) | ((with_reducible refine gate_builtin (b := .append) rfl ?_); (refine w_append flatN (base := w.heap.size + 2) (e := 28) (.agg #[(.int .i64 0), (.int .i64 0)]) 16 (.slice A2 ys.length c2) ys [y.b] rfl rfl Tryz.underlying23 infoN rfl (by decide) RN.out (one_rowN LT.out) rfl rfl (by have := blk_lt L1.out; omega) (by have := HYL.out; omega) ?_); intro B9 n9 p9 wt hn9_ hp9_ hr_ hg_ ho_; obtain rfl : n9 = (ys ++ [y.b]).length := hn9_; have RN9 := Aside0.mk hr_; replace L0 := Aside0.mk ((hg_.block _ (blk_lt L0.out) (fun e => by have := Kd.R_base RN.out _ e.symm; omega)).trans L0.out); replace L1 := Aside0.mk ((hg_.block _ (blk_lt L1.out) (fun e => by have := Kd.R_base RN.out _ e.symm; omega)).trans L1.out); replace HB := Aside0.mk (HB.out.grown hg_ HB.out.size (fun k hk => by have := Kd.R_base RN.out k hk; omega)); clear hp9_ hr_ hg_ ho_) | ((with_reducible refine gate_builtin (b := .append) rfl ?_); (refine w_append flatN (base := w.heap.size + 2) (e := 28) (.agg #[(.int .i64 0), (.int .i64 0)]) 16 (.slice A2 ys.length c2) ys [y.a] rfl rfl Tryz.underlying23 infoN rfl (by decide) RN.out (one_rowN LT.out) rfl rfl (by have := blk_lt L1.out; omega) (by have := HYL.out; omega) ?_); intro B9 n9 p9 wt hn9_ hp9_ hr_ hg_ ho_; obtain rfl : n9 = (ys ++ [y.a]).length := hn9_; have RN9 := Aside0.mk hr_; replace L0 := Aside0.mk ((hg_.block _ (blk_lt L0.out) (fun e => by have := Kd.R_base RN.out _ e.symm; omega)).trans L0.out); replace L1 := Aside0.mk ((hg_.block _ (blk_lt L1.out) (fun e => by have := Kd.R_base RN.out _ e.symm; omega)).trans L1.out); replace HB := Aside0.mk (HB.out.grown hg_ HB.out.size (fun k hk => by have := Kd.R_base RN.out k hk; omega)); clear hp9_ hr_ hg_ ho_))
     go_roundw
     case rel => first | exact ⟨j + 1, B9, p9, ys ++ [y.b], HLTJ.out, by rw [HT.out, nearOf, if_pos (of_decide_eq_true HV1.out)], fun h => by simp at h, by rw [List.length_append]; rfl, by go_num, RN9.out, L0.out, L1.out, HB.out⟩ | exact ⟨j + 1, B9, p9, ys ++ [y.a], HLTJ.out, by rw [HT.out, nearOf, if_neg (of_decide_eq_false HV1.out), if_pos (of_decide_eq_true HV2.out)], fun h => by simp at h, by rw [List.length_append]; rfl, by go_num, RN9.out, L0.out, L1.out, HB.out⟩ | exact ⟨j + 1, A2, c2, ys, HLTJ.out, by rw [HT.out, nearOf, if_neg (of_decide_eq_false HV1.out), if_neg (of_decide_eq_false HV2.out), List.append_nil], HNIL.out, rfl, by go_num, RN.out, L0.out, L1.out, HB.out⟩
     case measure => simp [intOf]; omega
   ·have hjl : ¬ (j : Int) < (es.length : Int) := by omega
    obtain rfl : j = es.length := by have := HJ.out; omega
    rw [List.take_length] at HYS
    by_cases hnil : ys = []
    ·obtain ⟨rfl, rfl⟩ := HNIL.out hnil
     have HNG := Aside0.mk (show nearG ns es n = [] by
      refine List.eq_nil_iff_forall_not_mem.2 fun x hx => ?_
      have h1 := (mem_nearL HOG.out).2 ((mem_near HOG.out).1 hx)
      rw [← HYS.out, hnil] at h1
      cases h1)
     have hz : ys.length = 0 := by rw [hnil]; rfl
     clear hnil
     rw [hz]
     go_wp2_with (first | (go_at_call 58; go_must ((refine (sortFunc0 _).mono ?_); rintro e u_ ⟨rfl, rfl⟩)) | (go_at_call 60; go_must ((refine (compact0 _).mono ?_); rintro e u_ ⟨rfl, rfl⟩)))
     go_ret
     exact ⟨none, 0, by rw [HNG.out]; rfl, by rw [HNG.out]; exact ⟨rfl, by decide, fun h => absurd h (Nat.lt_irrefl 0)⟩, by rw [HNG.out]; exact Nat.le_refl _, fun ad h => (nomatch h), HB.out⟩
    ·obtain ⟨g, rfl⟩ := own_addrN RN.out (List.length_pos_iff.2 hnil)
     have HYL2 := Aside0.mk (show ys.length ≤ 1000000 by have h1 := nearL_len n es; rw [← HYS.out] at h1; have := HLN.out; omega)
     have HGB := Aside0.mk (show w.heap.size + 2 ≤ g from Kd.R_base RN.out g rfl)
     clear hnil
     go_wp2_with (first | (go_at_call 58; go_must ((refine (sortN_calls (w.heap.size + 2) g c2 ys _ RN.out HYL2.out).mono ?_); rintro e u_ ⟨rfl, m, hp_, hs_, hr_, hg_⟩; have HPM := Aside0.mk hp_; have HSM := Aside0.mk hs_; have RN2 := Aside0.mk hr_; have HML := Aside0.mk (show m.length = ys.length from hp_.length_eq); have hml : ys.length = m.length := hp_.length_eq.symm; replace HB := Aside0.mk (HB.out.grown hg_ HB.out.size (fun k hk => by have := Option.some.inj hk; have := HGB.out; omega)); clear hp_ hs_ hr_ hg_)) | (go_at_call 60; go_must ((try rw [hml]); (refine (compactN_calls (w.heap.size + 2) g c2 m _ RN2.out (by rw [HML.out]; exact HYL2.out)).mono ?_); rintro e u_ ⟨rfl, hr_, hg_⟩; have HDD := Aside0.mk (show dd m = nearG ns es n from near_dd HOG.out (by rw [← HYS.out]; exact HPM.out) HSM.out); have RN3 := Aside0.mk hr_; replace HB := Aside0.mk (HB.out.grown hg_ HB.out.size (fun k hk => by have := Option.some.inj hk; have := HGB.out; omega)); clear hr_ hg_)))
     go_ret
     exact ⟨some ⟨g, 0, none⟩, c2, by rw [HDD.out]; rfl, by rw [← HDD.out]; exact (Kd.R_reads' RN3.out).2.2, by rw [← HDD.out]; exact (Kd.R_reads' RN3.out).2.1, fun ad h => by obtain rfl := Option.some.inj h; have := HGB.out; show w.heap.size ≤ g; omega, HB.out⟩
theorem near_calls (A : Option Addr) (c : Nat) (ns : List Nd) (B : Option Addr) (d : Nat) (es : List Eg) (n : Nd) (w : World) (hr : GR w A c ns B d es) :
 Calls Tryz.prog 20 #[.agg #[.slice A ns.length c, .slice B es.length d], .agg #[.int .i64 n.lab, .int .i64 n.num]] w fun e w' => ∃ A' c', e = .returned (.slice A' (nearG ns es n).length c') ∧ kN.C w' A' (nearG ns es n).length (nearG ns es n) ∧ (nearG ns es n).length ≤ c' ∧ Below w.heap.size w w' :=
 (near_callsF A c ns B d es n w hr).mono fun _ _ ⟨A', c', h1, h2, h3, _, h5⟩ => ⟨A', c', h1, h2, h3, h5⟩
end Go.Proofs.YtogmbeifbjgphaaGreat.R
