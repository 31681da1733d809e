/- slices.SortFunc at nodes: the row holds the same nodes, in order of their numbers. -/
import Derived.Test.YtogmbeifbjgphaaKGO
import Derived.Test.YtogmbeifbjgphaaKGS0
import Derived.Test.YtogmbeifbjgphaaKB5
namespace Go.Proofs.Ytogmbeifbjgphaa.R
open Go.Sort Go.RowKit Go.Proofs.YtogmbeifbjgphaaV.PrintWords Go.Proofs.YtogmbeifbjgphaaV.PrintLast Go.Proofs.YtogmbeifbjgphaaV.PrintMore Go.Proofs.Ytogmbeifbjgphaa.M
set_option linter.unusedVariables false
set_option linter.unusedSimpArgs false
instance : Inhabited Nd := ⟨zN⟩
def flatL (l : List Nd) : List Value := l.flatMap cN
theorem flatL_len (l : List Nd) : (flatL l).length = l.length * 2 := by
  induction l with
  | nil => rfl
  | cons x l ih =>
    show (cN x ++ flatL l).length = _
    rw [List.length_append, ih, List.length_cons]
    simp
    omega
theorem flatL_get : ∀ (l : List Nd) (t : Nat), t < l.length * 2 → (flatL l)[t]? = some ((cN (l[t / 2]!))[t % 2]!)
  | [], t, h => by simp at h
  | x :: l, 0, _ => rfl
  | x :: l, 1, _ => rfl
  | x :: l, t + 2, h => by
    have h1 : (t + 2) / 2 = t / 2 + 1 := by omega
    have h2 : (t + 2) % 2 = t % 2 := by omega
    rw [h1, h2, show (flatL (x :: l))[t + 2]? = (flatL l)[t]? from rfl, flatL_get l t (by simp at h; omega)]
    rfl
theorem reps_flat (w : World) : ∀ l : List Nd, Reps (kN.K w) 2 l (flatL l)
  | [] => Reps.none _ _
  | x :: l => Reps.c2 (kN_mk w x) (reps_flat w l)
theorem flat_reps {w : World} {l : List Nd} {cs : List Value} (h : Reps (kN.K w) 2 l cs) : cs = flatL l := by
  refine List.ext_getElem? fun t => ?_
  by_cases ht : t < l.length * 2
  · have hj : l[t / 2]? = some (l[t / 2]!) := by
      have h9 : t / 2 < l.length := by omega
      rw [List.getElem?_eq_getElem h9, getElem!_pos l _ h9]
    have hx := kN_open (h.2 _ _ hj)
    rw [flatL_get l t ht]
    have h1 : ((cs.drop (t / 2 * 2)).take 2)[t % 2]? = cs[t]? := by
      rw [List.getElem?_take, if_pos (by omega), List.getElem?_drop]
      congr 1
      omega
    rw [← h1, hx]
    rcases Nat.mod_two_eq_zero_or_one t with e | e <;> rw [e] <;> rfl
  · rw [List.getElem?_eq_none (by rw [h.1]; omega), List.getElem?_eq_none (by rw [flatL_len]; omega)]
theorem flatK_list (d : Array Nd) : (flatK cN 2 d).toList = flatL d.toList := by
  refine List.ext_getElem? fun t => ?_
  by_cases ht : t < d.size * 2
  · rw [flatL_get _ t (by simpa using ht), Array.getElem?_toList, Array.getElem?_eq_getElem (by simpa using ht)]
    have h := get_flatK cN 2 d t ht
    rw [getElem!_pos _ t (by simpa using ht)] at h
    rw [h]
    congr 3
    have h9 : t / 2 < d.size := by omega
    rw [getElem!_pos d _ h9, getElem!_pos d.toList _ (by simpa using h9)]
    rfl
  · rw [List.getElem?_eq_none (by simp; omega), List.getElem?_eq_none (by rw [flatL_len]; simp; omega)]
theorem take_put (F cur : Array Value) (h : F.size ≤ cur.size) : (putCells id 0 F cur).toList.take F.size = F.toList := by
  refine List.ext_getElem? fun t => ?_
  rw [List.getElem?_take]
  split
  · rename_i ht
    rw [Array.getElem?_toList, putCells, Array.getElem?_mapIdx, Array.getElem?_eq_getElem (by omega : t < cur.size), Option.map_some, if_pos (by omega), Array.getElem?_toList, Array.getElem?_eq_getElem ht]
    simp [getElem!_pos F t ht]
  · rename_i ht
    rw [List.getElem?_eq_none (by simp; omega)]
theorem ltOf_code (x y : Nd) : ltOf (fun a b : Nd => cmpI (codeI a) (codeI b)) x y = decide (codeI x < codeI y) := by
  unfold ltOf cmpI
  by_cases h1 : codeI x < codeI y
  · simp [h1]
  · by_cases h2 : codeI y < codeI x <;> simp [h1, h2]
theorem swoCode : SWO (ltOf fun a b : Nd => cmpI (codeI a) (codeI b)) where
  irrefl x := by rw [ltOf_code]; simp
  trans x y z h1 h2 := by rw [ltOf_code] at *; simp at *; omega
  ntrans x y z h1 h2 := by rw [ltOf_code] at *; simp at *; omega
theorem sortCmp (blk off size : Nat) (w : World) : CmpLays Try.prog 114 #[] cN 2 (fun a b => cmpI (codeI a) (codeI b)) blk off size w :=
  fun _ _ _ _ x y => (nodeOrder_bd x y _).mono fun _ _ h => ⟨h.1, grow_of h.2⟩
theorem sorted_block {w : World} {g : Nat} {e : TypeId} {cur F : Array Value} (h : w.heap[g]? = some (.cells cur e (0, 0))) (n : Nat) (os : Array Obj) : (grow (putRow id (Sort.ahead w n) g 0 F) os).heap[g]? = some (.cells (putCells id 0 F cur) e (0, 0)) ∧ w.grownBy (grow (putRow id (Sort.ahead w n) g 0 F) os) (some g) := by
  have hg : g < w.heap.size := blk_lt h
  have hp : ∀ k, k < w.heap.size → (grow (putRow id (Sort.ahead w n) g 0 F) os).heap[k]? = (putRow id (Sort.ahead w n) g 0 F).heap[k]? := fun k hk => by
    unfold grow
    exact Array.getElem?_append_left (by rw [Go.Sort.size_putRow]; exact hk)
  refine ⟨?_, rfl, rfl, rfl, by simp [grow], fun k hk hne => ?_⟩
  · rw [hp g hg]
    unfold putRow mapBlock
    rw [Array.getElem?_modify, if_pos rfl]
    show (w.heap[g]?).map _ = _
    rw [h]
    rfl
  · rw [hp k hk]
    unfold putRow mapBlock
    rw [Array.getElem?_modify, if_neg (fun e => hne (by rw [e]))]
    rfl
set_option maxHeartbeats 1000000 in
theorem sortN_calls (base g c : Nat) (l : List Nd) (w : World) (hr : kN.R 28 w base (fun _ => True) (.slice (some ⟨g, 0, none⟩) l.length c) l) (hl : l.length ≤ 1000000) :
    Calls Try.prog 113 #[.slice (some ⟨g, 0, none⟩) l.length c, .func (.func 114) #[] #[]] w fun e w' => e = .returned (.tuple #[]) ∧ ∃ m : List Nd, m.Perm l ∧ (m.Pairwise fun x y => codeI x ≤ codeI y) ∧ kN.R 28 w' base (fun _ => True) (.slice (some ⟨g, 0, none⟩) m.length c) m ∧ w.grownBy w' (some g) := by
  obtain ⟨cs, cur, -, hR, hcl, hb, hh, hnc, hcm, hcs, htk⟩ := flat_open flatN.1 hr
  have hz : kN.sz = 2 := rfl
  rw [hz] at hR hcl hcs htk
  have hcf := flat_reps hR
  have eg : ∀ args w, (callFunc 114 args).run Try.prog w = .ok (.enter 114 args) w := enters_of Try.func114 (by kernel_rfl) rfl
  have hH : HoldsK cN 2 w g 0 l.toArray := by
    intro j hj
    rw [size_flatK] at hj
    have hj' : j < l.length * 2 := by simpa using hj
    have h1 : (flatK cN 2 l.toArray)[j]! = cs[j]'(by rw [hcl]; exact hj') := by
      have h2 : (flatK cN 2 l.toArray).toList = cs := by rw [flatK_list, hcf]
      rw [getElem!_pos _ j (by simpa using hj), ← Array.getElem_toList]
      congr 1
    refine ⟨?_, ?_⟩
    · rw [Nat.zero_add, blk_cell hh, h1, ← Array.getElem?_toList]
      have h3 : cur.toList[j]? = (cur.toList.take (l.length * 2))[j]? := by rw [List.getElem?_take, if_pos hj']
      rw [h3, htk, List.getElem?_eq_getElem (by rw [hcl]; exact hj')]
      rfl
    · rw [Nat.zero_add]
      exact blk_frozen hh j
  have hcon := AnyQ.slices_SortFunc sortLays 2 Try.isAgg28 Try.sizeOf28 cN (fun _ => rfl) (fun x v hv => by simp [cN] at hv; rcases hv with rfl | rfl <;> rfl) (fun x y => cmpI (codeI x) (codeI y)) swoCode 114 #[] g 0 c l.toArray w eg (sortCmp g 0 _ w) hH (blk_lt hh) (by simp; omega)
  change Calls Try.prog 113 _ _ _ at hcon
  refine hcon.mono ?_
  rintro e w' ⟨rfl, d', n, os, hp, hs, rfl⟩
  obtain ⟨hsz, -, hpm⟩ := hp
  have hsz' : d'.size = l.length := by simpa using hsz
  have hfs : (flatK cN 2 d').size = l.length * 2 := by rw [size_flatK, hsz']
  obtain ⟨hb2, hg2⟩ := sorted_block (F := flatK cN 2 d') hh n os
  refine ⟨rfl, d'.toList, ?_, ?_, ?_, hg2⟩
  · have h1 : d'.extract 0 l.toArray.size = d' := by rw [← hsz]; exact Array.extract_size
    have h2 : l.toArray.extract 0 l.toArray.size = l.toArray := Array.extract_size
    rw [h1, h2] at hpm
    simpa using hpm
  · rw [List.pairwise_iff_getElem]
    intro i j hi hj hij
    have h1 := hs i j (Nat.zero_le _) hij (by simp at hj ⊢; omega)
    rw [ltOf_code, getElem!_pos d' j (by simpa using hj), getElem!_pos d' i (by simpa using hi)] at h1
    have := of_decide_eq_false h1
    simp only [Array.getElem_toList]
    omega
  · rw [show d'.toList.length = l.length by simpa using hsz']
    refine flat_close (W := w) flatN (reps_flat w d'.toList) (by simpa using hsz') hb hb2 hnc hcm ?_ ?_
    · rw [hz, ← hcs]
      simp [putCells]
    · rw [hz, ← hfs, take_put _ _ (by rw [hfs, hcs]; exact Nat.mul_le_mul_right _ hnc), flatK_list]
end Go.Proofs.Ytogmbeifbjgphaa.R
