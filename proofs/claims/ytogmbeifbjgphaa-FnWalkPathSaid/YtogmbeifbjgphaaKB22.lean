/- Draws: a graph and what is done to it; What the laws call, by names of what it comes to. -/
import Derived.Test.YtogmbeifbjgphaaKB21
namespace Go.Proofs.Ytogmbeifbjgphaa.R
open Go.RowKit Go.Proofs.YtogmbeifbjgphaaV.PrintWords Go.Proofs.YtogmbeifbjgphaaV.PrintLast Go.Proofs.YtogmbeifbjgphaaV.PrintMore Go.Proofs.Ytogmbeifbjgphaa.M
set_option linter.unusedVariables false
set_option linter.unusedSimpArgs false
attribute [local go_sem high] eqN eqE
theorem below_gr {w u v : World} {G : Nat} (h : Below w.heap.size w u) (hg : u.grownBy v (some G)) (hG : w.heap.size ≤ G) : Below w.heap.size w v := h.grown hg h.size (fun k hk => by cases hk; exact hG)
end Go.Proofs.Ytogmbeifbjgphaa.R
namespace Go.Proofs.Ytogmbeifbjgphaa.R
open Go.RowKit Go.Proofs.YtogmbeifbjgphaaV.PrintWords Go.Proofs.YtogmbeifbjgphaaV.PrintLast Go.Proofs.YtogmbeifbjgphaaV.PrintMore Go.Proofs.Ytogmbeifbjgphaa.M
set_option linter.unusedVariables false
set_option linter.unusedSimpArgs false
attribute [local go_sem high] eqN eqE
theorem region_bp {P : Program} {ops : Array Oper} {Q : Exit → Act → World → Prop} {id : Nat} {a : Act} {w : World} (ds : List Nat) (p : Pl) (hm : P.follows .mixedOrders = true) (hc : planB .any ops ds p (Array.replicate ops.size false) = true) (hl : p.depth ≤ ops.size)
    (hQ : ∀ (d : Option Tmp) (v : Value) (c : _) (a : Act) (w : World), Q (.panic c) (a.put d v) w → Q (.panic c) a w) (h : ∀ u, Below w.heap.size w u → wpP P ops Q (Below w.heap.size w) p a u) : (Code.region id ops true).wp P Q a w :=
  region_pl (Below w.heap.size w) ds p hm hc hl hQ ((Below.refl _ _).drew) fun u hb _ => h u hb
theorem row_C {W : World} {a : Option Addr} {len cap : Nat} {zs : List Int} (h : (a = none ∧ len = 0 ∧ cap = 0 ∧ zs = []) ∨ ∃ x, a = some x ∧ len ≤ cap ∧ cap ≤ maxLen ∧ zs.length = cap ∧ (∀ i, i < zs.length → W.cell? (x.add i) = some (.int .u8 (zs.getD i 0))) ∧ ∀ n ∈ zs, (Lit.int .u8 n).wf = true) :
    ∃ l : List Int, l.length = len ∧ l.length ≤ cap ∧ (Kd.int .u8).C W a l.length l ∧ ∀ x ∈ l, 0 ≤ x ∧ x < 256 := by
  rcases h with ⟨rfl, rfl, rfl, rfl⟩ | ⟨x, rfl, h1, h2, h3, h4, h5⟩
  · exact ⟨[], rfl, Nat.le_refl _, ⟨rfl, by decide, fun h => absurd h (Nat.lt_irrefl 0)⟩, fun x h => by cases h⟩
  · have hl : (zs.take len).length = len := by rw [List.length_take]; omega
    refine ⟨zs.take len, hl, by omega, ⟨rfl, by rw [hl]; unfold maxLen at h2; omega, fun _ => ⟨x, rfl, fun j p hj => ?_⟩⟩, fun n hn => ?_⟩
    · have hjl : j < (zs.take len).length := (List.getElem?_eq_some_iff.1 hj).1
      refine ⟨[.int .u8 p], rfl, rfl, fun i u hi => ?_⟩
      obtain ⟨rfl, rfl⟩ : i = 0 ∧ Value.int .u8 p = u := by
        match i, hi with
        | 0, hi => exact ⟨rfl, Option.some.inj hi⟩
      rw [show j * (Kd.int .u8).sz + 0 = j from Nat.mul_one j, h4 j (by omega)]
      rw [List.getElem?_take] at hj
      split at hj
      · rw [List.getD_eq_getElem?_getD, hj]
        rfl
      · cases hj
    · have := h5 n (List.mem_of_mem_take hn)
      simp [Lit.wf, IntKind.min, IntKind.max, IntKind.bits, IntKind.signed] at this
      omega
theorem sGraphOk_as (A : Option Addr) (c : Nat) (ns : List Nd) (B : Option Addr) (d : Nat) (es : List Eg) (v : Bool) (w : World) (hr : GR w A c ns B d es) (hl : ns.length ≤ 100 ∧ es.length ≤ 100) (h : okG ns es = v) :
    Calls Try.prog 33 #[.agg #[.slice A ns.length c, .slice B es.length d]] w fun e w' => e = .returned (.bool v) ∧ Below w.heap.size w w' := by
  subst h
  exact sGraphOk_calls A c ns B d es w hr (by omega) (by omega)
end Go.Proofs.Ytogmbeifbjgphaa.R
