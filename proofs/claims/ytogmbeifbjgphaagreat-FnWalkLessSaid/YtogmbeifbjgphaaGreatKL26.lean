/- What the great seat's walk laws call. -/
import Derived.Test.YtogmbeifbjgphaaGreatKL19
namespace Go.Proofs.YtogmbeifbjgphaaGreat.R
open Go.RowKit Go.Proofs.YtogmbeifbjgphaaGreatV.PrintWords Go.Proofs.YtogmbeifbjgphaaGreatV.PrintLast Go.Proofs.YtogmbeifbjgphaaGreatV.PrintMore Go.Proofs.YtogmbeifbjgphaaGreat.M
set_option linter.unusedVariables false
set_option linter.unusedSimpArgs false
attribute [local go_sem high] eqN eqE
theorem walkCore_m (A : Option Addr) (c : Nat) (ns : List Nd) (B : Option Addr) (d : Nat) (es : List Eg) (P : List Int) (m : Nat) (w : World) (hr : GR w A c ns B d es) (h : wCore ns es = P) (hl : P.length = m) :
 Calls Tryz.prog 12 #[.agg #[.slice A ns.length c, .slice B es.length d]] w fun e w' => ∃ A' c', e = .returned (.slice A' m c') ∧ (Kd.int .i64).C w' A' m P ∧ Below w.heap.size w w' := by
 rw [← hl]
 exact (walkCore_as A c ns B d es P w hr h).mono fun e w' ⟨⟨A', c', h1, h2, _, _⟩, hb⟩ => ⟨A', c', h1, h2, hb⟩
theorem walkDist_m (A : Option Addr) (c : Nat) (ns : List Nd) (B : Option Addr) (d : Nat) (es : List Eg) (n : Nd) (P : List Int) (m : Nat) (w : World) (hr : GR w A c ns B d es) (h : wDist ns es n = P) (hl : P.length = m) :
 Calls Tryz.prog 13 #[.agg #[.slice A ns.length c, .slice B es.length d], .agg #[.int .i64 n.lab, .int .i64 n.num]] w fun e w' => ∃ A' c', e = .returned (.slice A' m c') ∧ (Kd.int .i64).C w' A' m P ∧ Below w.heap.size w w' := by
 rw [← hl]
 exact (walkDist_as A c ns B d es n P w hr h).mono fun e w' ⟨⟨A', c', h1, h2, _, _⟩, hb⟩ => ⟨A', c', h1, h2, hb⟩
theorem int_atN {k : IntKind} {w : World} {A : Option Addr} {n : Nat} {xs : List Int} (h : (Kd.int k).C w A n xs) (j : Nat) (hj : j < n) (x : Int) (hx : gt xs j = x) : ∃ ad, A = some ad ∧ w.cell? (ad.add j) = some (.int k x) := by
 obtain ⟨ad, h1, h2⟩ := int_at h j hj
 exact ⟨ad, h1, by rw [h2, ← hx]; rfl⟩
theorem up_same {ns : List Nd} {es : List Eg} (hg : OkG ns es) {i : Nat} (hi : i < ns.length) : up ns ns i = i := idx_at hg hi
theorem adj_new {ns : List Nd} {es : List Eg} (hg : OkG ns es) {e : Eg} (he : e ∈ es) : adjI ns es (idx ns e.a) (idx ns e.b) = true := by
 have h := hg.ends e he
 rw [adjI_at (idx_lt h.1) (idx_lt h.2), at_idx h.1, at_idx h.2]
 exact adjE_iff.2 ⟨e, he, .inl ⟨rfl, rfl⟩⟩
end Go.Proofs.YtogmbeifbjgphaaGreat.R
