/- The law FnWalkThree, walked. -/
import Derived.Test.YtogmbeifbjgphaaGreatKB36
import Derived.Test.YtogmbeifbjgphaaGreatKL14
namespace Go.Proofs.YtogmbeifbjgphaaGreat.R
open Go.RowKit Go.Proofs.YtogmbeifbjgphaaGreatV.PrintWords Go.Proofs.YtogmbeifbjgphaaGreatV.PrintLast Go.Proofs.YtogmbeifbjgphaaGreatV.PrintMore Go.Proofs.YtogmbeifbjgphaaGreat.M
set_option linter.unusedVariables false
set_option linter.unusedSimpArgs false
attribute [local go_sem high] eqN eqE
theorem walkCore_as (A : Option Addr) (c : Nat) (ns : List Nd) (B : Option Addr) (d : Nat) (es : List Eg) (P : List Int) (w : World) (hr : GR w A c ns B d es) (h : wCore ns es = P) :
 Calls Tryz.prog 12 #[.agg #[.slice A ns.length c, .slice B es.length d]] w fun e w' => RetI w.heap.size P e w' ∧ Below w.heap.size w w' := by
 subst h
 exact walkCore_calls A c ns B d es w hr
theorem sWalkCore_as (A : Option Addr) (c : Nat) (ns : List Nd) (B : Option Addr) (d : Nat) (es : List Eg) (P : List Int) (w : World) (hr : GR w A c ns B d es) (hl : ns.length ≤ 100 ∧ es.length ≤ 100) (h : wCore ns es = P) :
 Calls Tryz.prog 18 #[.agg #[.slice A ns.length c, .slice B es.length d]] w fun e w' => RetI w.heap.size P e w' ∧ Below w.heap.size w w' := by
 subst h
 exact sWalkCore_calls A c ns B d es w hr hl
theorem C_newI {w : World} {A : Option Addr} {n g : Nat} {xs : List Int} (h : (Kd.int .i64).C w A n xs) (hg : w.heap.size ≤ g) : NotIn g A n := fun hn ad e => by have := C_lt (flatI .i64) h hn ad e; omega
theorem C_rowI {w u : World} {A : Option Addr} {n g : Nat} {cs : Array Value} {xs : List Int} (h : (Kd.int .i64).C w A n xs) (e : u = w.setRow g cs) (hA : NotIn g A n) : (Kd.int .i64).C u A n xs := by
 rw [e]
 exact C_over (flatI .i64) h (grown_setRow _ _ _) fun hn ad e he => hA hn ad e (Option.some.inj he)
end Go.Proofs.YtogmbeifbjgphaaGreat.R
