/- Facts of the whole program that every row of this seat asks for: how its text was made. -/
import Derived.JoinedOf
import Derived.KernelRfl
import Derived.Test.YtogmbeifbjgphaaGreatProg
import Derived.Test.YtogmbeifbjgphaaGreatRows
namespace Go.Proofs.YtogmbeifbjgphaaGreat.R
set_option linter.unusedVariables false
theorem words_cut : ∀ (a r : List Char), (∀ c ∈ a, c ≠ Char.ofNat 32) → Go.wordsSigns (a ++ Char.ofNat 32 :: r) = a :: Go.wordsSigns r
 | [], r, _ => rfl
 | c :: a, r, h => by
   have hc : c ≠ Char.ofNat 32 := h c (by simp)
   have ih := words_cut a r (fun d hd => h d (by simp [hd]))
   show Go.wordsSigns (c :: (a ++ Char.ofNat 32 :: r)) = _
   rw [Go.wordsSigns.eq_3 c _ (by intro e; exact hc e), ih]
def orderH : List Char := [Char.ofNat 104, Char.ofNat 97, Char.ofNat 114, Char.ofNat 110, Char.ofNat 101, Char.ofNat 115, Char.ofNat 115]
def orderS : List Char := [Char.ofNat 56, Char.ofNat 99, Char.ofNat 54, Char.ofNat 102, Char.ofNat 56, Char.ofNat 48, Char.ofNat 56, Char.ofNat 48, Char.ofNat 57, Char.ofNat 48, Char.ofNat 57, Char.ofNat 48, Char.ofNat 52, Char.ofNat 48, Char.ofNat 48, Char.ofNat 100, Char.ofNat 49, Char.ofNat 57, Char.ofNat 97, Char.ofNat 101, Char.ofNat 54, Char.ofNat 49, Char.ofNat 49, Char.ofNat 55, Char.ofNat 48, Char.ofNat 48, Char.ofNat 57, Char.ofNat 57, Char.ofNat 101, Char.ofNat 56, Char.ofNat 55, Char.ofNat 48, Char.ofNat 51, Char.ofNat 48, Char.ofNat 49, Char.ofNat 98, Char.ofNat 53, Char.ofNat 57, Char.ofNat 55, Char.ofNat 57, Char.ofNat 51, Char.ofNat 51, Char.ofNat 49, Char.ofNat 99, Char.ofNat 101, Char.ofNat 52, Char.ofNat 98, Char.ofNat 99, Char.ofNat 54, Char.ofNat 52, Char.ofNat 55, Char.ofNat 98, Char.ofNat 99, Char.ofNat 54, Char.ofNat 54, Char.ofNat 50, Char.ofNat 49, Char.ofNat 51, Char.ofNat 50, Char.ofNat 56, Char.ofNat 54, Char.ofNat 97, Char.ofNat 98, Char.ofNat 48]
def orderC : List Char := [Char.ofNat 99, Char.ofNat 117, Char.ofNat 116]
set_option maxRecDepth 100000 in
def orderR : List Char := [Char.ofNat 97, Char.ofNat 116, Char.ofNat 32, Char.ofNat 108, Char.ofNat 111, Char.ofNat 111, Char.ofNat 112, Char.ofNat 46, Char.ofNat 101, Char.ofNat 120, Char.ofNat 97, Char.ofNat 109, Char.ofNat 112, Char.ofNat 108, Char.ofNat 101, Char.ofNat 47, Char.ofNat 104, Char.ofNat 97, Char.ofNat 103, Char.ofNat 105, Char.ofNat 111, Char.ofNat 115, Char.ofNat 99, Char.ofNat 111, Char.ofNat 112, Char.ofNat 101, Char.ofNat 47, Char.ofNat 108, Char.ofNat 97, Char.ofNat 119, Char.ofNat 115, Char.ofNat 46, Char.ofNat 70, Char.ofNat 110, Char.ofNat 87, Char.ofNat 97, Char.ofNat 108, Char.ofNat 107, Char.ofNat 77, Char.ofNat 111, Char.ofNat 114, Char.ofNat 101, Char.ofNat 32, Char.ofNat 108, Char.ofNat 111, Char.ofNat 111, Char.ofNat 112, Char.ofNat 46, Char.ofNat 101, Char.ofNat 120, Char.ofNat 97, Char.ofNat 109, Char.ofNat 112, Char.ofNat 108, Char.ofNat 101, Char.ofNat 47, Char.ofNat 104, Char.ofNat 97, Char.ofNat 103, Char.ofNat 105, Char.ofNat 111, Char.ofNat 115, Char.ofNat 99, Char.ofNat 111, Char.ofNat 112, Char.ofNat 101, Char.ofNat 47, Char.ofNat 108, Char.ofNat 97, Char.ofNat 119, Char.ofNat 115, Char.ofNat 46, Char.ofNat 70, Char.ofNat 110, Char.ofNat 87, Char.ofNat 97, Char.ofNat 108, Char.ofNat 107, Char.ofNat 67, Char.ofNat 111, Char.ofNat 114, Char.ofNat 101, Char.ofNat 32, Char.ofNat 108, Char.ofNat 111, Char.ofNat 111, Char.ofNat 112, Char.ofNat 46, Char.ofNat 101, Char.ofNat 120, Char.ofNat 97, Char.ofNat 109, Char.ofNat 112, Char.ofNat 108, Char.ofNat 101, Char.ofNat 47, Char.ofNat 104, Char.ofNat 97, Char.ofNat 103, Char.ofNat 105, Char.ofNat 111, Char.ofNat 115, Char.ofNat 99, Char.ofNat 111, Char.ofNat 112, Char.ofNat 101, Char.ofNat 47, Char.ofNat 108, Char.ofNat 97, Char.ofNat 119, Char.ofNat 115, Char.ofNat 46, Char.ofNat 70, Char.ofNat 110, Char.ofNat 83, Char.ofNat 116, Char.ofNat 111, Char.ofNat 114, Char.ofNat 101, Char.ofNat 32, Char.ofNat 108, Char.ofNat 111, Char.ofNat 111, Char.ofNat 112, Char.ofNat 46, Char.ofNat 101, Char.ofNat 120, Char.ofNat 97, Char.ofNat 109, Char.ofNat 112, Char.ofNat 108, Char.ofNat 101, Char.ofNat 47, Char.ofNat 104, Char.ofNat 97, Char.ofNat 103, Char.ofNat 105, Char.ofNat 111, Char.ofNat 115, Char.ofNat 99, Char.ofNat 111, Char.ofNat 112, Char.ofNat 101, Char.ofNat 47, Char.ofNat 108, Char.ofNat 97, Char.ofNat 119, Char.ofNat 115, Char.ofNat 46, Char.ofNat 70, Char.ofNat 110, Char.ofNat 83, Char.ofNat 101, Char.ofNat 103, Char.ofNat 65, Char.ofNat 112, Char.ofNat 97, Char.ofNat 114, Char.ofNat 116, Char.ofNat 32, Char.ofNat 108, Char.ofNat 111, Char.ofNat 111, Char.ofNat 112, Char.ofNat 46, Char.ofNat 101, Char.ofNat 120, Char.ofNat 97, Char.ofNat 109, Char.ofNat 112, Char.ofNat 108, Char.ofNat 101, Char.ofNat 47, Char.ofNat 104, Char.ofNat 97, Char.ofNat 103, Char.ofNat 105, Char.ofNat 111, Char.ofNat 115, Char.ofNat 99, Char.ofNat 111, Char.ofNat 112, Char.ofNat 101, Char.ofNat 47, Char.ofNat 108, Char.ofNat 97, Char.ofNat 119, Char.ofNat 115, Char.ofNat 46, Char.ofNat 70, Char.ofNat 110, Char.ofNat 83, Char.ofNat 101, Char.ofNat 103, Char.ofNat 76, Char.ofNat 111, Char.ofNat 110, Char.ofNat 103, Char.ofNat 32, Char.ofNat 108, Char.ofNat 111, Char.ofNat 111, Char.ofNat 112, Char.ofNat 46, Char.ofNat 101, Char.ofNat 120, Char.ofNat 97, Char.ofNat 109, Char.ofNat 112, Char.ofNat 108, Char.ofNat 101, Char.ofNat 47, Char.ofNat 104, Char.ofNat 97, Char.ofNat 103, Char.ofNat 105, Char.ofNat 111, Char.ofNat 115, Char.ofNat 99, Char.ofNat 111, Char.ofNat 112, Char.ofNat 101, Char.ofNat 47, Char.ofNat 108, Char.ofNat 97, Char.ofNat 119, Char.ofNat 115, Char.ofNat 46, Char.ofNat 70, Char.ofNat 110, Char.ofNat 87, Char.ofNat 97, Char.ofNat 108, Char.ofNat 107, Char.ofNat 76, Char.ofNat 101, Char.ofNat 115, Char.ofNat 115]
set_option maxRecDepth 100000 in
theorem order_lit : Tryz.pinned.checked.prog.initOrder = "harness 8c6f80809090400d19ae61170099e870301b5979331ce4bc647bc66213286ab0 cut at loop.example/hagioscope/laws.FnWalkMore loop.example/hagioscope/laws.FnWalkCore loop.example/hagioscope/laws.FnStore loop.example/hagioscope/laws.FnSegApart loop.example/hagioscope/laws.FnSegLong loop.example/hagioscope/laws.FnWalkLess" := by kernel_rfl
set_option maxRecDepth 100000 in
theorem order_list : ("harness 8c6f80809090400d19ae61170099e870301b5979331ce4bc647bc66213286ab0 cut at loop.example/hagioscope/laws.FnWalkMore loop.example/hagioscope/laws.FnWalkCore loop.example/hagioscope/laws.FnStore loop.example/hagioscope/laws.FnSegApart loop.example/hagioscope/laws.FnSegLong loop.example/hagioscope/laws.FnWalkLess" : String) = String.ofList (orderH ++ Char.ofNat 32 :: (orderS ++ Char.ofNat 32 :: (orderC ++ Char.ofNat 32 :: orderR))) := by kernel_rfl
theorem words_are : Go.behindMainWord (Go.wordsSigns Tryz.pinned.checked.prog.initOrder.toList) = orderC :: Go.wordsSigns orderR := by
 rw [order_lit, order_list, String.toList_ofList]
 rw [words_cut orderH _ (by decide), words_cut orderS _ (by decide), words_cut orderC _ (by decide)]
 generalize Go.wordsSigns orderR = X
 show (if ((orderH == "harness".toList || orderH == "ownmain".toList) && Go.isSumSigns orderS) = true then orderC :: X else orderH :: orderS :: orderC :: X) = orderC :: X
 rw [if_pos (show ((orderH == "harness".toList || orderH == "ownmain".toList) && Go.isSumSigns orderS) = true by kernel_rfl)]
theorem strip_ (X : List (List Char)) : Go.stripLifts Go.liftWords (orderC :: X) = ([], orderC :: X) := by rfl
theorem later_ : Tryz.pinned.checked.prog.laysLater = false := by kernel_rfl
theorem bears_ : Tryz.pinned.checked.prog.bearsReflect = false := by kernel_rfl
theorem door_ : Tryz.pinned.checked.prog.doorFits [] = true := by kernel_rfl
theorem mayEnter_of (P : Go.Program) (X : List (List Char)) (h : Go.behindMainWord (Go.wordsSigns P.initOrder.toList) = orderC :: X)
 (l : P.laysLater = false) (r : P.bearsReflect = false) (d : P.doorFits [] = true) : P.mayEnter = true := by
 unfold Go.Program.mayEnter
 simp only [h, strip_, l, r, d]
 rfl
theorem lifts_of (P : Go.Program) (X : List (List Char)) (h : Go.behindMainWord (Go.wordsSigns P.initOrder.toList) = orderC :: X) : P.liftsFinal = false := by
 unfold Go.Program.liftsFinal Go.Program.headLifts
 simp only [h, strip_]
 rfl
theorem make_of (P : Go.Program) (X : List (List Char)) (h : Go.behindMainWord (Go.wordsSigns P.initOrder.toList) = orderC :: X) : P.make = some .cut := by
 unfold Go.Program.make Go.Program.headLifts
 simp only [h]
 rfl
theorem mayEnter_ : Tryz.pinned.checked.prog.mayEnter = true := mayEnter_of _ _ words_are later_ bears_ door_
theorem lifts_ : Tryz.pinned.checked.prog.liftsFinal = false := lifts_of _ _ words_are
theorem make_ : Tryz.pinned.checked.prog.make = some .cut := make_of _ _ words_are
theorem liftsEq (b : Bool) (h : b = false) : (b == Tryz.pinned.checked.prog.liftsFinal) = true := by rw [lifts_, h]; rfl
theorem makeEq (k : Go.Make) (h : k = .cut) : (Tryz.pinned.checked.prog.make == some k) = true := by rw [make_, h]; rfl
end Go.Proofs.YtogmbeifbjgphaaGreat.R
