/- The translation's head: what its words are. No condition. -/
import Derived.Test.YtibapicnljedcabRows
import Derived.JoinedOf
import Derived.KernelRfl
namespace Go.Proofs.Ytibapicnljedcab.Hs
open Go
set_option maxRecDepth 100000
theorem make_of (P : Program) (c : List Char) (rest : List (List Char)) (h : behindMainWord (wordsSigns P.initOrder.toList) = c :: rest) (h1 : (c == "gc".toList) = false) (h2 : (c == "spec".toList) = false) (h3 : (c == "cut".toList) = true) : P.make = some .cut := by
  unfold Program.make
  rw [h]
  simp only [h1, h2, h3, Bool.or_false, Bool.true_or, Bool.false_eq_true, if_false, if_true]
theorem headLifts_of (P : Program) (c : List Char) (rest : List (List Char)) (h : behindMainWord (wordsSigns P.initOrder.toList) = c :: rest) (h1 : (stripLifts liftWords (c :: rest)).1 = []) : P.headLifts = [] := by
  unfold Program.headLifts
  rw [h]
  simp only [h1]
  exact ite_self _
theorem liftsFinal_of (P : Program) (c : List Char) (rest : List (List Char)) (h : behindMainWord (wordsSigns P.initOrder.toList) = c :: rest) (h1 : (stripLifts liftWords (c :: rest)).1 = []) (h2 : (some c == some "carried".toList) = false) : P.liftsFinal = false := by
  have hl := headLifts_of P c rest h h1
  unfold Program.liftsFinal
  rw [h, hl]
  simp only [List.head?_cons, h2]
  rfl
theorem mayEnter_of (P : Program) (c : List Char) (rest : List (List Char)) (h : behindMainWord (wordsSigns P.initOrder.toList) = c :: rest) (h1 : (stripLifts liftWords (c :: rest)).1 = []) (h2 : ((stripLifts liftWords (c :: rest)).2.head? == some "cut".toList) = true)
    (h3 : P.laysLater = false) (h4 : P.bearsReflect = false) (h5 : P.doorFits [] = true) : P.mayEnter = true := by
  unfold Program.mayEnter
  rw [h]
  simp only [h1, h2, h3, h4, h5, Bool.not_false, Bool.or_true, Bool.and_true, List.contains_nil]
theorem tl : Try.prog.initOrder.toList = [Char.ofNat 104, Char.ofNat 97, Char.ofNat 114, Char.ofNat 110, Char.ofNat 101, Char.ofNat 115, Char.ofNat 115, Char.ofNat 32, Char.ofNat 51, Char.ofNat 102, Char.ofNat 55, Char.ofNat 101, Char.ofNat 98, Char.ofNat 98, Char.ofNat 97, Char.ofNat 54, Char.ofNat 98, Char.ofNat 48, Char.ofNat 57, Char.ofNat 51, Char.ofNat 57, Char.ofNat 99, Char.ofNat 98, Char.ofNat 102, Char.ofNat 53, Char.ofNat 97, Char.ofNat 48, Char.ofNat 98, Char.ofNat 98, Char.ofNat 51, Char.ofNat 98, Char.ofNat 98, Char.ofNat 56, Char.ofNat 55, Char.ofNat 55, Char.ofNat 50, Char.ofNat 102, Char.ofNat 100, Char.ofNat 51, Char.ofNat 102, Char.ofNat 97, Char.ofNat 97, Char.ofNat 98, Char.ofNat 57, Char.ofNat 55, Char.ofNat 98, Char.ofNat 54, Char.ofNat 101, Char.ofNat 52, Char.ofNat 102, Char.ofNat 98, Char.ofNat 57, Char.ofNat 49, Char.ofNat 97, Char.ofNat 98, Char.ofNat 55, Char.ofNat 98, Char.ofNat 55, Char.ofNat 52, Char.ofNat 52, Char.ofNat 97, Char.ofNat 100, Char.ofNat 52, Char.ofNat 101, Char.ofNat 51, Char.ofNat 101, Char.ofNat 55, Char.ofNat 51, Char.ofNat 101, Char.ofNat 57, Char.ofNat 54, Char.ofNat 50, Char.ofNat 32, Char.ofNat 99, Char.ofNat 117, Char.ofNat 116, Char.ofNat 32, Char.ofNat 97, Char.ofNat 116, Char.ofNat 32, Char.ofNat 108, Char.ofNat 111, Char.ofNat 111, Char.ofNat 112, Char.ofNat 46, Char.ofNat 101, Char.ofNat 120, Char.ofNat 97, Char.ofNat 109, Char.ofNat 112, Char.ofNat 108, Char.ofNat 101, Char.ofNat 47, Char.ofNat 103, Char.ofNat 48, Char.ofNat 49, Char.ofNat 51, Char.ofNat 50, Char.ofNat 53, Char.ofNat 47, Char.ofNat 108, Char.ofNat 97, Char.ofNat 119, Char.ofNat 115, Char.ofNat 46, Char.ofNat 70, Char.ofNat 110, Char.ofNat 75, Char.ofNat 105, Char.ofNat 110, Char.ofNat 100, Char.ofNat 115, Char.ofNat 80, Char.ofNat 108, Char.ofNat 97, Char.ofNat 121, Char.ofNat 101, Char.ofNat 100] := by
  have h : Try.prog.initOrder = String.ofList [Char.ofNat 104, Char.ofNat 97, Char.ofNat 114, Char.ofNat 110, Char.ofNat 101, Char.ofNat 115, Char.ofNat 115, Char.ofNat 32, Char.ofNat 51, Char.ofNat 102, Char.ofNat 55, Char.ofNat 101, Char.ofNat 98, Char.ofNat 98, Char.ofNat 97, Char.ofNat 54, Char.ofNat 98, Char.ofNat 48, Char.ofNat 57, Char.ofNat 51, Char.ofNat 57, Char.ofNat 99, Char.ofNat 98, Char.ofNat 102, Char.ofNat 53, Char.ofNat 97, Char.ofNat 48, Char.ofNat 98, Char.ofNat 98, Char.ofNat 51, Char.ofNat 98, Char.ofNat 98, Char.ofNat 56, Char.ofNat 55, Char.ofNat 55, Char.ofNat 50, Char.ofNat 102, Char.ofNat 100, Char.ofNat 51, Char.ofNat 102, Char.ofNat 97, Char.ofNat 97, Char.ofNat 98, Char.ofNat 57, Char.ofNat 55, Char.ofNat 98, Char.ofNat 54, Char.ofNat 101, Char.ofNat 52, Char.ofNat 102, Char.ofNat 98, Char.ofNat 57, Char.ofNat 49, Char.ofNat 97, Char.ofNat 98, Char.ofNat 55, Char.ofNat 98, Char.ofNat 55, Char.ofNat 52, Char.ofNat 52, Char.ofNat 97, Char.ofNat 100, Char.ofNat 52, Char.ofNat 101, Char.ofNat 51, Char.ofNat 101, Char.ofNat 55, Char.ofNat 51, Char.ofNat 101, Char.ofNat 57, Char.ofNat 54, Char.ofNat 50, Char.ofNat 32, Char.ofNat 99, Char.ofNat 117, Char.ofNat 116, Char.ofNat 32, Char.ofNat 97, Char.ofNat 116, Char.ofNat 32, Char.ofNat 108, Char.ofNat 111, Char.ofNat 111, Char.ofNat 112, Char.ofNat 46, Char.ofNat 101, Char.ofNat 120, Char.ofNat 97, Char.ofNat 109, Char.ofNat 112, Char.ofNat 108, Char.ofNat 101, Char.ofNat 47, Char.ofNat 103, Char.ofNat 48, Char.ofNat 49, Char.ofNat 51, Char.ofNat 50, Char.ofNat 53, Char.ofNat 47, Char.ofNat 108, Char.ofNat 97, Char.ofNat 119, Char.ofNat 115, Char.ofNat 46, Char.ofNat 70, Char.ofNat 110, Char.ofNat 75, Char.ofNat 105, Char.ofNat 110, Char.ofNat 100, Char.ofNat 115, Char.ofNat 80, Char.ofNat 108, Char.ofNat 97, Char.ofNat 121, Char.ofNat 101, Char.ofNat 100] := by kernel_rfl
  rw [h]
  exact String.toList_ofList
theorem ws : behindMainWord (wordsSigns Try.prog.initOrder.toList) = [[Char.ofNat 99, Char.ofNat 117, Char.ofNat 116], [Char.ofNat 97, Char.ofNat 116], [Char.ofNat 108, Char.ofNat 111, Char.ofNat 111, Char.ofNat 112, Char.ofNat 46, Char.ofNat 101, Char.ofNat 120, Char.ofNat 97, Char.ofNat 109, Char.ofNat 112, Char.ofNat 108, Char.ofNat 101, Char.ofNat 47, Char.ofNat 103, Char.ofNat 48, Char.ofNat 49, Char.ofNat 51, Char.ofNat 50, Char.ofNat 53, Char.ofNat 47, Char.ofNat 108, Char.ofNat 97, Char.ofNat 119, Char.ofNat 115, Char.ofNat 46, Char.ofNat 70, Char.ofNat 110, Char.ofNat 75, Char.ofNat 105, Char.ofNat 110, Char.ofNat 100, Char.ofNat 115, Char.ofNat 80, Char.ofNat 108, Char.ofNat 97, Char.ofNat 121, Char.ofNat 101, Char.ofNat 100]] := by
  rw [tl]
  kernel_rfl
theorem mk : Try.prog.make = some .cut := make_of _ _ _ ws (by kernel_rfl) (by kernel_rfl) (by kernel_rfl)
theorem lf : Try.prog.liftsFinal = false := liftsFinal_of _ _ _ ws (by kernel_rfl) (by kernel_rfl)
theorem me : Try.prog.mayEnter = true := mayEnter_of _ _ _ ws (by kernel_rfl) (by kernel_rfl) (by kernel_rfl) (by kernel_rfl) (by kernel_rfl)
end Go.Proofs.Ytibapicnljedcab.Hs
