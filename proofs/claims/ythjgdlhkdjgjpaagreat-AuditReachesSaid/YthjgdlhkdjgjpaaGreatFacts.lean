/-
  Closed facts on the whole program, one by one (together they take too much memory). The letters of its order of starting are told as numbers: the kernel is slow at taking a long text apart.
-/
import Derived.Test.YthjgdlhkdjgjpaaGreatRows
import Derived.ProofKit
import Derived.WalkKit
namespace Go.Pse
open Go.RowKit Go.Proofs Go.Proofs.YthjgdlhkdjgjpaaGreat
theorem pf_laidOut : laidOutB Tryz.prog = true := by kernel_rfl
theorem pf_rowed : mapsRowed Tryz.prog = true := by kernel_rfl
theorem pf_stops : (Tryz.prog.stops == []) = true := by kernel_rfl
theorem pf_knobs : (Tryz.prog.stopKnobs == []) = true := by kernel_rfl
theorem pf_heard : Tryz.prog.stopsHeard = true := by kernel_rfl
theorem pf_own : ownKnob Tryz.prog.godebug = none := by kernel_rfl
theorem pf_plain : (false == Tryz.prog.plainKeys) = true := by kernel_rfl
def ioNs : List Nat := [104, 97, 114, 110, 101, 115, 115, 32, 50, 51, 57, 97, 99, 100, 56, 101, 49, 102, 55, 57, 98, 57, 98, 102, 99, 51, 100, 49, 98, 98, 48, 97, 50, 99, 50, 99, 99, 97, 102, 51, 101, 49, 98, 48, 100, 49, 52, 98, 54, 53, 51, 54, 49, 100, 55, 49, 57, 51, 100, 50, 52, 49, 50, 53, 49, 100, 48, 52, 102, 52, 97, 54, 32, 99, 117, 116, 32, 97, 116, 32, 114, 105, 110, 103, 107, 101, 114, 110, 47, 114, 105, 110, 103, 107, 101, 114, 110, 108, 97, 119, 50, 56, 46, 65, 117, 100, 105, 116, 67, 111, 117, 110, 116, 115, 32, 114, 105, 110, 103, 107, 101, 114, 110, 47, 114, 105, 110, 103, 107, 101, 114, 110, 108, 97, 119, 50, 56, 46, 65, 117, 100, 105, 116, 82, 101, 97, 99, 104, 101, 115]
def ioCs : List Char := ioNs.map Char.ofNat
theorem io : Tryz.prog.initOrder = String.ofList ioCs := by kernel_rfl
theorem words : wordsSigns Tryz.prog.initOrder.toList = wordsSigns ioCs := by rw [io, String.toList_ofList]
theorem make_of {P : Program} {c : List Char} {r : List (List Char)} (h : behindMainWord (wordsSigns P.initOrder.toList) = c :: r) (h1 : (c == "gc".toList) = false) (h2 : (c == "spec".toList) = false) (h3 : (c == "cut".toList) = true) : (P.make == some .cut) = true := by
  unfold Program.make
  rw [h]
  simp only [h1, h2, h3, Bool.or_self, Bool.true_or, Bool.false_eq_true, if_false, if_true]
  rfl
theorem enter_of {P : Program} {c : List Char} {r : List (List Char)} (h : behindMainWord (wordsSigns P.initOrder.toList) = c :: r) (hs : stripLifts liftWords (c :: r) = ([], c :: r)) (hh : (some c == some "cut".toList) = true) (h1 : P.laysLater = false) (h2 : P.bearsReflect = false) (h3 : P.doorFits [] = true) : P.mayEnter = true := by
  unfold Program.mayEnter
  rw [h]
  simp only [hs, h1, h2, h3, List.head?_cons, hh]
  simp
def ioW0 : List Char := [Char.ofNat 99, Char.ofNat 117, Char.ofNat 116]
def ioWr : List (List Char) := [[Char.ofNat 97, Char.ofNat 116], [Char.ofNat 114, Char.ofNat 105, Char.ofNat 110, Char.ofNat 103, Char.ofNat 107, Char.ofNat 101, Char.ofNat 114, Char.ofNat 110, Char.ofNat 47, Char.ofNat 114, Char.ofNat 105, Char.ofNat 110, Char.ofNat 103, Char.ofNat 107, Char.ofNat 101, Char.ofNat 114, Char.ofNat 110, Char.ofNat 108, Char.ofNat 97, Char.ofNat 119, Char.ofNat 50, Char.ofNat 56, Char.ofNat 46, Char.ofNat 65, Char.ofNat 117, Char.ofNat 100, Char.ofNat 105, Char.ofNat 116, Char.ofNat 67, Char.ofNat 111, Char.ofNat 117, Char.ofNat 110, Char.ofNat 116, Char.ofNat 115], [Char.ofNat 114, Char.ofNat 105, Char.ofNat 110, Char.ofNat 103, Char.ofNat 107, Char.ofNat 101, Char.ofNat 114, Char.ofNat 110, Char.ofNat 47, Char.ofNat 114, Char.ofNat 105, Char.ofNat 110, Char.ofNat 103, Char.ofNat 107, Char.ofNat 101, Char.ofNat 114, Char.ofNat 110, Char.ofNat 108, Char.ofNat 97, Char.ofNat 119, Char.ofNat 50, Char.ofNat 56, Char.ofNat 46, Char.ofNat 65, Char.ofNat 117, Char.ofNat 100, Char.ofNat 105, Char.ofNat 116, Char.ofNat 82, Char.ofNat 101, Char.ofNat 97, Char.ofNat 99, Char.ofNat 104, Char.ofNat 101, Char.ofNat 115]]
theorem words2 : behindMainWord (wordsSigns Tryz.prog.initOrder.toList) = ioW0 :: ioWr := by
  rw [words]
  kernel_rfl
theorem w_gc : (ioW0 == "gc".toList) = false := by kernel_rfl
theorem w_spec : (ioW0 == "spec".toList) = false := by kernel_rfl
theorem w_cut : (ioW0 == "cut".toList) = true := by kernel_rfl
theorem w_strip : stripLifts liftWords (ioW0 :: ioWr) = ([], ioW0 :: ioWr) := by kernel_rfl
theorem w_head : (some ioW0 == some "cut".toList) = true := by kernel_rfl
theorem w_later : Tryz.prog.laysLater = false := by kernel_rfl
theorem w_refl : Tryz.prog.bearsReflect = false := by kernel_rfl
theorem w_door : Tryz.prog.doorFits [] = true := by kernel_rfl
theorem pf_enter : Tryz.prog.mayEnter = true := enter_of words2 w_strip w_head w_later w_refl w_door
theorem pf_lifts : (false == Tryz.prog.liftsFinal) = true := by
  unfold Program.liftsFinal Program.headLifts
  rw [words2]
  kernel_rfl
theorem pf_make : (Tryz.prog.make == some .cut) = true := make_of words2 w_gc w_spec w_cut
end Go.Pse
