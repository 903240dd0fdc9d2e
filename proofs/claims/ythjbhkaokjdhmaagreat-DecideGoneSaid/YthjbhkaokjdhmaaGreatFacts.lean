/-
  Closed facts on the whole program, one by one (together they take too much memory). The letters of its order of starting are told as numbers: the kernel is slow at taking a long text apart.
-/
import Derived.Test.YthjbhkaokjdhmaaGreatRows
import Derived.ProofKit
import Derived.WalkKit
namespace Go.Pse
open Go.RowKit Go.Proofs Go.Proofs.YthjbhkaokjdhmaaGreat
theorem pf_laidOut : laidOutB Tryz.prog = true := by kernel_rfl
theorem pf_rowed : mapsRowed Tryz.prog = true := by kernel_rfl
theorem pf_stops : (Tryz.prog.stops == []) = true := by kernel_rfl
theorem pf_knobs : (Tryz.prog.stopKnobs == []) = true := by kernel_rfl
theorem pf_heard : Tryz.prog.stopsHeard = true := by kernel_rfl
theorem pf_own : ownKnob Tryz.prog.godebug = none := by kernel_rfl
theorem pf_plain : (false == Tryz.prog.plainKeys) = true := by kernel_rfl
def ioNs : List Nat := [104, 97, 114, 110, 101, 115, 115, 32, 54, 55, 57, 56, 100, 48, 57, 56, 97, 99, 97, 55, 50, 97, 49, 98, 56, 50, 56, 49, 100, 101, 101, 101, 100, 57, 54, 100, 52, 48, 100, 101, 51, 50, 102, 54, 56, 50, 100, 51, 102, 49, 102, 49, 102, 102, 49, 51, 53, 51, 101, 50, 48, 55, 101, 55, 48, 49, 48, 54, 98, 56, 51, 57, 32, 99, 117, 116, 32, 97, 116, 32, 114, 105, 110, 103, 107, 101, 114, 110, 47, 114, 105, 110, 103, 107, 101, 114, 110, 108, 97, 119, 50, 52, 46, 68, 101, 99, 105, 100, 101, 67, 104, 97, 105, 110, 32, 114, 105, 110, 103, 107, 101, 114, 110, 47, 114, 105, 110, 103, 107, 101, 114, 110, 108, 97, 119, 50, 52, 46, 68, 101, 99, 105, 100, 101, 66, 101, 108, 108, 32, 114, 105, 110, 103, 107, 101, 114, 110, 47, 114, 105, 110, 103, 107, 101, 114, 110, 108, 97, 119, 50, 52, 46, 68, 101, 99, 105, 100, 101, 84, 101, 97, 114, 32, 114, 105, 110, 103, 107, 101, 114, 110, 47, 114, 105, 110, 103, 107, 101, 114, 110, 108, 97, 119, 50, 52, 46, 68, 101, 99, 105, 100, 101, 71, 111, 110, 101]
def ioCs : List Char := ioNs.map Char.ofNat
theorem io : Tryz.prog.initOrder = String.ofList ioCs := by kernel_rfl
theorem words : wordsSigns Tryz.prog.initOrder.toList = wordsSigns ioCs := by rw [io, String.toList_ofList]
theorem make_of {P : Program} {c : List Char} {r : List (List Char)} (h : behindMainWord (wordsSigns P.initOrder.toList) = c :: r) (h1 : (c == "gc".toList) = false) (h2 : (c == "spec".toList) = false) (h3 : (c == "cut".toList) = true) : (P.make == some .cut) = true := by
  unfold Program.make
  rw [h]
  simp only [h1, h2, h3, Bool.or_self, Bool.true_or, Bool.false_eq_true, if_false, if_true]
  rfl
theorem enter_of {P : Program} {c : List Char} {r : List (List Char)} (h : behindMainWord (wordsSigns P.initOrder.toList) = c :: r) (hs : stripLifts liftWords (c :: r) = ([], c :: r)) (hh : (some c == some "cut".toList) = true) (h1 : P.laysLater = false) (h2 : P.bearsReflect = false) (h3 : P.doorFits [] = true) : P.mayEnter = true := by
  unfold Program.mayEnter
  rw [h]
  simp only [hs, h1, h2, h3, List.head?_cons, hh]
  simp
def ioW0 : List Char := [Char.ofNat 99, Char.ofNat 117, Char.ofNat 116]
def ioWr : List (List Char) := [[Char.ofNat 97, Char.ofNat 116], [Char.ofNat 114, Char.ofNat 105, Char.ofNat 110, Char.ofNat 103, Char.ofNat 107, Char.ofNat 101, Char.ofNat 114, Char.ofNat 110, Char.ofNat 47, Char.ofNat 114, Char.ofNat 105, Char.ofNat 110, Char.ofNat 103, Char.ofNat 107, Char.ofNat 101, Char.ofNat 114, Char.ofNat 110, Char.ofNat 108, Char.ofNat 97, Char.ofNat 119, Char.ofNat 50, Char.ofNat 52, Char.ofNat 46, Char.ofNat 68, Char.ofNat 101, Char.ofNat 99, Char.ofNat 105, Char.ofNat 100, Char.ofNat 101, Char.ofNat 67, Char.ofNat 104, Char.ofNat 97, Char.ofNat 105, Char.ofNat 110], [Char.ofNat 114, Char.ofNat 105, Char.ofNat 110, Char.ofNat 103, Char.ofNat 107, Char.ofNat 101, Char.ofNat 114, Char.ofNat 110, Char.ofNat 47, Char.ofNat 114, Char.ofNat 105, Char.ofNat 110, Char.ofNat 103, Char.ofNat 107, Char.ofNat 101, Char.ofNat 114, Char.ofNat 110, Char.ofNat 108, Char.ofNat 97, Char.ofNat 119, Char.ofNat 50, Char.ofNat 52, Char.ofNat 46, Char.ofNat 68, Char.ofNat 101, Char.ofNat 99, Char.ofNat 105, Char.ofNat 100, Char.ofNat 101, Char.ofNat 66, Char.ofNat 101, Char.ofNat 108, Char.ofNat 108], [Char.ofNat 114, Char.ofNat 105, Char.ofNat 110, Char.ofNat 103, Char.ofNat 107, Char.ofNat 101, Char.ofNat 114, Char.ofNat 110, Char.ofNat 47, Char.ofNat 114, Char.ofNat 105, Char.ofNat 110, Char.ofNat 103, Char.ofNat 107, Char.ofNat 101, Char.ofNat 114, Char.ofNat 110, Char.ofNat 108, Char.ofNat 97, Char.ofNat 119, Char.ofNat 50, Char.ofNat 52, Char.ofNat 46, Char.ofNat 68, Char.ofNat 101, Char.ofNat 99, Char.ofNat 105, Char.ofNat 100, Char.ofNat 101, Char.ofNat 84, Char.ofNat 101, Char.ofNat 97, Char.ofNat 114], [Char.ofNat 114, Char.ofNat 105, Char.ofNat 110, Char.ofNat 103, Char.ofNat 107, Char.ofNat 101, Char.ofNat 114, Char.ofNat 110, Char.ofNat 47, Char.ofNat 114, Char.ofNat 105, Char.ofNat 110, Char.ofNat 103, Char.ofNat 107, Char.ofNat 101, Char.ofNat 114, Char.ofNat 110, Char.ofNat 108, Char.ofNat 97, Char.ofNat 119, Char.ofNat 50, Char.ofNat 52, Char.ofNat 46, Char.ofNat 68, Char.ofNat 101, Char.ofNat 99, Char.ofNat 105, Char.ofNat 100, Char.ofNat 101, Char.ofNat 71, Char.ofNat 111, Char.ofNat 110, Char.ofNat 101]]
theorem words2 : behindMainWord (wordsSigns Tryz.prog.initOrder.toList) = ioW0 :: ioWr := by
  rw [words]
  kernel_rfl
theorem w_gc : (ioW0 == "gc".toList) = false := by kernel_rfl
theorem w_spec : (ioW0 == "spec".toList) = false := by kernel_rfl
theorem w_cut : (ioW0 == "cut".toList) = true := by kernel_rfl
theorem w_strip : stripLifts liftWords (ioW0 :: ioWr) = ([], ioW0 :: ioWr) := by kernel_rfl
theorem w_head : (some ioW0 == some "cut".toList) = true := by kernel_rfl
theorem w_later : Tryz.prog.laysLater = false := by kernel_rfl
theorem w_refl : Tryz.prog.bearsReflect = false := by kernel_rfl
theorem w_door : Tryz.prog.doorFits [] = true := by kernel_rfl
theorem pf_enter : Tryz.prog.mayEnter = true := enter_of words2 w_strip w_head w_later w_refl w_door
theorem pf_lifts : (false == Tryz.prog.liftsFinal) = true := by
  unfold Program.liftsFinal Program.headLifts
  rw [words2]
  kernel_rfl
theorem pf_make : (Tryz.prog.make == some .cut) = true := make_of words2 w_gc w_spec w_cut
end Go.Pse
