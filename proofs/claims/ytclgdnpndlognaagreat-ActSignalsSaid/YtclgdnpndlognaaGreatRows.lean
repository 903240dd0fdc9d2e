/-
  No cell of these rows narrows 'for every input' (looked for: loops, veiled, ifaces, maps, wideKeys, modest, calm, conditions, laid).
  DERIVED. THE GIVEN ROWS OF THIS SEAT. 11 by the template 'for every input the law returns true; each argument reads behind the call as it read before'; 0 by the template 'total and deterministic' (their statements: YtclgdnpndlognaaGreatTotals.lean).
  GIVEN WITH THE SEED: the statements are not yours to turn. If you find one false, say at which input.
  Laid BY PROGRAM, IN A SANDBOX (cutbox-rows.mjs): the forced cells as the released guide's own fill.sh prints them over the translation 0c387f6f29fba373… (all of the seat's roots in one cut). By AI agents, Wed Nov 11 2026. No macro, syntax, notation, axiom, sorry.
-/
import Derived.Test.YtclgdnpndlognaaGreatChecked
import GoSem.Claim
import GoSem.ClaimJoined
import GoSem.ClaimMapViews
import Derived.JoinedTies
import Derived.KernelRfl
namespace Go.Proofs.YtclgdnpndlognaaGreat
/- THE CELL 'sum', in the pinned program and in every row, IS THE sha256 OF THE DUMP (.gsa) THAT YtclgdnpndlognaaGreatProg.lean LOADS. Nothing in Lean hashes anything: it is a label: what it is worth is what the hold of that sum in a sandbox is worth. -/
noncomputable def Tryz.pinned : Pinned := { name := "ytclgdnpndlognaagreat", sum := "0c387f6f29fba373ee1e66a067d0a9157ba8d7d2b5df4c2517f1a932ba2a715b", checked := Tryz.checked }
namespace Rows
def none {H : Type} : Left H := { results := [], args := [] }

/-- 'ringkernlaw25.ActMeets': WHATEVER THE INPUT: true; the input reads as it did. -/
def actMeetsSpec : ChangeSpec := { name := "actMeets", fn := fun _ => fun
  | [d1, d2, d3, d4] => { results := [.lit (.bool true)], args := [d1, d2, d3, d4] }
  | _ => none }
def actMeetsRow : OpenClaim := { program := "ytclgdnpndlognaagreat", sum := "0c387f6f29fba373ee1e66a067d0a9157ba8d7d2b5df4c2517f1a932ba2a715b", func := "ringkern/ringkernlaw25.ActMeets", spec := "actMeets", unfollowed := true, recurses := true, plainKeys := false, apart := false }
def ActMeetsSaid : Prop := actMeetsRow.holds Tryz.pinned (OpenSpec.ofChange actMeetsSpec)

/-- ITS FALSE NEIGHBOUR: 'it returns false'. Refute it at one input. -/
def actMeetsWrong : ChangeSpec := { name := "actMeets", fn := fun _ => fun
  | [d1, d2, d3, d4] => { results := [.lit (.bool false)], args := [d1, d2, d3, d4] }
  | _ => none }
def ActMeetsWrongFalsely : Prop := actMeetsRow.holds Tryz.pinned (OpenSpec.ofChange actMeetsWrong)

/-- 'ringkernlaw25.ActSignals': WHATEVER THE INPUT: true; the input reads as it did. -/
def actSignalsSpec : ChangeSpec := { name := "actSignals", fn := fun _ => fun
  | [d1, d2, d3] => { results := [.lit (.bool true)], args := [d1, d2, d3] }
  | _ => none }
def actSignalsRow : OpenClaim := { program := "ytclgdnpndlognaagreat", sum := "0c387f6f29fba373ee1e66a067d0a9157ba8d7d2b5df4c2517f1a932ba2a715b", func := "ringkern/ringkernlaw25.ActSignals", spec := "actSignals", unfollowed := true, recurses := true, plainKeys := false, apart := false }
def ActSignalsSaid : Prop := actSignalsRow.holds Tryz.pinned (OpenSpec.ofChange actSignalsSpec)

/-- ITS FALSE NEIGHBOUR: 'it returns false'. Refute it at one input. -/
def actSignalsWrong : ChangeSpec := { name := "actSignals", fn := fun _ => fun
  | [d1, d2, d3] => { results := [.lit (.bool false)], args := [d1, d2, d3] }
  | _ => none }
def ActSignalsWrongFalsely : Prop := actSignalsRow.holds Tryz.pinned (OpenSpec.ofChange actSignalsWrong)

/-- 'ringkernlaw25.ActErrors': WHATEVER THE INPUT: true; the input reads as it did. -/
def actErrorsSpec : ChangeSpec := { name := "actErrors", fn := fun _ => fun
  | [d] => { results := [.lit (.bool true)], args := [d] }
  | _ => none }
def actErrorsRow : OpenClaim := { program := "ytclgdnpndlognaagreat", sum := "0c387f6f29fba373ee1e66a067d0a9157ba8d7d2b5df4c2517f1a932ba2a715b", func := "ringkern/ringkernlaw25.ActErrors", spec := "actErrors", unfollowed := true, recurses := true, plainKeys := false, apart := false }
def ActErrorsSaid : Prop := actErrorsRow.holds Tryz.pinned (OpenSpec.ofChange actErrorsSpec)

/-- ITS FALSE NEIGHBOUR: 'it returns false'. Refute it at one input. -/
def actErrorsWrong : ChangeSpec := { name := "actErrors", fn := fun _ => fun
  | [d] => { results := [.lit (.bool false)], args := [d] }
  | _ => none }
def ActErrorsWrongFalsely : Prop := actErrorsRow.holds Tryz.pinned (OpenSpec.ofChange actErrorsWrong)

/-- 'ringkernlaw26.EnterMixed': WHATEVER THE INPUT: true; the input reads as it did. -/
def enterMixedSpec : ChangeSpec := { name := "enterMixed", fn := fun _ => fun
  | [d] => { results := [.lit (.bool true)], args := [d] }
  | _ => none }
def enterMixedRow : OpenClaim := { program := "ytclgdnpndlognaagreat", sum := "0c387f6f29fba373ee1e66a067d0a9157ba8d7d2b5df4c2517f1a932ba2a715b", func := "ringkern/ringkernlaw26.EnterMixed", spec := "enterMixed", inPlace := ["slices.overlaps[ringkern/timer.one]"], unfollowed := true, recurses := true, plainKeys := false, apart := false }
def EnterMixedSaid : Prop := enterMixedRow.holds Tryz.pinned (OpenSpec.ofChange enterMixedSpec)

/-- ITS FALSE NEIGHBOUR: 'it returns false'. Refute it at one input. -/
def enterMixedWrong : ChangeSpec := { name := "enterMixed", fn := fun _ => fun
  | [d] => { results := [.lit (.bool false)], args := [d] }
  | _ => none }
def EnterMixedWrongFalsely : Prop := enterMixedRow.holds Tryz.pinned (OpenSpec.ofChange enterMixedWrong)

/-- 'ringkernlaw26.EnterBusy': WHATEVER THE INPUT: true; the input reads as it did. -/
def enterBusySpec : ChangeSpec := { name := "enterBusy", fn := fun _ => fun
  | [d1, d2] => { results := [.lit (.bool true)], args := [d1, d2] }
  | _ => none }
def enterBusyRow : OpenClaim := { program := "ytclgdnpndlognaagreat", sum := "0c387f6f29fba373ee1e66a067d0a9157ba8d7d2b5df4c2517f1a932ba2a715b", func := "ringkern/ringkernlaw26.EnterBusy", spec := "enterBusy", inPlace := ["slices.overlaps[ringkern/timer.one]"], unfollowed := true, recurses := true, plainKeys := false, apart := false }
def EnterBusySaid : Prop := enterBusyRow.holds Tryz.pinned (OpenSpec.ofChange enterBusySpec)

/-- ITS FALSE NEIGHBOUR: 'it returns false'. Refute it at one input. -/
def enterBusyWrong : ChangeSpec := { name := "enterBusy", fn := fun _ => fun
  | [d1, d2] => { results := [.lit (.bool false)], args := [d1, d2] }
  | _ => none }
def EnterBusyWrongFalsely : Prop := enterBusyRow.holds Tryz.pinned (OpenSpec.ofChange enterBusyWrong)

/-- 'ringkernlaw26.EnterChains': WHATEVER THE INPUT: true; the input reads as it did. -/
def enterChainsSpec : ChangeSpec := { name := "enterChains", fn := fun _ => fun
  | [d1, d2] => { results := [.lit (.bool true)], args := [d1, d2] }
  | _ => none }
def enterChainsRow : OpenClaim := { program := "ytclgdnpndlognaagreat", sum := "0c387f6f29fba373ee1e66a067d0a9157ba8d7d2b5df4c2517f1a932ba2a715b", func := "ringkern/ringkernlaw26.EnterChains", spec := "enterChains", inPlace := ["slices.overlaps[ringkern/timer.one]"], unfollowed := true, recurses := true, plainKeys := false, apart := false }
def EnterChainsSaid : Prop := enterChainsRow.holds Tryz.pinned (OpenSpec.ofChange enterChainsSpec)

/-- ITS FALSE NEIGHBOUR: 'it returns false'. Refute it at one input. -/
def enterChainsWrong : ChangeSpec := { name := "enterChains", fn := fun _ => fun
  | [d1, d2] => { results := [.lit (.bool false)], args := [d1, d2] }
  | _ => none }
def EnterChainsWrongFalsely : Prop := enterChainsRow.holds Tryz.pinned (OpenSpec.ofChange enterChainsWrong)

/-- 'ringkernlaw26.EnterBudget': WHATEVER THE INPUT: true; the input reads as it did. -/
def enterBudgetSpec : ChangeSpec := { name := "enterBudget", fn := fun _ => fun
  | [d1, d2] => { results := [.lit (.bool true)], args := [d1, d2] }
  | _ => none }
def enterBudgetRow : OpenClaim := { program := "ytclgdnpndlognaagreat", sum := "0c387f6f29fba373ee1e66a067d0a9157ba8d7d2b5df4c2517f1a932ba2a715b", func := "ringkern/ringkernlaw26.EnterBudget", spec := "enterBudget", inPlace := ["slices.overlaps[ringkern/timer.one]"], unfollowed := true, recurses := true, plainKeys := false, apart := false }
def EnterBudgetSaid : Prop := enterBudgetRow.holds Tryz.pinned (OpenSpec.ofChange enterBudgetSpec)

/-- ITS FALSE NEIGHBOUR: 'it returns false'. Refute it at one input. -/
def enterBudgetWrong : ChangeSpec := { name := "enterBudget", fn := fun _ => fun
  | [d1, d2] => { results := [.lit (.bool false)], args := [d1, d2] }
  | _ => none }
def EnterBudgetWrongFalsely : Prop := enterBudgetRow.holds Tryz.pinned (OpenSpec.ofChange enterBudgetWrong)

/-- 'ringkernlaw26.EnterRefuses': WHATEVER THE INPUT: true; the input reads as it did. -/
def enterRefusesSpec : ChangeSpec := { name := "enterRefuses", fn := fun _ => fun
  | [d1, d2, d3] => { results := [.lit (.bool true)], args := [d1, d2, d3] }
  | _ => none }
def enterRefusesRow : OpenClaim := { program := "ytclgdnpndlognaagreat", sum := "0c387f6f29fba373ee1e66a067d0a9157ba8d7d2b5df4c2517f1a932ba2a715b", func := "ringkern/ringkernlaw26.EnterRefuses", spec := "enterRefuses", inPlace := ["slices.overlaps[ringkern/timer.one]"], unfollowed := true, recurses := true, plainKeys := false, apart := false }
def EnterRefusesSaid : Prop := enterRefusesRow.holds Tryz.pinned (OpenSpec.ofChange enterRefusesSpec)

/-- ITS FALSE NEIGHBOUR: 'it returns false'. Refute it at one input. -/
def enterRefusesWrong : ChangeSpec := { name := "enterRefuses", fn := fun _ => fun
  | [d1, d2, d3] => { results := [.lit (.bool false)], args := [d1, d2, d3] }
  | _ => none }
def EnterRefusesWrongFalsely : Prop := enterRefusesRow.holds Tryz.pinned (OpenSpec.ofChange enterRefusesWrong)

/-- 'ringkernlaw26.EnterLeaves': WHATEVER THE INPUT: true; the input reads as it did. -/
def enterLeavesSpec : ChangeSpec := { name := "enterLeaves", fn := fun _ => fun
  | [d1, d2] => { results := [.lit (.bool true)], args := [d1, d2] }
  | _ => none }
def enterLeavesRow : OpenClaim := { program := "ytclgdnpndlognaagreat", sum := "0c387f6f29fba373ee1e66a067d0a9157ba8d7d2b5df4c2517f1a932ba2a715b", func := "ringkern/ringkernlaw26.EnterLeaves", spec := "enterLeaves", inPlace := ["slices.overlaps[ringkern/timer.one]"], unfollowed := true, recurses := true, plainKeys := false, apart := false }
def EnterLeavesSaid : Prop := enterLeavesRow.holds Tryz.pinned (OpenSpec.ofChange enterLeavesSpec)

/-- ITS FALSE NEIGHBOUR: 'it returns false'. Refute it at one input. -/
def enterLeavesWrong : ChangeSpec := { name := "enterLeaves", fn := fun _ => fun
  | [d1, d2] => { results := [.lit (.bool false)], args := [d1, d2] }
  | _ => none }
def EnterLeavesWrongFalsely : Prop := enterLeavesRow.holds Tryz.pinned (OpenSpec.ofChange enterLeavesWrong)

/-- 'ringkernlaw26.EnterDrain': WHATEVER THE INPUT: true; the input reads as it did. -/
def enterDrainSpec : ChangeSpec := { name := "enterDrain", fn := fun _ => fun
  | [d1, d2] => { results := [.lit (.bool true)], args := [d1, d2] }
  | _ => none }
def enterDrainRow : OpenClaim := { program := "ytclgdnpndlognaagreat", sum := "0c387f6f29fba373ee1e66a067d0a9157ba8d7d2b5df4c2517f1a932ba2a715b", func := "ringkern/ringkernlaw26.EnterDrain", spec := "enterDrain", inPlace := ["slices.overlaps[ringkern/timer.one]"], unfollowed := true, recurses := true, plainKeys := false, apart := false }
def EnterDrainSaid : Prop := enterDrainRow.holds Tryz.pinned (OpenSpec.ofChange enterDrainSpec)

/-- ITS FALSE NEIGHBOUR: 'it returns false'. Refute it at one input. -/
def enterDrainWrong : ChangeSpec := { name := "enterDrain", fn := fun _ => fun
  | [d1, d2] => { results := [.lit (.bool false)], args := [d1, d2] }
  | _ => none }
def EnterDrainWrongFalsely : Prop := enterDrainRow.holds Tryz.pinned (OpenSpec.ofChange enterDrainWrong)

/-- 'ringkernlaw26.EnterTimes': WHATEVER THE INPUT: true; the input reads as it did. -/
def enterTimesSpec : ChangeSpec := { name := "enterTimes", fn := fun _ => fun
  | [d1, d2] => { results := [.lit (.bool true)], args := [d1, d2] }
  | _ => none }
def enterTimesRow : OpenClaim := { program := "ytclgdnpndlognaagreat", sum := "0c387f6f29fba373ee1e66a067d0a9157ba8d7d2b5df4c2517f1a932ba2a715b", func := "ringkern/ringkernlaw26.EnterTimes", spec := "enterTimes", inPlace := ["slices.overlaps[ringkern/timer.one]"], unfollowed := true, recurses := true, plainKeys := false, apart := false }
def EnterTimesSaid : Prop := enterTimesRow.holds Tryz.pinned (OpenSpec.ofChange enterTimesSpec)

/-- ITS FALSE NEIGHBOUR: 'it returns false'. Refute it at one input. -/
def enterTimesWrong : ChangeSpec := { name := "enterTimes", fn := fun _ => fun
  | [d1, d2] => { results := [.lit (.bool false)], args := [d1, d2] }
  | _ => none }
def EnterTimesWrongFalsely : Prop := enterTimesRow.holds Tryz.pinned (OpenSpec.ofChange enterTimesWrong)

/- THE SECOND FORM. 'bulk': how many values and letters a reading holds, each counted each time it is reached (what is shared counts as often as it is met; a slice's spare places count too). A statement '..UptoSaid' is the law's where the arguments, and the package variables that the reading takes, are together of bulk at most 1048576: NARROWER than '..Said'. Prove '..Said' where nothing that the law and all that it calls make is longer than what came in: it says more and counts as full. Else prove '..UptoSaid'. A law counts once. -/
mutual
def uptoBulk {H : Type} : DataW H → Nat
  | .lit (.string bytes) => bytes.length + 1
  | .lit _ => 1
  | .nil => 1
  | .ptr d => uptoBulk d + 1
  | .slice elems spare => uptoBulkAll elems + uptoBulkAll spare + 1
  | .agg parts => uptoBulkAll parts + 1
  | .iface _ d => uptoBulk d + 1
  | .map entries => uptoBulkEntries entries + 1
  | .held _ => 1
def uptoBulkAll {H : Type} : List (DataW H) → Nat
  | [] => 0
  | d :: r => uptoBulk d + uptoBulkAll r
def uptoBulkEntries {H : Type} : List (Lit × DataW H) → Nat
  | [] => 0
  | x :: r => uptoBulkEntry x + uptoBulkEntries r
def uptoBulkEntry {H : Type} : Lit × DataW H → Nat
  | (.string bytes, d) => bytes.length + uptoBulk d + 1
  | (_, d) => uptoBulk d + 1
 end
def uptoSmall : (H : Type) → List (DataW H) → Bool := fun _ ds => decide (uptoBulkAll ds ≤ 1048576)
def OpenSpec.upto (s : _root_.Go.ChangeSpec) : _root_.Go.OpenSpec := { _root_.Go.OpenSpec.ofChange s with cond := some uptoSmall }

/-- 'ringkernlaw25.ActMeets', WHERE WHAT IT READS IS OF BULK AT MOST 1048576: true; the input reads as it did. -/
def actMeetsUptoRow : OpenClaim := { program := "ytclgdnpndlognaagreat", sum := "0c387f6f29fba373ee1e66a067d0a9157ba8d7d2b5df4c2517f1a932ba2a715b", func := "ringkern/ringkernlaw25.ActMeets", spec := "actMeets", unfollowed := true, recurses := true, plainKeys := false, apart := false, narrowed := true }
def ActMeetsUptoSaid : Prop := actMeetsUptoRow.holds Tryz.pinned (OpenSpec.upto actMeetsSpec)

/-- 'ringkernlaw25.ActSignals', WHERE WHAT IT READS IS OF BULK AT MOST 1048576: true; the input reads as it did. -/
def actSignalsUptoRow : OpenClaim := { program := "ytclgdnpndlognaagreat", sum := "0c387f6f29fba373ee1e66a067d0a9157ba8d7d2b5df4c2517f1a932ba2a715b", func := "ringkern/ringkernlaw25.ActSignals", spec := "actSignals", unfollowed := true, recurses := true, plainKeys := false, apart := false, narrowed := true }
def ActSignalsUptoSaid : Prop := actSignalsUptoRow.holds Tryz.pinned (OpenSpec.upto actSignalsSpec)

/-- 'ringkernlaw25.ActErrors', WHERE WHAT IT READS IS OF BULK AT MOST 1048576: true; the input reads as it did. -/
def actErrorsUptoRow : OpenClaim := { program := "ytclgdnpndlognaagreat", sum := "0c387f6f29fba373ee1e66a067d0a9157ba8d7d2b5df4c2517f1a932ba2a715b", func := "ringkern/ringkernlaw25.ActErrors", spec := "actErrors", unfollowed := true, recurses := true, plainKeys := false, apart := false, narrowed := true }
def ActErrorsUptoSaid : Prop := actErrorsUptoRow.holds Tryz.pinned (OpenSpec.upto actErrorsSpec)

/-- 'ringkernlaw26.EnterMixed', WHERE WHAT IT READS IS OF BULK AT MOST 1048576: true; the input reads as it did. -/
def enterMixedUptoRow : OpenClaim := { program := "ytclgdnpndlognaagreat", sum := "0c387f6f29fba373ee1e66a067d0a9157ba8d7d2b5df4c2517f1a932ba2a715b", func := "ringkern/ringkernlaw26.EnterMixed", spec := "enterMixed", inPlace := ["slices.overlaps[ringkern/timer.one]"], unfollowed := true, recurses := true, plainKeys := false, apart := false, narrowed := true }
def EnterMixedUptoSaid : Prop := enterMixedUptoRow.holds Tryz.pinned (OpenSpec.upto enterMixedSpec)

/-- 'ringkernlaw26.EnterBusy', WHERE WHAT IT READS IS OF BULK AT MOST 1048576: true; the input reads as it did. -/
def enterBusyUptoRow : OpenClaim := { program := "ytclgdnpndlognaagreat", sum := "0c387f6f29fba373ee1e66a067d0a9157ba8d7d2b5df4c2517f1a932ba2a715b", func := "ringkern/ringkernlaw26.EnterBusy", spec := "enterBusy", inPlace := ["slices.overlaps[ringkern/timer.one]"], unfollowed := true, recurses := true, plainKeys := false, apart := false, narrowed := true }
def EnterBusyUptoSaid : Prop := enterBusyUptoRow.holds Tryz.pinned (OpenSpec.upto enterBusySpec)

/-- 'ringkernlaw26.EnterChains', WHERE WHAT IT READS IS OF BULK AT MOST 1048576: true; the input reads as it did. -/
def enterChainsUptoRow : OpenClaim := { program := "ytclgdnpndlognaagreat", sum := "0c387f6f29fba373ee1e66a067d0a9157ba8d7d2b5df4c2517f1a932ba2a715b", func := "ringkern/ringkernlaw26.EnterChains", spec := "enterChains", inPlace := ["slices.overlaps[ringkern/timer.one]"], unfollowed := true, recurses := true, plainKeys := false, apart := false, narrowed := true }
def EnterChainsUptoSaid : Prop := enterChainsUptoRow.holds Tryz.pinned (OpenSpec.upto enterChainsSpec)

/-- 'ringkernlaw26.EnterBudget', WHERE WHAT IT READS IS OF BULK AT MOST 1048576: true; the input reads as it did. -/
def enterBudgetUptoRow : OpenClaim := { program := "ytclgdnpndlognaagreat", sum := "0c387f6f29fba373ee1e66a067d0a9157ba8d7d2b5df4c2517f1a932ba2a715b", func := "ringkern/ringkernlaw26.EnterBudget", spec := "enterBudget", inPlace := ["slices.overlaps[ringkern/timer.one]"], unfollowed := true, recurses := true, plainKeys := false, apart := false, narrowed := true }
def EnterBudgetUptoSaid : Prop := enterBudgetUptoRow.holds Tryz.pinned (OpenSpec.upto enterBudgetSpec)

/-- 'ringkernlaw26.EnterRefuses', WHERE WHAT IT READS IS OF BULK AT MOST 1048576: true; the input reads as it did. -/
def enterRefusesUptoRow : OpenClaim := { program := "ytclgdnpndlognaagreat", sum := "0c387f6f29fba373ee1e66a067d0a9157ba8d7d2b5df4c2517f1a932ba2a715b", func := "ringkern/ringkernlaw26.EnterRefuses", spec := "enterRefuses", inPlace := ["slices.overlaps[ringkern/timer.one]"], unfollowed := true, recurses := true, plainKeys := false, apart := false, narrowed := true }
def EnterRefusesUptoSaid : Prop := enterRefusesUptoRow.holds Tryz.pinned (OpenSpec.upto enterRefusesSpec)

/-- 'ringkernlaw26.EnterLeaves', WHERE WHAT IT READS IS OF BULK AT MOST 1048576: true; the input reads as it did. -/
def enterLeavesUptoRow : OpenClaim := { program := "ytclgdnpndlognaagreat", sum := "0c387f6f29fba373ee1e66a067d0a9157ba8d7d2b5df4c2517f1a932ba2a715b", func := "ringkern/ringkernlaw26.EnterLeaves", spec := "enterLeaves", inPlace := ["slices.overlaps[ringkern/timer.one]"], unfollowed := true, recurses := true, plainKeys := false, apart := false, narrowed := true }
def EnterLeavesUptoSaid : Prop := enterLeavesUptoRow.holds Tryz.pinned (OpenSpec.upto enterLeavesSpec)

/-- 'ringkernlaw26.EnterDrain', WHERE WHAT IT READS IS OF BULK AT MOST 1048576: true; the input reads as it did. -/
def enterDrainUptoRow : OpenClaim := { program := "ytclgdnpndlognaagreat", sum := "0c387f6f29fba373ee1e66a067d0a9157ba8d7d2b5df4c2517f1a932ba2a715b", func := "ringkern/ringkernlaw26.EnterDrain", spec := "enterDrain", inPlace := ["slices.overlaps[ringkern/timer.one]"], unfollowed := true, recurses := true, plainKeys := false, apart := false, narrowed := true }
def EnterDrainUptoSaid : Prop := enterDrainUptoRow.holds Tryz.pinned (OpenSpec.upto enterDrainSpec)

/-- 'ringkernlaw26.EnterTimes', WHERE WHAT IT READS IS OF BULK AT MOST 1048576: true; the input reads as it did. -/
def enterTimesUptoRow : OpenClaim := { program := "ytclgdnpndlognaagreat", sum := "0c387f6f29fba373ee1e66a067d0a9157ba8d7d2b5df4c2517f1a932ba2a715b", func := "ringkern/ringkernlaw26.EnterTimes", spec := "enterTimes", inPlace := ["slices.overlaps[ringkern/timer.one]"], unfollowed := true, recurses := true, plainKeys := false, apart := false, narrowed := true }
def EnterTimesUptoSaid : Prop := enterTimesUptoRow.holds Tryz.pinned (OpenSpec.upto enterTimesSpec)

end Rows
end Go.Proofs.YtclgdnpndlognaaGreat
