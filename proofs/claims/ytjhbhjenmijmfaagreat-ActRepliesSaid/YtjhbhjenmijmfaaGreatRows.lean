/-
  No cell of these rows narrows 'for every input' (looked for: loops, veiled, ifaces, maps, wideKeys, modest, calm, conditions, laid).
  DERIVED. THE GIVEN ROWS OF THIS SEAT. 9 by the template 'for every input the law returns true; each argument reads behind the call as it read before'; 0 by the template 'total and deterministic' (their statements: YtjhbhjenmijmfaaGreatTotals.lean).
  GIVEN WITH THE SEED: the statements are not yours to turn. If you find one false, say at which input.
  Laid BY PROGRAM, IN A SANDBOX (cutbox-rows.mjs): the forced cells as the released guide's own fill.sh prints them over the translation 838318b9335c0375… (all of the seat's roots in one cut). By AI agents, Wed Nov 11 2026. No macro, syntax, notation, axiom, sorry.
-/
import Derived.Test.YtjhbhjenmijmfaaGreatChecked
import GoSem.Claim
import GoSem.ClaimJoined
import GoSem.ClaimMapViews
import Derived.JoinedTies
import Derived.KernelRfl
namespace Go.Proofs.YtjhbhjenmijmfaaGreat
/- THE CELL 'sum', in the pinned program and in every row, IS THE sha256 OF THE DUMP (.gsa) THAT YtjhbhjenmijmfaaGreatProg.lean LOADS. Nothing in Lean hashes anything: it is a label: what it is worth is what the hold of that sum in a sandbox is worth. -/
noncomputable def Tryz.pinned : Pinned := { name := "ytjhbhjenmijmfaagreat", sum := "838318b9335c037546e32aeea2a2c76d7089e76dd7466da08842aab069a32d5f", checked := Tryz.checked }
namespace Rows
def none {H : Type} : Left H := { results := [], args := [] }

/-- 'ringkernlaw25.ActReplies': WHATEVER THE INPUT: true; the input reads as it did. -/
def actRepliesSpec : ChangeSpec := { name := "actReplies", fn := fun _ => fun
  | [d1, d2, d3] => { results := [.lit (.bool true)], args := [d1, d2, d3] }
  | _ => none }
def actRepliesRow : OpenClaim := { program := "ytjhbhjenmijmfaagreat", sum := "838318b9335c037546e32aeea2a2c76d7089e76dd7466da08842aab069a32d5f", func := "ringkern/ringkernlaw25.ActReplies", spec := "actReplies", unfollowed := true, recurses := true, plainKeys := false, apart := false }
def ActRepliesSaid : Prop := actRepliesRow.holds Tryz.pinned (OpenSpec.ofChange actRepliesSpec)

/-- ITS FALSE NEIGHBOUR: 'it returns false'. Refute it at one input. -/
def actRepliesWrong : ChangeSpec := { name := "actReplies", fn := fun _ => fun
  | [d1, d2, d3] => { results := [.lit (.bool false)], args := [d1, d2, d3] }
  | _ => none }
def ActRepliesWrongFalsely : Prop := actRepliesRow.holds Tryz.pinned (OpenSpec.ofChange actRepliesWrong)

/-- 'ringkernlaw25.ActMeets': WHATEVER THE INPUT: true; the input reads as it did. -/
def actMeetsSpec : ChangeSpec := { name := "actMeets", fn := fun _ => fun
  | [d1, d2, d3, d4] => { results := [.lit (.bool true)], args := [d1, d2, d3, d4] }
  | _ => none }
def actMeetsRow : OpenClaim := { program := "ytjhbhjenmijmfaagreat", sum := "838318b9335c037546e32aeea2a2c76d7089e76dd7466da08842aab069a32d5f", func := "ringkern/ringkernlaw25.ActMeets", spec := "actMeets", unfollowed := true, recurses := true, plainKeys := false, apart := false }
def ActMeetsSaid : Prop := actMeetsRow.holds Tryz.pinned (OpenSpec.ofChange actMeetsSpec)

/-- ITS FALSE NEIGHBOUR: 'it returns false'. Refute it at one input. -/
def actMeetsWrong : ChangeSpec := { name := "actMeets", fn := fun _ => fun
  | [d1, d2, d3, d4] => { results := [.lit (.bool false)], args := [d1, d2, d3, d4] }
  | _ => none }
def ActMeetsWrongFalsely : Prop := actMeetsRow.holds Tryz.pinned (OpenSpec.ofChange actMeetsWrong)

/-- 'ringkernlaw25.ActCancels': WHATEVER THE INPUT: true; the input reads as it did. -/
def actCancelsSpec : ChangeSpec := { name := "actCancels", fn := fun _ => fun
  | [d1, d2] => { results := [.lit (.bool true)], args := [d1, d2] }
  | _ => none }
def actCancelsRow : OpenClaim := { program := "ytjhbhjenmijmfaagreat", sum := "838318b9335c037546e32aeea2a2c76d7089e76dd7466da08842aab069a32d5f", func := "ringkern/ringkernlaw25.ActCancels", spec := "actCancels", unfollowed := true, recurses := true, plainKeys := false, apart := false }
def ActCancelsSaid : Prop := actCancelsRow.holds Tryz.pinned (OpenSpec.ofChange actCancelsSpec)

/-- ITS FALSE NEIGHBOUR: 'it returns false'. Refute it at one input. -/
def actCancelsWrong : ChangeSpec := { name := "actCancels", fn := fun _ => fun
  | [d1, d2] => { results := [.lit (.bool false)], args := [d1, d2] }
  | _ => none }
def ActCancelsWrongFalsely : Prop := actCancelsRow.holds Tryz.pinned (OpenSpec.ofChange actCancelsWrong)

/-- 'ringkernlaw25.ActSignals': WHATEVER THE INPUT: true; the input reads as it did. -/
def actSignalsSpec : ChangeSpec := { name := "actSignals", fn := fun _ => fun
  | [d1, d2, d3] => { results := [.lit (.bool true)], args := [d1, d2, d3] }
  | _ => none }
def actSignalsRow : OpenClaim := { program := "ytjhbhjenmijmfaagreat", sum := "838318b9335c037546e32aeea2a2c76d7089e76dd7466da08842aab069a32d5f", func := "ringkern/ringkernlaw25.ActSignals", spec := "actSignals", unfollowed := true, recurses := true, plainKeys := false, apart := false }
def ActSignalsSaid : Prop := actSignalsRow.holds Tryz.pinned (OpenSpec.ofChange actSignalsSpec)

/-- ITS FALSE NEIGHBOUR: 'it returns false'. Refute it at one input. -/
def actSignalsWrong : ChangeSpec := { name := "actSignals", fn := fun _ => fun
  | [d1, d2, d3] => { results := [.lit (.bool false)], args := [d1, d2, d3] }
  | _ => none }
def ActSignalsWrongFalsely : Prop := actSignalsRow.holds Tryz.pinned (OpenSpec.ofChange actSignalsWrong)

/-- 'ringkernlaw25.ActThreads': WHATEVER THE INPUT: true; the input reads as it did. -/
def actThreadsSpec : ChangeSpec := { name := "actThreads", fn := fun _ => fun
  | [d1, d2] => { results := [.lit (.bool true)], args := [d1, d2] }
  | _ => none }
def actThreadsRow : OpenClaim := { program := "ytjhbhjenmijmfaagreat", sum := "838318b9335c037546e32aeea2a2c76d7089e76dd7466da08842aab069a32d5f", func := "ringkern/ringkernlaw25.ActThreads", spec := "actThreads", unfollowed := true, recurses := true, plainKeys := false, apart := false }
def ActThreadsSaid : Prop := actThreadsRow.holds Tryz.pinned (OpenSpec.ofChange actThreadsSpec)

/-- ITS FALSE NEIGHBOUR: 'it returns false'. Refute it at one input. -/
def actThreadsWrong : ChangeSpec := { name := "actThreads", fn := fun _ => fun
  | [d1, d2] => { results := [.lit (.bool false)], args := [d1, d2] }
  | _ => none }
def ActThreadsWrongFalsely : Prop := actThreadsRow.holds Tryz.pinned (OpenSpec.ofChange actThreadsWrong)

/-- 'ringkernlaw25.ActMakes': WHATEVER THE INPUT: true; the input reads as it did. -/
def actMakesSpec : ChangeSpec := { name := "actMakes", fn := fun _ => fun
  | [d1, d2, d3] => { results := [.lit (.bool true)], args := [d1, d2, d3] }
  | _ => none }
def actMakesRow : OpenClaim := { program := "ytjhbhjenmijmfaagreat", sum := "838318b9335c037546e32aeea2a2c76d7089e76dd7466da08842aab069a32d5f", func := "ringkern/ringkernlaw25.ActMakes", spec := "actMakes", unfollowed := true, recurses := true, plainKeys := false, apart := false }
def ActMakesSaid : Prop := actMakesRow.holds Tryz.pinned (OpenSpec.ofChange actMakesSpec)

/-- ITS FALSE NEIGHBOUR: 'it returns false'. Refute it at one input. -/
def actMakesWrong : ChangeSpec := { name := "actMakes", fn := fun _ => fun
  | [d1, d2, d3] => { results := [.lit (.bool false)], args := [d1, d2, d3] }
  | _ => none }
def ActMakesWrongFalsely : Prop := actMakesRow.holds Tryz.pinned (OpenSpec.ofChange actMakesWrong)

/-- 'ringkernlaw25.ActPages': WHATEVER THE INPUT: true; the input reads as it did. -/
def actPagesSpec : ChangeSpec := { name := "actPages", fn := fun _ => fun
  | [d1, d2, d3] => { results := [.lit (.bool true)], args := [d1, d2, d3] }
  | _ => none }
def actPagesRow : OpenClaim := { program := "ytjhbhjenmijmfaagreat", sum := "838318b9335c037546e32aeea2a2c76d7089e76dd7466da08842aab069a32d5f", func := "ringkern/ringkernlaw25.ActPages", spec := "actPages", unfollowed := true, recurses := true, plainKeys := false, apart := false }
def ActPagesSaid : Prop := actPagesRow.holds Tryz.pinned (OpenSpec.ofChange actPagesSpec)

/-- ITS FALSE NEIGHBOUR: 'it returns false'. Refute it at one input. -/
def actPagesWrong : ChangeSpec := { name := "actPages", fn := fun _ => fun
  | [d1, d2, d3] => { results := [.lit (.bool false)], args := [d1, d2, d3] }
  | _ => none }
def ActPagesWrongFalsely : Prop := actPagesRow.holds Tryz.pinned (OpenSpec.ofChange actPagesWrong)

/-- 'ringkernlaw25.ActRights': WHATEVER THE INPUT: true; the input reads as it did. -/
def actRightsSpec : ChangeSpec := { name := "actRights", fn := fun _ => fun
  | [d1, d2] => { results := [.lit (.bool true)], args := [d1, d2] }
  | _ => none }
def actRightsRow : OpenClaim := { program := "ytjhbhjenmijmfaagreat", sum := "838318b9335c037546e32aeea2a2c76d7089e76dd7466da08842aab069a32d5f", func := "ringkern/ringkernlaw25.ActRights", spec := "actRights", unfollowed := true, recurses := true, plainKeys := false, apart := false }
def ActRightsSaid : Prop := actRightsRow.holds Tryz.pinned (OpenSpec.ofChange actRightsSpec)

/-- ITS FALSE NEIGHBOUR: 'it returns false'. Refute it at one input. -/
def actRightsWrong : ChangeSpec := { name := "actRights", fn := fun _ => fun
  | [d1, d2] => { results := [.lit (.bool false)], args := [d1, d2] }
  | _ => none }
def ActRightsWrongFalsely : Prop := actRightsRow.holds Tryz.pinned (OpenSpec.ofChange actRightsWrong)

/-- 'ringkernlaw25.ActErrors': WHATEVER THE INPUT: true; the input reads as it did. -/
def actErrorsSpec : ChangeSpec := { name := "actErrors", fn := fun _ => fun
  | [d] => { results := [.lit (.bool true)], args := [d] }
  | _ => none }
def actErrorsRow : OpenClaim := { program := "ytjhbhjenmijmfaagreat", sum := "838318b9335c037546e32aeea2a2c76d7089e76dd7466da08842aab069a32d5f", func := "ringkern/ringkernlaw25.ActErrors", spec := "actErrors", unfollowed := true, recurses := true, plainKeys := false, apart := false }
def ActErrorsSaid : Prop := actErrorsRow.holds Tryz.pinned (OpenSpec.ofChange actErrorsSpec)

/-- ITS FALSE NEIGHBOUR: 'it returns false'. Refute it at one input. -/
def actErrorsWrong : ChangeSpec := { name := "actErrors", fn := fun _ => fun
  | [d] => { results := [.lit (.bool false)], args := [d] }
  | _ => none }
def ActErrorsWrongFalsely : Prop := actErrorsRow.holds Tryz.pinned (OpenSpec.ofChange actErrorsWrong)

/- THE SECOND FORM. 'bulk': how many values and letters a reading holds, each counted each time it is reached (what is shared counts as often as it is met; a slice's spare places count too). A statement '..UptoSaid' is the law's where the arguments, and the package variables that the reading takes, are together of bulk at most 1048576: NARROWER than '..Said'. Prove '..Said' where nothing that the law and all that it calls make is longer than what came in: it says more and counts as full. Else prove '..UptoSaid'. A law counts once. -/
mutual
def uptoBulk {H : Type} : DataW H → Nat
  | .lit (.string bytes) => bytes.length + 1
  | .lit _ => 1
  | .nil => 1
  | .ptr d => uptoBulk d + 1
  | .slice elems spare => uptoBulkAll elems + uptoBulkAll spare + 1
  | .agg parts => uptoBulkAll parts + 1
  | .iface _ d => uptoBulk d + 1
  | .map entries => uptoBulkEntries entries + 1
  | .held _ => 1
def uptoBulkAll {H : Type} : List (DataW H) → Nat
  | [] => 0
  | d :: r => uptoBulk d + uptoBulkAll r
def uptoBulkEntries {H : Type} : List (Lit × DataW H) → Nat
  | [] => 0
  | x :: r => uptoBulkEntry x + uptoBulkEntries r
def uptoBulkEntry {H : Type} : Lit × DataW H → Nat
  | (.string bytes, d) => bytes.length + uptoBulk d + 1
  | (_, d) => uptoBulk d + 1
 end
def uptoSmall : (H : Type) → List (DataW H) → Bool := fun _ ds => decide (uptoBulkAll ds ≤ 1048576)
def OpenSpec.upto (s : _root_.Go.ChangeSpec) : _root_.Go.OpenSpec := { _root_.Go.OpenSpec.ofChange s with cond := some uptoSmall }

/-- 'ringkernlaw25.ActReplies', WHERE WHAT IT READS IS OF BULK AT MOST 1048576: true; the input reads as it did. -/
def actRepliesUptoRow : OpenClaim := { program := "ytjhbhjenmijmfaagreat", sum := "838318b9335c037546e32aeea2a2c76d7089e76dd7466da08842aab069a32d5f", func := "ringkern/ringkernlaw25.ActReplies", spec := "actReplies", unfollowed := true, recurses := true, plainKeys := false, apart := false, narrowed := true }
def ActRepliesUptoSaid : Prop := actRepliesUptoRow.holds Tryz.pinned (OpenSpec.upto actRepliesSpec)

/-- 'ringkernlaw25.ActMeets', WHERE WHAT IT READS IS OF BULK AT MOST 1048576: true; the input reads as it did. -/
def actMeetsUptoRow : OpenClaim := { program := "ytjhbhjenmijmfaagreat", sum := "838318b9335c037546e32aeea2a2c76d7089e76dd7466da08842aab069a32d5f", func := "ringkern/ringkernlaw25.ActMeets", spec := "actMeets", unfollowed := true, recurses := true, plainKeys := false, apart := false, narrowed := true }
def ActMeetsUptoSaid : Prop := actMeetsUptoRow.holds Tryz.pinned (OpenSpec.upto actMeetsSpec)

/-- 'ringkernlaw25.ActCancels', WHERE WHAT IT READS IS OF BULK AT MOST 1048576: true; the input reads as it did. -/
def actCancelsUptoRow : OpenClaim := { program := "ytjhbhjenmijmfaagreat", sum := "838318b9335c037546e32aeea2a2c76d7089e76dd7466da08842aab069a32d5f", func := "ringkern/ringkernlaw25.ActCancels", spec := "actCancels", unfollowed := true, recurses := true, plainKeys := false, apart := false, narrowed := true }
def ActCancelsUptoSaid : Prop := actCancelsUptoRow.holds Tryz.pinned (OpenSpec.upto actCancelsSpec)

/-- 'ringkernlaw25.ActSignals', WHERE WHAT IT READS IS OF BULK AT MOST 1048576: true; the input reads as it did. -/
def actSignalsUptoRow : OpenClaim := { program := "ytjhbhjenmijmfaagreat", sum := "838318b9335c037546e32aeea2a2c76d7089e76dd7466da08842aab069a32d5f", func := "ringkern/ringkernlaw25.ActSignals", spec := "actSignals", unfollowed := true, recurses := true, plainKeys := false, apart := false, narrowed := true }
def ActSignalsUptoSaid : Prop := actSignalsUptoRow.holds Tryz.pinned (OpenSpec.upto actSignalsSpec)

/-- 'ringkernlaw25.ActThreads', WHERE WHAT IT READS IS OF BULK AT MOST 1048576: true; the input reads as it did. -/
def actThreadsUptoRow : OpenClaim := { program := "ytjhbhjenmijmfaagreat", sum := "838318b9335c037546e32aeea2a2c76d7089e76dd7466da08842aab069a32d5f", func := "ringkern/ringkernlaw25.ActThreads", spec := "actThreads", unfollowed := true, recurses := true, plainKeys := false, apart := false, narrowed := true }
def ActThreadsUptoSaid : Prop := actThreadsUptoRow.holds Tryz.pinned (OpenSpec.upto actThreadsSpec)

/-- 'ringkernlaw25.ActMakes', WHERE WHAT IT READS IS OF BULK AT MOST 1048576: true; the input reads as it did. -/
def actMakesUptoRow : OpenClaim := { program := "ytjhbhjenmijmfaagreat", sum := "838318b9335c037546e32aeea2a2c76d7089e76dd7466da08842aab069a32d5f", func := "ringkern/ringkernlaw25.ActMakes", spec := "actMakes", unfollowed := true, recurses := true, plainKeys := false, apart := false, narrowed := true }
def ActMakesUptoSaid : Prop := actMakesUptoRow.holds Tryz.pinned (OpenSpec.upto actMakesSpec)

/-- 'ringkernlaw25.ActPages', WHERE WHAT IT READS IS OF BULK AT MOST 1048576: true; the input reads as it did. -/
def actPagesUptoRow : OpenClaim := { program := "ytjhbhjenmijmfaagreat", sum := "838318b9335c037546e32aeea2a2c76d7089e76dd7466da08842aab069a32d5f", func := "ringkern/ringkernlaw25.ActPages", spec := "actPages", unfollowed := true, recurses := true, plainKeys := false, apart := false, narrowed := true }
def ActPagesUptoSaid : Prop := actPagesUptoRow.holds Tryz.pinned (OpenSpec.upto actPagesSpec)

/-- 'ringkernlaw25.ActRights', WHERE WHAT IT READS IS OF BULK AT MOST 1048576: true; the input reads as it did. -/
def actRightsUptoRow : OpenClaim := { program := "ytjhbhjenmijmfaagreat", sum := "838318b9335c037546e32aeea2a2c76d7089e76dd7466da08842aab069a32d5f", func := "ringkern/ringkernlaw25.ActRights", spec := "actRights", unfollowed := true, recurses := true, plainKeys := false, apart := false, narrowed := true }
def ActRightsUptoSaid : Prop := actRightsUptoRow.holds Tryz.pinned (OpenSpec.upto actRightsSpec)

/-- 'ringkernlaw25.ActErrors', WHERE WHAT IT READS IS OF BULK AT MOST 1048576: true; the input reads as it did. -/
def actErrorsUptoRow : OpenClaim := { program := "ytjhbhjenmijmfaagreat", sum := "838318b9335c037546e32aeea2a2c76d7089e76dd7466da08842aab069a32d5f", func := "ringkern/ringkernlaw25.ActErrors", spec := "actErrors", unfollowed := true, recurses := true, plainKeys := false, apart := false, narrowed := true }
def ActErrorsUptoSaid : Prop := actErrorsUptoRow.holds Tryz.pinned (OpenSpec.upto actErrorsSpec)

end Rows
end Go.Proofs.YtjhbhjenmijmfaaGreat
