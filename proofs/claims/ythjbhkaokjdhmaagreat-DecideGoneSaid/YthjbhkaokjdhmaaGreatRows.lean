/-
  No cell of these rows narrows 'for every input' (looked for: loops, veiled, ifaces, maps, wideKeys, modest, calm, conditions, laid).
  DERIVED. THE GIVEN ROWS OF THIS SEAT. 4 by the template 'for every input the law returns true; each argument reads behind the call as it read before'; 0 by the template 'total and deterministic' (their statements: YthjbhkaokjdhmaaGreatTotals.lean).
  GIVEN WITH THE SEED: the statements are not yours to turn. If you find one false, say at which input.
  Laid BY PROGRAM, IN A SANDBOX (cutbox-rows.mjs): the forced cells as the released guide's own fill.sh prints them over the translation 39aa1688f1e57975… (all of the seat's roots in one cut). By AI agents, Wed Nov 11 2026. No macro, syntax, notation, axiom, sorry.
-/
import Derived.Test.YthjbhkaokjdhmaaGreatChecked
import GoSem.Claim
import GoSem.ClaimJoined
import GoSem.ClaimMapViews
import Derived.JoinedTies
import Derived.KernelRfl
namespace Go.Proofs.YthjbhkaokjdhmaaGreat
/- THE CELL 'sum', in the pinned program and in every row, IS THE sha256 OF THE DUMP (.gsa) THAT YthjbhkaokjdhmaaGreatProg.lean LOADS. Nothing in Lean hashes anything: it is a label: what it is worth is what the hold of that sum in a sandbox is worth. -/
noncomputable def Tryz.pinned : Pinned := { name := "ythjbhkaokjdhmaagreat", sum := "39aa1688f1e579753d3d1c0a42e5ffe6040134e584fb05f7b6b7092098ca389d", checked := Tryz.checked }
namespace Rows
def none {H : Type} : Left H := { results := [], args := [] }

/-- 'ringkernlaw24.DecideChain': WHATEVER THE INPUT: true; the input reads as it did. -/
def decideChainSpec : ChangeSpec := { name := "decideChain", fn := fun _ => fun
  | [d1, d2, d3] => { results := [.lit (.bool true)], args := [d1, d2, d3] }
  | _ => none }
def decideChainRow : OpenClaim := { program := "ythjbhkaokjdhmaagreat", sum := "39aa1688f1e579753d3d1c0a42e5ffe6040134e584fb05f7b6b7092098ca389d", func := "ringkern/ringkernlaw24.DecideChain", spec := "decideChain", unfollowed := true, recurses := true, plainKeys := false, apart := false }
def DecideChainSaid : Prop := decideChainRow.holds Tryz.pinned (OpenSpec.ofChange decideChainSpec)

/-- ITS FALSE NEIGHBOUR: 'it returns false'. Refute it at one input. -/
def decideChainWrong : ChangeSpec := { name := "decideChain", fn := fun _ => fun
  | [d1, d2, d3] => { results := [.lit (.bool false)], args := [d1, d2, d3] }
  | _ => none }
def DecideChainWrongFalsely : Prop := decideChainRow.holds Tryz.pinned (OpenSpec.ofChange decideChainWrong)

/-- 'ringkernlaw24.DecideBell': WHATEVER THE INPUT: true; the input reads as it did. -/
def decideBellSpec : ChangeSpec := { name := "decideBell", fn := fun _ => fun
  | [d1, d2] => { results := [.lit (.bool true)], args := [d1, d2] }
  | _ => none }
def decideBellRow : OpenClaim := { program := "ythjbhkaokjdhmaagreat", sum := "39aa1688f1e579753d3d1c0a42e5ffe6040134e584fb05f7b6b7092098ca389d", func := "ringkern/ringkernlaw24.DecideBell", spec := "decideBell", unfollowed := true, recurses := true, plainKeys := false, apart := false }
def DecideBellSaid : Prop := decideBellRow.holds Tryz.pinned (OpenSpec.ofChange decideBellSpec)

/-- ITS FALSE NEIGHBOUR: 'it returns false'. Refute it at one input. -/
def decideBellWrong : ChangeSpec := { name := "decideBell", fn := fun _ => fun
  | [d1, d2] => { results := [.lit (.bool false)], args := [d1, d2] }
  | _ => none }
def DecideBellWrongFalsely : Prop := decideBellRow.holds Tryz.pinned (OpenSpec.ofChange decideBellWrong)

/-- 'ringkernlaw24.DecideTear': WHATEVER THE INPUT: true; the input reads as it did. -/
def decideTearSpec : ChangeSpec := { name := "decideTear", fn := fun _ => fun
  | [d1, d2] => { results := [.lit (.bool true)], args := [d1, d2] }
  | _ => none }
def decideTearRow : OpenClaim := { program := "ythjbhkaokjdhmaagreat", sum := "39aa1688f1e579753d3d1c0a42e5ffe6040134e584fb05f7b6b7092098ca389d", func := "ringkern/ringkernlaw24.DecideTear", spec := "decideTear", inPlace := ["slices.overlaps[ringkern/timer.one]"], unfollowed := true, recurses := true, plainKeys := false, apart := false }
def DecideTearSaid : Prop := decideTearRow.holds Tryz.pinned (OpenSpec.ofChange decideTearSpec)

/-- ITS FALSE NEIGHBOUR: 'it returns false'. Refute it at one input. -/
def decideTearWrong : ChangeSpec := { name := "decideTear", fn := fun _ => fun
  | [d1, d2] => { results := [.lit (.bool false)], args := [d1, d2] }
  | _ => none }
def DecideTearWrongFalsely : Prop := decideTearRow.holds Tryz.pinned (OpenSpec.ofChange decideTearWrong)

/-- 'ringkernlaw24.DecideGone': WHATEVER THE INPUT: true; the input reads as it did. -/
def decideGoneSpec : ChangeSpec := { name := "decideGone", fn := fun _ => fun
  | [d1, d2] => { results := [.lit (.bool true)], args := [d1, d2] }
  | _ => none }
def decideGoneRow : OpenClaim := { program := "ythjbhkaokjdhmaagreat", sum := "39aa1688f1e579753d3d1c0a42e5ffe6040134e584fb05f7b6b7092098ca389d", func := "ringkern/ringkernlaw24.DecideGone", spec := "decideGone", unfollowed := true, recurses := true, plainKeys := false, apart := false }
def DecideGoneSaid : Prop := decideGoneRow.holds Tryz.pinned (OpenSpec.ofChange decideGoneSpec)

/-- ITS FALSE NEIGHBOUR: 'it returns false'. Refute it at one input. -/
def decideGoneWrong : ChangeSpec := { name := "decideGone", fn := fun _ => fun
  | [d1, d2] => { results := [.lit (.bool false)], args := [d1, d2] }
  | _ => none }
def DecideGoneWrongFalsely : Prop := decideGoneRow.holds Tryz.pinned (OpenSpec.ofChange decideGoneWrong)

/- THE SECOND FORM. 'bulk': how many values and letters a reading holds, each counted each time it is reached (what is shared counts as often as it is met; a slice's spare places count too). A statement '..UptoSaid' is the law's where the arguments, and the package variables that the reading takes, are together of bulk at most 1048576: NARROWER than '..Said'. Prove '..Said' where nothing that the law and all that it calls make is longer than what came in: it says more and counts as full. Else prove '..UptoSaid'. A law counts once. -/
mutual
def uptoBulk {H : Type} : DataW H → Nat
  | .lit (.string bytes) => bytes.length + 1
  | .lit _ => 1
  | .nil => 1
  | .ptr d => uptoBulk d + 1
  | .slice elems spare => uptoBulkAll elems + uptoBulkAll spare + 1
  | .agg parts => uptoBulkAll parts + 1
  | .iface _ d => uptoBulk d + 1
  | .map entries => uptoBulkEntries entries + 1
  | .held _ => 1
def uptoBulkAll {H : Type} : List (DataW H) → Nat
  | [] => 0
  | d :: r => uptoBulk d + uptoBulkAll r
def uptoBulkEntries {H : Type} : List (Lit × DataW H) → Nat
  | [] => 0
  | x :: r => uptoBulkEntry x + uptoBulkEntries r
def uptoBulkEntry {H : Type} : Lit × DataW H → Nat
  | (.string bytes, d) => bytes.length + uptoBulk d + 1
  | (_, d) => uptoBulk d + 1
 end
def uptoSmall : (H : Type) → List (DataW H) → Bool := fun _ ds => decide (uptoBulkAll ds ≤ 1048576)
def OpenSpec.upto (s : _root_.Go.ChangeSpec) : _root_.Go.OpenSpec := { _root_.Go.OpenSpec.ofChange s with cond := some uptoSmall }

/-- 'ringkernlaw24.DecideChain', WHERE WHAT IT READS IS OF BULK AT MOST 1048576: true; the input reads as it did. -/
def decideChainUptoRow : OpenClaim := { program := "ythjbhkaokjdhmaagreat", sum := "39aa1688f1e579753d3d1c0a42e5ffe6040134e584fb05f7b6b7092098ca389d", func := "ringkern/ringkernlaw24.DecideChain", spec := "decideChain", unfollowed := true, recurses := true, plainKeys := false, apart := false, narrowed := true }
def DecideChainUptoSaid : Prop := decideChainUptoRow.holds Tryz.pinned (OpenSpec.upto decideChainSpec)

/-- 'ringkernlaw24.DecideBell', WHERE WHAT IT READS IS OF BULK AT MOST 1048576: true; the input reads as it did. -/
def decideBellUptoRow : OpenClaim := { program := "ythjbhkaokjdhmaagreat", sum := "39aa1688f1e579753d3d1c0a42e5ffe6040134e584fb05f7b6b7092098ca389d", func := "ringkern/ringkernlaw24.DecideBell", spec := "decideBell", unfollowed := true, recurses := true, plainKeys := false, apart := false, narrowed := true }
def DecideBellUptoSaid : Prop := decideBellUptoRow.holds Tryz.pinned (OpenSpec.upto decideBellSpec)

/-- 'ringkernlaw24.DecideTear', WHERE WHAT IT READS IS OF BULK AT MOST 1048576: true; the input reads as it did. -/
def decideTearUptoRow : OpenClaim := { program := "ythjbhkaokjdhmaagreat", sum := "39aa1688f1e579753d3d1c0a42e5ffe6040134e584fb05f7b6b7092098ca389d", func := "ringkern/ringkernlaw24.DecideTear", spec := "decideTear", inPlace := ["slices.overlaps[ringkern/timer.one]"], unfollowed := true, recurses := true, plainKeys := false, apart := false, narrowed := true }
def DecideTearUptoSaid : Prop := decideTearUptoRow.holds Tryz.pinned (OpenSpec.upto decideTearSpec)

/-- 'ringkernlaw24.DecideGone', WHERE WHAT IT READS IS OF BULK AT MOST 1048576: true; the input reads as it did. -/
def decideGoneUptoRow : OpenClaim := { program := "ythjbhkaokjdhmaagreat", sum := "39aa1688f1e579753d3d1c0a42e5ffe6040134e584fb05f7b6b7092098ca389d", func := "ringkern/ringkernlaw24.DecideGone", spec := "decideGone", unfollowed := true, recurses := true, plainKeys := false, apart := false, narrowed := true }
def DecideGoneUptoSaid : Prop := decideGoneUptoRow.holds Tryz.pinned (OpenSpec.upto decideGoneSpec)

end Rows
end Go.Proofs.YthjbhkaokjdhmaaGreat
