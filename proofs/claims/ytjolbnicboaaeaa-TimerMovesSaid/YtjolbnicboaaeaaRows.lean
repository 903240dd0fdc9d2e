/-
  No cell of these rows narrows 'for every input' (looked for: loops, veiled, ifaces, maps, wideKeys, modest, calm, conditions, laid).
  DERIVED. THE GIVEN ROWS OF THIS SEAT. 19 by the template 'for every input the law returns true; each argument reads behind the call as it read before'; 0 by the template 'total and deterministic' (their statements: YtjolbnicboaaeaaTotals.lean).
  GIVEN WITH THE SEED: the statements are not yours to turn. If you find one false, say at which input.
  Laid BY PROGRAM, IN A SANDBOX (cutbox-rows.mjs): the forced cells as the released guide's own fill.sh prints them over the translation 80caf16d970473aa… (all of the seat's roots in one cut). By AI agents, Wed Nov 11 2026. No macro, syntax, notation, axiom, sorry.
-/
import Derived.Test.YtjolbnicboaaeaaChecked
import GoSem.Claim
import GoSem.ClaimJoined
import GoSem.ClaimMapViews
import Derived.JoinedTies
import Derived.KernelRfl
namespace Go.Proofs.Ytjolbnicboaaeaa
/- THE CELL 'sum', in the pinned program and in every row, IS THE sha256 OF THE DUMP (.gsa) THAT YtjolbnicboaaeaaProg.lean LOADS. Nothing in Lean hashes anything: it is a label: what it is worth is what the hold of that sum in a sandbox is worth. -/
noncomputable def Try.pinned : Pinned := { name := "ytjolbnicboaaeaa", sum := "80caf16d970473aa23a3486314efa024aea627d8ebade0b604db1a54bbf09e87", checked := Try.checked }
namespace Rows
def none {H : Type} : Left H := { results := [], args := [] }

/-- 'ringkernlaw20.ChainSays': WHATEVER THE INPUT: true; the input reads as it did. -/
def chainSaysSpec : ChangeSpec := { name := "chainSays", fn := fun _ => fun
  | [d1, d2, d3, d4] => { results := [.lit (.bool true)], args := [d1, d2, d3, d4] }
  | _ => none }
def chainSaysRow : OpenClaim := { program := "ytjolbnicboaaeaa", sum := "80caf16d970473aa23a3486314efa024aea627d8ebade0b604db1a54bbf09e87", func := "ringkern/ringkernlaw20.ChainSays", spec := "chainSays", unfollowed := true, recurses := true, plainKeys := false, apart := false }
def ChainSaysSaid : Prop := chainSaysRow.holds Try.pinned (OpenSpec.ofChange chainSaysSpec)

/-- ITS FALSE NEIGHBOUR: 'it returns false'. Refute it at one input. -/
def chainSaysWrong : ChangeSpec := { name := "chainSays", fn := fun _ => fun
  | [d1, d2, d3, d4] => { results := [.lit (.bool false)], args := [d1, d2, d3, d4] }
  | _ => none }
def ChainSaysWrongFalsely : Prop := chainSaysRow.holds Try.pinned (OpenSpec.ofChange chainSaysWrong)

/-- 'ringkernlaw20.ChainAll': WHATEVER THE INPUT: true; the input reads as it did. -/
def chainAllSpec : ChangeSpec := { name := "chainAll", fn := fun _ => fun
  | [d1, d2] => { results := [.lit (.bool true)], args := [d1, d2] }
  | _ => none }
def chainAllRow : OpenClaim := { program := "ytjolbnicboaaeaa", sum := "80caf16d970473aa23a3486314efa024aea627d8ebade0b604db1a54bbf09e87", func := "ringkern/ringkernlaw20.ChainAll", spec := "chainAll", unfollowed := true, recurses := true, plainKeys := false, apart := false }
def ChainAllSaid : Prop := chainAllRow.holds Try.pinned (OpenSpec.ofChange chainAllSpec)

/-- ITS FALSE NEIGHBOUR: 'it returns false'. Refute it at one input. -/
def chainAllWrong : ChangeSpec := { name := "chainAll", fn := fun _ => fun
  | [d1, d2] => { results := [.lit (.bool false)], args := [d1, d2] }
  | _ => none }
def ChainAllWrongFalsely : Prop := chainAllRow.holds Try.pinned (OpenSpec.ofChange chainAllWrong)

/-- 'ringkernlaw14.EpPairs': WHATEVER THE INPUT: true; the input reads as it did. -/
def epPairsSpec : ChangeSpec := { name := "epPairs", fn := fun _ => fun
  | [d] => { results := [.lit (.bool true)], args := [d] }
  | _ => none }
def epPairsRow : OpenClaim := { program := "ytjolbnicboaaeaa", sum := "80caf16d970473aa23a3486314efa024aea627d8ebade0b604db1a54bbf09e87", func := "ringkern/ringkernlaw14.EpPairs", spec := "epPairs", plainKeys := false, apart := false }
def EpPairsSaid : Prop := epPairsRow.holds Try.pinned (OpenSpec.ofChange epPairsSpec)

/-- ITS FALSE NEIGHBOUR: 'it returns false'. Refute it at one input. -/
def epPairsWrong : ChangeSpec := { name := "epPairs", fn := fun _ => fun
  | [d] => { results := [.lit (.bool false)], args := [d] }
  | _ => none }
def EpPairsWrongFalsely : Prop := epPairsRow.holds Try.pinned (OpenSpec.ofChange epPairsWrong)

/-- 'ringkernlaw22.JournalSays': WHATEVER THE INPUT: true; the input reads as it did. -/
def journalSaysSpec : ChangeSpec := { name := "journalSays", fn := fun _ => fun
  | [d1, d2, d3] => { results := [.lit (.bool true)], args := [d1, d2, d3] }
  | _ => none }
def journalSaysRow : OpenClaim := { program := "ytjolbnicboaaeaa", sum := "80caf16d970473aa23a3486314efa024aea627d8ebade0b604db1a54bbf09e87", func := "ringkern/ringkernlaw22.JournalSays", spec := "journalSays", unfollowed := true, recurses := true, plainKeys := false, apart := false }
def JournalSaysSaid : Prop := journalSaysRow.holds Try.pinned (OpenSpec.ofChange journalSaysSpec)

/-- ITS FALSE NEIGHBOUR: 'it returns false'. Refute it at one input. -/
def journalSaysWrong : ChangeSpec := { name := "journalSays", fn := fun _ => fun
  | [d1, d2, d3] => { results := [.lit (.bool false)], args := [d1, d2, d3] }
  | _ => none }
def JournalSaysWrongFalsely : Prop := journalSaysRow.holds Try.pinned (OpenSpec.ofChange journalSaysWrong)

/-- 'ringkernlaw22.JournalParts': WHATEVER THE INPUT: true; the input reads as it did. -/
def journalPartsSpec : ChangeSpec := { name := "journalParts", fn := fun _ => fun
  | [d] => { results := [.lit (.bool true)], args := [d] }
  | _ => none }
def journalPartsRow : OpenClaim := { program := "ytjolbnicboaaeaa", sum := "80caf16d970473aa23a3486314efa024aea627d8ebade0b604db1a54bbf09e87", func := "ringkern/ringkernlaw22.JournalParts", spec := "journalParts", unfollowed := true, recurses := true, plainKeys := false, apart := false }
def JournalPartsSaid : Prop := journalPartsRow.holds Try.pinned (OpenSpec.ofChange journalPartsSpec)

/-- ITS FALSE NEIGHBOUR: 'it returns false'. Refute it at one input. -/
def journalPartsWrong : ChangeSpec := { name := "journalParts", fn := fun _ => fun
  | [d] => { results := [.lit (.bool false)], args := [d] }
  | _ => none }
def JournalPartsWrongFalsely : Prop := journalPartsRow.holds Try.pinned (OpenSpec.ofChange journalPartsWrong)

/-- 'ringkernlaw22.JournalFinds': WHATEVER THE INPUT: true; the input reads as it did. -/
def journalFindsSpec : ChangeSpec := { name := "journalFinds", fn := fun _ => fun
  | [d1, d2] => { results := [.lit (.bool true)], args := [d1, d2] }
  | _ => none }
def journalFindsRow : OpenClaim := { program := "ytjolbnicboaaeaa", sum := "80caf16d970473aa23a3486314efa024aea627d8ebade0b604db1a54bbf09e87", func := "ringkern/ringkernlaw22.JournalFinds", spec := "journalFinds", unfollowed := true, recurses := true, plainKeys := false, apart := false }
def JournalFindsSaid : Prop := journalFindsRow.holds Try.pinned (OpenSpec.ofChange journalFindsSpec)

/-- ITS FALSE NEIGHBOUR: 'it returns false'. Refute it at one input. -/
def journalFindsWrong : ChangeSpec := { name := "journalFinds", fn := fun _ => fun
  | [d1, d2] => { results := [.lit (.bool false)], args := [d1, d2] }
  | _ => none }
def JournalFindsWrongFalsely : Prop := journalFindsRow.holds Try.pinned (OpenSpec.ofChange journalFindsWrong)

/-- 'ringkernlaw12.ListOrder': WHATEVER THE INPUT: true; the input reads as it did. -/
def listOrderSpec : ChangeSpec := { name := "listOrder", fn := fun _ => fun
  | [d1, d2] => { results := [.lit (.bool true)], args := [d1, d2] }
  | _ => none }
def listOrderRow : OpenClaim := { program := "ytjolbnicboaaeaa", sum := "80caf16d970473aa23a3486314efa024aea627d8ebade0b604db1a54bbf09e87", func := "ringkern/ringkernlaw12.ListOrder", spec := "listOrder", unfollowed := true, recurses := true, plainKeys := false, apart := false }
def ListOrderSaid : Prop := listOrderRow.holds Try.pinned (OpenSpec.ofChange listOrderSpec)

/-- ITS FALSE NEIGHBOUR: 'it returns false'. Refute it at one input. -/
def listOrderWrong : ChangeSpec := { name := "listOrder", fn := fun _ => fun
  | [d1, d2] => { results := [.lit (.bool false)], args := [d1, d2] }
  | _ => none }
def ListOrderWrongFalsely : Prop := listOrderRow.holds Try.pinned (OpenSpec.ofChange listOrderWrong)

/-- 'ringkernlaw12.ListPlays': WHATEVER THE INPUT: true; the input reads as it did. -/
def listPlaysSpec : ChangeSpec := { name := "listPlays", fn := fun _ => fun
  | [d] => { results := [.lit (.bool true)], args := [d] }
  | _ => none }
def listPlaysRow : OpenClaim := { program := "ytjolbnicboaaeaa", sum := "80caf16d970473aa23a3486314efa024aea627d8ebade0b604db1a54bbf09e87", func := "ringkern/ringkernlaw12.ListPlays", spec := "listPlays", unfollowed := true, recurses := true, plainKeys := false, apart := false }
def ListPlaysSaid : Prop := listPlaysRow.holds Try.pinned (OpenSpec.ofChange listPlaysSpec)

/-- ITS FALSE NEIGHBOUR: 'it returns false'. Refute it at one input. -/
def listPlaysWrong : ChangeSpec := { name := "listPlays", fn := fun _ => fun
  | [d] => { results := [.lit (.bool false)], args := [d] }
  | _ => none }
def ListPlaysWrongFalsely : Prop := listPlaysRow.holds Try.pinned (OpenSpec.ofChange listPlaysWrong)

/-- 'ringkernlaw12.ListHas': WHATEVER THE INPUT: true; the input reads as it did. -/
def listHasSpec : ChangeSpec := { name := "listHas", fn := fun _ => fun
  | [d] => { results := [.lit (.bool true)], args := [d] }
  | _ => none }
def listHasRow : OpenClaim := { program := "ytjolbnicboaaeaa", sum := "80caf16d970473aa23a3486314efa024aea627d8ebade0b604db1a54bbf09e87", func := "ringkern/ringkernlaw12.ListHas", spec := "listHas", unfollowed := true, recurses := true, plainKeys := false, apart := false }
def ListHasSaid : Prop := listHasRow.holds Try.pinned (OpenSpec.ofChange listHasSpec)

/-- ITS FALSE NEIGHBOUR: 'it returns false'. Refute it at one input. -/
def listHasWrong : ChangeSpec := { name := "listHas", fn := fun _ => fun
  | [d] => { results := [.lit (.bool false)], args := [d] }
  | _ => none }
def ListHasWrongFalsely : Prop := listHasRow.holds Try.pinned (OpenSpec.ofChange listHasWrong)

/-- 'ringkernlaw14.EpPlays': WHATEVER THE INPUT: true; the input reads as it did. -/
def epPlaysSpec : ChangeSpec := { name := "epPlays", fn := fun _ => fun
  | [d] => { results := [.lit (.bool true)], args := [d] }
  | _ => none }
def epPlaysRow : OpenClaim := { program := "ytjolbnicboaaeaa", sum := "80caf16d970473aa23a3486314efa024aea627d8ebade0b604db1a54bbf09e87", func := "ringkern/ringkernlaw14.EpPlays", spec := "epPlays", unfollowed := true, recurses := true, plainKeys := false, apart := false }
def EpPlaysSaid : Prop := epPlaysRow.holds Try.pinned (OpenSpec.ofChange epPlaysSpec)

/-- ITS FALSE NEIGHBOUR: 'it returns false'. Refute it at one input. -/
def epPlaysWrong : ChangeSpec := { name := "epPlays", fn := fun _ => fun
  | [d] => { results := [.lit (.bool false)], args := [d] }
  | _ => none }
def EpPlaysWrongFalsely : Prop := epPlaysRow.holds Try.pinned (OpenSpec.ofChange epPlaysWrong)

/-- 'ringkernlaw14.EpDrops': WHATEVER THE INPUT: true; the input reads as it did. -/
def epDropsSpec : ChangeSpec := { name := "epDrops", fn := fun _ => fun
  | [d1, d2, d3] => { results := [.lit (.bool true)], args := [d1, d2, d3] }
  | _ => none }
def epDropsRow : OpenClaim := { program := "ytjolbnicboaaeaa", sum := "80caf16d970473aa23a3486314efa024aea627d8ebade0b604db1a54bbf09e87", func := "ringkern/ringkernlaw14.EpDrops", spec := "epDrops", unfollowed := true, recurses := true, plainKeys := false, apart := false }
def EpDropsSaid : Prop := epDropsRow.holds Try.pinned (OpenSpec.ofChange epDropsSpec)

/-- ITS FALSE NEIGHBOUR: 'it returns false'. Refute it at one input. -/
def epDropsWrong : ChangeSpec := { name := "epDrops", fn := fun _ => fun
  | [d1, d2, d3] => { results := [.lit (.bool false)], args := [d1, d2, d3] }
  | _ => none }
def EpDropsWrongFalsely : Prop := epDropsRow.holds Try.pinned (OpenSpec.ofChange epDropsWrong)

/-- 'ringkernlaw13.NotifAgain': WHATEVER THE INPUT: true; the input reads as it did. -/
def notifAgainSpec : ChangeSpec := { name := "notifAgain", fn := fun _ => fun
  | [d1, d2, d3] => { results := [.lit (.bool true)], args := [d1, d2, d3] }
  | _ => none }
def notifAgainRow : OpenClaim := { program := "ytjolbnicboaaeaa", sum := "80caf16d970473aa23a3486314efa024aea627d8ebade0b604db1a54bbf09e87", func := "ringkern/ringkernlaw13.NotifAgain", spec := "notifAgain", unfollowed := true, recurses := true, plainKeys := false, apart := false }
def NotifAgainSaid : Prop := notifAgainRow.holds Try.pinned (OpenSpec.ofChange notifAgainSpec)

/-- ITS FALSE NEIGHBOUR: 'it returns false'. Refute it at one input. -/
def notifAgainWrong : ChangeSpec := { name := "notifAgain", fn := fun _ => fun
  | [d1, d2, d3] => { results := [.lit (.bool false)], args := [d1, d2, d3] }
  | _ => none }
def NotifAgainWrongFalsely : Prop := notifAgainRow.holds Try.pinned (OpenSpec.ofChange notifAgainWrong)

/-- 'ringkernlaw13.NotifBits': WHATEVER THE INPUT: true; the input reads as it did. -/
def notifBitsSpec : ChangeSpec := { name := "notifBits", fn := fun _ => fun
  | [d1, d2] => { results := [.lit (.bool true)], args := [d1, d2] }
  | _ => none }
def notifBitsRow : OpenClaim := { program := "ytjolbnicboaaeaa", sum := "80caf16d970473aa23a3486314efa024aea627d8ebade0b604db1a54bbf09e87", func := "ringkern/ringkernlaw13.NotifBits", spec := "notifBits", unfollowed := true, recurses := true, plainKeys := false, apart := false }
def NotifBitsSaid : Prop := notifBitsRow.holds Try.pinned (OpenSpec.ofChange notifBitsSpec)

/-- ITS FALSE NEIGHBOUR: 'it returns false'. Refute it at one input. -/
def notifBitsWrong : ChangeSpec := { name := "notifBits", fn := fun _ => fun
  | [d1, d2] => { results := [.lit (.bool false)], args := [d1, d2] }
  | _ => none }
def NotifBitsWrongFalsely : Prop := notifBitsRow.holds Try.pinned (OpenSpec.ofChange notifBitsWrong)

/-- 'ringkernlaw13.NotifPlays': WHATEVER THE INPUT: true; the input reads as it did. -/
def notifPlaysSpec : ChangeSpec := { name := "notifPlays", fn := fun _ => fun
  | [d] => { results := [.lit (.bool true)], args := [d] }
  | _ => none }
def notifPlaysRow : OpenClaim := { program := "ytjolbnicboaaeaa", sum := "80caf16d970473aa23a3486314efa024aea627d8ebade0b604db1a54bbf09e87", func := "ringkern/ringkernlaw13.NotifPlays", spec := "notifPlays", unfollowed := true, recurses := true, plainKeys := false, apart := false }
def NotifPlaysSaid : Prop := notifPlaysRow.holds Try.pinned (OpenSpec.ofChange notifPlaysSpec)

/-- ITS FALSE NEIGHBOUR: 'it returns false'. Refute it at one input. -/
def notifPlaysWrong : ChangeSpec := { name := "notifPlays", fn := fun _ => fun
  | [d] => { results := [.lit (.bool false)], args := [d] }
  | _ => none }
def NotifPlaysWrongFalsely : Prop := notifPlaysRow.holds Try.pinned (OpenSpec.ofChange notifPlaysWrong)

/-- 'ringkernlaw13.NotifTurns': WHATEVER THE INPUT: true; the input reads as it did. -/
def notifTurnsSpec : ChangeSpec := { name := "notifTurns", fn := fun _ => fun
  | [d1, d2, d3] => { results := [.lit (.bool true)], args := [d1, d2, d3] }
  | _ => none }
def notifTurnsRow : OpenClaim := { program := "ytjolbnicboaaeaa", sum := "80caf16d970473aa23a3486314efa024aea627d8ebade0b604db1a54bbf09e87", func := "ringkern/ringkernlaw13.NotifTurns", spec := "notifTurns", unfollowed := true, recurses := true, plainKeys := false, apart := false }
def NotifTurnsSaid : Prop := notifTurnsRow.holds Try.pinned (OpenSpec.ofChange notifTurnsSpec)

/-- ITS FALSE NEIGHBOUR: 'it returns false'. Refute it at one input. -/
def notifTurnsWrong : ChangeSpec := { name := "notifTurns", fn := fun _ => fun
  | [d1, d2, d3] => { results := [.lit (.bool false)], args := [d1, d2, d3] }
  | _ => none }
def NotifTurnsWrongFalsely : Prop := notifTurnsRow.holds Try.pinned (OpenSpec.ofChange notifTurnsWrong)

/-- 'ringkernlaw21.TimerMoves': WHATEVER THE INPUT: true; the input reads as it did. -/
def timerMovesSpec : ChangeSpec := { name := "timerMoves", fn := fun _ => fun
  | [d1, d2, d3, d4] => { results := [.lit (.bool true)], args := [d1, d2, d3, d4] }
  | _ => none }
def timerMovesRow : OpenClaim := { program := "ytjolbnicboaaeaa", sum := "80caf16d970473aa23a3486314efa024aea627d8ebade0b604db1a54bbf09e87", func := "ringkern/ringkernlaw21.TimerMoves", spec := "timerMoves", inPlace := ["slices.overlaps[ringkern/timer.one]"], unfollowed := true, recurses := true, plainKeys := false, apart := false }
def TimerMovesSaid : Prop := timerMovesRow.holds Try.pinned (OpenSpec.ofChange timerMovesSpec)

/-- ITS FALSE NEIGHBOUR: 'it returns false'. Refute it at one input. -/
def timerMovesWrong : ChangeSpec := { name := "timerMoves", fn := fun _ => fun
  | [d1, d2, d3, d4] => { results := [.lit (.bool false)], args := [d1, d2, d3, d4] }
  | _ => none }
def TimerMovesWrongFalsely : Prop := timerMovesRow.holds Try.pinned (OpenSpec.ofChange timerMovesWrong)

/-- 'ringkernlaw21.TimerNext': WHATEVER THE INPUT: true; the input reads as it did. -/
def timerNextSpec : ChangeSpec := { name := "timerNext", fn := fun _ => fun
  | [d] => { results := [.lit (.bool true)], args := [d] }
  | _ => none }
def timerNextRow : OpenClaim := { program := "ytjolbnicboaaeaa", sum := "80caf16d970473aa23a3486314efa024aea627d8ebade0b604db1a54bbf09e87", func := "ringkern/ringkernlaw21.TimerNext", spec := "timerNext", inPlace := ["slices.overlaps[ringkern/timer.one]"], unfollowed := true, recurses := true, plainKeys := false, apart := false }
def TimerNextSaid : Prop := timerNextRow.holds Try.pinned (OpenSpec.ofChange timerNextSpec)

/-- ITS FALSE NEIGHBOUR: 'it returns false'. Refute it at one input. -/
def timerNextWrong : ChangeSpec := { name := "timerNext", fn := fun _ => fun
  | [d] => { results := [.lit (.bool false)], args := [d] }
  | _ => none }
def TimerNextWrongFalsely : Prop := timerNextRow.holds Try.pinned (OpenSpec.ofChange timerNextWrong)

/-- 'ringkernlaw21.TimerPlays': WHATEVER THE INPUT: true; the input reads as it did. -/
def timerPlaysSpec : ChangeSpec := { name := "timerPlays", fn := fun _ => fun
  | [d1, d2] => { results := [.lit (.bool true)], args := [d1, d2] }
  | _ => none }
def timerPlaysRow : OpenClaim := { program := "ytjolbnicboaaeaa", sum := "80caf16d970473aa23a3486314efa024aea627d8ebade0b604db1a54bbf09e87", func := "ringkern/ringkernlaw21.TimerPlays", spec := "timerPlays", inPlace := ["slices.overlaps[ringkern/timer.one]"], unfollowed := true, recurses := true, plainKeys := false, apart := false }
def TimerPlaysSaid : Prop := timerPlaysRow.holds Try.pinned (OpenSpec.ofChange timerPlaysSpec)

/-- ITS FALSE NEIGHBOUR: 'it returns false'. Refute it at one input. -/
def timerPlaysWrong : ChangeSpec := { name := "timerPlays", fn := fun _ => fun
  | [d1, d2] => { results := [.lit (.bool false)], args := [d1, d2] }
  | _ => none }
def TimerPlaysWrongFalsely : Prop := timerPlaysRow.holds Try.pinned (OpenSpec.ofChange timerPlaysWrong)

/-- 'ringkernlaw21.TimerRises': WHATEVER THE INPUT: true; the input reads as it did. -/
def timerRisesSpec : ChangeSpec := { name := "timerRises", fn := fun _ => fun
  | [d1, d2] => { results := [.lit (.bool true)], args := [d1, d2] }
  | _ => none }
def timerRisesRow : OpenClaim := { program := "ytjolbnicboaaeaa", sum := "80caf16d970473aa23a3486314efa024aea627d8ebade0b604db1a54bbf09e87", func := "ringkern/ringkernlaw21.TimerRises", spec := "timerRises", inPlace := ["slices.overlaps[ringkern/timer.one]"], unfollowed := true, recurses := true, plainKeys := false, apart := false }
def TimerRisesSaid : Prop := timerRisesRow.holds Try.pinned (OpenSpec.ofChange timerRisesSpec)

/-- ITS FALSE NEIGHBOUR: 'it returns false'. Refute it at one input. -/
def timerRisesWrong : ChangeSpec := { name := "timerRises", fn := fun _ => fun
  | [d1, d2] => { results := [.lit (.bool false)], args := [d1, d2] }
  | _ => none }
def TimerRisesWrongFalsely : Prop := timerRisesRow.holds Try.pinned (OpenSpec.ofChange timerRisesWrong)

/- THE SECOND FORM. 'bulk': how many values and letters a reading holds, each counted each time it is reached (what is shared counts as often as it is met; a slice's spare places count too). A statement '..UptoSaid' is the law's where the arguments, and the package variables that the reading takes, are together of bulk at most 1048576: NARROWER than '..Said'. Prove '..Said' where nothing that the law and all that it calls make is longer than what came in: it says more and counts as full. Else prove '..UptoSaid'. A law counts once. -/
mutual
def uptoBulk {H : Type} : DataW H → Nat
  | .lit (.string bytes) => bytes.length + 1
  | .lit _ => 1
  | .nil => 1
  | .ptr d => uptoBulk d + 1
  | .slice elems spare => uptoBulkAll elems + uptoBulkAll spare + 1
  | .agg parts => uptoBulkAll parts + 1
  | .iface _ d => uptoBulk d + 1
  | .map entries => uptoBulkEntries entries + 1
  | .held _ => 1
def uptoBulkAll {H : Type} : List (DataW H) → Nat
  | [] => 0
  | d :: r => uptoBulk d + uptoBulkAll r
def uptoBulkEntries {H : Type} : List (Lit × DataW H) → Nat
  | [] => 0
  | x :: r => uptoBulkEntry x + uptoBulkEntries r
def uptoBulkEntry {H : Type} : Lit × DataW H → Nat
  | (.string bytes, d) => bytes.length + uptoBulk d + 1
  | (_, d) => uptoBulk d + 1
 end
def uptoSmall : (H : Type) → List (DataW H) → Bool := fun _ ds => decide (uptoBulkAll ds ≤ 1048576)
def OpenSpec.upto (s : _root_.Go.ChangeSpec) : _root_.Go.OpenSpec := { _root_.Go.OpenSpec.ofChange s with cond := some uptoSmall }

/-- 'ringkernlaw20.ChainSays', WHERE WHAT IT READS IS OF BULK AT MOST 1048576: true; the input reads as it did. -/
def chainSaysUptoRow : OpenClaim := { program := "ytjolbnicboaaeaa", sum := "80caf16d970473aa23a3486314efa024aea627d8ebade0b604db1a54bbf09e87", func := "ringkern/ringkernlaw20.ChainSays", spec := "chainSays", unfollowed := true, recurses := true, plainKeys := false, apart := false, narrowed := true }
def ChainSaysUptoSaid : Prop := chainSaysUptoRow.holds Try.pinned (OpenSpec.upto chainSaysSpec)

/-- 'ringkernlaw20.ChainAll', WHERE WHAT IT READS IS OF BULK AT MOST 1048576: true; the input reads as it did. -/
def chainAllUptoRow : OpenClaim := { program := "ytjolbnicboaaeaa", sum := "80caf16d970473aa23a3486314efa024aea627d8ebade0b604db1a54bbf09e87", func := "ringkern/ringkernlaw20.ChainAll", spec := "chainAll", unfollowed := true, recurses := true, plainKeys := false, apart := false, narrowed := true }
def ChainAllUptoSaid : Prop := chainAllUptoRow.holds Try.pinned (OpenSpec.upto chainAllSpec)

/-- 'ringkernlaw14.EpPairs', WHERE WHAT IT READS IS OF BULK AT MOST 1048576: true; the input reads as it did. -/
def epPairsUptoRow : OpenClaim := { program := "ytjolbnicboaaeaa", sum := "80caf16d970473aa23a3486314efa024aea627d8ebade0b604db1a54bbf09e87", func := "ringkern/ringkernlaw14.EpPairs", spec := "epPairs", plainKeys := false, apart := false, narrowed := true }
def EpPairsUptoSaid : Prop := epPairsUptoRow.holds Try.pinned (OpenSpec.upto epPairsSpec)

/-- 'ringkernlaw22.JournalSays', WHERE WHAT IT READS IS OF BULK AT MOST 1048576: true; the input reads as it did. -/
def journalSaysUptoRow : OpenClaim := { program := "ytjolbnicboaaeaa", sum := "80caf16d970473aa23a3486314efa024aea627d8ebade0b604db1a54bbf09e87", func := "ringkern/ringkernlaw22.JournalSays", spec := "journalSays", unfollowed := true, recurses := true, plainKeys := false, apart := false, narrowed := true }
def JournalSaysUptoSaid : Prop := journalSaysUptoRow.holds Try.pinned (OpenSpec.upto journalSaysSpec)

/-- 'ringkernlaw22.JournalParts', WHERE WHAT IT READS IS OF BULK AT MOST 1048576: true; the input reads as it did. -/
def journalPartsUptoRow : OpenClaim := { program := "ytjolbnicboaaeaa", sum := "80caf16d970473aa23a3486314efa024aea627d8ebade0b604db1a54bbf09e87", func := "ringkern/ringkernlaw22.JournalParts", spec := "journalParts", unfollowed := true, recurses := true, plainKeys := false, apart := false, narrowed := true }
def JournalPartsUptoSaid : Prop := journalPartsUptoRow.holds Try.pinned (OpenSpec.upto journalPartsSpec)

/-- 'ringkernlaw22.JournalFinds', WHERE WHAT IT READS IS OF BULK AT MOST 1048576: true; the input reads as it did. -/
def journalFindsUptoRow : OpenClaim := { program := "ytjolbnicboaaeaa", sum := "80caf16d970473aa23a3486314efa024aea627d8ebade0b604db1a54bbf09e87", func := "ringkern/ringkernlaw22.JournalFinds", spec := "journalFinds", unfollowed := true, recurses := true, plainKeys := false, apart := false, narrowed := true }
def JournalFindsUptoSaid : Prop := journalFindsUptoRow.holds Try.pinned (OpenSpec.upto journalFindsSpec)

/-- 'ringkernlaw12.ListOrder', WHERE WHAT IT READS IS OF BULK AT MOST 1048576: true; the input reads as it did. -/
def listOrderUptoRow : OpenClaim := { program := "ytjolbnicboaaeaa", sum := "80caf16d970473aa23a3486314efa024aea627d8ebade0b604db1a54bbf09e87", func := "ringkern/ringkernlaw12.ListOrder", spec := "listOrder", unfollowed := true, recurses := true, plainKeys := false, apart := false, narrowed := true }
def ListOrderUptoSaid : Prop := listOrderUptoRow.holds Try.pinned (OpenSpec.upto listOrderSpec)

/-- 'ringkernlaw12.ListPlays', WHERE WHAT IT READS IS OF BULK AT MOST 1048576: true; the input reads as it did. -/
def listPlaysUptoRow : OpenClaim := { program := "ytjolbnicboaaeaa", sum := "80caf16d970473aa23a3486314efa024aea627d8ebade0b604db1a54bbf09e87", func := "ringkern/ringkernlaw12.ListPlays", spec := "listPlays", unfollowed := true, recurses := true, plainKeys := false, apart := false, narrowed := true }
def ListPlaysUptoSaid : Prop := listPlaysUptoRow.holds Try.pinned (OpenSpec.upto listPlaysSpec)

/-- 'ringkernlaw12.ListHas', WHERE WHAT IT READS IS OF BULK AT MOST 1048576: true; the input reads as it did. -/
def listHasUptoRow : OpenClaim := { program := "ytjolbnicboaaeaa", sum := "80caf16d970473aa23a3486314efa024aea627d8ebade0b604db1a54bbf09e87", func := "ringkern/ringkernlaw12.ListHas", spec := "listHas", unfollowed := true, recurses := true, plainKeys := false, apart := false, narrowed := true }
def ListHasUptoSaid : Prop := listHasUptoRow.holds Try.pinned (OpenSpec.upto listHasSpec)

/-- 'ringkernlaw14.EpPlays', WHERE WHAT IT READS IS OF BULK AT MOST 1048576: true; the input reads as it did. -/
def epPlaysUptoRow : OpenClaim := { program := "ytjolbnicboaaeaa", sum := "80caf16d970473aa23a3486314efa024aea627d8ebade0b604db1a54bbf09e87", func := "ringkern/ringkernlaw14.EpPlays", spec := "epPlays", unfollowed := true, recurses := true, plainKeys := false, apart := false, narrowed := true }
def EpPlaysUptoSaid : Prop := epPlaysUptoRow.holds Try.pinned (OpenSpec.upto epPlaysSpec)

/-- 'ringkernlaw14.EpDrops', WHERE WHAT IT READS IS OF BULK AT MOST 1048576: true; the input reads as it did. -/
def epDropsUptoRow : OpenClaim := { program := "ytjolbnicboaaeaa", sum := "80caf16d970473aa23a3486314efa024aea627d8ebade0b604db1a54bbf09e87", func := "ringkern/ringkernlaw14.EpDrops", spec := "epDrops", unfollowed := true, recurses := true, plainKeys := false, apart := false, narrowed := true }
def EpDropsUptoSaid : Prop := epDropsUptoRow.holds Try.pinned (OpenSpec.upto epDropsSpec)

/-- 'ringkernlaw13.NotifAgain', WHERE WHAT IT READS IS OF BULK AT MOST 1048576: true; the input reads as it did. -/
def notifAgainUptoRow : OpenClaim := { program := "ytjolbnicboaaeaa", sum := "80caf16d970473aa23a3486314efa024aea627d8ebade0b604db1a54bbf09e87", func := "ringkern/ringkernlaw13.NotifAgain", spec := "notifAgain", unfollowed := true, recurses := true, plainKeys := false, apart := false, narrowed := true }
def NotifAgainUptoSaid : Prop := notifAgainUptoRow.holds Try.pinned (OpenSpec.upto notifAgainSpec)

/-- 'ringkernlaw13.NotifBits', WHERE WHAT IT READS IS OF BULK AT MOST 1048576: true; the input reads as it did. -/
def notifBitsUptoRow : OpenClaim := { program := "ytjolbnicboaaeaa", sum := "80caf16d970473aa23a3486314efa024aea627d8ebade0b604db1a54bbf09e87", func := "ringkern/ringkernlaw13.NotifBits", spec := "notifBits", unfollowed := true, recurses := true, plainKeys := false, apart := false, narrowed := true }
def NotifBitsUptoSaid : Prop := notifBitsUptoRow.holds Try.pinned (OpenSpec.upto notifBitsSpec)

/-- 'ringkernlaw13.NotifPlays', WHERE WHAT IT READS IS OF BULK AT MOST 1048576: true; the input reads as it did. -/
def notifPlaysUptoRow : OpenClaim := { program := "ytjolbnicboaaeaa", sum := "80caf16d970473aa23a3486314efa024aea627d8ebade0b604db1a54bbf09e87", func := "ringkern/ringkernlaw13.NotifPlays", spec := "notifPlays", unfollowed := true, recurses := true, plainKeys := false, apart := false, narrowed := true }
def NotifPlaysUptoSaid : Prop := notifPlaysUptoRow.holds Try.pinned (OpenSpec.upto notifPlaysSpec)

/-- 'ringkernlaw13.NotifTurns', WHERE WHAT IT READS IS OF BULK AT MOST 1048576: true; the input reads as it did. -/
def notifTurnsUptoRow : OpenClaim := { program := "ytjolbnicboaaeaa", sum := "80caf16d970473aa23a3486314efa024aea627d8ebade0b604db1a54bbf09e87", func := "ringkern/ringkernlaw13.NotifTurns", spec := "notifTurns", unfollowed := true, recurses := true, plainKeys := false, apart := false, narrowed := true }
def NotifTurnsUptoSaid : Prop := notifTurnsUptoRow.holds Try.pinned (OpenSpec.upto notifTurnsSpec)

/-- 'ringkernlaw21.TimerMoves', WHERE WHAT IT READS IS OF BULK AT MOST 1048576: true; the input reads as it did. -/
def timerMovesUptoRow : OpenClaim := { program := "ytjolbnicboaaeaa", sum := "80caf16d970473aa23a3486314efa024aea627d8ebade0b604db1a54bbf09e87", func := "ringkern/ringkernlaw21.TimerMoves", spec := "timerMoves", inPlace := ["slices.overlaps[ringkern/timer.one]"], unfollowed := true, recurses := true, plainKeys := false, apart := false, narrowed := true }
def TimerMovesUptoSaid : Prop := timerMovesUptoRow.holds Try.pinned (OpenSpec.upto timerMovesSpec)

/-- 'ringkernlaw21.TimerNext', WHERE WHAT IT READS IS OF BULK AT MOST 1048576: true; the input reads as it did. -/
def timerNextUptoRow : OpenClaim := { program := "ytjolbnicboaaeaa", sum := "80caf16d970473aa23a3486314efa024aea627d8ebade0b604db1a54bbf09e87", func := "ringkern/ringkernlaw21.TimerNext", spec := "timerNext", inPlace := ["slices.overlaps[ringkern/timer.one]"], unfollowed := true, recurses := true, plainKeys := false, apart := false, narrowed := true }
def TimerNextUptoSaid : Prop := timerNextUptoRow.holds Try.pinned (OpenSpec.upto timerNextSpec)

/-- 'ringkernlaw21.TimerPlays', WHERE WHAT IT READS IS OF BULK AT MOST 1048576: true; the input reads as it did. -/
def timerPlaysUptoRow : OpenClaim := { program := "ytjolbnicboaaeaa", sum := "80caf16d970473aa23a3486314efa024aea627d8ebade0b604db1a54bbf09e87", func := "ringkern/ringkernlaw21.TimerPlays", spec := "timerPlays", inPlace := ["slices.overlaps[ringkern/timer.one]"], unfollowed := true, recurses := true, plainKeys := false, apart := false, narrowed := true }
def TimerPlaysUptoSaid : Prop := timerPlaysUptoRow.holds Try.pinned (OpenSpec.upto timerPlaysSpec)

/-- 'ringkernlaw21.TimerRises', WHERE WHAT IT READS IS OF BULK AT MOST 1048576: true; the input reads as it did. -/
def timerRisesUptoRow : OpenClaim := { program := "ytjolbnicboaaeaa", sum := "80caf16d970473aa23a3486314efa024aea627d8ebade0b604db1a54bbf09e87", func := "ringkern/ringkernlaw21.TimerRises", spec := "timerRises", inPlace := ["slices.overlaps[ringkern/timer.one]"], unfollowed := true, recurses := true, plainKeys := false, apart := false, narrowed := true }
def TimerRisesUptoSaid : Prop := timerRisesUptoRow.holds Try.pinned (OpenSpec.upto timerRisesSpec)

end Rows
end Go.Proofs.Ytjolbnicboaaeaa
