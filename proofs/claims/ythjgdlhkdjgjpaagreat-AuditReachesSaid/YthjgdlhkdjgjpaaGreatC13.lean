/-
  Who may run first; numbers, one by one; how it begins.
-/
import Derived.Test.YthjgdlhkdjgjpaaGreatC12
namespace Go.Pse
open Go.RowKit Go.Proofs

def qMost (q : List (Int × Int)) : Int := q.foldl (fun m c => if c.2 > m then c.2 else m) (-1)
theorem qMost_take {q : List (Int × Int)} {i : Nat} {c : Int × Int} (h : q[i]? = some c) : qMost (q.take (i + 1)) = if c.2 > qMost (q.take i) then c.2 else qMost (q.take i) := by
  unfold qMost
  rw [List.take_add_one, h, Option.toList_some, List.foldl_append]; rfl
def qSel (q : List (Int × Int)) (c : Int × Int) : Bool := decide (c.2 = qMost q)
def qReady (q : List (Int × Int)) : List Int := (q.filter (qSel q)).map Prod.fst

def seqAt (zs : List Int) (k : Nat) : Int := (zs[k]?).getD 0
abbrev encZ (z : Int) : List Value := [.int .i64 z]


end Go.Pse
