/-
  What is gone.
-/
import Derived.Test.YthjgdlhkdjgjpaaGreatC16
namespace Go.Pse
open Go.RowKit Go.Proofs





def rem {α : Type} (xs : List (Int × α)) (u : Int) : List (Int × α) := xs.filter fun x => !decide (x.1 = u)
theorem ptrs_rem {α : Type} {xs : List (Int × Nat × α)} {u : Int} : del (ptrs xs) u = ptrs (rem xs u) := by
  unfold del ptrs rem
  rw [List.filter_map]; rfl
def kGone (s : KS) (k u : Int) : KS :=
  if k = 4 then { s with ep := rem s.ep u } else if k = 5 then { s with nt := rem s.nt u } else if k = 7 then { s with rp := rem s.rp u } else if k = 3 then { s with mp := s.mp.filter fun e => !decide (e.2.1 = u) } else if k = 8 then { s with mp := s.mp.filter fun e => !decide (e.1.1 = u), sp := del s.sp u } else if k = 6 then { s with q := qRem s.q u, th := del s.th u } else if k = 9 then { s with rg := rem s.rg u } else s
end Go.Pse
