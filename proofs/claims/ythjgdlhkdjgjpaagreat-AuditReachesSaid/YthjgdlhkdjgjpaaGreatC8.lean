/-
  The first state: what it holds.
-/
import Derived.Test.YthjgdlhkdjgjpaaGreatC7
namespace Go.Pse
open Go.RowKit Go.Proofs


end Go.Pse
