/-
  Places, pages: sorted keys of a map.
-/
import Derived.Test.YthjbhkaokjdhmaaGreatC10
import Derived.Test.YthjbhkaokjdhmaaGreatSeq
import Derived.Test.YthjbhkaokjdhmaaGreatSrt
namespace Go.Pse
open Go.RowKit Go.Proofs


end Go.Pse
