/-
  The stable sort in place: halving, moving one element; two sorted neighbours of which one is a single element.
-/
import Derived.Test.YtphdilmnielgeaaIndexSortB
namespace Go.Proofs.Ytphdilmnielgeaa
open Go.Sx Go
set_option maxRecDepth 10000
/-! ### one element moved -/
end Go.Proofs.Ytphdilmnielgeaa
