/-
  The stable sort in place: two sorted neighbours made one.
-/
import Derived.Test.YtphdilmnielgeaaIndexSortC
namespace Go.Proofs.Ytphdilmnielgeaa
open Go.Sx Go
set_option maxRecDepth 10000
end Go.Proofs.Ytphdilmnielgeaa
