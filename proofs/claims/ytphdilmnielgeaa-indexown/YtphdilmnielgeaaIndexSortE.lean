/-
  The stable sort in place: two sorted neighbours made one, whatever their lengths.
-/
import Derived.Test.YtphdilmnielgeaaIndexSortD
namespace Go.Proofs.Ytphdilmnielgeaa
open Go.Sx Go
set_option maxRecDepth 10000
end Go.Proofs.Ytphdilmnielgeaa
