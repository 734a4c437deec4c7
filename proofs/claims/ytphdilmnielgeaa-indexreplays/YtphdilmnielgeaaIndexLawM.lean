/-
  index: an Index never changes, whatever is derived from it and whatever is done to its results (IndexOwn).
-/
import Derived.Test.YtphdilmnielgeaaIndexLawL
namespace Go.Proofs.Ytphdilmnielgeaa
open Go.Sx Go Classical
set_option maxRecDepth 10000
end Go.Proofs.Ytphdilmnielgeaa
