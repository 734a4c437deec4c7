/-
  The program's batches are what the document's are: items, one behind the other, into the last batch or into a new one.
-/
import Derived.Test.YtphdilmnielgeaaIndexProg
namespace Go.Proofs.Ytphdilmnielgeaa
open Go.Sx Go Classical
set_option maxRecDepth 10000
end Go.Proofs.Ytphdilmnielgeaa
