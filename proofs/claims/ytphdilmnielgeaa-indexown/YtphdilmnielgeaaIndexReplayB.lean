/-
  What all changes of a range make of what it was.
-/
import Derived.Test.YtphdilmnielgeaaIndexReplay
namespace Go.Proofs.Ytphdilmnielgeaa
open Go.Sx Go Classical
set_option maxRecDepth 10000
end Go.Proofs.Ytphdilmnielgeaa
