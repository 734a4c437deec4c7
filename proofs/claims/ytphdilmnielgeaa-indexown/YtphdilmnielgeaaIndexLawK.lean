/-
  Index: the law of what was trimmed (once the batches are known).
-/
import Derived.Test.YtphdilmnielgeaaIndexLawJ
namespace Go.Proofs.Ytphdilmnielgeaa
open Go.Sx Go Classical
set_option maxRecDepth 10000
end Go.Proofs.Ytphdilmnielgeaa
