/-
  Index: the law of what is replayed (once the batches are known).
-/
import Derived.Test.YtphdilmnielgeaaIndexReplayB
namespace Go.Proofs.Ytphdilmnielgeaa
open Go.Sx Go Classical
set_option maxRecDepth 10000
end Go.Proofs.Ytphdilmnielgeaa
