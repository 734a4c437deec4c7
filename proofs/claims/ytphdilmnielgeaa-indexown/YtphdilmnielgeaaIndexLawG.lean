/-
  index: the laws of leases and of reading.
-/
import Derived.Test.YtphdilmnielgeaaIndexLawF
namespace Go.Proofs.Ytphdilmnielgeaa
open Go.Sx Go Classical
set_option maxRecDepth 10000
end Go.Proofs.Ytphdilmnielgeaa
