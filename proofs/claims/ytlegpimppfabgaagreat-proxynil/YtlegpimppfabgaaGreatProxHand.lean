/-
 Prox: what a command and a message of a kind hasn't (the document's),kind by kind.
-/
import Derived.Test.YtlegpimppfabgaaGreatProxRaw
namespace Go.Proofs.YtlegpimppfabgaaGreat
open Go.Sx Go
set_option maxRecDepth 100000
end Go.Proofs.YtlegpimppfabgaaGreat
