/-
 Plain laws of what lies below,as this seat reaches them (by a program of the bench: port.py).
-/
import Derived.Test.YtlegpimppfabgaaGreatCmdLawK
import Derived.Test.YtlegpimppfabgaaGreatSxS
namespace Go.Proofs.YtlegpimppfabgaaGreat
open Go.Sx Go Classical
set_option maxRecDepth 10000
def Plain (c:bi):Prop:=(∀ x∈c.2.2.2.2.2.2.2.2.2.2.2.2.2.2.1,zee x)∧∀ s∈c.2.2.2.2.2.2.2.2.2.2.2.2.2.2.2.1,nX s.2.2.1
end Go.Proofs.YtlegpimppfabgaaGreat
