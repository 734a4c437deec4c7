/-
 Plain laws of what lies below,as this seat reaches them (by a program of the bench: port.py).
-/
import Derived.Test.YtlegpimppfabgaaGreatCmdLawH
import Derived.Test.YtlegpimppfabgaaGreatSxS
namespace Go.Proofs.YtlegpimppfabgaaGreat
open Go.Sx Go Classical
set_option maxRecDepth 10000
def Plain (c:aJ):Prop:=(∀ x∈c.2.2.2.2.2.2.2.2.2.2.2.2.2.2.1,zcz x)∧∀ s∈c.2.2.2.2.2.2.2.2.2.2.2.2.2.2.2.1,mJ s.2.2.1
end Go.Proofs.YtlegpimppfabgaaGreat
