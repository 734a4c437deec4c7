/-
 Plain laws of what lies below,as this seat reaches them (by a program of the bench: port.py).
-/
import Derived.Test.YtpfjaaofpcbejaaGreatCmdLawK
import Derived.Test.YtpfjaaofpcbejaaGreatSxS
namespace Go.Proofs.YtpfjaaofpcbejaaGreat
open Go.Sx Go Classical
set_option maxRecDepth 10000
def Plain (c:bH):Prop:=(∀ x∈c.2.2.2.2.2.2.2.2.2.2.2.2.2.2.1,zio x)∧∀ s∈c.2.2.2.2.2.2.2.2.2.2.2.2.2.2.2.1,lH s.2.2.1
end Go.Proofs.YtpfjaaofpcbejaaGreat
