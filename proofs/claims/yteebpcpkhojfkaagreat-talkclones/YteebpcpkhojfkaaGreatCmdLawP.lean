/-
 Plain laws of what lies below,as this seat reaches them (by a program of the bench: port.py).
-/
import Derived.Test.YteebpcpkhojfkaaGreatCmdLawN
import Derived.Test.YteebpcpkhojfkaaGreatSxS
namespace Go.Proofs.YteebpcpkhojfkaaGreat
open Go.Sx Go Classical
set_option maxRecDepth 10000
theorem zbM {h:dD} (hm:kC T55 h):h.2.2.1.length≤1800000000000:=by
 obtain⟨-,-,h3,-⟩:=hm;have h3:h.2.2.1.length*81≤140737488351232:=h3.1;omega
end Go.Proofs.YteebpcpkhojfkaaGreat
