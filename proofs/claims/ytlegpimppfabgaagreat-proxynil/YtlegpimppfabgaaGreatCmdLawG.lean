/-
 Plain laws of what lies below,as this seat reaches them (by a program of the bench: port.py).
-/
import Derived.Test.YtlegpimppfabgaaGreatCmdLawF
import Derived.Test.YtlegpimppfabgaaGreatSxS
namespace Go.Proofs.YtlegpimppfabgaaGreat
open Go.Sx Go Classical
set_option maxRecDepth 10000
abbrev NoV:mD:=(0,0,0,0,[],0,false,())
def zeU (v:mD):Prop:=v=NoV∨fC v
def zee (x:af):Prop:=(x.1=[]∨IsKey x.1)∧zeU x.2.1
abbrev iF:fG:=(0,0,false,0,[],0,0,())
abbrev jG:bg:=(0,0,0,[],[],0,[],0,0,0,())
abbrev gy:iV:=(0,0,[],[],())
end Go.Proofs.YtlegpimppfabgaaGreat
