/-
 Plain laws of what lies below,as this seat reaches them (by a program of the bench: port.py).
-/
import Derived.Test.YtlegpimppfabgaaGreatCmdLawF
import Derived.Test.YtlegpimppfabgaaGreatSxS
namespace Go.Proofs.YtlegpimppfabgaaGreat
open Go.Sx Go Classical
set_option maxRecDepth 10000
abbrev NoV:nO:=(0,0,0,0,[],0,false,())
def zdp (v:nO):Prop:=v=NoV∨fP v
def zcz (x:aX):Prop:=(x.1=[]∨IsKey x.1)∧zdp x.2.1
abbrev dX:dh:=(0,0,false,0,[],0,0,())
abbrev jT:jo:=(0,0,0,[],[],0,[],0,0,0,())
abbrev gZ:gz:=(0,0,[],[],())
end Go.Proofs.YtlegpimppfabgaaGreat
