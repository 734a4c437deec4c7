/-
 Plain laws of what lies below,as this seat reaches them (by a program of the bench: port.py).
-/
import Derived.Test.YtpfjaaofpcbejaaGreatCmdLawF
import Derived.Test.YtpfjaaofpcbejaaGreatSxS
namespace Go.Proofs.YtpfjaaofpcbejaaGreat
open Go.Sx Go Classical
set_option maxRecDepth 10000
abbrev NoV:mg:=(0,0,0,0,[],0,false,())
def zi4 (v:mg):Prop:=v=NoV∨fA v
def zio (x:ae):Prop:=(x.1=[]∨IsKey x.1)∧zi4 x.2.1
abbrev iR:fM:=(0,0,false,0,[],0,0,())
abbrev gu:aH:=(0,0,0,[],[],0,[],0,0,0,())
abbrev eQ:dO:=(0,0,[],[],())
end Go.Proofs.YtpfjaaofpcbejaaGreat
