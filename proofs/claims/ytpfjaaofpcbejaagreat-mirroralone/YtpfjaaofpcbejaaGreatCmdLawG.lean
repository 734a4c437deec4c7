/-
 Plain laws of what lies below,as this seat reaches them (by a program of the bench: port.py).
-/
import Derived.Test.YtpfjaaofpcbejaaGreatCmdLawF
import Derived.Test.YtpfjaaofpcbejaaGreatSxS
namespace Go.Proofs.YtpfjaaofpcbejaaGreat
open Go.Sx Go Classical
set_option maxRecDepth 10000
abbrev NoV:VerD:=(0,0,0,0,[],0,false,())
def zx0 (v:VerD):Prop:=v=NoV∨zck v
def zwc (x:T70D):Prop:=(x.1=[]∨IsKey x.1)∧zx0 x.2.1
abbrev zbH:T51D:=(0,0,false,0,[],0,0,())
abbrev zbM:T53D:=(0,0,0,[],[],0,[],0,0,0,())
abbrev zbq:T55D:=(0,0,[],[],())
end Go.Proofs.YtpfjaaofpcbejaaGreat
