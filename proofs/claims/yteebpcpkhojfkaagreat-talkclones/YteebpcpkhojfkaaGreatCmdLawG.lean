/-
 Plain laws of what lies below,as this seat reaches them (by a program of the bench: port.py).
-/
import Derived.Test.YteebpcpkhojfkaaGreatCmdLawF
import Derived.Test.YteebpcpkhojfkaaGreatSxS
namespace Go.Proofs.YteebpcpkhojfkaaGreat
open Go.Sx Go Classical
set_option maxRecDepth 10000
abbrev NoV:gW:=(0,0,0,0,[],0,false,())
def uV (v:gW):Prop:=v=NoV∨dU v
abbrev vP:gW→List UInt8:=aF ak (aF ak (aF ak (aF ak (aF aZ (aF ak (aF je dQ))))))
abbrev Vm:aO:=([],NoV,())
def qC (x:aO):Prop:=(x.1=[]∨IsKey x.1)∧uV x.2.1
abbrev lQ:aO→List UInt8:=aF aZ (aF vP dQ)
abbrev lI:List aO→List UInt8:=iO lQ
abbrev gY:dG:=(0,0,false,0,[],0,0,())
abbrev qG:dG→List UInt8:=aF bG (aF ak (aF je (aF ak (aF lI (aF bG (aF ak dQ))))))
abbrev sK:List aW→List UInt8:=iO (aF ak (aF ak (aF qG dQ)))
abbrev nG:List dm→List UInt8:=iO (aF ak (aF ak (aF ak dQ)))
abbrev nS:dJ→List UInt8:=aF aZ (aF bG (aF bG (aF ak (aF aZ dQ))))
abbrev qR:List dJ→List UInt8:=iO nS
abbrev vS:aV→List UInt8:=aF bG (aF aZ (aF aZ (aF aZ (aF ak dQ))))
abbrev lg:List aV→List UInt8:=iO vS
abbrev vW:bn→List UInt8:=aF bG (aF aZ (aF aZ (aF aZ (aF ak (aF ak (aF ak (aF qR (aF lg (aF lg (aF ak (aF ak (aF ak (aF je (aF lI (aF sK (aF nG dQ))))))))))))))))
abbrev jc:eX:=(0,0,0,[],[],0,[],0,0,0,())
abbrev moveB:eX→List UInt8:=aF bG (aF ak (aF ak (aF aZ (aF aZ (aF ak (aF aZ (aF ak (aF ak (aF ak dQ)))))))))
abbrev dX:dD:=(0,0,[],[],())
abbrev AL:dD→List UInt8:=aF ak (aF ak (aF sK (aF nG dQ)))
end Go.Proofs.YteebpcpkhojfkaaGreat
