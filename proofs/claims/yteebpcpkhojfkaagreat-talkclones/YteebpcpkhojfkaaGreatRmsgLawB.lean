/-
 Plain laws of what lies below,as this seat reaches them (by a program of the bench: port.py).
-/
import Derived.Test.YteebpcpkhojfkaaGreatRmsgLawA
import Derived.Test.YteebpcpkhojfkaaGreatSxS
namespace Go.Proofs.YteebpcpkhojfkaaGreat
open Go.Sx Go Classical
set_option maxRecDepth 10000
abbrev WM:Ent:=(0,0,[],())
abbrev lS:Ent→List UInt8:=aF ak (aF ak (aF aZ dQ))
noncomputable def oV (e:Ent):Bool:=(mr (e,())).elim false (·.1)
theorem IX (e:Ent):mr (e,())=some (oV e,()):=by
 obtain⟨b,h⟩:=Uj (e,());unfold oV;rw[h];rfl
abbrev zfQ:List Ent→List UInt8:=iO lS
abbrev WO:Type:=Int×Int×Int×Int×Int×Int×Int×Int×Bool×List Ent×Unit
abbrev headB:WO→List UInt8:=aF bG (aF bG (aF bG (aF ak (aF ak (aF ak (aF ak (aF ak (aF je (aF zfQ dQ)))))))))
abbrev jB:Msg:=(0,0,0,0,0,0,0,0,false,[],WM,())
noncomputable def qZ (m:Msg):Bool:=(F71 (m,())).elim false (·.1)
theorem Eg (m:Msg) (hl:m.2.2.2.2.2.2.2.2.2.1.length≤9223372036854775806):F71 (m,())=some (qZ m,())∧F34 (m,())=some (qZ m,()):=by
 obtain⟨b,h1,h2⟩:=zbm m hl;unfold qZ;rw[h1];exact⟨rfl,h2⟩
end Go.Proofs.YteebpcpkhojfkaaGreat
