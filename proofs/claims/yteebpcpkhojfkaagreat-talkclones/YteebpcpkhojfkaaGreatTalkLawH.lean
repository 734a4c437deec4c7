/-
 Plain laws of what lies below,as this seat reaches them (by a program of the bench: port.py).
-/
import Derived.Test.YteebpcpkhojfkaaGreatTalkLawG
import Derived.Test.YteebpcpkhojfkaaGreatSxS
namespace Go.Proofs.YteebpcpkhojfkaaGreat
open Go.Sx Go Classical
set_option maxRecDepth 10000
abbrev g3:In→(Int×List UInt8×List UInt8×Int×Int×Unit)×In:=jW nZ (jW sJ (jW sJ (jW nZ (jW nZ ED))))
abbrev g4:In→(Int×List UInt8×List UInt8×Int×Unit)×In:=jW nZ (jW sJ (jW sJ (jW nZ ED)))
abbrev g5:In→(List UInt8×List UInt8×Int×Unit)×In:=jW sJ (jW sJ (jW nZ ED))
abbrev Q6:List UInt8→Prop:=fun s=>s.length≤60000
theorem c3:Codec (aF ak (aF aZ (aF aZ (aF ak (aF ak dQ))))) g3 (lK In64 (lK Q6 (lK Q6 (lK In64 (lK In64 (fun _=>True)))))):=mW yx (mW xP (mW xP (mW yx (mW yx KO))))
theorem c4:Codec (aF ak (aF aZ (aF aZ (aF ak dQ)))) g4 (lK In64 (lK Q6 (lK Q6 (lK In64 (fun _=>True))))):=mW yx (mW xP (mW xP (mW yx KO)))
theorem c5:Codec (aF aZ (aF aZ (aF ak dQ))) g5 (lK Q6 (lK Q6 (lK In64 (fun _=>True)))):=mW xP (mW xP (mW yx KO))
end Go.Proofs.YteebpcpkhojfkaaGreat
