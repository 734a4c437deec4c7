/-
 Plain laws of what lies below,as this seat reaches them (by a program of the bench: port.py).
-/
import Derived.Test.YtlegpimppfabgaaGreatRmsgLawA
import Derived.Test.YtlegpimppfabgaaGreatSxS
namespace Go.Proofs.YtlegpimppfabgaaGreat
open Go.Sx Go Classical
set_option maxRecDepth 10000
abbrev UT:Ent:=(0,0,[],())
noncomputable def ug (e:Ent):Bool:=(mg (e,())).elim false (·.1)
theorem Pj (e:Ent):mg (e,())=some (ug e,()):=by
 obtain⟨b,h⟩:=Rq (e,());unfold ug;rw[h];rfl
abbrev jW:Msg:=(0,0,0,0,0,0,0,0,false,[],UT,())
noncomputable def rX (m:Msg):Bool:=(qE (m,())).elim false (·.1)
theorem Jp (m:Msg) (hl:m.2.2.2.2.2.2.2.2.2.1.length≤9223372036854775806):qE (m,())=some (rX m,())∧uT (m,())=some (rX m,()):=by
 obtain⟨b,h1,h2⟩:=ZI m hl;unfold rX;rw[h1];exact⟨rfl,h2⟩
end Go.Proofs.YtlegpimppfabgaaGreat
