/-
 Plain laws of what lies below,as this seat reaches them (by a program of the bench: port.py).
-/
import Derived.Test.YtlegpimppfabgaaGreatRmsgLawA
import Derived.Test.YtlegpimppfabgaaGreatSxS
namespace Go.Proofs.YtlegpimppfabgaaGreat
open Go.Sx Go Classical
set_option maxRecDepth 10000
abbrev PM:Ent:=(0,0,[],())
noncomputable def qg (e:Ent):Bool:=(lC (e,())).elim false (·.1)
theorem JH (e:Ent):lC (e,())=some (qg e,()):=by
 obtain⟨b,h⟩:=LU (e,())
 unfold qg
 rw [h];rfl
abbrev jo:Msg:=(0,0,0,0,0,0,0,0,false,[],PM,())
noncomputable def qI (m:Msg):Bool:=(mJ (m,())).elim false (·.1)
theorem MC (m:Msg) (hl:m.2.2.2.2.2.2.2.2.2.1.length≤9223372036854775806):mJ (m,())=some (qI m,())∧BD (m,())=some (qI m,()):=by
 obtain⟨b,h1,h2⟩:=ZV m hl
 unfold qI
 rw [h1]
 exact⟨rfl,h2⟩
end Go.Proofs.YtlegpimppfabgaaGreat
