/-
 Plain laws of what lies below,as this seat reaches them (by a program of the bench: port.py).
-/
import Derived.Test.YtpfjaaofpcbejaaGreatRmsgLawA
import Derived.Test.YtpfjaaofpcbejaaGreatSxS
namespace Go.Proofs.YtpfjaaofpcbejaaGreat
open Go.Sx Go Classical
set_option maxRecDepth 10000
abbrev zxZ:Ent:=(0,0,[],())
noncomputable def zga (e:Ent):Bool:=(F124 (e,())).elim false (·.1)
theorem ziZ (e:Ent):F124 (e,())=some (zga e,()):=by
 obtain⟨b,h⟩:=znE (e,())
 unfold zga
 rw [h];rfl
abbrev zd2:Msg:=(0,0,0,0,0,0,0,0,false,[],zxZ,())
noncomputable def mayM (m:Msg):Bool:=(F66 (m,())).elim false (·.1)
theorem zkD (m:Msg) (hl:m.2.2.2.2.2.2.2.2.2.1.length≤9223372036854775806):F66 (m,())=some (mayM m,())∧F79 (m,())=some (mayM m,()):=by
 obtain⟨b,h1,h2⟩:=znP m hl
 unfold mayM
 rw [h1]
 exact⟨rfl,h2⟩
end Go.Proofs.YtpfjaaofpcbejaaGreat
