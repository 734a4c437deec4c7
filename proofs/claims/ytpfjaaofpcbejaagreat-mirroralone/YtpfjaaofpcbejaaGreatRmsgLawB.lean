/-
 Plain laws of what lies below,as this seat reaches them (by a program of the bench: port.py).
-/
import Derived.Test.YtpfjaaofpcbejaaGreatRmsgLawA
import Derived.Test.YtpfjaaofpcbejaaGreatSxS
namespace Go.Proofs.YtpfjaaofpcbejaaGreat
open Go.Sx Go Classical
set_option maxRecDepth 10000
abbrev NoEnt:Ent:=(0,0,[],())
noncomputable def snapOk (e:Ent):Bool:=(F124 (e,())).elim false (·.1)
theorem snapOk_eq (e:Ent):F124 (e,())=some (snapOk e,()):=by
 obtain⟨b,h⟩:=snap_ex (e,())
 unfold snapOk
 rw [h];rfl
abbrev NoMsg:Msg:=(0,0,0,0,0,0,0,0,false,[],NoEnt,())
noncomputable def mayM (m:Msg):Bool:=(F66 (m,())).elim false (·.1)
theorem mayM_eq (m:Msg) (hl:m.2.2.2.2.2.2.2.2.2.1.length≤9223372036854775806):F66 (m,())=some (mayM m,())∧F79 (m,())=some (mayM m,()):=by
 obtain⟨b,h1,h2⟩:=rightM_ex m hl
 unfold mayM
 rw [h1]
 exact⟨rfl,h2⟩
end Go.Proofs.YtpfjaaofpcbejaaGreat
