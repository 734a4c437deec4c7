/-
 Plain laws of what lies below,as this seat reaches them (by a program of the bench: port.py).
-/
import Derived.Test.YtpfjaaofpcbejaaGreatRmsgLawA
import Derived.Test.YtpfjaaofpcbejaaGreatSxS
namespace Go.Proofs.YtpfjaaofpcbejaaGreat
open Go.Sx Go Classical
set_option maxRecDepth 10000
abbrev RH:Ent:=(0,0,[],())
noncomputable def rM (e:Ent):Bool:=(kT (e,())).elim false (·.1)
theorem LK (e:Ent):kT (e,())=some (rM e,()):=by
 obtain⟨b,h⟩:=Ov (e,())
 unfold rM
 rw [h];rfl
abbrev iU:Msg:=(0,0,0,0,0,0,0,0,false,[],RH,())
noncomputable def qB (m:Msg):Bool:=(F66 (m,())).elim false (·.1)
theorem GK (m:Msg) (hl:m.2.2.2.2.2.2.2.2.2.1.length≤9223372036854775806):F66 (m,())=some (qB m,())∧F79 (m,())=some (qB m,()):=by
 obtain⟨b,h1,h2⟩:=zcy m hl
 unfold qB
 rw [h1]
 exact⟨rfl,h2⟩
end Go.Proofs.YtpfjaaofpcbejaaGreat
