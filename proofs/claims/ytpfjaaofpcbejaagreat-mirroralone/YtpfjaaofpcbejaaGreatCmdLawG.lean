/-
 Plain laws of what lies below,as this seat reaches them (by a program of the bench: port.py).
-/
import Derived.Test.YtpfjaaofpcbejaaGreatCmdLawF
import Derived.Test.YtpfjaaofpcbejaaGreatSxS
namespace Go.Proofs.YtpfjaaofpcbejaaGreat
open Go.Sx Go Classical
set_option maxRecDepth 10000
abbrev NoV:VerD:=(0,0,0,0,[],0,false,())
def MayVer (v:VerD):Prop:=v=NoV∨VerOk v
abbrev verR:In→VerD×In:=consG numG (consG numG (consG numG (consG numG (consG textG (consG numG (consG flagG unitG))))))
noncomputable abbrev verG:In→VerD×In:=guardG NoV (fun v=>dec' (MayVer v)) verR
abbrev NoItem:T70D:=([],NoV,())
def MayItem (x:T70D):Prop:=(x.1=[]∨IsKey x.1)∧MayVer x.2.1
noncomputable abbrev itemR:In→T70D×In:=consG textG (consG verG unitG)
noncomputable abbrev itemG:In→T70D×In:=guardG NoItem (fun v=>dec' (MayItem v)) itemR
noncomputable abbrev itemsG:In→List T70D×In:=listG itemG
abbrev NoReply:T51D:=(0,0,false,0,[],0,0,())
noncomputable abbrev replyR:In→T51D×In:=consG kindG (consG numG (consG flagG (consG numG (consG itemsG (consG kindG (consG numG unitG))))))
noncomputable abbrev replyG:In→T51D×In:=guardG NoReply (fun v=>dec' (ReplyOk v)) replyR
noncomputable abbrev sess1G:In→T94D×In:=consG numG (consG numG (consG replyG unitG))
noncomputable abbrev sessG:In→List T94D×In:=listG sess1G
noncomputable abbrev lease1G:In→T113D×In:=consG numG (consG numG (consG numG unitG))
noncomputable abbrev leasesG:In→List T113D×In:=listG lease1G
abbrev cmp1G:In→T96D×In:=consG textG (consG kindG (consG kindG (consG numG (consG textG unitG))))
abbrev cmpsG:In→List T96D×In:=listG cmp1G
abbrev op1G:In→T48D×In:=consG kindG (consG textG (consG textG (consG textG (consG numG unitG))))
abbrev opsG:In→List T48D×In:=listG op1G
noncomputable abbrev cmdG:In→T28D×In:=consG kindG (consG textG (consG textG (consG textG (consG numG (consG numG (consG numG (consG cmpsG (consG opsG (consG opsG (consG numG (consG numG (consG numG (consG flagG (consG itemsG (consG sessG (consG leasesG unitG))))))))))))))))
abbrev NoMove:T53D:=(0,0,0,[],[],0,[],0,0,0,())
abbrev NoHand:T55D:=(0,0,[],[],())
end Go.Proofs.YtpfjaaofpcbejaaGreat
