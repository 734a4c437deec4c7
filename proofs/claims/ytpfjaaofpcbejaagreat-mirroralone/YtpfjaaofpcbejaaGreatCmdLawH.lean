/-
 Plain laws of what lies below,as this seat reaches them (by a program of the bench: port.py).
-/
import Derived.Test.YtpfjaaofpcbejaaGreatCmdLawG
import Derived.Test.YtpfjaaofpcbejaaGreatSxS
namespace Go.Proofs.YtpfjaaofpcbejaaGreat
open Go.Sx Go Classical
set_option maxRecDepth 10000
theorem sh_of {α:Type} {l:List α} (h:l.length≤140737488351232):Sh l:=Nat.le_trans h (by omega)
theorem szReply {r:T51D} (h:Fit47 T51 r):SzReply r:=by
 obtain⟨-,-,-,-,⟨h1,h2⟩,-⟩:=h
 exact⟨sh_of h1,fun x hx=>(h2 x hx).1⟩
theorem szSess {l:List T94D} (h:Fit47 (.slice T94) l):SzSess l:=⟨sh_of h.1,fun s hs=>szReply (h.2 s hs).2.2.1⟩
theorem shSess {l:List T94D} (h:Fit47 (.slice T94) l):ShS l:=⟨sh_of h.1,fun s hs=>(szReply (h.2 s hs).2.2.1).1⟩
theorem szCmd {c:T28D} (h:Fit47 T28 c):SzCmd c:=by
 obtain⟨k,a2,a3,a4,a5,a6,a7,a8,a9,a10,a11,a12,a13,a14,a15,a16,a17,⟨⟩⟩:=c
 obtain⟨-,h2,h3,-,-,-,-,h8,h9,h10,-,-,-,-,h15,h16,h17,-⟩:=h
 refine⟨⟨sh_of h8.1,sh_of h9.1,sh_of h10.1,sh_of h15.1,shSess h16,sh_of h17.1⟩,⟨h8.1,h9.1,h10.1,h16.1,h17.1⟩,h2,h3,fun x hx=>(h8.2 x hx).1,fun o ho=> ?_,fun o ho=> ?_,⟨sh_of h15.1,fun x hx=>(h15.2 x hx).1⟩,szSess h16⟩
 ·obtain⟨-,g1,g2,g3,-⟩:=h9.2 o ho
  exact⟨g1,g2,g3⟩
 ·obtain⟨-,g1,g2,g3,-⟩:=h10.2 o ho
  exact⟨g1,g2,g3⟩
theorem szHand {c:T55D} (h:Fit47 T55 c):SzHand c∧ShH c:=by
 obtain⟨a1,a2,a3,a4,⟨⟩⟩:=c
 obtain⟨-,-,h3,h4,-⟩:=h
 exact⟨⟨szSess h3,sh_of h4.1⟩,shSess h3,sh_of h4.1⟩
theorem szMove {m:T53D} (h:Fit47 T53 m):SzMove m:=by
 obtain⟨a1,a2,a3,a4,a5,a6,a7,a8,a9,a10,⟨⟩⟩:=m
 obtain⟨-,-,-,h4,h5,-,h7,-⟩:=h
 exact⟨h4,h5,h7⟩
noncomputable abbrev jobG:In→T33D×In:=consG numG (consG numG (consG cmdG unitG))
abbrev NoCmd:T28D:=(0,[],[],[],0,0,0,[],[],[],0,0,0,false,[],[],[],())
abbrev NoJob:T33D:=(0,0,NoCmd,())
def Good (b:List UInt8):Prop:=b.length≤12000∧(jobG (b,false,())).2.2.1=false∧(jobG (b,false,())).2.1=[]∧JobOk (jobG (b,false,())).1
end Go.Proofs.YtpfjaaofpcbejaaGreat
