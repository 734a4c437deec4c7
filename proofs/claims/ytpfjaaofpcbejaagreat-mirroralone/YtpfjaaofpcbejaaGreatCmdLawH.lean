/-
 Plain laws of what lies below,as this seat reaches them (by a program of the bench: port.py).
-/
import Derived.Test.YtpfjaaofpcbejaaGreatCmdLawG
import Derived.Test.YtpfjaaofpcbejaaGreatSxS
namespace Go.Proofs.YtpfjaaofpcbejaaGreat
open Go.Sx Go Classical
set_option maxRecDepth 10000
theorem jS {α:Type} {l:List α} (h:l.length≤140737488351232):Sh l:=Nat.le_trans h (by omega)
theorem Gx {r:fM} (h:gI T51 r):Cc r:=by
 obtain⟨-,-,-,-,⟨h1,h2⟩,-⟩:=h
 exact⟨jS h1,fun x hx=>(h2 x hx).1⟩
theorem O9 {l:List dJ} (h:gI (.slice T94) l):yx l:=⟨jS h.1,fun s hs=>Gx (h.2 s hs).2.2.1⟩
theorem Ph {l:List dJ} (h:gI (.slice T94) l):ShS l:=⟨jS h.1,fun s hs=>(Gx (h.2 s hs).2.2.1).1⟩
theorem zi9 {c:bH} (h:gI T28 c):vC c:=by
 obtain⟨k,a2,a3,a4,a5,a6,a7,a8,a9,a10,a11,a12,a13,a14,a15,a16,a17,⟨⟩⟩:=c
 obtain⟨-,h2,h3,-,-,-,-,h8,h9,h10,-,-,-,-,h15,h16,h17,-⟩:=h
 refine⟨⟨jS h8.1,jS h9.1,jS h10.1,jS h15.1,Ph h16,jS h17.1⟩,⟨h8.1,h9.1,h10.1,h16.1,h17.1⟩,h2,h3,fun x hx=>(h8.2 x hx).1,fun o ho=> ?_,fun o ho=> ?_,⟨jS h15.1,fun x hx=>(h15.2 x hx).1⟩,O9 h16⟩
 ·obtain⟨-,g1,g2,g3,-⟩:=h9.2 o ho
  exact⟨g1,g2,g3⟩
 ·obtain⟨-,g1,g2,g3,-⟩:=h10.2 o ho
  exact⟨g1,g2,g3⟩
theorem ziw {c:dO} (h:gI T55 c):Hz c∧ShH c:=by
 obtain⟨a1,a2,a3,a4,⟨⟩⟩:=c
 obtain⟨-,-,h3,h4,-⟩:=h
 exact⟨⟨O9 h3,jS h4.1⟩,Ph h3,jS h4.1⟩
theorem ziv {m:aH} (h:gI T53 m):uP m:=by
 obtain⟨a1,a2,a3,a4,a5,a6,a7,a8,a9,a10,⟨⟩⟩:=m
 obtain⟨-,-,-,h4,h5,-,h7,-⟩:=h
 exact⟨h4,h5,h7⟩
abbrev Iz:bH:=(0,[],[],[],0,0,0,[],[],[],0,0,0,false,[],[],[],())
abbrev jc:mi:=(0,0,Iz,())
end Go.Proofs.YtpfjaaofpcbejaaGreat
