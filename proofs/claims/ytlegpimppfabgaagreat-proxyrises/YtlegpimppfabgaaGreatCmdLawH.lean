/-
 Plain laws of what lies below,as this seat reaches them (by a program of the bench: port.py).
-/
import Derived.Test.YtlegpimppfabgaaGreatCmdLawG
import Derived.Test.YtlegpimppfabgaaGreatSxS
namespace Go.Proofs.YtlegpimppfabgaaGreat
open Go.Sx Go Classical
set_option maxRecDepth 10000
theorem kQ {α:Type} {l:List α} (h:l.length≤140737488351232):Sh l:=Nat.le_trans h (by omega)
theorem Jh {r:dh} (h:gJ T51 r):yU r:=by
 obtain⟨-,-,-,-,⟨h1,h2⟩,-⟩:=h;exact⟨kQ h1,fun x hx=>(h2 x hx).1⟩
theorem SE {l:List dw} (h:gJ (.slice T94) l):zk l:=⟨kQ h.1,fun s hs=>Jh (h.2 s hs).2.2.1⟩
theorem SH {l:List dw} (h:gJ (.slice T94) l):ShS l:=⟨kQ h.1,fun s hs=>(Jh (h.2 s hs).2.2.1).1⟩
theorem DC {c:aJ} (h:gJ T28 c):ng c:=by
 obtain⟨k,a2,a3,a4,a5,a6,a7,a8,a9,a10,a11,a12,a13,a14,a15,a16,a17,⟨⟩⟩:=c;obtain⟨-,h2,h3,-,-,-,-,h8,h9,h10,-,-,-,-,h15,h16,h17,-⟩:=h;refine⟨⟨kQ h8.1,kQ h9.1,kQ h10.1,kQ h15.1,SH h16,kQ h17.1⟩,⟨h8.1,h9.1,h10.1,h16.1,h17.1⟩,h2,h3,fun x hx=>(h8.2 x hx).1,fun o ho=> ?_,fun o ho=> ?_,⟨kQ h15.1,fun x hx=>(h15.2 x hx).1⟩,SE h16⟩
 ·obtain⟨-,g1,g2,g3,-⟩:=h9.2 o ho;exact⟨g1,g2,g3⟩
 ·obtain⟨-,g1,g2,g3,-⟩:=h10.2 o ho;exact⟨g1,g2,g3⟩
theorem zcN {c:gz} (h:gJ T55 c):JW c∧ShH c:=by
 obtain⟨a1,a2,a3,a4,⟨⟩⟩:=c;obtain⟨-,-,h3,h4,-⟩:=h;exact⟨⟨SE h3,kQ h4.1⟩,SH h3,kQ h4.1⟩
theorem zcM {m:jo} (h:gJ T53 m):JV m:=by
 obtain⟨a1,a2,a3,a4,a5,a6,a7,a8,a9,a10,⟨⟩⟩:=m;obtain⟨-,-,-,h4,h5,-,h7,-⟩:=h;exact⟨h4,h5,h7⟩
abbrev fB:aJ:=(0,[],[],[],0,0,0,[],[],[],0,0,0,false,[],[],[],())
abbrev gI:lK:=(0,0,fB,())
end Go.Proofs.YtlegpimppfabgaaGreat
