/-
 Plain laws of what lies below,as this seat reaches them (by a program of the bench: port.py).
-/
import Derived.Test.YtlegpimppfabgaaGreatCmdLawG
import Derived.Test.YtlegpimppfabgaaGreatSxS
namespace Go.Proofs.YtlegpimppfabgaaGreat
open Go.Sx Go Classical
set_option maxRecDepth 10000
theorem jk {α:Type} {l:List α} (h:l.length≤140737488351232):Sh l:=Nat.le_trans h (by omega)
theorem Es {r:fG} (h:fE T51 r):EJ r:=by
 obtain⟨-,-,-,-,⟨h1,h2⟩,-⟩:=h
 exact⟨jk h1,fun x hx=>(h2 x hx).1⟩
theorem MV {l:List dJ} (h:fE (.slice T94) l):Fb l:=⟨jk h.1,fun s hs=>Es (h.2 s hs).2.2.1⟩
theorem MX {l:List dJ} (h:fE (.slice T94) l):ShS l:=⟨jk h.1,fun s hs=>(Es (h.2 s hs).2.2.1).1⟩
theorem NJ {c:bi} (h:fE T28 c):Oy c:=by
 obtain⟨k,a2,a3,a4,a5,a6,a7,a8,a9,a10,a11,a12,a13,a14,a15,a16,a17,⟨⟩⟩:=c
 obtain⟨-,h2,h3,-,-,-,-,h8,h9,h10,-,-,-,-,h15,h16,h17,-⟩:=h
 refine⟨⟨jk h8.1,jk h9.1,jk h10.1,jk h15.1,MX h16,jk h17.1⟩,⟨h8.1,h9.1,h10.1,h16.1,h17.1⟩,h2,h3,fun x hx=>(h8.2 x hx).1,fun o ho=> ?_,fun o ho=> ?_,⟨jk h15.1,fun x hx=>(h15.2 x hx).1⟩,MV h16⟩
 ·obtain⟨-,g1,g2,g3,-⟩:=h9.2 o ho
  exact⟨g1,g2,g3⟩
 ·obtain⟨-,g1,g2,g3,-⟩:=h10.2 o ho
  exact⟨g1,g2,g3⟩
theorem zel {c:iV} (h:fE T55 c):NG c∧ShH c:=by
 obtain⟨a1,a2,a3,a4,⟨⟩⟩:=c
 obtain⟨-,-,h3,h4,-⟩:=h
 exact⟨⟨MV h3,jk h4.1⟩,MX h3,jk h4.1⟩
theorem zek {m:bg} (h:fE T53 m):NF m:=by
 obtain⟨a1,a2,a3,a4,a5,a6,a7,a8,a9,a10,⟨⟩⟩:=m
 obtain⟨-,-,-,h4,h5,-,h7,-⟩:=h
 exact⟨h4,h5,h7⟩
abbrev oH:bi:=(0,[],[],[],0,0,0,[],[],[],0,0,0,false,[],[],[],())
abbrev jJ:uA:=(0,0,oH,())
end Go.Proofs.YtlegpimppfabgaaGreat
