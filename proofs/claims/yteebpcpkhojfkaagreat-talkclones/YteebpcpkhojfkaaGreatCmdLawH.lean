/-
 Plain laws of what lies below,as this seat reaches them (by a program of the bench: port.py).
-/
import Derived.Test.YteebpcpkhojfkaaGreatCmdLawG
import Derived.Test.YteebpcpkhojfkaaGreatSxS
namespace Go.Proofs.YteebpcpkhojfkaaGreat
open Go.Sx Go Classical
set_option maxRecDepth 10000
theorem zbN:fF T55 dX:=by simp[fF,IntKind.min,IntKind.max,IntKind.bits,IntKind.signed]
theorem kV {α:Type} {l:List α} (h:l.length≤140737488351232):Sh l:=Nat.le_trans h (by omega)
theorem JO {r:dG} (h:fF T51 r):zX r:=by
 obtain⟨-,-,-,-,⟨h1,h2⟩,-⟩:=h;exact⟨kV h1,fun x hx=>(h2 x hx).1⟩
theorem UU {l:List aW} (h:fF (.slice T94) l):Am l:=⟨kV h.1,fun s hs=>JO (h.2 s hs).2.2.1⟩
theorem UW {l:List aW} (h:fF (.slice T94) l):ShS l:=⟨kV h.1,fun s hs=>(JO (h.2 s hs).2.2.1).1⟩
theorem zey {c:bn} (h:fF T28 c):yj c:=by
 obtain⟨k,a2,a3,a4,a5,a6,a7,a8,a9,a10,a11,a12,a13,a14,a15,a16,a17,⟨⟩⟩:=c;obtain⟨-,h2,h3,-,-,-,-,h8,h9,h10,-,-,-,-,h15,h16,h17,-⟩:=h;refine⟨⟨kV h8.1,kV h9.1,kV h10.1,kV h15.1,UW h16,kV h17.1⟩,⟨h8.1,h9.1,h10.1,h16.1,h17.1⟩,h2,h3,fun x hx=>(h8.2 x hx).1,fun o ho=> ?_,fun o ho=> ?_,⟨kV h15.1,fun x hx=>(h15.2 x hx).1⟩,UU h16⟩
 ·obtain⟨-,g1,g2,g3,-⟩:=h9.2 o ho;exact⟨g1,g2,g3⟩
 ·obtain⟨-,g1,g2,g3,-⟩:=h10.2 o ho;exact⟨g1,g2,g3⟩
theorem Es {c:dD} (h:fF T55 c):EC c∧ShH c:=by
 obtain⟨a1,a2,a3,a4,⟨⟩⟩:=c;obtain⟨-,-,h3,h4,-⟩:=h;exact⟨⟨UU h3,kV h4.1⟩,UW h3,kV h4.1⟩
theorem zdU {m:eX} (h:fF T53 m):Ez m:=by
 obtain⟨a1,a2,a3,a4,a5,a6,a7,a8,a9,a10,⟨⟩⟩:=m;obtain⟨-,-,-,h4,h5,-,h7,-⟩:=h;exact⟨h4,h5,h7⟩
abbrev pR:ji→List UInt8:=aF ak (aF ak (aF vW dQ))
abbrev WN:bn:=(0,[],[],[],0,0,0,[],[],[],0,0,0,false,[],[],[],())
abbrev jC:ji:=(0,0,WN,())
end Go.Proofs.YteebpcpkhojfkaaGreat
