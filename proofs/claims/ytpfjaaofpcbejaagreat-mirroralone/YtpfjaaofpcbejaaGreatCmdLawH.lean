/-
 Plain laws of what lies below,as this seat reaches them (by a program of the bench: port.py).
-/
import Derived.Test.YtpfjaaofpcbejaaGreatCmdLawG
import Derived.Test.YtpfjaaofpcbejaaGreatSxS
namespace Go.Proofs.YtpfjaaofpcbejaaGreat
open Go.Sx Go Classical
set_option maxRecDepth 10000
theorem zeI {α:Type} {l:List α} (h:l.length≤140737488351232):Sh l:=Nat.le_trans h (by omega)
theorem zkj {r:T51D} (h:zc4 T51 r):ziJ r:=by
 obtain⟨-,-,-,-,⟨h1,h2⟩,-⟩:=h
 exact⟨zeI h1,fun x hx=>(h2 x hx).1⟩
theorem zug {l:List T94D} (h:zc4 (.slice T94) l):zj9 l:=⟨zeI h.1,fun s hs=>zkj (h.2 s hs).2.2.1⟩
theorem zuj {l:List T94D} (h:zc4 (.slice T94) l):ShS l:=⟨zeI h.1,fun s hs=>(zkj (h.2 s hs).2.2.1).1⟩
theorem zyp {c:T28D} (h:zc4 T28 c):znh c:=by
 obtain⟨k,a2,a3,a4,a5,a6,a7,a8,a9,a10,a11,a12,a13,a14,a15,a16,a17,⟨⟩⟩:=c
 obtain⟨-,h2,h3,-,-,-,-,h8,h9,h10,-,-,-,-,h15,h16,h17,-⟩:=h
 refine⟨⟨zeI h8.1,zeI h9.1,zeI h10.1,zeI h15.1,zuj h16,zeI h17.1⟩,⟨h8.1,h9.1,h10.1,h16.1,h17.1⟩,h2,h3,fun x hx=>(h8.2 x hx).1,fun o ho=> ?_,fun o ho=> ?_,⟨zeI h15.1,fun x hx=>(h15.2 x hx).1⟩,zug h16⟩
 ·obtain⟨-,g1,g2,g3,-⟩:=h9.2 o ho
  exact⟨g1,g2,g3⟩
 ·obtain⟨-,g1,g2,g3,-⟩:=h10.2 o ho
  exact⟨g1,g2,g3⟩
theorem zwk {c:T55D} (h:zc4 T55 c):zqQ c∧ShH c:=by
 obtain⟨a1,a2,a3,a4,⟨⟩⟩:=c
 obtain⟨-,-,h3,h4,-⟩:=h
 exact⟨⟨zug h3,zeI h4.1⟩,zuj h3,zeI h4.1⟩
theorem zwj {m:T53D} (h:zc4 T53 m):zhX m:=by
 obtain⟨a1,a2,a3,a4,a5,a6,a7,a8,a9,a10,⟨⟩⟩:=m
 obtain⟨-,-,-,h4,h5,-,h7,-⟩:=h
 exact⟨h4,h5,h7⟩
abbrev zwa:T28D:=(0,[],[],[],0,0,0,[],[],[],0,0,0,false,[],[],[],())
abbrev zef:T33D:=(0,0,zwa,())
end Go.Proofs.YtpfjaaofpcbejaaGreat
