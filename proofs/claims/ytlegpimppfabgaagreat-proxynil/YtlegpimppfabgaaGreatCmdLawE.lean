/-
 Plain laws of what lies below,as this seat reaches them (by a program of the bench: port.py).
-/
import Derived.Test.YtlegpimppfabgaaGreatCmdLawD
import Derived.Test.YtlegpimppfabgaaGreatSxS
namespace Go.Proofs.YtlegpimppfabgaaGreat
open Go.Sx Go Classical
set_option maxRecDepth 10000
def ng (top:Prop) (c:bi):Prop:=
 (c.1=1∨c.1=2∨c.1=10∨c.1=12∨c.1=13∨c.2.1=[])∧(c.1=2∨c.1=12∨c.1=13∨c.2.2.1=[])∧(c.1=1∨c.2.2.2.1=[])∧
 (c.1=1∨c.1=5∨c.1=6∨c.1=7∨c.1=9∨c.2.2.2.2.1=0)∧(c.1=5∨c.2.2.2.2.2.1=0)∧(c.1=4∨c.1=12∨c.1=14∨c.1=15∨c.2.2.2.2.2.2.1=0)∧
 (c.1=3∨(c.2.2.2.2.2.2.2.1=[]∧c.2.2.2.2.2.2.2.2.1=[]∧c.2.2.2.2.2.2.2.2.2.1=[]))∧((10≤c.1∧top)∨c.2.2.2.2.2.2.2.2.2.2.1=0)∧
 ((12≤c.1∧c.1≤15)∨c.2.2.2.2.2.2.2.2.2.2.2.1=0)∧(c.1=14∨c.2.2.2.2.2.2.2.2.2.2.2.2.1=0)∧(c.1=13∨c.2.2.2.2.2.2.2.2.2.2.2.2.2.1=false)∧
 (c.1=13∨c.1=14∨c.2.2.2.2.2.2.2.2.2.2.2.2.2.2.1=[])∧(c.1=15∨(c.2.2.2.2.2.2.2.2.2.2.2.2.2.2.2.1=[]∧c.2.2.2.2.2.2.2.2.2.2.2.2.2.2.2.2.1=[]))
theorem kinds (k:Int):k=1∨k=2∨k=3∨k=4∨k=5∨k=6∨k=7∨k=8∨k=9∨k=10∨k=11∨k=12∨k=13∨k=14∨k=15∨k=16∨(k < 1∨16 < k):=by omega
theorem zdY (c:bi) (hc:ShC c):∃ b,yE (c,())=some (b,())∧ShC b∧(b=c↔ng (c.1≤16) c):=by
 obtain⟨k,a2,a3,a4,a5,a6,a7,a8,a9,a10,a11,a12,a13,a14,a15,a16,a17,⟨⟩⟩:=c
 obtain⟨h8,h9,h10,h15,h16,h17⟩:=hc
 simp only at h8 h9 h10 h15 h16 h17
 have n96:Sh ([]:List aN):=by simp [Sh]
 have n48:Sh ([]:List au):=by simp [Sh]
 have n70:Sh ([]:List af):=by simp [Sh]
 have n113:Sh ([]:List aG):=by simp [Sh]
 have n94:ShS ([]:List dJ):=⟨by simp [Sh],fun s h=>by simp at h⟩
 rcases kinds k with h | h | h | h | h | h | h | h | h | h | h | h | h | h | h | h | h
 iterate 16
  ·subst h
   refine⟨_,rfl,⟨by assumption,by assumption,by assumption,by assumption,by assumption,by assumption⟩,?_⟩
   simp only [ng,Prod.mk.injEq]
   grind
 ·have e:∀ n:Int,1≤n→n≤16→decide (k=n)=false:=fun n h1 h2=>decide_eq_false (by omega)
  refine⟨(k,[],[],[],0,0,0,[],[],[],0,0,0,false,[],[],[],()),?_,⟨n96,n48,n48,n70,n94,n113⟩,?_⟩
  ·unfold yE yf
   simp only [e 1 (by omega) (by omega),e 2 (by omega) (by omega),e 3 (by omega) (by omega),e 4 (by omega) (by omega),e 5 (by omega) (by omega),e 6 (by omega) (by omega),e 7 (by omega) (by omega),e 9 (by omega) (by omega),e 10 (by omega) (by omega),e 11 (by omega) (by omega),e 12 (by omega) (by omega),e 13 (by omega) (by omega),e 14 (by omega) (by omega),e 15 (by omega) (by omega),e 16 (by omega) (by omega),cond_false,Option.bind_some,Sum.elim_inl,Sum.elim_inr]
  ·have f:∀ n:Int,1≤n→n≤16→(k=n)=False:=fun n h1 h2=>eq_false (by omega)
   have g1:(10≤k∧k≤16)=False:=eq_false (by omega)
   have g2:(12≤k∧k≤15)=False:=eq_false (by omega)
   simp only [ng,Prod.mk.injEq,g1,g2,f 1 (by omega) (by omega),f 2 (by omega) (by omega),f 3 (by omega) (by omega),f 5 (by omega) (by omega),f 4 (by omega) (by omega),f 6 (by omega) (by omega),f 7 (by omega) (by omega),f 9 (by omega) (by omega),f 10 (by omega) (by omega),f 12 (by omega) (by omega),f 13 (by omega) (by omega),f 14 (by omega) (by omega),f 15 (by omega) (by omega),false_or]
   grind
def LnC (c:bi):Prop:=c.2.2.2.2.2.2.2.1.length≤140737488351232∧c.2.2.2.2.2.2.2.2.1.length≤140737488351232∧c.2.2.2.2.2.2.2.2.2.1.length≤140737488351232∧c.2.2.2.2.2.2.2.2.2.2.2.2.2.2.2.1.length≤140737488351232∧c.2.2.2.2.2.2.2.2.2.2.2.2.2.2.2.2.1.length≤140737488351232
end Go.Proofs.YtlegpimppfabgaaGreat
