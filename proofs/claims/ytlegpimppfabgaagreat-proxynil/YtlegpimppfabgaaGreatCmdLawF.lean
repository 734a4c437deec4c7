/-
 Plain laws of what lies below,as this seat reaches them (by a program of the bench: port.py).
-/
import Derived.Test.YtlegpimppfabgaaGreatCmdLawE
import Derived.Test.YtlegpimppfabgaaGreatSxS
namespace Go.Proofs.YtlegpimppfabgaaGreat
open Go.Sx Go Classical
set_option maxRecDepth 10000
def zN (l:List af):Prop:=Sh l∧∀ x∈l,St x.1
theorem J9 (s:List dJ) (l:List aG) (hs:ShS s) (hl:Sh l):qV (s,l,())=some (dec' (qj s 15∧vW l),()):=by
 unfold qV
 simp only [zdF s 15 hs,zbs l hl,Option.bind_some]
 apply fin
 ·repeat' first | apply dE | apply dC | apply dF | apply dD | apply gq
 ·grind
def gV (c:bi):Prop:=
 (c.1=1∧IsKey c.2.1∧c.2.2.2.1.length≤40∧dH c.2.2.2.2.1)∨(c.1=2∧fM c.2.1 c.2.2.1)∨(c.1=3∧qm c.2.2.2.2.2.2.2.1∧jI c.2.2.2.2.2.2.2.2.1∧jI c.2.2.2.2.2.2.2.2.2.1)∨
 (c.1=4∧bQ c.2.2.2.2.2.2.1)∨(c.1=5∧bQ c.2.2.2.2.1∧1≤c.2.2.2.2.2.1∧c.2.2.2.2.2.1≤1000)∨((c.1=6∨c.1=7)∧bQ c.2.2.2.2.1)∨c.1=8∨(c.1=9∧c.2.2.2.2.1≠0∧ -1099511627776≤c.2.2.2.2.1∧c.2.2.2.2.1≤1099511627776)∨
 (bQ c.2.2.2.2.2.2.2.2.2.2.1∧((c.1=10∧nJ c.2.1)∨c.1=11∨c.1=16∨(bQ c.2.2.2.2.2.2.2.2.2.2.2.1∧((c.1=12∧bQ c.2.2.2.2.2.2.1∧nJ c.2.1∧nJ c.2.2.1)∨(c.1=13∧Ff c)∨(c.1=14∧Fa c)∨
  (c.1=15∧bQ c.2.2.2.2.2.2.1∧qj c.2.2.2.2.2.2.2.2.2.2.2.2.2.2.2.1 15∧vW c.2.2.2.2.2.2.2.2.2.2.2.2.2.2.2.2.1)))))
def gU (c:bi):Prop:=ng True c∧gV c
theorem zeh (c:bi) (hc:ShC c):yc (c,())=some (dec' (qm c.2.2.2.2.2.2.2.1∧jI c.2.2.2.2.2.2.2.2.1∧jI c.2.2.2.2.2.2.2.2.2.1),()):=by
 obtain⟨h8,h9,h10,h15,h16,h17⟩:=hc
 unfold yc
 simp only [ZC _ h8,Nc _ h9,Nc _ h10,Option.bind_some,Bool.not_not]
 apply fin
 ·repeat' first | apply dE | apply dC | apply dF | apply dD | apply gq
 ·unfold qm;simp only [Int.ofNat_eq_natCast];grind
theorem zbJ (c:bi) (hc:ShC c) (h10:c.1 < 10):yD (c,())=some (dec' (gV c),()):=by
 have ht:=zeh c hc
 obtain⟨k,a2,a3,a4,a5,a6,a7,a8,a9,a10,a11,a12,a13,a14,a15,a16,a17,⟨⟩⟩:=c
 unfold yD
 simp only [put_eq,pR,ht,oM,lF,Option.bind_some]
 simp only at h10
 rcases kinds k with h | h | h | h | h | h | h | h | h | h | h | h | h | h | h | h | h
 iterate 9
  ·subst h
   simp only [Int.reduceEq,decide_true,decide_false,cond_true,cond_false]
   apply fin
   ·repeat' first | apply dE | apply dC | apply dF | apply dD | apply gq
   ·simp only [gV,Int.reduceEq,false_and,true_and,false_or,or_false,and_false,or_self]
    try grind
 iterate 7
  ·exact absurd h10 (by omega)
 ·have f:∀ n:Int,1≤n→n≤16→(k=n)=False:=fun n h1 h2=>eq_false (by omega)
  simp only [f 1 (by omega) (by omega),f 2 (by omega) (by omega),f 3 (by omega) (by omega),f 4 (by omega) (by omega),f 5 (by omega) (by omega),f 6 (by omega) (by omega),f 7 (by omega) (by omega),f 8 (by omega) (by omega),f 9 (by omega) (by omega),f 10 (by omega) (by omega),f 11 (by omega) (by omega),f 12 (by omega) (by omega),f 13 (by omega) (by omega),f 14 (by omega) (by omega),f 15 (by omega) (by omega),f 16 (by omega) (by omega),gV,decide_false,cond_false,false_and,or_self,and_false]
theorem right_eq (c:bi) (hc:ShC c):nP (c,())=some (dec' (gU c),()):=by
 obtain⟨b,hb,hsb,hiff⟩:=zdY c hc
 have hS:pg (b,c,())=some (dec' (ng (c.1≤16) c),()):=fin (Ei b c hsb) hiff
 clear hiff hsb
 have hcl:=zbJ c hc
 have hpg:=zdN c hc.2.2.2.1
 have htl:=zdD c hc.2.2.2.1
 have hhd:=J9 c.2.2.2.2.2.2.2.2.2.2.2.2.2.2.2.1 c.2.2.2.2.2.2.2.2.2.2.2.2.2.2.2.2.1 hc.2.2.2.2.1 hc.2.2.2.2.2
 obtain⟨k,a2,a3,a4,a5,a6,a7,a8,a9,a10,a11,a12,a13,a14,a15,a16,a17,⟨⟩⟩:=c
 simp only at hcl hhd
 unfold nP
 simp only [hb,hS,oM,Qi,pre_eq,hpg,htl,hhd,Option.bind_some]
 clear hb hS
 unfold gU
 rcases kinds k with h | h | h | h | h | h | h | h | h | h | h | h | h | h | h | h | h
 iterate 9
  ·subst h
   rw [hcl (by omega)]
   simp only [Int.reduceEq,Int.reduceLT,Int.reduceLE,decide_true,decide_false,cond_true,cond_false,Option.bind_some]
   apply fin
   ·repeat' first | apply dE | apply dC | apply dF | apply dD | apply gq
   ·grind
 iterate 7
  ·subst h
   simp only [Int.reduceEq,Int.reduceLT,Int.reduceLE,decide_true,decide_false,cond_true,cond_false]
   apply fin
   ·repeat' first | apply dE | apply dC | apply dF | apply dD | apply gq
   ·simp only [gV,Int.reduceEq,false_and,true_and,false_or,or_false,and_false,or_self,ne_eq]
    grind
 ·have f:∀ n:Int,1≤n→n≤16→(k=n)=False:=fun n h1 h2=>eq_false (by omega)
  have hK:gV (k,a2,a3,a4,a5,a6,a7,a8,a9,a10,a11,a12,a13,a14,a15,a16,a17,())=False:=by
   simp only [f 1 (by omega) (by omega),f 2 (by omega) (by omega),f 3 (by omega) (by omega),f 4 (by omega) (by omega),f 5 (by omega) (by omega),f 6 (by omega) (by omega),f 7 (by omega) (by omega),f 8 (by omega) (by omega),f 9 (by omega) (by omega),f 10 (by omega) (by omega),f 11 (by omega) (by omega),f 12 (by omega) (by omega),f 13 (by omega) (by omega),f 14 (by omega) (by omega),f 15 (by omega) (by omega),f 16 (by omega) (by omega),gV,false_and,or_self,and_false]
  rw [hK] at hcl ⊢
  by_cases h9:k < 10
  ·rw [hcl h9]
   simp only [h9,decide_true,cond_true]
   apply fin
   ·repeat' first | apply dE | apply dC | apply dF | apply dD | apply gq
   ·grind
  ·simp only [h9,decide_false,cond_false,f 10 (by omega) (by omega),f 11 (by omega) (by omega),f 12 (by omega) (by omega),f 13 (by omega) (by omega),f 14 (by omega) (by omega),f 15 (by omega) (by omega),f 16 (by omega) (by omega)]
   apply fin
   ·repeat' first | apply dE | apply dC | apply dF | apply dD | apply gq
   ·grind
def Oy (c:bi):Prop:=ShC c∧LnC c∧St c.2.1∧St c.2.2.1∧(∀ x∈c.2.2.2.2.2.2.2.1,St x.1)∧(∀ o∈c.2.2.2.2.2.2.2.2.1,QF o)∧(∀ o∈c.2.2.2.2.2.2.2.2.2.1,QF o)∧zN c.2.2.2.2.2.2.2.2.2.2.2.2.2.2.1∧Fb c.2.2.2.2.2.2.2.2.2.2.2.2.2.2.2.1
def xe (j:uA):Prop:=gU j.2.2.1∧((j.1=0∧j.2.1=0∧8≤j.2.2.1.1)∨(1≤j.1∧j.1≤31∧bQ j.2.1∧j.2.2.1.1 < 8))
theorem zeG (j:uA) (hj:ShC j.2.2.1):yx (j,())=some (dec' (xe j),()):=by
 obtain⟨cl,sq,c,⟨⟩⟩:=j
 have hr:=right_eq c hj
 unfold yx
 simp only [hr,lF,oM,Option.bind_some]
 apply fin
 ·repeat' first | apply dE | apply dC | apply dF | apply dD | apply gq
 ·unfold xe;grind
def Fg (m:bg):Prop:=0≤m.1∧m.1≤4∧dH m.2.1∧dH m.2.2.1∧(m.2.2.2.1=[]∨nJ m.2.2.2.1)∧(m.2.2.2.2.1=[]∨nJ m.2.2.2.2.1)∧dH m.2.2.2.2.2.1∧(m.2.2.2.2.2.2.1=[]∨IsKey m.2.2.2.2.2.2.1)∧dH m.2.2.2.2.2.2.2.1∧dH m.2.2.2.2.2.2.2.2.1∧dH m.2.2.2.2.2.2.2.2.2.1
def NF (m:bg):Prop:=St m.2.2.2.1∧St m.2.2.2.2.1∧St m.2.2.2.2.2.2.1
theorem zc2 (s:List UInt8):uj (s,())=some (dec' (s=[]∨nJ s),()):=by
 unfold uj
 simp only [pre_eq,Option.bind_some]
 apply fin
 ·repeat' first | apply dE | apply dC | apply dF | apply dD | apply gq
 ·grind
theorem zc1 (s:List UInt8):xm (s,())=some (dec' (s=[]∨IsKey s),()):=by
 unfold xm
 simp only [iI,Option.bind_some]
 apply fin
 ·repeat' first | apply dE | apply dC | apply dF | apply dD | apply gq
 ·grind
theorem zdS (m:bg):yl (m,())=some (dec' (Fg m),()):=by
 obtain⟨a1,a2,a3,a4,a5,a6,a7,a8,a9,a10,⟨⟩⟩:=m
 unfold yl
 simp only [nat6,zc2,zc1,Option.bind_some]
 apply fin
 ·repeat' first | apply dE | apply dC | apply dF | apply dD | apply gq
 ·unfold Fg;grind
def zX (h:iV):Prop:=bQ h.1∧dH h.2.1∧qj h.2.2.1 15∧vW h.2.2.2.1
def NG (h:iV):Prop:=Fb h.2.2.1∧Sh h.2.2.2.1
theorem zdZ (h:iV) (hh:ShH h):yt (h,())=some (dec' (zX h),()):=by
 obtain⟨a1,a2,a3,a4,⟨⟩⟩:=h
 have e:=J9 a3 a4 hh.1 hh.2
 unfold yt
 simp only [oM,QB,e,Option.bind_some]
 apply fin
 ·repeat' first | apply dE | apply dC | apply dF | apply dD | apply gq
 ·unfold zX;grind
end Go.Proofs.YtlegpimppfabgaaGreat
