/-
 Plain laws of what lies below,as this seat reaches them (by a program of the bench: port.py).
-/
import Derived.Test.YteebpcpkhojfkaaGreatCmdLawE
import Derived.Test.YteebpcpkhojfkaaGreatSxS
namespace Go.Proofs.YteebpcpkhojfkaaGreat
open Go.Sx Go Classical
set_option maxRecDepth 10000
def su (l:List aO):Prop:=Sh l∧∀ x∈l,St x.1
theorem zcj (c:bn) (hz:su c.2.2.2.2.2.2.2.2.2.2.2.2.2.2.1) (hk:St c.2.1) (he:St c.2.2.1):BU (c,())=some (dec' (uU c),()):=by
 obtain⟨a1,k,en,a4,a5,a6,a7,a8,a9,a10,a11,a12,a13,a14,l,a16,a17,⟨⟩⟩:=c;obtain⟨hl,hs⟩:Sh l∧∀ x∈l,St x.1:=hz;have hk:St k:=hk;have he:St en:=he;unfold BU;refine fin (jP l hl (fun i v=>IsKey v.1∧dU v.2.1∧v.2.1.2.2.2.2.2.2.1=false∧∀ w,0<i→l[i-1]? = some w→aY w.1 v.1=true) ((k=[]∨IsKey k)∧(en=[]∨IsKey en)∧l.length≤8) (fun i v hi hv=> ?_) ?_) ?_
 ·have hi':i<9223372036854775807:=by unfold Sh at hl;omega
  have hr:jI v.2=_:=xu v.2.1;have hk1:=jM v.1 (hs v (List.mem_of_getElem? hv));rcases Nat.eq_zero_or_pos i with h0|h0
  ·have e0:decide ((0:Int)<(i:Int))=false:=decide_eq_false (by omega);have hp:(∀ w,0<i→l[i-1]? = some w→aY w.1 v.1=true)=True:=propext (oH (l:=l) h0 (fun w=>aY w.1 v.1=true));simp only[hp];simp only[aB,hi,decide_true,cond_true,aP,hv,Option.bind_some,aT hi',e0,cond_false,hr,hk1];apply fV
   ·repeat' first|apply fO|apply fJ|apply fU|apply fP|apply fQ
   ·grind
  ·obtain⟨u,hu⟩:∃ u,l[i-1]? = some u:=⟨_,List.getElem?_eq_getElem (show i-1<l.length by omega)⟩
   have e0:decide ((0:Int)<(i:Int))=true:=decide_eq_true (by omega);have hp:(∀ w,0<i→l[i-1]? = some w→aY w.1 v.1=true)=(aY u.1 v.1=true):=propext (oM h0 hu (fun w=>aY w.1 v.1=true));simp only[hp];simp only[aB,hi,decide_true,cond_true,aP,hv,Option.bind_some,aT hi',e0,oQ h0 hi',hu,hr,hk1];apply fV
   ·repeat' first|apply fO|apply fJ|apply fU|apply fP|apply fQ
   ·grind
 ·simp only[aB,Nat.lt_irrefl,decide_false,cond_false,jM k hk,jM en he,Option.bind_some];refine(congrArg (Option.map Sum.inr) (?_:_=some (dec' ((k=[]∨IsKey k)∧(en=[]∨IsKey en)∧l.length≤8),()))).trans rfl;apply fin
  ·repeat' first|apply cO|apply bW|apply cZ|apply cu|apply eQ
  ·simp only[Int.ofNat_eq_natCast];by_cases c1:k=[]<;>by_cases c2:en=[]<;>grind
 ·unfold uU EX;grind
theorem zci (c:bn) (hz:su c.2.2.2.2.2.2.2.2.2.2.2.2.2.2.1):BR (c,())=some (dec' (Aj c),()):=by
 obtain⟨a1,k,en,a4,a5,a6,rev,a8,a9,a10,a11,a12,to,a14,l,a16,a17,⟨⟩⟩:=c;obtain⟨hl,hs⟩:Sh l∧∀ x∈l,St x.1:=hz;unfold BR;refine fin (jP l hl (fun i v=>IsKey v.1∧dU v.2.1∧rev<v.2.1.1∧v.2.1.1≤to∧∀ w,0<i→l[i-1]? = some w→w.2.1.1≤v.2.1.1∧(w.2.1.1=v.2.1.1→aY w.1 v.1=true)) (bI rev∧bI to∧rev<to∧l.length≤64) (fun i v hi hv=> ?_) ?_) ?_
 ·have hi':i<9223372036854775807:=by unfold Sh at hl;omega
  have hr:jI v.2=_:=xu v.2.1;have hk1:=jM v.1 (hs v (List.mem_of_getElem? hv));rcases Nat.eq_zero_or_pos i with h0|h0
  ·have e0:decide ((0:Int)<(i:Int))=false:=decide_eq_false (by omega);have hp:(∀ w,0<i→l[i-1]? = some w→w.2.1.1≤v.2.1.1∧(w.2.1.1=v.2.1.1→aY w.1 v.1=true))=True:=propext (oH (l:=l) h0 (fun w=>w.2.1.1≤v.2.1.1∧(w.2.1.1=v.2.1.1→aY w.1 v.1=true)));simp only[hp];simp only[aB,hi,decide_true,cond_true,aP,hv,Option.bind_some,aT hi',e0,cond_false,hr,hk1];apply fV
   ·repeat' first|apply fO|apply fJ|apply fU|apply fP|apply fQ
   ·grind
  ·obtain⟨u,hu⟩:∃ u,l[i-1]? = some u:=⟨_,List.getElem?_eq_getElem (show i-1<l.length by omega)⟩
   have e0:decide ((0:Int)<(i:Int))=true:=decide_eq_true (by omega);have hp:(∀ w,0<i→l[i-1]? = some w→w.2.1.1≤v.2.1.1∧(w.2.1.1=v.2.1.1→aY w.1 v.1=true))=(u.2.1.1≤v.2.1.1∧(u.2.1.1=v.2.1.1→aY u.1 v.1=true)):=propext (oM h0 hu (fun w=>w.2.1.1≤v.2.1.1∧(w.2.1.1=v.2.1.1→aY w.1 v.1=true)));simp only[hp];simp only[aB,hi,decide_true,cond_true,aP,hv,Option.bind_some,aT hi',e0,oQ h0 hi',hu,hr,hk1];apply fV
   ·repeat' first|apply fO|apply fJ|apply fU|apply fP|apply fQ
   ·grind
 ·simp only[aB,Nat.lt_irrefl,decide_false,cond_false,rX,Option.bind_some];refine(congrArg (Option.map Sum.inr) (?_:_=some (dec' (bI rev∧bI to∧rev<to∧l.length≤64),()))).trans rfl;apply fin
  ·repeat' first|apply cO|apply bW|apply cZ|apply cu|apply eQ
  ·simp only[Int.ofNat_eq_natCast];grind
 ·unfold Aj ET;grind
theorem RD (s:List aW) (l:List dm) (hs:ShS s) (hl:Sh l):yH (s,l,())=some (dec' (qJ s 15∧xm l),()):=by
 unfold yH;simp only[zdg s 15 hs,zbB l hl,Option.bind_some];apply fin
 ·repeat' first|apply cO|apply bW|apply cZ|apply cu|apply eQ
 ·grind
def iJ (c:bn):Prop:=
 (c.1=1∧IsKey c.2.1∧c.2.2.2.1.length≤40∧dH c.2.2.2.2.1)∨(c.1=2∧lH c.2.1 c.2.2.1)∨(c.1=3∧uY c.2.2.2.2.2.2.2.1∧mY c.2.2.2.2.2.2.2.2.1∧mY c.2.2.2.2.2.2.2.2.2.1)∨
 (c.1=4∧bI c.2.2.2.2.2.2.1)∨(c.1=5∧bI c.2.2.2.2.1∧1≤c.2.2.2.2.2.1∧c.2.2.2.2.2.1≤1000)∨((c.1=6∨c.1=7)∧bI c.2.2.2.2.1)∨c.1=8∨(c.1=9∧c.2.2.2.2.1≠0∧ -1099511627776≤c.2.2.2.2.1∧c.2.2.2.2.1≤1099511627776)∨
 (bI c.2.2.2.2.2.2.2.2.2.2.1∧((c.1=10∧lT c.2.1)∨c.1=11∨c.1=16∨(bI c.2.2.2.2.2.2.2.2.2.2.2.1∧((c.1=12∧bI c.2.2.2.2.2.2.1∧lT c.2.1∧lT c.2.2.1)∨(c.1=13∧uU c)∨(c.1=14∧Aj c)∨
  (c.1=15∧bI c.2.2.2.2.2.2.1∧qJ c.2.2.2.2.2.2.2.2.2.2.2.2.2.2.2.1 15∧xm c.2.2.2.2.2.2.2.2.2.2.2.2.2.2.2.2.1)))))
def kT (c:bn):Prop:=sH True c∧iJ c
theorem zdR (c:bn) (hc:ShC c):Gn (c,())=some (dec' (uY c.2.2.2.2.2.2.2.1∧mY c.2.2.2.2.2.2.2.2.1∧mY c.2.2.2.2.2.2.2.2.2.1),()):=by
 obtain⟨h8,h9,h10,h15,h16,h17⟩:=hc;unfold Gn;simp only[zaZ _ h8,U0 _ h9,U0 _ h10,Option.bind_some,Bool.not_not];apply fin
 ·repeat' first|apply cO|apply bW|apply cZ|apply cu|apply eQ
 ·unfold uY;simp only[Int.ofNat_eq_natCast];grind
theorem zbV (c:bn) (hc:ShC c) (h10:c.1<10):Gv (c,())=some (dec' (iJ c),()):=by
 have ht:=zdR c hc;obtain⟨k,a2,a3,a4,a5,a6,a7,a8,a9,a10,a11,a12,a13,a14,a15,a16,a17,⟨⟩⟩:=c;unfold Gv;simp only[put_eq,DW,ht,tV,mD,Option.bind_some];simp only at h10;rcases kinds k with h|h|h|h|h|h|h|h|h|h|h|h|h|h|h|h|h
 iterate 9
  ·subst h;simp only[Int.reduceEq,decide_true,decide_false,cond_true,cond_false];apply fin
   ·repeat' first|apply cO|apply bW|apply cZ|apply cu|apply eQ
   ·simp only[iJ,Int.reduceEq,false_and,true_and,false_or,or_false,and_false,or_self]
    try grind
 iterate 7
  ·exact absurd h10 (by omega)
 ·have f:∀ n:Int,1≤n→n≤16→(k=n)=False:=fun n h1 h2=>eq_false (by omega);simp only[f 1 (by omega) (by omega),f 2 (by omega) (by omega),f 3 (by omega) (by omega),f 4 (by omega) (by omega),f 5 (by omega) (by omega),f 6 (by omega) (by omega),f 7 (by omega) (by omega),f 8 (by omega) (by omega),f 9 (by omega) (by omega),f 10 (by omega) (by omega),f 11 (by omega) (by omega),f 12 (by omega) (by omega),f 13 (by omega) (by omega),f 14 (by omega) (by omega),f 15 (by omega) (by omega),f 16 (by omega) (by omega),iJ,decide_false,cond_false,false_and,or_self,and_false]
theorem right_eq (c:bn) (hc:ShC c):GG (c,())=some (dec' (kT c),()):=by
 obtain⟨b,hb,hsb,hiff⟩:=zdy c hc;have hS:F76 (b,c,())=some (dec' (sH (c.1≤16) c),()):=fin (Ea b c hsb) hiff;clear hiff hsb;have hcl:=zbV c hc;have hpg:=zdl c hc.2.2.2.1;have htl:=zde c hc.2.2.2.1;have hhd:=RD c.2.2.2.2.2.2.2.2.2.2.2.2.2.2.2.1 c.2.2.2.2.2.2.2.2.2.2.2.2.2.2.2.2.1 hc.2.2.2.2.1 hc.2.2.2.2.2;obtain⟨k,a2,a3,a4,a5,a6,a7,a8,a9,a10,a11,a12,a13,a14,a15,a16,a17,⟨⟩⟩:=c;simp only at hcl hhd;unfold GG;simp only[hb,hS,tV,WR,pre_eq,hpg,htl,hhd,Option.bind_some];clear hb hS;unfold kT;rcases kinds k with h|h|h|h|h|h|h|h|h|h|h|h|h|h|h|h|h
 iterate 9
  ·subst h;rw[hcl (by omega)];simp only[Int.reduceEq,Int.reduceLT,Int.reduceLE,decide_true,decide_false,cond_true,cond_false,Option.bind_some];apply fin
   ·repeat' first|apply cO|apply bW|apply cZ|apply cu|apply eQ
   ·grind
 iterate 7
  ·subst h;simp only[Int.reduceEq,Int.reduceLT,Int.reduceLE,decide_true,decide_false,cond_true,cond_false];apply fin
   ·repeat' first|apply cO|apply bW|apply cZ|apply cu|apply eQ
   ·simp only[iJ,Int.reduceEq,false_and,true_and,false_or,or_false,and_false,or_self,ne_eq];grind
 ·have f:∀ n:Int,1≤n→n≤16→(k=n)=False:=fun n h1 h2=>eq_false (by omega);have hK:iJ (k,a2,a3,a4,a5,a6,a7,a8,a9,a10,a11,a12,a13,a14,a15,a16,a17,())=False:=by
   simp only[f 1 (by omega) (by omega),f 2 (by omega) (by omega),f 3 (by omega) (by omega),f 4 (by omega) (by omega),f 5 (by omega) (by omega),f 6 (by omega) (by omega),f 7 (by omega) (by omega),f 8 (by omega) (by omega),f 9 (by omega) (by omega),f 10 (by omega) (by omega),f 11 (by omega) (by omega),f 12 (by omega) (by omega),f 13 (by omega) (by omega),f 14 (by omega) (by omega),f 15 (by omega) (by omega),f 16 (by omega) (by omega),iJ,false_and,or_self,and_false]
  rw[hK] at hcl ⊢;by_cases h9:k<10
  ·rw[hcl h9];simp only[h9,decide_true,cond_true];apply fin
   ·repeat' first|apply cO|apply bW|apply cZ|apply cu|apply eQ
   ·grind
  ·simp only[h9,decide_false,cond_false,f 10 (by omega) (by omega),f 11 (by omega) (by omega),f 12 (by omega) (by omega),f 13 (by omega) (by omega),f 14 (by omega) (by omega),f 15 (by omega) (by omega),f 16 (by omega) (by omega)];apply fin
   ·repeat' first|apply cO|apply bW|apply cZ|apply cu|apply eQ
   ·grind
def yj (c:bn):Prop:=ShC c∧LnC c∧St c.2.1∧St c.2.2.1∧(∀ x∈c.2.2.2.2.2.2.2.1,St x.1)∧(∀ o∈c.2.2.2.2.2.2.2.2.1,vZ o)∧(∀ o∈c.2.2.2.2.2.2.2.2.2.1,vZ o)∧su c.2.2.2.2.2.2.2.2.2.2.2.2.2.2.1∧Am c.2.2.2.2.2.2.2.2.2.2.2.2.2.2.2.1
theorem RY {A B:Type} (b:Bool) (X Y:Option A) (f:A→Option B):Option.bind (bif b then X else Y) f=bif b then Option.bind X f else Option.bind Y f:=by cases b<;>rfl
theorem zbp (c:bn) (hc:yj c):G9 (c,())=some (dec' (kT c),()):=by
 obtain⟨h1,h2,h3,h4,h5,h6,h7,h8,h9⟩:=hc;have hb:=bare_eq c h2;have hpg:=zcj c h8 h3 h4;have htl:=zci c h8;have hcm:=zcl _ h1.1 h5;have ho1:=Us _ h1.2.1 h6;have ho2:=Us _ h1.2.2.1 h7;have hse:=SH _ 15 h9;have hle:=Qj _ h1.2.2.2.2.2;have hk:=jM c.2.1 h3;have hr:=CZ c.2.1 c.2.2.1 h3 h4;have hp1:=zO c.2.1 h3;have hp2:=zO c.2.2.1 h4;obtain⟨k,a2,a3,a4,a5,a6,a7,a8,a9,a10,a11,a12,a13,a14,a15,a16,a17,⟨⟩⟩:=c;simp only at hcm ho1 ho2 hse hle hk hr hp1 hp2;unfold G9;simp only[hb,rX,yV,nz,hpg,htl,hcm,ho1,ho2,hse,hle,hk,hr,hp1,hp2,Option.bind_some];unfold kT;by_cases hB:sH True (k,a2,a3,a4,a5,a6,a7,a8,a9,a10,a11,a12,a13,a14,a15,a16,a17,())
 ·simp only[hB,true_and,bP trivial,Bool.not_true,cond_false];by_cases hE:bI a11<;>by_cases hT:bI a12
  all_goals
   rcases kinds k with h|h|h|h|h|h|h|h|h|h|h|h|h|h|h|h|h
   iterate 16
    ·subst h;simp only[hE,hT,RY,Int.reduceEq,Int.reduceLE,decide_true,decide_false,cond_true,cond_false,Bool.not_true,Bool.not_false,Option.bind_some,Sum.elim_inl,Sum.elim_inr]
     try
      apply fin
      ·repeat' first|apply cO|apply bW|apply cZ|apply cu|apply eQ
      ·simp only[iJ,Int.reduceEq,false_and,true_and,false_or,or_false,and_false,or_self,ne_eq,hE,hT]
       try grind
   ·have f:∀ n:Int,1≤n→n≤16→(k=n)=False:=fun n h1 h2=>eq_false (by omega);have hK:iJ (k,a2,a3,a4,a5,a6,a7,a8,a9,a10,a11,a12,a13,a14,a15,a16,a17,())=False:=by
     simp only[f 1 (by omega) (by omega),f 2 (by omega) (by omega),f 3 (by omega) (by omega),f 4 (by omega) (by omega),f 5 (by omega) (by omega),f 6 (by omega) (by omega),f 7 (by omega) (by omega),f 8 (by omega) (by omega),f 9 (by omega) (by omega),f 10 (by omega) (by omega),f 11 (by omega) (by omega),f 12 (by omega) (by omega),f 13 (by omega) (by omega),f 14 (by omega) (by omega),f 15 (by omega) (by omega),f 16 (by omega) (by omega),iJ,false_and,or_self,and_false]
    rw[hK];simp only[hE,hT,RY,f 1 (by omega) (by omega),f 2 (by omega) (by omega),f 3 (by omega) (by omega),f 4 (by omega) (by omega),f 5 (by omega) (by omega),f 6 (by omega) (by omega),f 7 (by omega) (by omega),f 8 (by omega) (by omega),f 9 (by omega) (by omega),f 10 (by omega) (by omega),f 11 (by omega) (by omega),f 12 (by omega) (by omega),f 13 (by omega) (by omega),f 14 (by omega) (by omega),f 15 (by omega) (by omega),f 16 (by omega) (by omega),decide_true,decide_false,cond_true,cond_false,Bool.not_true,Bool.not_false,Option.bind_some,Sum.elim_inl,Sum.elim_inr];cases decide (10≤k)<;>cases decide (12≤k)<;>cases decide (k≤15)<;>rfl
 ·simp only[hB,false_and];rw[bU (p:=False) id];simp only[Bool.not_false,cond_true,Option.bind_some,Sum.elim_inr]
def vO (j:ji):Prop:=kT j.2.2.1∧((j.1=0∧j.2.1=0∧8≤j.2.2.1.1)∨(1≤j.1∧j.1≤31∧bI j.2.1∧j.2.2.1.1<8))
theorem zei (j:ji) (hj:ShC j.2.2.1):F94 (j,())=some (dec' (vO j),()):=by
 obtain⟨cl,sq,c,⟨⟩⟩:=j;have hr:=right_eq c hj;unfold F94;simp only[hr,mD,tV,Option.bind_some];apply fin
 ·repeat' first|apply cO|apply bW|apply cZ|apply cu|apply eQ
 ·unfold vO;grind
theorem zdi (j:ji) (hj:yj j.2.2.1):F36 (j,())=some (dec' (vO j),()):=by
 obtain⟨cl,sq,c,⟨⟩⟩:=j;have hr:=zbp c hj;unfold F36;simp only[hr,nz,rX,Option.bind_some];apply fin
 ·repeat' first|apply cO|apply bW|apply cZ|apply cu|apply eQ
 ·unfold vO;grind
def qK (m:eX):Prop:=0≤m.1∧m.1≤4∧dH m.2.1∧dH m.2.2.1∧(m.2.2.2.1=[]∨lT m.2.2.2.1)∧(m.2.2.2.2.1=[]∨lT m.2.2.2.2.1)∧dH m.2.2.2.2.2.1∧(m.2.2.2.2.2.2.1=[]∨IsKey m.2.2.2.2.2.2.1)∧dH m.2.2.2.2.2.2.2.1∧dH m.2.2.2.2.2.2.2.2.1∧dH m.2.2.2.2.2.2.2.2.2.1
def Ez (m:eX):Prop:=St m.2.2.2.1∧St m.2.2.2.2.1∧St m.2.2.2.2.2.2.1
theorem zcz (s:List UInt8):AY (s,())=some (dec' (s=[]∨lT s),()):=by
 unfold AY;simp only[pre_eq,Option.bind_some];apply fin
 ·repeat' first|apply cO|apply bW|apply cZ|apply cu|apply eQ
 ·grind
theorem zcy (s:List UInt8):E8 (s,())=some (dec' (s=[]∨IsKey s),()):=by
 unfold E8;simp only[mO,Option.bind_some];apply fin
 ·repeat' first|apply cO|apply bW|apply cZ|apply cu|apply eQ
 ·grind
theorem zdt (m:eX):yL (m,())=some (dec' (qK m),()):=by
 obtain⟨a1,a2,a3,a4,a5,a6,a7,a8,a9,a10,⟨⟩⟩:=m;unfold yL;simp only[nat6,zcz,zcy,Option.bind_some];apply fin
 ·repeat' first|apply cO|apply bW|apply cZ|apply cu|apply eQ
 ·unfold qK;grind
theorem SK (m:eX) (hm:Ez m):F45 (m,())=some (dec' (qK m),()):=by
 obtain⟨a1,a2,a3,a4,a5,a6,a7,a8,a9,a10,⟨⟩⟩:=m;obtain⟨h4,h5,h7⟩:=hm;unfold F45;simp only[nz,yV,zO a4 h4,zO a5 h5,jM a7 h7,Option.bind_some];apply fin
 ·repeat' first|apply cO|apply bW|apply cZ|apply cu|apply eQ
 ·unfold qK;by_cases c1:a4=[]<;>by_cases c2:a5=[]<;>by_cases c3:a7=[]<;>grind
def lL (h:dD):Prop:=bI h.1∧dH h.2.1∧qJ h.2.2.1 15∧xm h.2.2.2.1
def EC (h:dD):Prop:=Am h.2.2.1∧Sh h.2.2.2.1
theorem zdA (h:dD) (hh:ShH h):yM (h,())=some (dec' (lL h),()):=by
 obtain⟨a1,a2,a3,a4,⟨⟩⟩:=h;have e:=RD a3 a4 hh.1 hh.2;unfold yM;simp only[tV,Xn,e,Option.bind_some];apply fin
 ·repeat' first|apply cO|apply bW|apply cZ|apply cu|apply eQ
 ·unfold lL;grind
theorem SL (h:dD) (hh:EC h):F44 (h,())=some (dec' (lL h),()):=by
 obtain⟨a1,a2,a3,a4,⟨⟩⟩:=h;have e1:=SH a3 15 hh.1;have e2:=Qj a4 hh.2;unfold F44;simp only[rX,yV,e1,e2,Option.bind_some];apply fin
 ·repeat' first|apply cO|apply bW|apply cZ|apply cu|apply eQ
 ·unfold lL;grind
end Go.Proofs.YteebpcpkhojfkaaGreat
