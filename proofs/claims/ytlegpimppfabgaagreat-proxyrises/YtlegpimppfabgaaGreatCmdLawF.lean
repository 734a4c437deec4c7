/-
 Plain laws of what lies below,as this seat reaches them (by a program of the bench: port.py).
-/
import Derived.Test.YtlegpimppfabgaaGreatCmdLawE
import Derived.Test.YtlegpimppfabgaaGreatSxS
namespace Go.Proofs.YtlegpimppfabgaaGreat
open Go.Sx Go Classical
set_option maxRecDepth 10000
def mG (l:List aX):Prop:=Sh l∧∀ x∈l,St x.1
theorem zaQ (c:aJ) (hz:mG c.2.2.2.2.2.2.2.2.2.2.2.2.2.2.1) (hk:St c.2.1) (he:St c.2.2.1):Bf (c,())=some (dec' (zn c),()):=by
 obtain⟨a1,k,en,a4,a5,a6,a7,a8,a9,a10,a11,a12,a13,a14,l,a16,a17,⟨⟩⟩:=c;obtain⟨hl,hs⟩:Sh l∧∀ x∈l,St x.1:=hz;have hk:St k:=hk;have he:St en:=he;unfold Bf;refine fin (jM l hl (fun i v=>IsKey v.1∧fP v.2.1∧v.2.1.2.2.2.2.2.2.1=false∧∀ w,0<i→l[i-1]? = some w→aU w.1 v.1=true) ((k=[]∨IsKey k)∧(en=[]∨IsKey en)∧l.length≤8) (fun i v hi hv=> ?_) ?_) ?_
 ·have hi':i<9223372036854775807:=by unfold Sh at hl;omega
  have hr:qB v.2=_:=CZ v.2.1;have hk1:=jg v.1 (hs v (List.mem_of_getElem? hv));rcases Nat.eq_zero_or_pos i with h0|h0
  ·have e0:decide ((0:Int)<(i:Int))=false:=decide_eq_false (by omega);have hp:(∀ w,0<i→l[i-1]? = some w→aU w.1 v.1=true)=True:=propext (nS (l:=l) h0 (fun w=>aU w.1 v.1=true));simp only[hp];simp only[ax,hi,decide_true,cond_true,aI,hv,Option.bind_some,aP hi',e0,cond_false,hr,hk1];apply gu
   ·repeat' first|apply fV|apply fO|apply gp|apply fZ|apply gm
   ·grind
  ·obtain⟨u,hu⟩:∃ u,l[i-1]? = some u:=⟨_,List.getElem?_eq_getElem (show i-1<l.length by omega)⟩
   have e0:decide ((0:Int)<(i:Int))=true:=decide_eq_true (by omega);have hp:(∀ w,0<i→l[i-1]? = some w→aU w.1 v.1=true)=(aU u.1 v.1=true):=propext (nX h0 hu (fun w=>aU w.1 v.1=true));simp only[hp];simp only[ax,hi,decide_true,cond_true,aI,hv,Option.bind_some,aP hi',e0,oh h0 hi',hu,hr,hk1];apply gu
   ·repeat' first|apply fV|apply fO|apply gp|apply fZ|apply gm
   ·grind
 ·simp only[ax,Nat.lt_irrefl,decide_false,cond_false,jg k hk,jg en he,Option.bind_some];refine(congrArg (Option.map Sum.inr) (?_:_=some (dec' ((k=[]∨IsKey k)∧(en=[]∨IsKey en)∧l.length≤8),()))).trans rfl;apply fin
  ·repeat' first|apply bV|apply bP|apply bW|apply bU|apply eU
  ·simp only[Int.ofNat_eq_natCast];by_cases c1:k=[]<;>by_cases c2:en=[]<;>grind
 ·unfold zn D7;grind
theorem zaP (c:aJ) (hz:mG c.2.2.2.2.2.2.2.2.2.2.2.2.2.2.1):Be (c,())=some (dec' (zh c),()):=by
 obtain⟨a1,k,en,a4,a5,a6,rev,a8,a9,a10,a11,a12,to,a14,l,a16,a17,⟨⟩⟩:=c;obtain⟨hl,hs⟩:Sh l∧∀ x∈l,St x.1:=hz;unfold Be;refine fin (jM l hl (fun i v=>IsKey v.1∧fP v.2.1∧rev<v.2.1.1∧v.2.1.1≤to∧∀ w,0<i→l[i-1]? = some w→w.2.1.1≤v.2.1.1∧(w.2.1.1=v.2.1.1→aU w.1 v.1=true)) (bz rev∧bz to∧rev<to∧l.length≤64) (fun i v hi hv=> ?_) ?_) ?_
 ·have hi':i<9223372036854775807:=by unfold Sh at hl;omega
  have hr:qB v.2=_:=CZ v.2.1;have hk1:=jg v.1 (hs v (List.mem_of_getElem? hv));rcases Nat.eq_zero_or_pos i with h0|h0
  ·have e0:decide ((0:Int)<(i:Int))=false:=decide_eq_false (by omega);have hp:(∀ w,0<i→l[i-1]? = some w→w.2.1.1≤v.2.1.1∧(w.2.1.1=v.2.1.1→aU w.1 v.1=true))=True:=propext (nS (l:=l) h0 (fun w=>w.2.1.1≤v.2.1.1∧(w.2.1.1=v.2.1.1→aU w.1 v.1=true)));simp only[hp];simp only[ax,hi,decide_true,cond_true,aI,hv,Option.bind_some,aP hi',e0,cond_false,hr,hk1];apply gu
   ·repeat' first|apply fV|apply fO|apply gp|apply fZ|apply gm
   ·grind
  ·obtain⟨u,hu⟩:∃ u,l[i-1]? = some u:=⟨_,List.getElem?_eq_getElem (show i-1<l.length by omega)⟩
   have e0:decide ((0:Int)<(i:Int))=true:=decide_eq_true (by omega);have hp:(∀ w,0<i→l[i-1]? = some w→w.2.1.1≤v.2.1.1∧(w.2.1.1=v.2.1.1→aU w.1 v.1=true))=(u.2.1.1≤v.2.1.1∧(u.2.1.1=v.2.1.1→aU u.1 v.1=true)):=propext (nX h0 hu (fun w=>w.2.1.1≤v.2.1.1∧(w.2.1.1=v.2.1.1→aU w.1 v.1=true)));simp only[hp];simp only[ax,hi,decide_true,cond_true,aI,hv,Option.bind_some,aP hi',e0,oh h0 hi',hu,hr,hk1];apply gu
   ·repeat' first|apply fV|apply fO|apply gp|apply fZ|apply gm
   ·grind
 ·simp only[ax,Nat.lt_irrefl,decide_false,cond_false,qO,Option.bind_some];refine(congrArg (Option.map Sum.inr) (?_:_=some (dec' (bz rev∧bz to∧rev<to∧l.length≤64),()))).trans rfl;apply fin
  ·repeat' first|apply bV|apply bP|apply bW|apply bU|apply eU
  ·simp only[Int.ofNat_eq_natCast];grind
 ·unfold zh DZ;grind
theorem P8 (s:List dw) (l:List fQ) (hs:ShS s) (hl:Sh l):xE (s,l,())=some (dec' (pV s 15∧vN l),()):=by
 unfold xE;simp only[zbV s 15 hs,Z5 l hl,Option.bind_some];apply fin
 ·repeat' first|apply bV|apply bP|apply bW|apply bU|apply eU
 ·grind
def iD (c:aJ):Prop:=
 (c.1=1∧IsKey c.2.1∧c.2.2.2.1.length≤40∧dF c.2.2.2.2.1)∨(c.1=2∧dZ c.2.1 c.2.2.1)∨(c.1=3∧pW c.2.2.2.2.2.2.2.1∧jV c.2.2.2.2.2.2.2.2.1∧jV c.2.2.2.2.2.2.2.2.2.1)∨
 (c.1=4∧bz c.2.2.2.2.2.2.1)∨(c.1=5∧bz c.2.2.2.2.1∧1≤c.2.2.2.2.2.1∧c.2.2.2.2.2.1≤1000)∨((c.1=6∨c.1=7)∧bz c.2.2.2.2.1)∨c.1=8∨(c.1=9∧c.2.2.2.2.1≠0∧ -1099511627776≤c.2.2.2.2.1∧c.2.2.2.2.1≤1099511627776)∨
 (bz c.2.2.2.2.2.2.2.2.2.2.1∧((c.1=10∧nz c.2.1)∨c.1=11∨c.1=16∨(bz c.2.2.2.2.2.2.2.2.2.2.2.1∧((c.1=12∧bz c.2.2.2.2.2.2.1∧nz c.2.1∧nz c.2.2.1)∨(c.1=13∧zn c)∨(c.1=14∧zh c)∨
  (c.1=15∧bz c.2.2.2.2.2.2.1∧pV c.2.2.2.2.2.2.2.2.2.2.2.2.2.2.2.1 15∧vN c.2.2.2.2.2.2.2.2.2.2.2.2.2.2.2.2.1)))))
def gq (c:aJ):Prop:=lX True c∧iD c
theorem zcH (c:aJ) (hc:ShC c):E5 (c,())=some (dec' (pW c.2.2.2.2.2.2.2.1∧jV c.2.2.2.2.2.2.2.2.1∧jV c.2.2.2.2.2.2.2.2.2.1),()):=by
 obtain⟨h8,h9,h10,h15,h16,h17⟩:=hc;unfold E5;simp only[Zj _ h8,SN _ h9,SN _ h10,Option.bind_some,Bool.not_not];apply fin
 ·repeat' first|apply bV|apply bP|apply bW|apply bU|apply eU
 ·unfold pW;simp only[Int.ofNat_eq_natCast];grind
theorem zao (c:aJ) (hc:ShC c) (h10:c.1<10):FM (c,())=some (dec' (iD c),()):=by
 have ht:=zcH c hc;obtain⟨k,a2,a3,a4,a5,a6,a7,a8,a9,a10,a11,a12,a13,a14,a15,a16,a17,⟨⟩⟩:=c;unfold FM;simp only[put_eq,qK,ht,rJ,lS,Option.bind_some];simp only at h10;rcases kinds k with h|h|h|h|h|h|h|h|h|h|h|h|h|h|h|h|h
 iterate 9
  ·subst h;simp only[Int.reduceEq,decide_true,decide_false,cond_true,cond_false];apply fin
   ·repeat' first|apply bV|apply bP|apply bW|apply bU|apply eU
   ·simp only[iD,Int.reduceEq,false_and,true_and,false_or,or_false,and_false,or_self]
    try grind
 iterate 7
  ·exact absurd h10 (by omega)
 ·have f:∀ n:Int,1≤n→n≤16→(k=n)=False:=fun n h1 h2=>eq_false (by omega);simp only[f 1 (by omega) (by omega),f 2 (by omega) (by omega),f 3 (by omega) (by omega),f 4 (by omega) (by omega),f 5 (by omega) (by omega),f 6 (by omega) (by omega),f 7 (by omega) (by omega),f 8 (by omega) (by omega),f 9 (by omega) (by omega),f 10 (by omega) (by omega),f 11 (by omega) (by omega),f 12 (by omega) (by omega),f 13 (by omega) (by omega),f 14 (by omega) (by omega),f 15 (by omega) (by omega),f 16 (by omega) (by omega),iD,decide_false,cond_false,false_and,or_self,and_false]
theorem right_eq (c:aJ) (hc:ShC c):sS (c,())=some (dec' (gq c),()):=by
 obtain⟨b,hb,hsb,hiff⟩:=zce c hc;have hS:sQ (b,c,())=some (dec' (lX (c.1≤16) c),()):=fin (CU b c hsb) hiff;clear hiff hsb;have hcl:=zao c hc;have hpg:=zb3 c hc.2.2.2.1;have htl:=zbS c hc.2.2.2.1;have hhd:=P8 c.2.2.2.2.2.2.2.2.2.2.2.2.2.2.2.1 c.2.2.2.2.2.2.2.2.2.2.2.2.2.2.2.2.1 hc.2.2.2.2.1 hc.2.2.2.2.2;obtain⟨k,a2,a3,a4,a5,a6,a7,a8,a9,a10,a11,a12,a13,a14,a15,a16,a17,⟨⟩⟩:=c;simp only at hcl hhd;unfold sS;simp only[hb,hS,rJ,UX,pre_eq,hpg,htl,hhd,Option.bind_some];clear hb hS;unfold gq;rcases kinds k with h|h|h|h|h|h|h|h|h|h|h|h|h|h|h|h|h
 iterate 9
  ·subst h;rw[hcl (by omega)];simp only[Int.reduceEq,Int.reduceLT,Int.reduceLE,decide_true,decide_false,cond_true,cond_false,Option.bind_some];apply fin
   ·repeat' first|apply bV|apply bP|apply bW|apply bU|apply eU
   ·grind
 iterate 7
  ·subst h;simp only[Int.reduceEq,Int.reduceLT,Int.reduceLE,decide_true,decide_false,cond_true,cond_false];apply fin
   ·repeat' first|apply bV|apply bP|apply bW|apply bU|apply eU
   ·simp only[iD,Int.reduceEq,false_and,true_and,false_or,or_false,and_false,or_self,ne_eq];grind
 ·have f:∀ n:Int,1≤n→n≤16→(k=n)=False:=fun n h1 h2=>eq_false (by omega);have hK:iD (k,a2,a3,a4,a5,a6,a7,a8,a9,a10,a11,a12,a13,a14,a15,a16,a17,())=False:=by
   simp only[f 1 (by omega) (by omega),f 2 (by omega) (by omega),f 3 (by omega) (by omega),f 4 (by omega) (by omega),f 5 (by omega) (by omega),f 6 (by omega) (by omega),f 7 (by omega) (by omega),f 8 (by omega) (by omega),f 9 (by omega) (by omega),f 10 (by omega) (by omega),f 11 (by omega) (by omega),f 12 (by omega) (by omega),f 13 (by omega) (by omega),f 14 (by omega) (by omega),f 15 (by omega) (by omega),f 16 (by omega) (by omega),iD,false_and,or_self,and_false]
  rw[hK] at hcl ⊢;by_cases h9:k<10
  ·rw[hcl h9];simp only[h9,decide_true,cond_true];apply fin
   ·repeat' first|apply bV|apply bP|apply bW|apply bU|apply eU
   ·grind
  ·simp only[h9,decide_false,cond_false,f 10 (by omega) (by omega),f 11 (by omega) (by omega),f 12 (by omega) (by omega),f 13 (by omega) (by omega),f 14 (by omega) (by omega),f 15 (by omega) (by omega),f 16 (by omega) (by omega)];apply fin
   ·repeat' first|apply bV|apply bP|apply bW|apply bU|apply eU
   ·grind
def ng (c:aJ):Prop:=ShC c∧LnC c∧St c.2.1∧St c.2.2.1∧(∀ x∈c.2.2.2.2.2.2.2.1,St x.1)∧(∀ o∈c.2.2.2.2.2.2.2.2.1,qy o)∧(∀ o∈c.2.2.2.2.2.2.2.2.2.1,qy o)∧mG c.2.2.2.2.2.2.2.2.2.2.2.2.2.2.1∧zk c.2.2.2.2.2.2.2.2.2.2.2.2.2.2.2.1
theorem Qi {A B:Type} (b:Bool) (X Y:Option A) (f:A→Option B):Option.bind (bif b then X else Y) f=bif b then Option.bind X f else Option.bind Y f:=by cases b<;>rfl
theorem PI (c:aJ) (hc:ng c):F98 (c,())=some (dec' (gq c),()):=by
 obtain⟨h1,h2,h3,h4,h5,h6,h7,h8,h9⟩:=hc;have hb:=bare_eq c h2;have hpg:=zaQ c h8 h3 h4;have htl:=zaP c h8;have hcm:=zaX _ h1.1 h5;have ho1:=RD _ h1.2.1 h6;have ho2:=RD _ h1.2.2.1 h7;have hse:=Qy _ 15 h9;have hle:=OQ _ h1.2.2.2.2.2;have hk:=jg c.2.1 h3;have hr:=qG c.2.1 c.2.2.1 h3 h4;have hp1:=yO c.2.1 h3;have hp2:=yO c.2.2.1 h4;obtain⟨k,a2,a3,a4,a5,a6,a7,a8,a9,a10,a11,a12,a13,a14,a15,a16,a17,⟨⟩⟩:=c;simp only at hcm ho1 ho2 hse hle hk hr hp1 hp2;unfold F98;simp only[hb,qO,xX,mr,hpg,htl,hcm,ho1,ho2,hse,hle,hk,hr,hp1,hp2,Option.bind_some];unfold gq;by_cases hB:lX True (k,a2,a3,a4,a5,a6,a7,a8,a9,a10,a11,a12,a13,a14,a15,a16,a17,())
 ·simp only[hB,true_and,bK trivial,Bool.not_true,cond_false];by_cases hE:bz a11<;>by_cases hT:bz a12
  all_goals
   rcases kinds k with h|h|h|h|h|h|h|h|h|h|h|h|h|h|h|h|h
   iterate 16
    ·subst h;simp only[hE,hT,Qi,Int.reduceEq,Int.reduceLE,decide_true,decide_false,cond_true,cond_false,Bool.not_true,Bool.not_false,Option.bind_some,Sum.elim_inl,Sum.elim_inr]
     try
      apply fin
      ·repeat' first|apply bV|apply bP|apply bW|apply bU|apply eU
      ·simp only[iD,Int.reduceEq,false_and,true_and,false_or,or_false,and_false,or_self,ne_eq,hE,hT]
       try grind
   ·have f:∀ n:Int,1≤n→n≤16→(k=n)=False:=fun n h1 h2=>eq_false (by omega);have hK:iD (k,a2,a3,a4,a5,a6,a7,a8,a9,a10,a11,a12,a13,a14,a15,a16,a17,())=False:=by
     simp only[f 1 (by omega) (by omega),f 2 (by omega) (by omega),f 3 (by omega) (by omega),f 4 (by omega) (by omega),f 5 (by omega) (by omega),f 6 (by omega) (by omega),f 7 (by omega) (by omega),f 8 (by omega) (by omega),f 9 (by omega) (by omega),f 10 (by omega) (by omega),f 11 (by omega) (by omega),f 12 (by omega) (by omega),f 13 (by omega) (by omega),f 14 (by omega) (by omega),f 15 (by omega) (by omega),f 16 (by omega) (by omega),iD,false_and,or_self,and_false]
    rw[hK];simp only[hE,hT,Qi,f 1 (by omega) (by omega),f 2 (by omega) (by omega),f 3 (by omega) (by omega),f 4 (by omega) (by omega),f 5 (by omega) (by omega),f 6 (by omega) (by omega),f 7 (by omega) (by omega),f 8 (by omega) (by omega),f 9 (by omega) (by omega),f 10 (by omega) (by omega),f 11 (by omega) (by omega),f 12 (by omega) (by omega),f 13 (by omega) (by omega),f 14 (by omega) (by omega),f 15 (by omega) (by omega),f 16 (by omega) (by omega),decide_true,decide_false,cond_true,cond_false,Bool.not_true,Bool.not_false,Option.bind_some,Sum.elim_inl,Sum.elim_inr];cases decide (10≤k)<;>cases decide (12≤k)<;>cases decide (k≤15)<;>rfl
 ·simp only[hB,false_and];rw[dA (p:=False) id];simp only[Bool.not_false,cond_true,Option.bind_some,Sum.elim_inr]
def uD (j:lK):Prop:=gq j.2.2.1∧((j.1=0∧j.2.1=0∧8≤j.2.2.1.1)∨(1≤j.1∧j.1≤31∧bz j.2.1∧j.2.2.1.1<8))
theorem zda (j:lK) (hj:ShC j.2.2.1):Fz (j,())=some (dec' (uD j),()):=by
 obtain⟨cl,sq,c,⟨⟩⟩:=j;have hr:=right_eq c hj;unfold Fz;simp only[hr,lS,rJ,Option.bind_some];apply fin
 ·repeat' first|apply bV|apply bP|apply bW|apply bU|apply eU
 ·unfold uD;grind
theorem zbX (j:lK) (hj:ng j.2.2.1):FX (j,())=some (dec' (uD j),()):=by
 obtain⟨cl,sq,c,⟨⟩⟩:=j;have hr:=PI c hj;unfold FX;simp only[hr,mr,qO,Option.bind_some];apply fin
 ·repeat' first|apply bV|apply bP|apply bW|apply bU|apply eU
 ·unfold uD;grind
def wC (m:jo):Prop:=0≤m.1∧m.1≤4∧dF m.2.1∧dF m.2.2.1∧(m.2.2.2.1=[]∨nz m.2.2.2.1)∧(m.2.2.2.2.1=[]∨nz m.2.2.2.2.1)∧dF m.2.2.2.2.2.1∧(m.2.2.2.2.2.2.1=[]∨IsKey m.2.2.2.2.2.2.1)∧dF m.2.2.2.2.2.2.2.1∧dF m.2.2.2.2.2.2.2.2.1∧dF m.2.2.2.2.2.2.2.2.2.1
def JV (m:jo):Prop:=St m.2.2.2.1∧St m.2.2.2.2.1∧St m.2.2.2.2.2.2.1
theorem za8 (s:List UInt8):zQ (s,())=some (dec' (s=[]∨nz s),()):=by
 unfold zQ;simp only[pre_eq,Option.bind_some];apply fin
 ·repeat' first|apply bV|apply bP|apply bW|apply bU|apply eU
 ·grind
theorem za7 (s:List UInt8):Eb (s,())=some (dec' (s=[]∨IsKey s),()):=by
 unfold Eb;simp only[jQ,Option.bind_some];apply fin
 ·repeat' first|apply bV|apply bP|apply bW|apply bU|apply eU
 ·grind
theorem zb9 (m:jo):Fj (m,())=some (dec' (wC m),()):=by
 obtain⟨a1,a2,a3,a4,a5,a6,a7,a8,a9,a10,⟨⟩⟩:=m;unfold Fj;simp only[nat6,za8,za7,Option.bind_some];apply fin
 ·repeat' first|apply bV|apply bP|apply bW|apply bU|apply eU
 ·unfold wC;grind
theorem zaT (m:jo) (hm:JV m):FT (m,())=some (dec' (wC m),()):=by
 obtain⟨a1,a2,a3,a4,a5,a6,a7,a8,a9,a10,⟨⟩⟩:=m;obtain⟨h4,h5,h7⟩:=hm;unfold FT;simp only[mr,xX,yO a4 h4,yO a5 h5,jg a7 h7,Option.bind_some];apply fin
 ·repeat' first|apply bV|apply bP|apply bW|apply bU|apply eU
 ·unfold wC;by_cases c1:a4=[]<;>by_cases c2:a5=[]<;>by_cases c3:a7=[]<;>grind
def wE (h:gz):Prop:=bz h.1∧dF h.2.1∧pV h.2.2.1 15∧vN h.2.2.2.1
def JW (h:gz):Prop:=zk h.2.2.1∧Sh h.2.2.2.1
theorem zcg (h:gz) (hh:ShH h):Fp (h,())=some (dec' (wE h),()):=by
 obtain⟨a1,a2,a3,a4,⟨⟩⟩:=h;have e:=P8 a3 a4 hh.1 hh.2;unfold Fp;simp only[rJ,Vs,e,Option.bind_some];apply fin
 ·repeat' first|apply bV|apply bP|apply bW|apply bU|apply eU
 ·unfold wE;grind
theorem zaW (h:gz) (hh:JW h):FU (h,())=some (dec' (wE h),()):=by
 obtain⟨a1,a2,a3,a4,⟨⟩⟩:=h;have e1:=Qy a3 15 hh.1;have e2:=OQ a4 hh.2;unfold FU;simp only[qO,xX,e1,e2,Option.bind_some];apply fin
 ·repeat' first|apply bV|apply bP|apply bW|apply bU|apply eU
 ·unfold wE;grind
end Go.Proofs.YtlegpimppfabgaaGreat
