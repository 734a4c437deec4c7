/-
 Plain laws of what lies below,as this seat reaches them (by a program of the bench: port.py).
-/
import Derived.Test.YteebpcpkhojfkaaGreatCmdLawC
import Derived.Test.YteebpcpkhojfkaaGreatSxS
namespace Go.Proofs.YteebpcpkhojfkaaGreat
open Go.Sx Go Classical
set_option maxRecDepth 10000
theorem oQ {i:Nat} (h0:0<i) (h:i<9223372036854775807):wrap64 ((i:Int)-1)=((i-1:Nat):Int):=by
 rw[iZ (by omega) (by omega)];omega
theorem oM {α:Type} {l:List α} {i:Nat} {u:α} (h0:0<i) (hu:l[i-1]? = some u) (p:α→Prop):(∀ w,0<i→l[i-1]? = some w→p w)↔p u:=
 ⟨fun h=>h u h0 hu,fun h w _ hw=>by rw[hu] at hw;cases hw;exact h⟩
theorem oH {α:Type} {l:List α} {i:Nat} (h0:i=0) (p:α→Prop):(∀ w,0<i→l[i-1]? = some w→p w)↔True:=⟨fun _=>trivial,fun _ w h=>by omega⟩
def iK (x:aO):Prop:=IsKey x.1∧dU x.2.1
def iH (r:dG):Prop:=0≤r.1∧r.1≤15∧dH r.2.1∧dH r.2.2.2.1∧dH r.2.2.2.2.2.2.1∧0≤r.2.2.2.2.2.1∧r.2.2.2.2.2.1≤1∧r.2.2.2.2.1.length≤8∧∀ x∈r.2.2.2.2.1,iK x
theorem QZ (x:aO):BM (x,())=some (!dec' (iK x),()):=by
 obtain⟨k,v,⟨⟩⟩:=x;have hv:pY (v,())=_:=MB v;unfold BM;simp only[mO,hv,Option.bind_some];unfold iK;by_cases h1:IsKey k
 ·by_cases h2:dU v
  ·rw[decide_eq_true h1,bP h2,show dec' (IsKey k∧dU v)=true from bP ⟨h1,h2⟩];rfl
  ·rw[decide_eq_true h1,bU h2,show dec' (IsKey k∧dU v)=false from bU (fun h=>h2 h.2)];rfl
 ·rw[decide_eq_false h1,show dec' (IsKey k∧dU v)=false from bU (fun h=>h1 h.1)];rfl
theorem ZY (l:List aO) (hl:Sh l):Fb (l,())=some (!dec' (∀ c∈l,iK c),()):=by
 unfold Fb L9;obtain⟨r,h1,h2⟩:=zK l hl (step:=fun(x_1:Int×Unit)=>bif decide (x_1.fst<Int.ofNat (List.length l)) then Option.bind (idx l x_1.fst) fun b=>Option.bind (BM (b,())) fun b=>bif b.fst then some (Sum.inr x_1) else some (Sum.inl (wrap64 (x_1.fst+1),())) else some (Sum.inr (-1,()))) iK
  (fun i v hi hv hq=>by
   have hi':i<9223372036854775807:=by unfold Sh at hl;omega
   simp only[aB,hi,decide_true,cond_true,aP,hv,Option.bind_some,QZ,bP hq,Bool.not_true,cond_false,aT hi'])
  (fun i v hi hv hq=>by simp only[aB,hi,decide_true,cond_true,aP,hv,Option.bind_some,QZ,bU hq,Bool.not_false]) (by simp)
 refine aK h1 ?_;simp only[h2]
theorem SG (r:dG) (hr:Sh r.2.2.2.2.1):ut (r,())=some (dec' (iH r),()):=by
 obtain⟨a1,a2,a3,a4,a5,a6,a7,⟨⟩⟩:=r;unfold ut;simp only[nat3,ZY a5 hr,Option.bind_some,Bool.not_not];apply fin
 ·repeat' first|apply cO|apply bW|apply cZ|apply cu|apply eQ
 ·unfold iH;simp only[Int.ofNat_eq_natCast];grind
def zX (r:dG):Prop:=Sh r.2.2.2.2.1∧∀ x∈r.2.2.2.2.1,St x.1
theorem IZ (r:dG) (hr:zX r):F40 (r,())=some (dec' (iH r),()):=by
 obtain⟨a1,a2,a3,a4,a5,a6,a7,⟨⟩⟩:=r;obtain⟨hl,hs⟩:=hr;unfold F40;refine fin (jP a5 hl (fun _ x=>iK x) (0≤a1∧a1≤15∧dH a2∧dH a4∧dH a7∧0≤a6∧a6≤1∧a5.length≤8) (fun i v hi hv=> ?_) ?_) ?_
 ·have hi':i<9223372036854775807:=by unfold Sh at hl;simp only at hl;omega
  have hk:=hs v (List.mem_of_getElem? hv);obtain⟨k,w,⟨⟩⟩:=v;simp only[aB,hi,decide_true,cond_true,aP,hv,Option.bind_some,jM k hk,xu,aT hi'];apply fV
  ·repeat' first|apply fO|apply fJ|apply fU|apply fP|apply fQ
  ·unfold iK;grind
 ·simp only[aB,Nat.lt_irrefl,decide_false,cond_false,nz,yV,Option.bind_some];refine(congrArg (Option.map Sum.inr) (?_:_=some (dec' (0≤a1∧a1≤15∧dH a2∧dH a4∧dH a7∧0≤a6∧a6≤1∧a5.length≤8),()))).trans rfl;apply fin
  ·repeat' first|apply cO|apply bW|apply cZ|apply cu|apply eQ
  ·simp only[Int.ofNat_eq_natCast];grind
 ·unfold iH;rw[JV (p:=iK)];grind
def qJ (l:List aW) (m:Int):Prop:=∀ (i:Nat) v,l[i]? = some v→1≤v.1∧v.1≤m∧bI v.2.1∧iH v.2.2.1∧∀ w,0<i→l[i-1]? = some w→w.1<v.1
def Am (l:List aW):Prop:=Sh l∧∀ s∈l,zX s.2.2.1
theorem zdg (l:List aW) (m:Int) (hs:ShS l):Gs (l,m,())=some (dec' (qJ l m),()):=by
 obtain⟨hl,hs⟩:=hs;unfold Gs;refine fin (jP l hl (fun i v=>1≤v.1∧v.1≤m∧bI v.2.1∧iH v.2.2.1∧∀ w,0<i→l[i-1]? = some w→w.1<v.1) True (fun i v hi hv=> ?_) ?_) ?_
 ·have hi':i<9223372036854775807:=by unfold Sh at hl;omega
  have hr:ut (v.2.2.1,())=_:=SG v.2.2.1 (hs v (List.mem_of_getElem? hv));rcases Nat.eq_zero_or_pos i with h0|h0
  ·have e0:decide ((0:Int)<(i:Int))=false:=decide_eq_false (by omega);have e00:decide ((i:Int)=0)=true:=decide_eq_true (by omega);have hp:(∀ w,0<i→l[i-1]? = some w→w.1<v.1)=True:=propext (oH (l:=l) h0 (fun w=>w.1<v.1));simp only[hp];simp only[aB,hi,decide_true,cond_true,aP,hv,Option.bind_some,aT hi',e0,cond_false,tV,mD,hr];apply fV
   ·repeat' first|apply fO|apply fJ|apply fU|apply fP|apply fQ
   ·grind
  ·obtain⟨u,hu⟩:∃ u,l[i-1]? = some u:=⟨_,List.getElem?_eq_getElem (show i-1<l.length by omega)⟩
   have e0:decide ((0:Int)<(i:Int))=true:=decide_eq_true (by omega);have e00:decide ((i:Int)=0)=false:=decide_eq_false (by omega);have hp:(∀ w,0<i→l[i-1]? = some w→w.1<v.1)=(u.1<v.1):=propext (oM h0 hu (fun w=>w.1<v.1));simp only[hp];simp only[aB,hi,decide_true,cond_true,aP,hv,Option.bind_some,aT hi',e0,oQ h0 hi',hu,tV,mD,hr];apply fV
   ·repeat' first|apply fO|apply fJ|apply fU|apply fP|apply fQ
   ·grind
 ·simp
 ·unfold qJ;exact and_iff_left trivial
theorem SH (l:List aW) (m:Int) (hs:Am l):yP (l,m,())=some (dec' (qJ l m),()):=by
 obtain⟨hl,hs⟩:=hs;unfold yP;refine fin (jP l hl (fun i v=>1≤v.1∧v.1≤m∧bI v.2.1∧iH v.2.2.1∧∀ w,0<i→l[i-1]? = some w→w.1<v.1) True (fun i v hi hv=> ?_) ?_) ?_
 ·have hi':i<9223372036854775807:=by unfold Sh at hl;omega
  have hr:F40 (v.2.2.1,())=_:=IZ v.2.2.1 (hs v (List.mem_of_getElem? hv));rcases Nat.eq_zero_or_pos i with h0|h0
  ·have e0:decide ((0:Int)<(i:Int))=false:=decide_eq_false (by omega);have e00:decide ((i:Int)=0)=true:=decide_eq_true (by omega);have hp:(∀ w,0<i→l[i-1]? = some w→w.1<v.1)=True:=propext (oH (l:=l) h0 (fun w=>w.1<v.1));simp only[hp];simp only[aB,hi,decide_true,cond_true,aP,hv,Option.bind_some,aT hi',e0,cond_false,rX,nz,hr];apply fV
   ·repeat' first|apply fO|apply fJ|apply fU|apply fP|apply fQ
   ·grind
  ·obtain⟨u,hu⟩:∃ u,l[i-1]? = some u:=⟨_,List.getElem?_eq_getElem (show i-1<l.length by omega)⟩
   have e0:decide ((0:Int)<(i:Int))=true:=decide_eq_true (by omega);have e00:decide ((i:Int)=0)=false:=decide_eq_false (by omega);have hp:(∀ w,0<i→l[i-1]? = some w→w.1<v.1)=(u.1<v.1):=propext (oM h0 hu (fun w=>w.1<v.1));simp only[hp];simp only[aB,hi,decide_true,cond_true,aP,hv,Option.bind_some,aT hi',e0,oQ h0 hi',hu,rX,nz,hr];apply fV
   ·repeat' first|apply fO|apply fJ|apply fU|apply fP|apply fQ
   ·grind
 ·simp
 ·unfold qJ;exact and_iff_left trivial
def xm (l:List dm):Prop:=(∀ (i:Nat) v,l[i]? = some v→bI v.1∧1≤v.2.1∧v.2.1≤1000∧0≤v.2.2.1∧v.2.2.1≤1000∧∀ w,0<i→l[i-1]? = some w→w.1<v.1)∧l.length≤64
theorem zbB (l:List dm) (hl:Sh l):Gq (l,())=some (dec' (xm l),()):=by
 unfold Gq;refine fin (jP l hl (fun i v=>bI v.1∧1≤v.2.1∧v.2.1≤1000∧0≤v.2.2.1∧v.2.2.1≤1000∧∀ w,0<i→l[i-1]? = some w→w.1<v.1) (l.length≤64) (fun i v hi hv=> ?_) ?_) ?_
 ·have hi':i<9223372036854775807:=by unfold Sh at hl;omega
  rcases Nat.eq_zero_or_pos i with h0|h0
  ·have e0:decide ((0:Int)<(i:Int))=false:=decide_eq_false (by omega);have e00:decide ((i:Int)=0)=true:=decide_eq_true (by omega);have hp:(∀ w,0<i→l[i-1]? = some w→w.1<v.1)=True:=propext (oH (l:=l) h0 (fun w=>w.1<v.1));simp only[hp];simp only[aB,hi,decide_true,cond_true,aP,hv,Option.bind_some,aT hi',e0,cond_false,tV,mD];apply fV
   ·repeat' first|apply fO|apply fJ|apply fU|apply fP|apply fQ
   ·grind
  ·obtain⟨u,hu⟩:∃ u,l[i-1]? = some u:=⟨_,List.getElem?_eq_getElem (show i-1<l.length by omega)⟩
   have e0:decide ((0:Int)<(i:Int))=true:=decide_eq_true (by omega);have e00:decide ((i:Int)=0)=false:=decide_eq_false (by omega);have hp:(∀ w,0<i→l[i-1]? = some w→w.1<v.1)=(u.1<v.1):=propext (oM h0 hu (fun w=>w.1<v.1));simp only[hp];simp only[aB,hi,decide_true,cond_true,aP,hv,Option.bind_some,aT hi',e0,oQ h0 hi',hu,tV,mD];apply fV
   ·repeat' first|apply fO|apply fJ|apply fU|apply fP|apply fQ
   ·grind
 ·simp only[aB,Nat.lt_irrefl,decide_false,cond_false];exact congrArg (fun z=>some (Sum.inr (z,()))) (iC (by simp;omega)).symm
 ·exact Iff.rfl
theorem Qj (l:List dm) (hl:Sh l):yO (l,())=some (dec' (xm l),()):=by
 unfold yO;refine fin (jP l hl (fun i v=>bI v.1∧1≤v.2.1∧v.2.1≤1000∧0≤v.2.2.1∧v.2.2.1≤1000∧∀ w,0<i→l[i-1]? = some w→w.1<v.1) (l.length≤64) (fun i v hi hv=> ?_) ?_) ?_
 ·have hi':i<9223372036854775807:=by unfold Sh at hl;omega
  rcases Nat.eq_zero_or_pos i with h0|h0
  ·have e0:decide ((0:Int)<(i:Int))=false:=decide_eq_false (by omega);have e00:decide ((i:Int)=0)=true:=decide_eq_true (by omega);have hp:(∀ w,0<i→l[i-1]? = some w→w.1<v.1)=True:=propext (oH (l:=l) h0 (fun w=>w.1<v.1));simp only[hp];simp only[aB,hi,decide_true,cond_true,aP,hv,Option.bind_some,aT hi',e0,cond_false,rX,nz];apply fV
   ·repeat' first|apply fO|apply fJ|apply fU|apply fP|apply fQ
   ·grind
  ·obtain⟨u,hu⟩:∃ u,l[i-1]? = some u:=⟨_,List.getElem?_eq_getElem (show i-1<l.length by omega)⟩
   have e0:decide ((0:Int)<(i:Int))=true:=decide_eq_true (by omega);have e00:decide ((i:Int)=0)=false:=decide_eq_false (by omega);have hp:(∀ w,0<i→l[i-1]? = some w→w.1<v.1)=(u.1<v.1):=propext (oM h0 hu (fun w=>w.1<v.1));simp only[hp];simp only[aB,hi,decide_true,cond_true,aP,hv,Option.bind_some,aT hi',e0,oQ h0 hi',hu,rX,nz];apply fV
   ·repeat' first|apply fO|apply fJ|apply fU|apply fP|apply fQ
   ·grind
 ·simp only[aB,Nat.lt_irrefl,decide_false,cond_false];exact congrArg (fun z=>some (Sum.inr (z,()))) (iC (by simp;omega)).symm
 ·exact Iff.rfl
def EX (l:List aO):Prop:=∀ (i:Nat) v,l[i]? = some v→IsKey v.1∧dU v.2.1∧v.2.1.2.2.2.2.2.2.1=false∧∀ w,0<i→l[i-1]? = some w→aY w.1 v.1=true
def uU (c:bn):Prop:=(c.2.1=[]∨IsKey c.2.1)∧(c.2.2.1=[]∨IsKey c.2.2.1)∧c.2.2.2.2.2.2.2.2.2.2.2.2.2.2.1.length≤8∧EX c.2.2.2.2.2.2.2.2.2.2.2.2.2.2.1
theorem zdl (c:bn) (hl:Sh c.2.2.2.2.2.2.2.2.2.2.2.2.2.2.1):BK (c,())=some (dec' (uU c),()):=by
 obtain⟨a1,k,en,a4,a5,a6,a7,a8,a9,a10,a11,a12,a13,a14,l,a16,a17,⟨⟩⟩:=c;have hl:Sh l:=hl;unfold BK;simp only[mO,Option.bind_some];generalize hL:aC (Int×Unit) (Bool×Unit) _ big (0,())=L;have eL:L=some (dec' (EX l),()):=by
  rw[←hL];refine fin (jP l hl (fun i v=>IsKey v.1∧dU v.2.1∧v.2.1.2.2.2.2.2.2.1=false∧∀ w,0<i→l[i-1]? = some w→aY w.1 v.1=true) True (fun i v hi hv=> ?_) ?_) ?_
  ·have hi':i<9223372036854775807:=by unfold Sh at hl;omega
   have hr:pY v.2=_:=MB v.2.1;rcases Nat.eq_zero_or_pos i with h0|h0
   ·have e0:decide ((0:Int)<(i:Int))=false:=decide_eq_false (by omega);have e00:decide ((i:Int)=0)=true:=decide_eq_true (by omega);have hp:(∀ w,0<i→l[i-1]? = some w→aY w.1 v.1=true)=True:=propext (oH (l:=l) h0 (fun w=>aY w.1 v.1=true));simp only[hp];simp only[aB,hi,decide_true,cond_true,aP,hv,Option.bind_some,aT hi',e0,cond_false,hr];apply fV
    ·repeat' first|apply fO|apply fJ|apply fU|apply fP|apply fQ
    ·grind
   ·obtain⟨u,hu⟩:∃ u,l[i-1]? = some u:=⟨_,List.getElem?_eq_getElem (show i-1<l.length by omega)⟩
    have e0:decide ((0:Int)<(i:Int))=true:=decide_eq_true (by omega);have e00:decide ((i:Int)=0)=false:=decide_eq_false (by omega);have hp:(∀ w,0<i→l[i-1]? = some w→aY w.1 v.1=true)=(aY u.1 v.1=true):=propext (oM h0 hu (fun w=>aY w.1 v.1=true));simp only[hp];simp only[aB,hi,decide_true,cond_true,aP,hv,Option.bind_some,aT hi',e0,oQ h0 hi',hu,hr];apply fV
    ·repeat' first|apply fO|apply fJ|apply fU|apply fP|apply fQ
    ·grind
  ·simp
  ·unfold EX;exact and_iff_left trivial
 rw[eL];unfold uU;have n1:decide ((8:Int)<Int.ofNat l.length) = !decide (l.length≤8):=by
  by_cases h:l.length≤8
  ·rw[decide_eq_true h];exact decide_eq_false (by simp;omega)
  ·rw[decide_eq_false h];exact decide_eq_true (by simp;omega)
 simp only[n1];by_cases h1:k=[]<;>by_cases h2:IsKey k<;>by_cases h3:en=[]<;>by_cases h4:IsKey en<;>by_cases h5:l.length≤8<;>simp[h1,h2,h3,h4,h5]
def ET (rev to:Int) (l:List aO):Prop:=∀ (i:Nat) v,l[i]? = some v→IsKey v.1∧dU v.2.1∧rev<v.2.1.1∧v.2.1.1≤to∧∀ w,0<i→l[i-1]? = some w→w.2.1.1≤v.2.1.1∧(w.2.1.1=v.2.1.1→aY w.1 v.1=true)
def Aj (c:bn):Prop:=bI c.2.2.2.2.2.2.1∧bI c.2.2.2.2.2.2.2.2.2.2.2.2.1∧c.2.2.2.2.2.2.1<c.2.2.2.2.2.2.2.2.2.2.2.2.1∧c.2.2.2.2.2.2.2.2.2.2.2.2.2.2.1.length≤64∧ET c.2.2.2.2.2.2.1 c.2.2.2.2.2.2.2.2.2.2.2.2.1 c.2.2.2.2.2.2.2.2.2.2.2.2.2.2.1
theorem zde (c:bn) (hl:Sh c.2.2.2.2.2.2.2.2.2.2.2.2.2.2.1):BJ (c,())=some (dec' (Aj c),()):=by
 obtain⟨a1,k,en,a4,a5,a6,rev,a8,a9,a10,a11,a12,to,a14,l,a16,a17,⟨⟩⟩:=c;have hl:Sh l:=hl;unfold BJ;simp only[WR,Option.bind_some];generalize hL:aC (Int×Unit) (Bool×Unit) _ big (0,())=L;have eL:L=some (dec' (ET rev to l),()):=by
  rw[←hL];refine fin (jP l hl (fun i v=>IsKey v.1∧dU v.2.1∧rev<v.2.1.1∧v.2.1.1≤to∧∀ w,0<i→l[i-1]? = some w→w.2.1.1≤v.2.1.1∧(w.2.1.1=v.2.1.1→aY w.1 v.1=true)) True (fun i v hi hv=> ?_) ?_) ?_
  ·have hi':i<9223372036854775807:=by unfold Sh at hl;omega
   have hr:pY v.2=_:=MB v.2.1;rcases Nat.eq_zero_or_pos i with h0|h0
   ·have e0:decide ((0:Int)<(i:Int))=false:=decide_eq_false (by omega);have e00:decide ((i:Int)=0)=true:=decide_eq_true (by omega);have hp:(∀ w,0<i→l[i-1]? = some w→w.2.1.1≤v.2.1.1∧(w.2.1.1=v.2.1.1→aY w.1 v.1=true))=True:=propext (oH (l:=l) h0 (fun w=>w.2.1.1≤v.2.1.1∧(w.2.1.1=v.2.1.1→aY w.1 v.1=true)));simp only[hp];simp only[aB,hi,decide_true,cond_true,aP,hv,Option.bind_some,aT hi',e00,mO,hr];apply fV
    ·repeat' first|apply fO|apply fJ|apply fU|apply fP|apply fQ
    ·grind
   ·obtain⟨u,hu⟩:∃ u,l[i-1]? = some u:=⟨_,List.getElem?_eq_getElem (show i-1<l.length by omega)⟩
    have e0:decide ((0:Int)<(i:Int))=true:=decide_eq_true (by omega);have e00:decide ((i:Int)=0)=false:=decide_eq_false (by omega);have hp:(∀ w,0<i→l[i-1]? = some w→w.2.1.1≤v.2.1.1∧(w.2.1.1=v.2.1.1→aY w.1 v.1=true))=(u.2.1.1≤v.2.1.1∧(u.2.1.1=v.2.1.1→aY u.1 v.1=true)):=propext (oM h0 hu (fun w=>w.2.1.1≤v.2.1.1∧(w.2.1.1=v.2.1.1→aY w.1 v.1=true)));simp only[hp];simp only[aB,hi,decide_true,cond_true,aP,hv,Option.bind_some,aT hi',e00,cond_false,oQ h0 hi',hu,mO,hr];apply fV
    ·repeat' first|apply fO|apply fJ|apply fU|apply fP|apply fQ
    ·grind
  ·simp
  ·unfold ET;exact and_iff_left trivial
 rw[eL];apply fin
 ·repeat' first|apply cO|apply bW|apply cZ|apply cu|apply eQ
 ·unfold Aj;simp only[Int.ofNat_eq_natCast];grind
end Go.Proofs.YteebpcpkhojfkaaGreat
