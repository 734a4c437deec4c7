/-
 Plain laws of what lies below,as this seat reaches them (by a program of the bench: port.py).
-/
import Derived.Test.YtlegpimppfabgaaGreatCmdLawC
import Derived.Test.YtlegpimppfabgaaGreatSxS
namespace Go.Proofs.YtlegpimppfabgaaGreat
open Go.Sx Go Classical
set_option maxRecDepth 10000
theorem oh {i:Nat} (h0:0<i) (h:i<9223372036854775807):wrap64 ((i:Int)-1)=((i-1:Nat):Int):=by
 rw[dW (by omega) (by omega)];omega
theorem nX {α:Type} {l:List α} {i:Nat} {u:α} (h0:0<i) (hu:l[i-1]? = some u) (p:α→Prop):(∀ w,0<i→l[i-1]? = some w→p w)↔p u:=
 ⟨fun h=>h u h0 hu,fun h w _ hw=>by rw[hu] at hw;cases hw;exact h⟩
theorem nS {α:Type} {l:List α} {i:Nat} (h0:i=0) (p:α→Prop):(∀ w,0<i→l[i-1]? = some w→p w)↔True:=⟨fun _=>trivial,fun _ w h=>by omega⟩
def jk (x:aX):Prop:=IsKey x.1∧fP x.2.1
def mJ (r:dh):Prop:=0≤r.1∧r.1≤15∧dF r.2.1∧dF r.2.2.2.1∧dF r.2.2.2.2.2.2.1∧0≤r.2.2.2.2.2.1∧r.2.2.2.2.2.1≤1∧r.2.2.2.2.1.length≤8∧∀ x∈r.2.2.2.2.1,jk x
theorem PH (x:aX):AL (x,())=some (!dec' (jk x),()):=by
 obtain⟨k,v,⟨⟩⟩:=x;have hv:qA (v,())=_:=KZ v;unfold AL;simp only[jQ,hv,Option.bind_some];unfold jk;by_cases h1:IsKey k
 ·by_cases h2:fP v
  ·rw[decide_eq_true h1,bK h2,show dec' (IsKey k∧fP v)=true from bK ⟨h1,h2⟩];rfl
  ·rw[decide_eq_true h1,dA h2,show dec' (IsKey k∧fP v)=false from dA (fun h=>h2 h.2)];rfl
 ·rw[decide_eq_false h1,show dec' (IsKey k∧fP v)=false from dA (fun h=>h1 h.1)];rfl
theorem Ym (l:List aX) (hl:Sh l):Ed (l,())=some (!dec' (∀ c∈l,jk c),()):=by
 unfold Ed KR;obtain⟨r,h1,h2⟩:=yK l hl (step:=fun(x_1:Int×Unit)=>bif decide (x_1.fst<Int.ofNat (List.length l)) then Option.bind (idx l x_1.fst) fun b=>Option.bind (AL (b,())) fun b=>bif b.fst then some (Sum.inr x_1) else some (Sum.inl (wrap64 (x_1.fst+1),())) else some (Sum.inr (-1,()))) jk
  (fun i v hi hv hq=>by
   have hi':i<9223372036854775807:=by unfold Sh at hl;omega
   simp only[ax,hi,decide_true,cond_true,aI,hv,Option.bind_some,PH,bK hq,Bool.not_true,cond_false,aP hi'])
  (fun i v hi hv hq=>by simp only[ax,hi,decide_true,cond_true,aI,hv,Option.bind_some,PH,dA hq,Bool.not_false]) (by simp)
 refine aB h1 ?_;simp only[h2]
theorem Qx (r:dh) (hr:Sh r.2.2.2.2.1):xy (r,())=some (dec' (mJ r),()):=by
 obtain⟨a1,a2,a3,a4,a5,a6,a7,⟨⟩⟩:=r;unfold xy;simp only[nat3,Ym a5 hr,Option.bind_some,Bool.not_not];apply fin
 ·repeat' first|apply bV|apply bP|apply bW|apply bU|apply eU
 ·unfold mJ;simp only[Int.ofNat_eq_natCast];grind
def yU (r:dh):Prop:=Sh r.2.2.2.2.1∧∀ x∈r.2.2.2.2.1,St x.1
theorem PK (r:dh) (hr:yU r):xJ (r,())=some (dec' (mJ r),()):=by
 obtain⟨a1,a2,a3,a4,a5,a6,a7,⟨⟩⟩:=r;obtain⟨hl,hs⟩:=hr;unfold xJ;refine fin (jM a5 hl (fun _ x=>jk x) (0≤a1∧a1≤15∧dF a2∧dF a4∧dF a7∧0≤a6∧a6≤1∧a5.length≤8) (fun i v hi hv=> ?_) ?_) ?_
 ·have hi':i<9223372036854775807:=by unfold Sh at hl;simp only at hl;omega
  have hk:=hs v (List.mem_of_getElem? hv);obtain⟨k,w,⟨⟩⟩:=v;simp only[ax,hi,decide_true,cond_true,aI,hv,Option.bind_some,jg k hk,CZ,aP hi'];apply gu
  ·repeat' first|apply fV|apply fO|apply gp|apply fZ|apply gm
  ·unfold jk;grind
 ·simp only[ax,Nat.lt_irrefl,decide_false,cond_false,mr,xX,Option.bind_some];refine(congrArg (Option.map Sum.inr) (?_:_=some (dec' (0≤a1∧a1≤15∧dF a2∧dF a4∧dF a7∧0≤a6∧a6≤1∧a5.length≤8),()))).trans rfl;apply fin
  ·repeat' first|apply bV|apply bP|apply bW|apply bU|apply eU
  ·simp only[Int.ofNat_eq_natCast];grind
 ·unfold mJ;rw[Jo (p:=jk)];grind
def pV (l:List dw) (m:Int):Prop:=∀ (i:Nat) v,l[i]? = some v→1≤v.1∧v.1≤m∧bz v.2.1∧mJ v.2.2.1∧∀ w,0<i→l[i-1]? = some w→w.1<v.1
def zk (l:List dw):Prop:=Sh l∧∀ s∈l,yU s.2.2.1
theorem zbV (l:List dw) (m:Int) (hs:ShS l):EZ (l,m,())=some (dec' (pV l m),()):=by
 obtain⟨hl,hs⟩:=hs;unfold EZ;refine fin (jM l hl (fun i v=>1≤v.1∧v.1≤m∧bz v.2.1∧mJ v.2.2.1∧∀ w,0<i→l[i-1]? = some w→w.1<v.1) True (fun i v hi hv=> ?_) ?_) ?_
 ·have hi':i<9223372036854775807:=by unfold Sh at hl;omega
  have hr:xy (v.2.2.1,())=_:=Qx v.2.2.1 (hs v (List.mem_of_getElem? hv));rcases Nat.eq_zero_or_pos i with h0|h0
  ·have e0:decide ((0:Int)<(i:Int))=false:=decide_eq_false (by omega);have e00:decide ((i:Int)=0)=true:=decide_eq_true (by omega);have hp:(∀ w,0<i→l[i-1]? = some w→w.1<v.1)=True:=propext (nS (l:=l) h0 (fun w=>w.1<v.1));simp only[hp];simp only[ax,hi,decide_true,cond_true,aI,hv,Option.bind_some,aP hi',e0,cond_false,rJ,lS,hr];apply gu
   ·repeat' first|apply fV|apply fO|apply gp|apply fZ|apply gm
   ·grind
  ·obtain⟨u,hu⟩:∃ u,l[i-1]? = some u:=⟨_,List.getElem?_eq_getElem (show i-1<l.length by omega)⟩
   have e0:decide ((0:Int)<(i:Int))=true:=decide_eq_true (by omega);have e00:decide ((i:Int)=0)=false:=decide_eq_false (by omega);have hp:(∀ w,0<i→l[i-1]? = some w→w.1<v.1)=(u.1<v.1):=propext (nX h0 hu (fun w=>w.1<v.1));simp only[hp];simp only[ax,hi,decide_true,cond_true,aI,hv,Option.bind_some,aP hi',e0,oh h0 hi',hu,rJ,lS,hr];apply gu
   ·repeat' first|apply fV|apply fO|apply gp|apply fZ|apply gm
   ·grind
 ·simp
 ·unfold pV;exact and_iff_left trivial
theorem Qy (l:List dw) (m:Int) (hs:zk l):xI (l,m,())=some (dec' (pV l m),()):=by
 obtain⟨hl,hs⟩:=hs;unfold xI;refine fin (jM l hl (fun i v=>1≤v.1∧v.1≤m∧bz v.2.1∧mJ v.2.2.1∧∀ w,0<i→l[i-1]? = some w→w.1<v.1) True (fun i v hi hv=> ?_) ?_) ?_
 ·have hi':i<9223372036854775807:=by unfold Sh at hl;omega
  have hr:xJ (v.2.2.1,())=_:=PK v.2.2.1 (hs v (List.mem_of_getElem? hv));rcases Nat.eq_zero_or_pos i with h0|h0
  ·have e0:decide ((0:Int)<(i:Int))=false:=decide_eq_false (by omega);have e00:decide ((i:Int)=0)=true:=decide_eq_true (by omega);have hp:(∀ w,0<i→l[i-1]? = some w→w.1<v.1)=True:=propext (nS (l:=l) h0 (fun w=>w.1<v.1));simp only[hp];simp only[ax,hi,decide_true,cond_true,aI,hv,Option.bind_some,aP hi',e0,cond_false,qO,mr,hr];apply gu
   ·repeat' first|apply fV|apply fO|apply gp|apply fZ|apply gm
   ·grind
  ·obtain⟨u,hu⟩:∃ u,l[i-1]? = some u:=⟨_,List.getElem?_eq_getElem (show i-1<l.length by omega)⟩
   have e0:decide ((0:Int)<(i:Int))=true:=decide_eq_true (by omega);have e00:decide ((i:Int)=0)=false:=decide_eq_false (by omega);have hp:(∀ w,0<i→l[i-1]? = some w→w.1<v.1)=(u.1<v.1):=propext (nX h0 hu (fun w=>w.1<v.1));simp only[hp];simp only[ax,hi,decide_true,cond_true,aI,hv,Option.bind_some,aP hi',e0,oh h0 hi',hu,qO,mr,hr];apply gu
   ·repeat' first|apply fV|apply fO|apply gp|apply fZ|apply gm
   ·grind
 ·simp
 ·unfold pV;exact and_iff_left trivial
def vN (l:List fQ):Prop:=(∀ (i:Nat) v,l[i]? = some v→bz v.1∧1≤v.2.1∧v.2.1≤1000∧0≤v.2.2.1∧v.2.2.1≤1000∧∀ w,0<i→l[i-1]? = some w→w.1<v.1)∧l.length≤64
theorem Z5 (l:List fQ) (hl:Sh l):EY (l,())=some (dec' (vN l),()):=by
 unfold EY;refine fin (jM l hl (fun i v=>bz v.1∧1≤v.2.1∧v.2.1≤1000∧0≤v.2.2.1∧v.2.2.1≤1000∧∀ w,0<i→l[i-1]? = some w→w.1<v.1) (l.length≤64) (fun i v hi hv=> ?_) ?_) ?_
 ·have hi':i<9223372036854775807:=by unfold Sh at hl;omega
  rcases Nat.eq_zero_or_pos i with h0|h0
  ·have e0:decide ((0:Int)<(i:Int))=false:=decide_eq_false (by omega);have e00:decide ((i:Int)=0)=true:=decide_eq_true (by omega);have hp:(∀ w,0<i→l[i-1]? = some w→w.1<v.1)=True:=propext (nS (l:=l) h0 (fun w=>w.1<v.1));simp only[hp];simp only[ax,hi,decide_true,cond_true,aI,hv,Option.bind_some,aP hi',e0,cond_false,rJ,lS];apply gu
   ·repeat' first|apply fV|apply fO|apply gp|apply fZ|apply gm
   ·grind
  ·obtain⟨u,hu⟩:∃ u,l[i-1]? = some u:=⟨_,List.getElem?_eq_getElem (show i-1<l.length by omega)⟩
   have e0:decide ((0:Int)<(i:Int))=true:=decide_eq_true (by omega);have e00:decide ((i:Int)=0)=false:=decide_eq_false (by omega);have hp:(∀ w,0<i→l[i-1]? = some w→w.1<v.1)=(u.1<v.1):=propext (nX h0 hu (fun w=>w.1<v.1));simp only[hp];simp only[ax,hi,decide_true,cond_true,aI,hv,Option.bind_some,aP hi',e0,oh h0 hi',hu,rJ,lS];apply gu
   ·repeat' first|apply fV|apply fO|apply gp|apply fZ|apply gm
   ·grind
 ·simp only[ax,Nat.lt_irrefl,decide_false,cond_false];exact congrArg (fun z=>some (Sum.inr (z,()))) (iO (by simp;omega)).symm
 ·exact Iff.rfl
theorem OQ (l:List fQ) (hl:Sh l):xH (l,())=some (dec' (vN l),()):=by
 unfold xH;refine fin (jM l hl (fun i v=>bz v.1∧1≤v.2.1∧v.2.1≤1000∧0≤v.2.2.1∧v.2.2.1≤1000∧∀ w,0<i→l[i-1]? = some w→w.1<v.1) (l.length≤64) (fun i v hi hv=> ?_) ?_) ?_
 ·have hi':i<9223372036854775807:=by unfold Sh at hl;omega
  rcases Nat.eq_zero_or_pos i with h0|h0
  ·have e0:decide ((0:Int)<(i:Int))=false:=decide_eq_false (by omega);have e00:decide ((i:Int)=0)=true:=decide_eq_true (by omega);have hp:(∀ w,0<i→l[i-1]? = some w→w.1<v.1)=True:=propext (nS (l:=l) h0 (fun w=>w.1<v.1));simp only[hp];simp only[ax,hi,decide_true,cond_true,aI,hv,Option.bind_some,aP hi',e0,cond_false,qO,mr];apply gu
   ·repeat' first|apply fV|apply fO|apply gp|apply fZ|apply gm
   ·grind
  ·obtain⟨u,hu⟩:∃ u,l[i-1]? = some u:=⟨_,List.getElem?_eq_getElem (show i-1<l.length by omega)⟩
   have e0:decide ((0:Int)<(i:Int))=true:=decide_eq_true (by omega);have e00:decide ((i:Int)=0)=false:=decide_eq_false (by omega);have hp:(∀ w,0<i→l[i-1]? = some w→w.1<v.1)=(u.1<v.1):=propext (nX h0 hu (fun w=>w.1<v.1));simp only[hp];simp only[ax,hi,decide_true,cond_true,aI,hv,Option.bind_some,aP hi',e0,oh h0 hi',hu,qO,mr];apply gu
   ·repeat' first|apply fV|apply fO|apply gp|apply fZ|apply gm
   ·grind
 ·simp only[ax,Nat.lt_irrefl,decide_false,cond_false];exact congrArg (fun z=>some (Sum.inr (z,()))) (iO (by simp;omega)).symm
 ·exact Iff.rfl
def D7 (l:List aX):Prop:=∀ (i:Nat) v,l[i]? = some v→IsKey v.1∧fP v.2.1∧v.2.1.2.2.2.2.2.2.1=false∧∀ w,0<i→l[i-1]? = some w→aU w.1 v.1=true
def zn (c:aJ):Prop:=(c.2.1=[]∨IsKey c.2.1)∧(c.2.2.1=[]∨IsKey c.2.2.1)∧c.2.2.2.2.2.2.2.2.2.2.2.2.2.2.1.length≤8∧D7 c.2.2.2.2.2.2.2.2.2.2.2.2.2.2.1
theorem zb3 (c:aJ) (hl:Sh c.2.2.2.2.2.2.2.2.2.2.2.2.2.2.1):Bd (c,())=some (dec' (zn c),()):=by
 obtain⟨a1,k,en,a4,a5,a6,a7,a8,a9,a10,a11,a12,a13,a14,l,a16,a17,⟨⟩⟩:=c;have hl:Sh l:=hl;unfold Bd;simp only[jQ,Option.bind_some];generalize hL:aN (Int×Unit) (Bool×Unit) _ big (0,())=L;have eL:L=some (dec' (D7 l),()):=by
  rw[←hL];refine fin (jM l hl (fun i v=>IsKey v.1∧fP v.2.1∧v.2.1.2.2.2.2.2.2.1=false∧∀ w,0<i→l[i-1]? = some w→aU w.1 v.1=true) True (fun i v hi hv=> ?_) ?_) ?_
  ·have hi':i<9223372036854775807:=by unfold Sh at hl;omega
   have hr:qA v.2=_:=KZ v.2.1;rcases Nat.eq_zero_or_pos i with h0|h0
   ·have e0:decide ((0:Int)<(i:Int))=false:=decide_eq_false (by omega);have e00:decide ((i:Int)=0)=true:=decide_eq_true (by omega);have hp:(∀ w,0<i→l[i-1]? = some w→aU w.1 v.1=true)=True:=propext (nS (l:=l) h0 (fun w=>aU w.1 v.1=true));simp only[hp];simp only[ax,hi,decide_true,cond_true,aI,hv,Option.bind_some,aP hi',e0,cond_false,hr];apply gu
    ·repeat' first|apply fV|apply fO|apply gp|apply fZ|apply gm
    ·grind
   ·obtain⟨u,hu⟩:∃ u,l[i-1]? = some u:=⟨_,List.getElem?_eq_getElem (show i-1<l.length by omega)⟩
    have e0:decide ((0:Int)<(i:Int))=true:=decide_eq_true (by omega);have e00:decide ((i:Int)=0)=false:=decide_eq_false (by omega);have hp:(∀ w,0<i→l[i-1]? = some w→aU w.1 v.1=true)=(aU u.1 v.1=true):=propext (nX h0 hu (fun w=>aU w.1 v.1=true));simp only[hp];simp only[ax,hi,decide_true,cond_true,aI,hv,Option.bind_some,aP hi',e0,oh h0 hi',hu,hr];apply gu
    ·repeat' first|apply fV|apply fO|apply gp|apply fZ|apply gm
    ·grind
  ·simp
  ·unfold D7;exact and_iff_left trivial
 rw[eL];unfold zn;have n1:decide ((8:Int)<Int.ofNat l.length) = !decide (l.length≤8):=by
  by_cases h:l.length≤8
  ·rw[decide_eq_true h];exact decide_eq_false (by simp;omega)
  ·rw[decide_eq_false h];exact decide_eq_true (by simp;omega)
 simp only[n1];by_cases h1:k=[]<;>by_cases h2:IsKey k<;>by_cases h3:en=[]<;>by_cases h4:IsKey en<;>by_cases h5:l.length≤8<;>simp[h1,h2,h3,h4,h5]
def DZ (rev to:Int) (l:List aX):Prop:=∀ (i:Nat) v,l[i]? = some v→IsKey v.1∧fP v.2.1∧rev<v.2.1.1∧v.2.1.1≤to∧∀ w,0<i→l[i-1]? = some w→w.2.1.1≤v.2.1.1∧(w.2.1.1=v.2.1.1→aU w.1 v.1=true)
def zh (c:aJ):Prop:=bz c.2.2.2.2.2.2.1∧bz c.2.2.2.2.2.2.2.2.2.2.2.2.1∧c.2.2.2.2.2.2.1<c.2.2.2.2.2.2.2.2.2.2.2.2.1∧c.2.2.2.2.2.2.2.2.2.2.2.2.2.2.1.length≤64∧DZ c.2.2.2.2.2.2.1 c.2.2.2.2.2.2.2.2.2.2.2.2.1 c.2.2.2.2.2.2.2.2.2.2.2.2.2.2.1
theorem zbS (c:aJ) (hl:Sh c.2.2.2.2.2.2.2.2.2.2.2.2.2.2.1):Bc (c,())=some (dec' (zh c),()):=by
 obtain⟨a1,k,en,a4,a5,a6,rev,a8,a9,a10,a11,a12,to,a14,l,a16,a17,⟨⟩⟩:=c;have hl:Sh l:=hl;unfold Bc;simp only[UX,Option.bind_some];generalize hL:aN (Int×Unit) (Bool×Unit) _ big (0,())=L;have eL:L=some (dec' (DZ rev to l),()):=by
  rw[←hL];refine fin (jM l hl (fun i v=>IsKey v.1∧fP v.2.1∧rev<v.2.1.1∧v.2.1.1≤to∧∀ w,0<i→l[i-1]? = some w→w.2.1.1≤v.2.1.1∧(w.2.1.1=v.2.1.1→aU w.1 v.1=true)) True (fun i v hi hv=> ?_) ?_) ?_
  ·have hi':i<9223372036854775807:=by unfold Sh at hl;omega
   have hr:qA v.2=_:=KZ v.2.1;rcases Nat.eq_zero_or_pos i with h0|h0
   ·have e0:decide ((0:Int)<(i:Int))=false:=decide_eq_false (by omega);have e00:decide ((i:Int)=0)=true:=decide_eq_true (by omega);have hp:(∀ w,0<i→l[i-1]? = some w→w.2.1.1≤v.2.1.1∧(w.2.1.1=v.2.1.1→aU w.1 v.1=true))=True:=propext (nS (l:=l) h0 (fun w=>w.2.1.1≤v.2.1.1∧(w.2.1.1=v.2.1.1→aU w.1 v.1=true)));simp only[hp];simp only[ax,hi,decide_true,cond_true,aI,hv,Option.bind_some,aP hi',e00,jQ,hr];apply gu
    ·repeat' first|apply fV|apply fO|apply gp|apply fZ|apply gm
    ·grind
   ·obtain⟨u,hu⟩:∃ u,l[i-1]? = some u:=⟨_,List.getElem?_eq_getElem (show i-1<l.length by omega)⟩
    have e0:decide ((0:Int)<(i:Int))=true:=decide_eq_true (by omega);have e00:decide ((i:Int)=0)=false:=decide_eq_false (by omega);have hp:(∀ w,0<i→l[i-1]? = some w→w.2.1.1≤v.2.1.1∧(w.2.1.1=v.2.1.1→aU w.1 v.1=true))=(u.2.1.1≤v.2.1.1∧(u.2.1.1=v.2.1.1→aU u.1 v.1=true)):=propext (nX h0 hu (fun w=>w.2.1.1≤v.2.1.1∧(w.2.1.1=v.2.1.1→aU w.1 v.1=true)));simp only[hp];simp only[ax,hi,decide_true,cond_true,aI,hv,Option.bind_some,aP hi',e00,cond_false,oh h0 hi',hu,jQ,hr];apply gu
    ·repeat' first|apply fV|apply fO|apply gp|apply fZ|apply gm
    ·grind
  ·simp
  ·unfold DZ;exact and_iff_left trivial
 rw[eL];apply fin
 ·repeat' first|apply bV|apply bP|apply bW|apply bU|apply eU
 ·unfold zh;simp only[Int.ofNat_eq_natCast];grind
end Go.Proofs.YtlegpimppfabgaaGreat
