/-
 Plain laws of what lies below,as this seat reaches them (by a program of the bench: port.py).
-/
import Derived.Test.YtpfjaaofpcbejaaGreatCmdLawC
import Derived.Test.YtpfjaaofpcbejaaGreatSxS
namespace Go.Proofs.YtpfjaaofpcbejaaGreat
open Go.Sx Go Classical
set_option maxRecDepth 10000
theorem mZ {i:Nat} (h0:0 < i) (h:i < 9223372036854775807):wrap64 ((i:Int) - 1)=((i - 1:Nat):Int):=by
 rw [dU (by omega) (by omega)];omega
theorem mQ {α:Type} {l:List α} {i:Nat} {u:α} (h0:0 < i) (hu:l[i - 1]? = some u) (p:α→Prop):(∀ w,0 < i→l[i - 1]? = some w→p w)↔p u:=
 ⟨fun h=>h u h0 hu,fun h w _ hw=>by rw [hu] at hw;cases hw;exact h⟩
theorem mG {α:Type} {l:List α} {i:Nat} (h0:i=0) (p:α→Prop):(∀ w,0 < i→l[i - 1]? = some w→p w)↔True:=⟨fun _=>trivial,fun _ w h=>by omega⟩
def iT (x:ae):Prop:=IsKey x.1∧fA x.2.1
def lH (r:fM):Prop:=0≤r.1∧r.1≤15∧dF r.2.1∧dF r.2.2.2.1∧dF r.2.2.2.2.2.2.1∧0≤r.2.2.2.2.2.1∧r.2.2.2.2.2.1≤1∧r.2.2.2.2.1.length≤8∧∀ x∈r.2.2.2.2.1,iT x
theorem L6 (x:ae):wO (x,())=some (!dec' (iT x),()):=by
 obtain⟨k,v,⟨⟩⟩:=x
 have hv:nY (v,())=_:=IB v
 unfold wO
 simp only [kF,hv,Option.bind_some]
 unfold iT
 by_cases h1:IsKey k
 ·by_cases h2:fA v
  ·rw [decide_eq_true h1,dL h2,show dec' (IsKey k∧fA v)=true from dL ⟨h1,h2⟩];rfl
  ·rw [decide_eq_true h1,dK h2,show dec' (IsKey k∧fA v)=false from dK (fun h=>h2 h.2)];rfl
 ·rw [decide_eq_false h1,show dec' (IsKey k∧fA v)=false from dK (fun h=>h1 h.1)];rfl
theorem zbd (l:List ae) (hl:Sh l):yS (l,())=some (!dec' (∀ c∈l,iT c),()):=by
 unfold yS Dt
 obtain⟨r,h1,h2⟩:=xN l hl (step:=fun (x_1:Int×Unit)=>bif decide (x_1.fst < Int.ofNat (List.length l)) then Option.bind (idx l x_1.fst) fun b=>Option.bind (wO (b,())) fun b=>bif b.fst then some (Sum.inr x_1) else some (Sum.inl (wrap64 (x_1.fst+1),())) else some (Sum.inr (-1,()))) iT
  (fun i v hi hv hq=>by
   have hi':i < 9223372036854775807:=by unfold Sh at hl;omega
   simp only [aI,hi,decide_true,cond_true,aS,hv,Option.bind_some,L6,dL hq,Bool.not_true,cond_false,bF hi'])
  (fun i v hi hv hq=>by simp only [aI,hi,decide_true,cond_true,aS,hv,Option.bind_some,L6,dK hq,Bool.not_false]) (by simp)
 refine aU h1 ?_
 simp only [h2]
theorem Nw (r:fM) (hr:Sh r.2.2.2.2.1):tN (r,())=some (dec' (lH r),()):=by
 obtain⟨a1,a2,a3,a4,a5,a6,a7,⟨⟩⟩:=r
 unfold tN
 simp only [nat3,zbd a5 hr,Option.bind_some,Bool.not_not]
 apply fin
 ·repeat' first | apply bZ | apply bU | apply cu | apply bY | apply dS
 ·unfold lH;simp only [Int.ofNat_eq_natCast];grind
def Cc (r:fM):Prop:=Sh r.2.2.2.2.1∧∀ x∈r.2.2.2.2.1,St x.1
theorem L8 (r:fM) (hr:Cc r):F83 (r,())=some (dec' (lH r),()):=by
 obtain⟨a1,a2,a3,a4,a5,a6,a7,⟨⟩⟩:=r
 obtain⟨hl,hs⟩:=hr
 unfold F83
 refine fin (jo a5 hl (fun _ x=>iT x) (0≤a1∧a1≤15∧dF a2∧dF a4∧dF a7∧0≤a6∧a6≤1∧a5.length≤8) (fun i v hi hv=> ?_) ?_) ?_
 ·have hi':i < 9223372036854775807:=by unfold Sh at hl;simp only at hl;omega
  have hk:=hs v (List.mem_of_getElem? hv)
  obtain⟨k,w,⟨⟩⟩:=v
  simp only [aI,hi,decide_true,cond_true,aS,hv,Option.bind_some,jm k hk,BR,bF hi']
  apply fJ
  ·repeat' first | apply fE | apply eY | apply fH | apply fF | apply fG
  ·unfold iT;grind
 ·simp only [aI,Nat.lt_irrefl,decide_false,cond_false,lF,xe,Option.bind_some]
  refine (congrArg (Option.map Sum.inr) (?_:_=some (dec' (0≤a1∧a1≤15∧dF a2∧dF a4∧dF a7∧0≤a6∧a6≤1∧a5.length≤8),()))).trans rfl
  apply fin
  ·repeat' first | apply bZ | apply bU | apply cu | apply bY | apply dS
  ·simp only [Int.ofNat_eq_natCast];grind
 ·unfold lH;rw [GI (p:=iT)];grind
def oL (l:List dJ) (m:Int):Prop:=∀ (i:Nat) v,l[i]? = some v→1≤v.1∧v.1≤m∧bJ v.2.1∧lH v.2.2.1∧∀ w,0 < i→l[i - 1]? = some w→w.1 < v.1
def yx (l:List dJ):Prop:=Sh l∧∀ s∈l,Cc s.2.2.1
theorem zhw (l:List dJ) (m:Int) (hs:ShS l):zD (l,m,())=some (dec' (oL l m),()):=by
 obtain⟨hl,hs⟩:=hs
 unfold zD
 refine fin (jo l hl (fun i v=>1≤v.1∧v.1≤m∧bJ v.2.1∧lH v.2.2.1∧∀ w,0 < i→l[i - 1]? = some w→w.1 < v.1) True (fun i v hi hv=> ?_) ?_) ?_
 ·have hi':i < 9223372036854775807:=by unfold Sh at hl;omega
  have hr:tN (v.2.2.1,())=_:=Nw v.2.2.1 (hs v (List.mem_of_getElem? hv))
  rcases Nat.eq_zero_or_pos i with h0 | h0
  ·have e0:decide ((0:Int) < (i:Int))=false:=decide_eq_false (by omega)
   have e00:decide ((i:Int)=0)=true:=decide_eq_true (by omega)
   have hp:(∀ w,0 < i→l[i - 1]? = some w→w.1 < v.1)=True:=propext (mG (l:=l) h0 (fun w=>w.1 < v.1))
   simp only [hp]
   simp only [aI,hi,decide_true,cond_true,aS,hv,Option.bind_some,bF hi',e0,cond_false,qx,kU,hr]
   apply fJ
   ·repeat' first | apply fE | apply eY | apply fH | apply fF | apply fG
   ·grind
  ·obtain⟨u,hu⟩:∃ u,l[i - 1]? = some u:=⟨_,List.getElem?_eq_getElem (show i - 1 < l.length by omega)⟩
   have e0:decide ((0:Int) < (i:Int))=true:=decide_eq_true (by omega)
   have e00:decide ((i:Int)=0)=false:=decide_eq_false (by omega)
   have hp:(∀ w,0 < i→l[i - 1]? = some w→w.1 < v.1)=(u.1 < v.1):=propext (mQ h0 hu (fun w=>w.1 < v.1))
   simp only [hp]
   simp only [aI,hi,decide_true,cond_true,aS,hv,Option.bind_some,bF hi',e0,mZ h0 hi',hu,qx,kU,hr]
   apply fJ
   ·repeat' first | apply fE | apply eY | apply fH | apply fF | apply fG
   ·grind
 ·simp
 ·unfold oL;exact and_iff_left trivial
theorem Ny (l:List dJ) (m:Int) (hs:yx l):tJ (l,m,())=some (dec' (oL l m),()):=by
 obtain⟨hl,hs⟩:=hs
 unfold tJ
 refine fin (jo l hl (fun i v=>1≤v.1∧v.1≤m∧bJ v.2.1∧lH v.2.2.1∧∀ w,0 < i→l[i - 1]? = some w→w.1 < v.1) True (fun i v hi hv=> ?_) ?_) ?_
 ·have hi':i < 9223372036854775807:=by unfold Sh at hl;omega
  have hr:F83 (v.2.2.1,())=_:=L8 v.2.2.1 (hs v (List.mem_of_getElem? hv))
  rcases Nat.eq_zero_or_pos i with h0 | h0
  ·have e0:decide ((0:Int) < (i:Int))=false:=decide_eq_false (by omega)
   have e00:decide ((i:Int)=0)=true:=decide_eq_true (by omega)
   have hp:(∀ w,0 < i→l[i - 1]? = some w→w.1 < v.1)=True:=propext (mG (l:=l) h0 (fun w=>w.1 < v.1))
   simp only [hp]
   simp only [aI,hi,decide_true,cond_true,aS,hv,Option.bind_some,bF hi',e0,cond_false,pV,lF,hr]
   apply fJ
   ·repeat' first | apply fE | apply eY | apply fH | apply fF | apply fG
   ·grind
  ·obtain⟨u,hu⟩:∃ u,l[i - 1]? = some u:=⟨_,List.getElem?_eq_getElem (show i - 1 < l.length by omega)⟩
   have e0:decide ((0:Int) < (i:Int))=true:=decide_eq_true (by omega)
   have e00:decide ((i:Int)=0)=false:=decide_eq_false (by omega)
   have hp:(∀ w,0 < i→l[i - 1]? = some w→w.1 < v.1)=(u.1 < v.1):=propext (mQ h0 hu (fun w=>w.1 < v.1))
   simp only [hp]
   simp only [aI,hi,decide_true,cond_true,aS,hv,Option.bind_some,bF hi',e0,mZ h0 hi',hu,pV,lF,hr]
   apply fJ
   ·repeat' first | apply fE | apply eY | apply fH | apply fF | apply fG
   ·grind
 ·simp
 ·unfold oL;exact and_iff_left trivial
def uz (l:List ay):Prop:=(∀ (i:Nat) v,l[i]? = some v→bJ v.1∧1≤v.2.1∧v.2.1≤1000∧0≤v.2.2.1∧v.2.2.1≤1000∧∀ w,0 < i→l[i - 1]? = some w→w.1 < v.1)∧l.length≤64
theorem zel (l:List ay) (hl:Sh l):zC (l,())=some (dec' (uz l),()):=by
 unfold zC
 refine fin (jo l hl (fun i v=>bJ v.1∧1≤v.2.1∧v.2.1≤1000∧0≤v.2.2.1∧v.2.2.1≤1000∧∀ w,0 < i→l[i - 1]? = some w→w.1 < v.1) (l.length≤64) (fun i v hi hv=> ?_) ?_) ?_
 ·have hi':i < 9223372036854775807:=by unfold Sh at hl;omega
  rcases Nat.eq_zero_or_pos i with h0 | h0
  ·have e0:decide ((0:Int) < (i:Int))=false:=decide_eq_false (by omega)
   have e00:decide ((i:Int)=0)=true:=decide_eq_true (by omega)
   have hp:(∀ w,0 < i→l[i - 1]? = some w→w.1 < v.1)=True:=propext (mG (l:=l) h0 (fun w=>w.1 < v.1))
   simp only [hp]
   simp only [aI,hi,decide_true,cond_true,aS,hv,Option.bind_some,bF hi',e0,cond_false,qx,kU]
   apply fJ
   ·repeat' first | apply fE | apply eY | apply fH | apply fF | apply fG
   ·grind
  ·obtain⟨u,hu⟩:∃ u,l[i - 1]? = some u:=⟨_,List.getElem?_eq_getElem (show i - 1 < l.length by omega)⟩
   have e0:decide ((0:Int) < (i:Int))=true:=decide_eq_true (by omega)
   have e00:decide ((i:Int)=0)=false:=decide_eq_false (by omega)
   have hp:(∀ w,0 < i→l[i - 1]? = some w→w.1 < v.1)=(u.1 < v.1):=propext (mQ h0 hu (fun w=>w.1 < v.1))
   simp only [hp]
   simp only [aI,hi,decide_true,cond_true,aS,hv,Option.bind_some,bF hi',e0,mZ h0 hi',hu,qx,kU]
   apply fJ
   ·repeat' first | apply fE | apply eY | apply fH | apply fF | apply fG
   ·grind
 ·simp only [aI,Nat.lt_irrefl,decide_false,cond_false]
  exact congrArg (fun z=>some (Sum.inr (z,()))) (iq (by simp;omega)).symm
 ·exact Iff.rfl
theorem KT (l:List ay) (hl:Sh l):tH (l,())=some (dec' (uz l),()):=by
 unfold tH
 refine fin (jo l hl (fun i v=>bJ v.1∧1≤v.2.1∧v.2.1≤1000∧0≤v.2.2.1∧v.2.2.1≤1000∧∀ w,0 < i→l[i - 1]? = some w→w.1 < v.1) (l.length≤64) (fun i v hi hv=> ?_) ?_) ?_
 ·have hi':i < 9223372036854775807:=by unfold Sh at hl;omega
  rcases Nat.eq_zero_or_pos i with h0 | h0
  ·have e0:decide ((0:Int) < (i:Int))=false:=decide_eq_false (by omega)
   have e00:decide ((i:Int)=0)=true:=decide_eq_true (by omega)
   have hp:(∀ w,0 < i→l[i - 1]? = some w→w.1 < v.1)=True:=propext (mG (l:=l) h0 (fun w=>w.1 < v.1))
   simp only [hp]
   simp only [aI,hi,decide_true,cond_true,aS,hv,Option.bind_some,bF hi',e0,cond_false,pV,lF]
   apply fJ
   ·repeat' first | apply fE | apply eY | apply fH | apply fF | apply fG
   ·grind
  ·obtain⟨u,hu⟩:∃ u,l[i - 1]? = some u:=⟨_,List.getElem?_eq_getElem (show i - 1 < l.length by omega)⟩
   have e0:decide ((0:Int) < (i:Int))=true:=decide_eq_true (by omega)
   have e00:decide ((i:Int)=0)=false:=decide_eq_false (by omega)
   have hp:(∀ w,0 < i→l[i - 1]? = some w→w.1 < v.1)=(u.1 < v.1):=propext (mQ h0 hu (fun w=>w.1 < v.1))
   simp only [hp]
   simp only [aI,hi,decide_true,cond_true,aS,hv,Option.bind_some,bF hi',e0,mZ h0 hi',hu,pV,lF]
   apply fJ
   ·repeat' first | apply fE | apply eY | apply fH | apply fF | apply fG
   ·grind
 ·simp only [aI,Nat.lt_irrefl,decide_false,cond_false]
  exact congrArg (fun z=>some (Sum.inr (z,()))) (iq (by simp;omega)).symm
 ·exact Iff.rfl
def Dj (l:List ae):Prop:=∀ (i:Nat) v,l[i]? = some v→IsKey v.1∧fA v.2.1∧v.2.1.2.2.2.2.2.2.1=false∧∀ w,0 < i→l[i - 1]? = some w→bu w.1 v.1=true
def yA (c:bH):Prop:=(c.2.1=[]∨IsKey c.2.1)∧(c.2.2.1=[]∨IsKey c.2.2.1)∧c.2.2.2.2.2.2.2.2.2.2.2.2.2.2.1.length≤8∧Dj c.2.2.2.2.2.2.2.2.2.2.2.2.2.2.1
theorem zhL (c:bH) (hl:Sh c.2.2.2.2.2.2.2.2.2.2.2.2.2.2.1):wG (c,())=some (dec' (yA c),()):=by
 obtain⟨a1,k,en,a4,a5,a6,a7,a8,a9,a10,a11,a12,a13,a14,l,a16,a17,⟨⟩⟩:=c
 have hl:Sh l:=hl
 unfold wG
 simp only [kF,Option.bind_some]
 generalize hL:aZ (Int×Unit) (Bool×Unit) _ big (0,())=L
 have eL:L=some (dec' (Dj l),()):=by
  rw [←hL]
  refine fin (jo l hl (fun i v=>IsKey v.1∧fA v.2.1∧v.2.1.2.2.2.2.2.2.1=false∧∀ w,0 < i→l[i - 1]? = some w→bu w.1 v.1=true) True (fun i v hi hv=> ?_) ?_) ?_
  ·have hi':i < 9223372036854775807:=by unfold Sh at hl;omega
   have hr:nY v.2=_:=IB v.2.1
   rcases Nat.eq_zero_or_pos i with h0 | h0
   ·have e0:decide ((0:Int) < (i:Int))=false:=decide_eq_false (by omega)
    have e00:decide ((i:Int)=0)=true:=decide_eq_true (by omega)
    have hp:(∀ w,0 < i→l[i - 1]? = some w→bu w.1 v.1=true)=True:=propext (mG (l:=l) h0 (fun w=>bu w.1 v.1=true))
    simp only [hp]
    simp only [aI,hi,decide_true,cond_true,aS,hv,Option.bind_some,bF hi',e0,cond_false,hr]
    apply fJ
    ·repeat' first | apply fE | apply eY | apply fH | apply fF | apply fG
    ·grind
   ·obtain⟨u,hu⟩:∃ u,l[i - 1]? = some u:=⟨_,List.getElem?_eq_getElem (show i - 1 < l.length by omega)⟩
    have e0:decide ((0:Int) < (i:Int))=true:=decide_eq_true (by omega)
    have e00:decide ((i:Int)=0)=false:=decide_eq_false (by omega)
    have hp:(∀ w,0 < i→l[i - 1]? = some w→bu w.1 v.1=true)=(bu u.1 v.1=true):=propext (mQ h0 hu (fun w=>bu w.1 v.1=true))
    simp only [hp]
    simp only [aI,hi,decide_true,cond_true,aS,hv,Option.bind_some,bF hi',e0,mZ h0 hi',hu,hr]
    apply fJ
    ·repeat' first | apply fE | apply eY | apply fH | apply fF | apply fG
    ·grind
  ·simp
  ·unfold Dj;exact and_iff_left trivial
 rw [eL]
 unfold yA
 have n1:decide ((8:Int) < Int.ofNat l.length) = !decide (l.length≤8):=by
  by_cases h:l.length≤8
  ·rw [decide_eq_true h];exact decide_eq_false (by simp;omega)
  ·rw [decide_eq_false h];exact decide_eq_true (by simp;omega)
 simp only [n1]
 by_cases h1:k=[] <;> by_cases h2:IsKey k <;> by_cases h3:en=[] <;> by_cases h4:IsKey en <;> by_cases h5:l.length≤8 <;> simp [h1,h2,h3,h4,h5]
def Df (rev to:Int) (l:List ae):Prop:=∀ (i:Nat) v,l[i]? = some v→IsKey v.1∧fA v.2.1∧rev < v.2.1.1∧v.2.1.1≤to∧∀ w,0 < i→l[i - 1]? = some w→w.2.1.1≤v.2.1.1∧(w.2.1.1=v.2.1.1→bu w.1 v.1=true)
def yu (c:bH):Prop:=bJ c.2.2.2.2.2.2.1∧bJ c.2.2.2.2.2.2.2.2.2.2.2.2.1∧c.2.2.2.2.2.2.1 < c.2.2.2.2.2.2.2.2.2.2.2.2.1∧c.2.2.2.2.2.2.2.2.2.2.2.2.2.2.1.length≤64∧Df c.2.2.2.2.2.2.1 c.2.2.2.2.2.2.2.2.2.2.2.2.1 c.2.2.2.2.2.2.2.2.2.2.2.2.2.2.1
theorem zht (c:bH) (hl:Sh c.2.2.2.2.2.2.2.2.2.2.2.2.2.2.1):wF (c,())=some (dec' (yu c),()):=by
 obtain⟨a1,k,en,a4,a5,a6,rev,a8,a9,a10,a11,a12,to,a14,l,a16,a17,⟨⟩⟩:=c
 have hl:Sh l:=hl
 unfold wF
 simp only [SI,Option.bind_some]
 generalize hL:aZ (Int×Unit) (Bool×Unit) _ big (0,())=L
 have eL:L=some (dec' (Df rev to l),()):=by
  rw [←hL]
  refine fin (jo l hl (fun i v=>IsKey v.1∧fA v.2.1∧rev < v.2.1.1∧v.2.1.1≤to∧∀ w,0 < i→l[i - 1]? = some w→w.2.1.1≤v.2.1.1∧(w.2.1.1=v.2.1.1→bu w.1 v.1=true)) True (fun i v hi hv=> ?_) ?_) ?_
  ·have hi':i < 9223372036854775807:=by unfold Sh at hl;omega
   have hr:nY v.2=_:=IB v.2.1
   rcases Nat.eq_zero_or_pos i with h0 | h0
   ·have e0:decide ((0:Int) < (i:Int))=false:=decide_eq_false (by omega)
    have e00:decide ((i:Int)=0)=true:=decide_eq_true (by omega)
    have hp:(∀ w,0 < i→l[i - 1]? = some w→w.2.1.1≤v.2.1.1∧(w.2.1.1=v.2.1.1→bu w.1 v.1=true))=True:=propext (mG (l:=l) h0 (fun w=>w.2.1.1≤v.2.1.1∧(w.2.1.1=v.2.1.1→bu w.1 v.1=true)))
    simp only [hp]
    simp only [aI,hi,decide_true,cond_true,aS,hv,Option.bind_some,bF hi',e00,kF,hr]
    apply fJ
    ·repeat' first | apply fE | apply eY | apply fH | apply fF | apply fG
    ·grind
   ·obtain⟨u,hu⟩:∃ u,l[i - 1]? = some u:=⟨_,List.getElem?_eq_getElem (show i - 1 < l.length by omega)⟩
    have e0:decide ((0:Int) < (i:Int))=true:=decide_eq_true (by omega)
    have e00:decide ((i:Int)=0)=false:=decide_eq_false (by omega)
    have hp:(∀ w,0 < i→l[i - 1]? = some w→w.2.1.1≤v.2.1.1∧(w.2.1.1=v.2.1.1→bu w.1 v.1=true))=(u.2.1.1≤v.2.1.1∧(u.2.1.1=v.2.1.1→bu u.1 v.1=true)):=propext (mQ h0 hu (fun w=>w.2.1.1≤v.2.1.1∧(w.2.1.1=v.2.1.1→bu w.1 v.1=true)))
    simp only [hp]
    simp only [aI,hi,decide_true,cond_true,aS,hv,Option.bind_some,bF hi',e00,cond_false,mZ h0 hi',hu,kF,hr]
    apply fJ
    ·repeat' first | apply fE | apply eY | apply fH | apply fF | apply fG
    ·grind
  ·simp
  ·unfold Df;exact and_iff_left trivial
 rw [eL]
 apply fin
 ·repeat' first | apply bZ | apply bU | apply cu | apply bY | apply dS
 ·unfold yu;simp only [Int.ofNat_eq_natCast];grind
end Go.Proofs.YtpfjaaofpcbejaaGreat
