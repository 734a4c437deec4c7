/-
 Plain laws of what lies below,as this seat reaches them (by a program of the bench: port.py).
-/
import Derived.Test.YtlegpimppfabgaaGreatCmdLawC
import Derived.Test.YtlegpimppfabgaaGreatSxS
namespace Go.Proofs.YtlegpimppfabgaaGreat
open Go.Sx Go Classical
set_option maxRecDepth 10000
theorem wo {i:Nat} (h0:0 < i) (h:i < 9223372036854775807):wrap64 ((i:Int) - 1)=((i - 1:Nat):Int):=by
 rw [nV (by omega) (by omega)];omega
theorem vS {α:Type} {l:List α} {i:Nat} {u:α} (h0:0 < i) (hu:l[i - 1]? = some u) (p:α→Prop):(∀ w,0 < i→l[i - 1]? = some w→p w)↔p u:=
 ⟨fun h=>h u h0 hu,fun h w _ hw=>by rw [hu] at hw;cases hw;exact h⟩
theorem vM {α:Type} {l:List α} {i:Nat} (h0:i=0) (p:α→Prop):(∀ w,0 < i→l[i - 1]? = some w→p w)↔True:=⟨fun _=>trivial,fun _ w h=>by omega⟩
def kS (x:af):Prop:=IsKey x.1∧fC x.2.1
def nX (r:fG):Prop:=0≤r.1∧r.1≤15∧dH r.2.1∧dH r.2.2.2.1∧dH r.2.2.2.2.2.2.1∧0≤r.2.2.2.2.2.1∧r.2.2.2.2.2.1≤1∧r.2.2.2.2.1.length≤8∧∀ x∈r.2.2.2.2.1,kS x
theorem JR (x:af):uJ (x,())=some (!dec' (kS x),()):=by
 obtain⟨k,v,⟨⟩⟩:=x
 have hv:mG (v,())=_:=Gn v
 unfold uJ
 simp only [iI,hv,Option.bind_some]
 unfold kS
 by_cases h1:IsKey k
 ·by_cases h2:fC v
  ·rw [decide_eq_true h1,dV h2,show dec' (IsKey k∧fC v)=true from dV ⟨h1,h2⟩];rfl
  ·rw [decide_eq_true h1,dU h2,show dec' (IsKey k∧fC v)=false from dU (fun h=>h2 h.2)];rfl
 ·rw [decide_eq_false h1,show dec' (IsKey k∧fC v)=false from dU (fun h=>h1 h.1)];rfl
theorem YA (l:List af) (hl:Sh l):xq (l,())=some (!dec' (∀ c∈l,kS c),()):=by
 unfold xq Aw
 obtain⟨r,h1,h2⟩:=vV l hl (step:=fun (x_1:Int×Unit)=>bif decide (x_1.fst < Int.ofNat (List.length l)) then Option.bind (idx l x_1.fst) fun b=>Option.bind (uJ (b,())) fun b=>bif b.fst then some (Sum.inr x_1) else some (Sum.inl (wrap64 (x_1.fst+1),())) else some (Sum.inr (-1,()))) kS
  (fun i v hi hv hq=>by
   have hi':i < 9223372036854775807:=by unfold Sh at hl;omega
   simp only [aO,hi,decide_true,cond_true,aZ,hv,Option.bind_some,JR,dV hq,Bool.not_true,cond_false,bY hi'])
  (fun i v hi hv hq=>by simp only [aO,hi,decide_true,cond_true,aZ,hv,Option.bind_some,JR,dU hq,Bool.not_false]) (by simp)
 refine aS h1 ?_
 simp only [h2]
theorem KP (r:fG) (hr:Sh r.2.2.2.2.1):qR (r,())=some (dec' (nX r),()):=by
 obtain⟨a1,a2,a3,a4,a5,a6,a7,⟨⟩⟩:=r
 unfold qR
 simp only [nat3,YA a5 hr,Option.bind_some,Bool.not_not]
 apply fin
 ·repeat' first | apply dE | apply dC | apply dF | apply dD | apply gq
 ·unfold nX;simp only [Int.ofNat_eq_natCast];grind
def EJ (r:fG):Prop:=Sh r.2.2.2.2.1∧∀ x∈r.2.2.2.2.1,St x.1
def qj (l:List dJ) (m:Int):Prop:=∀ (i:Nat) v,l[i]? = some v→1≤v.1∧v.1≤m∧bQ v.2.1∧nX v.2.2.1∧∀ w,0 < i→l[i - 1]? = some w→w.1 < v.1
def Fb (l:List dJ):Prop:=Sh l∧∀ s∈l,EJ s.2.2.1
theorem zdF (l:List dJ) (m:Int) (hs:ShS l):x9 (l,m,())=some (dec' (qj l m),()):=by
 obtain⟨hl,hs⟩:=hs
 unfold x9
 refine fin (rX l hl (fun i v=>1≤v.1∧v.1≤m∧bQ v.2.1∧nX v.2.2.1∧∀ w,0 < i→l[i - 1]? = some w→w.1 < v.1) True (fun i v hi hv=> ?_) ?_) ?_
 ·have hi':i < 9223372036854775807:=by unfold Sh at hl;omega
  have hr:qR (v.2.2.1,())=_:=KP v.2.2.1 (hs v (List.mem_of_getElem? hv))
  rcases Nat.eq_zero_or_pos i with h0 | h0
  ·have e0:decide ((0:Int) < (i:Int))=false:=decide_eq_false (by omega)
   have e00:decide ((i:Int)=0)=true:=decide_eq_true (by omega)
   have hp:(∀ w,0 < i→l[i - 1]? = some w→w.1 < v.1)=True:=propext (vM (l:=l) h0 (fun w=>w.1 < v.1))
   simp only [hp]
   simp only [aO,hi,decide_true,cond_true,aZ,hv,Option.bind_some,bY hi',e0,cond_false,oM,lF,hr]
   apply lm
   ·repeat' first | apply kF | apply kC | apply kJ | apply kG | apply kH
   ·grind
  ·obtain⟨u,hu⟩:∃ u,l[i - 1]? = some u:=⟨_,List.getElem?_eq_getElem (show i - 1 < l.length by omega)⟩
   have e0:decide ((0:Int) < (i:Int))=true:=decide_eq_true (by omega)
   have e00:decide ((i:Int)=0)=false:=decide_eq_false (by omega)
   have hp:(∀ w,0 < i→l[i - 1]? = some w→w.1 < v.1)=(u.1 < v.1):=propext (vS h0 hu (fun w=>w.1 < v.1))
   simp only [hp]
   simp only [aO,hi,decide_true,cond_true,aZ,hv,Option.bind_some,bY hi',e0,wo h0 hi',hu,oM,lF,hr]
   apply lm
   ·repeat' first | apply kF | apply kC | apply kJ | apply kG | apply kH
   ·grind
 ·simp
 ·unfold qj;exact and_iff_left trivial
def vW (l:List aG):Prop:=(∀ (i:Nat) v,l[i]? = some v→bQ v.1∧1≤v.2.1∧v.2.1≤1000∧0≤v.2.2.1∧v.2.2.1≤1000∧∀ w,0 < i→l[i - 1]? = some w→w.1 < v.1)∧l.length≤64
theorem zbs (l:List aG) (hl:Sh l):x8 (l,())=some (dec' (vW l),()):=by
 unfold x8
 refine fin (rX l hl (fun i v=>bQ v.1∧1≤v.2.1∧v.2.1≤1000∧0≤v.2.2.1∧v.2.2.1≤1000∧∀ w,0 < i→l[i - 1]? = some w→w.1 < v.1) (l.length≤64) (fun i v hi hv=> ?_) ?_) ?_
 ·have hi':i < 9223372036854775807:=by unfold Sh at hl;omega
  rcases Nat.eq_zero_or_pos i with h0 | h0
  ·have e0:decide ((0:Int) < (i:Int))=false:=decide_eq_false (by omega)
   have e00:decide ((i:Int)=0)=true:=decide_eq_true (by omega)
   have hp:(∀ w,0 < i→l[i - 1]? = some w→w.1 < v.1)=True:=propext (vM (l:=l) h0 (fun w=>w.1 < v.1))
   simp only [hp]
   simp only [aO,hi,decide_true,cond_true,aZ,hv,Option.bind_some,bY hi',e0,cond_false,oM,lF]
   apply lm
   ·repeat' first | apply kF | apply kC | apply kJ | apply kG | apply kH
   ·grind
  ·obtain⟨u,hu⟩:∃ u,l[i - 1]? = some u:=⟨_,List.getElem?_eq_getElem (show i - 1 < l.length by omega)⟩
   have e0:decide ((0:Int) < (i:Int))=true:=decide_eq_true (by omega)
   have e00:decide ((i:Int)=0)=false:=decide_eq_false (by omega)
   have hp:(∀ w,0 < i→l[i - 1]? = some w→w.1 < v.1)=(u.1 < v.1):=propext (vS h0 hu (fun w=>w.1 < v.1))
   simp only [hp]
   simp only [aO,hi,decide_true,cond_true,aZ,hv,Option.bind_some,bY hi',e0,wo h0 hi',hu,oM,lF]
   apply lm
   ·repeat' first | apply kF | apply kC | apply kJ | apply kG | apply kH
   ·grind
 ·simp only [aO,Nat.lt_irrefl,decide_false,cond_false]
  exact congrArg (fun z=>some (Sum.inr (z,()))) (jY (by simp;omega)).symm
 ·exact Iff.rfl
def Gj (l:List af):Prop:=∀ (i:Nat) v,l[i]? = some v→IsKey v.1∧fC v.2.1∧v.2.1.2.2.2.2.2.2.1=false∧∀ w,0 < i→l[i - 1]? = some w→bC w.1 v.1=true
def Ff (c:bi):Prop:=(c.2.1=[]∨IsKey c.2.1)∧(c.2.2.1=[]∨IsKey c.2.2.1)∧c.2.2.2.2.2.2.2.2.2.2.2.2.2.2.1.length≤8∧Gj c.2.2.2.2.2.2.2.2.2.2.2.2.2.2.1
theorem zdN (c:bi) (hl:Sh c.2.2.2.2.2.2.2.2.2.2.2.2.2.2.1):uX (c,())=some (dec' (Ff c),()):=by
 obtain⟨a1,k,en,a4,a5,a6,a7,a8,a9,a10,a11,a12,a13,a14,l,a16,a17,⟨⟩⟩:=c
 have hl:Sh l:=hl
 unfold uX
 simp only [iI,Option.bind_some]
 generalize hL:bu (Int×Unit) (Bool×Unit) _ big (0,())=L
 have eL:L=some (dec' (Gj l),()):=by
  rw [←hL]
  refine fin (rX l hl (fun i v=>IsKey v.1∧fC v.2.1∧v.2.1.2.2.2.2.2.2.1=false∧∀ w,0 < i→l[i - 1]? = some w→bC w.1 v.1=true) True (fun i v hi hv=> ?_) ?_) ?_
  ·have hi':i < 9223372036854775807:=by unfold Sh at hl;omega
   have hr:mG v.2=_:=Gn v.2.1
   rcases Nat.eq_zero_or_pos i with h0 | h0
   ·have e0:decide ((0:Int) < (i:Int))=false:=decide_eq_false (by omega)
    have e00:decide ((i:Int)=0)=true:=decide_eq_true (by omega)
    have hp:(∀ w,0 < i→l[i - 1]? = some w→bC w.1 v.1=true)=True:=propext (vM (l:=l) h0 (fun w=>bC w.1 v.1=true))
    simp only [hp]
    simp only [aO,hi,decide_true,cond_true,aZ,hv,Option.bind_some,bY hi',e0,cond_false,hr]
    apply lm
    ·repeat' first | apply kF | apply kC | apply kJ | apply kG | apply kH
    ·grind
   ·obtain⟨u,hu⟩:∃ u,l[i - 1]? = some u:=⟨_,List.getElem?_eq_getElem (show i - 1 < l.length by omega)⟩
    have e0:decide ((0:Int) < (i:Int))=true:=decide_eq_true (by omega)
    have e00:decide ((i:Int)=0)=false:=decide_eq_false (by omega)
    have hp:(∀ w,0 < i→l[i - 1]? = some w→bC w.1 v.1=true)=(bC u.1 v.1=true):=propext (vS h0 hu (fun w=>bC w.1 v.1=true))
    simp only [hp]
    simp only [aO,hi,decide_true,cond_true,aZ,hv,Option.bind_some,bY hi',e0,wo h0 hi',hu,hr]
    apply lm
    ·repeat' first | apply kF | apply kC | apply kJ | apply kG | apply kH
    ·grind
  ·simp
  ·unfold Gj;exact and_iff_left trivial
 rw [eL]
 unfold Ff
 have n1:decide ((8:Int) < Int.ofNat l.length) = !decide (l.length≤8):=by
  by_cases h:l.length≤8
  ·rw [decide_eq_true h];exact decide_eq_false (by simp;omega)
  ·rw [decide_eq_false h];exact decide_eq_true (by simp;omega)
 simp only [n1]
 by_cases h1:k=[] <;> by_cases h2:IsKey k <;> by_cases h3:en=[] <;> by_cases h4:IsKey en <;> by_cases h5:l.length≤8 <;> simp [h1,h2,h3,h4,h5]
def F5 (rev to:Int) (l:List af):Prop:=∀ (i:Nat) v,l[i]? = some v→IsKey v.1∧fC v.2.1∧rev < v.2.1.1∧v.2.1.1≤to∧∀ w,0 < i→l[i - 1]? = some w→w.2.1.1≤v.2.1.1∧(w.2.1.1=v.2.1.1→bC w.1 v.1=true)
def Fa (c:bi):Prop:=bQ c.2.2.2.2.2.2.1∧bQ c.2.2.2.2.2.2.2.2.2.2.2.2.1∧c.2.2.2.2.2.2.1 < c.2.2.2.2.2.2.2.2.2.2.2.2.1∧c.2.2.2.2.2.2.2.2.2.2.2.2.2.2.1.length≤64∧F5 c.2.2.2.2.2.2.1 c.2.2.2.2.2.2.2.2.2.2.2.2.1 c.2.2.2.2.2.2.2.2.2.2.2.2.2.2.1
theorem zdD (c:bi) (hl:Sh c.2.2.2.2.2.2.2.2.2.2.2.2.2.2.1):uV (c,())=some (dec' (Fa c),()):=by
 obtain⟨a1,k,en,a4,a5,a6,rev,a8,a9,a10,a11,a12,to,a14,l,a16,a17,⟨⟩⟩:=c
 have hl:Sh l:=hl
 unfold uV
 simp only [Qi,Option.bind_some]
 generalize hL:bu (Int×Unit) (Bool×Unit) _ big (0,())=L
 have eL:L=some (dec' (F5 rev to l),()):=by
  rw [←hL]
  refine fin (rX l hl (fun i v=>IsKey v.1∧fC v.2.1∧rev < v.2.1.1∧v.2.1.1≤to∧∀ w,0 < i→l[i - 1]? = some w→w.2.1.1≤v.2.1.1∧(w.2.1.1=v.2.1.1→bC w.1 v.1=true)) True (fun i v hi hv=> ?_) ?_) ?_
  ·have hi':i < 9223372036854775807:=by unfold Sh at hl;omega
   have hr:mG v.2=_:=Gn v.2.1
   rcases Nat.eq_zero_or_pos i with h0 | h0
   ·have e0:decide ((0:Int) < (i:Int))=false:=decide_eq_false (by omega)
    have e00:decide ((i:Int)=0)=true:=decide_eq_true (by omega)
    have hp:(∀ w,0 < i→l[i - 1]? = some w→w.2.1.1≤v.2.1.1∧(w.2.1.1=v.2.1.1→bC w.1 v.1=true))=True:=propext (vM (l:=l) h0 (fun w=>w.2.1.1≤v.2.1.1∧(w.2.1.1=v.2.1.1→bC w.1 v.1=true)))
    simp only [hp]
    simp only [aO,hi,decide_true,cond_true,aZ,hv,Option.bind_some,bY hi',e00,iI,hr]
    apply lm
    ·repeat' first | apply kF | apply kC | apply kJ | apply kG | apply kH
    ·grind
   ·obtain⟨u,hu⟩:∃ u,l[i - 1]? = some u:=⟨_,List.getElem?_eq_getElem (show i - 1 < l.length by omega)⟩
    have e0:decide ((0:Int) < (i:Int))=true:=decide_eq_true (by omega)
    have e00:decide ((i:Int)=0)=false:=decide_eq_false (by omega)
    have hp:(∀ w,0 < i→l[i - 1]? = some w→w.2.1.1≤v.2.1.1∧(w.2.1.1=v.2.1.1→bC w.1 v.1=true))=(u.2.1.1≤v.2.1.1∧(u.2.1.1=v.2.1.1→bC u.1 v.1=true)):=propext (vS h0 hu (fun w=>w.2.1.1≤v.2.1.1∧(w.2.1.1=v.2.1.1→bC w.1 v.1=true)))
    simp only [hp]
    simp only [aO,hi,decide_true,cond_true,aZ,hv,Option.bind_some,bY hi',e00,cond_false,wo h0 hi',hu,iI,hr]
    apply lm
    ·repeat' first | apply kF | apply kC | apply kJ | apply kG | apply kH
    ·grind
  ·simp
  ·unfold F5;exact and_iff_left trivial
 rw [eL]
 apply fin
 ·repeat' first | apply dE | apply dC | apply dF | apply dD | apply gq
 ·unfold Fa;simp only [Int.ofNat_eq_natCast];grind
end Go.Proofs.YtlegpimppfabgaaGreat
