/-
 Plain laws of what lies below,as this seat reaches them (by a program of the bench: port.py).
-/
import Derived.Test.YtpfjaaofpcbejaaGreatTalkLawA
import Derived.Test.YtpfjaaofpcbejaaGreatSxS
namespace Go.Proofs.YtpfjaaofpcbejaaGreat
open Go.Sx Go Classical
set_option maxRecDepth 10000
def jT (m:TMD):TMD:=
 if m.1=1 then (m.1,0,m.2.2.1,jc,0,[],[],0,0,0,0,iR,[],[],false,eQ,gu,())
 else if m.1=2 then (m.1,m.2.1,iU,m.2.2.2.1,0,[],[],0,0,0,0,iR,[],[],false,eQ,gu,())
 else if m.1=3 then (m.1,m.2.1,iU,jc,m.2.2.2.2.1,m.2.2.2.2.2.1,m.2.2.2.2.2.2.1,m.2.2.2.2.2.2.2.1,m.2.2.2.2.2.2.2.2.1,0,0,iR,[],[],false,eQ,gu,())
 else if m.1=4 then (m.1,m.2.1,iU,jc,m.2.2.2.2.1,m.2.2.2.2.2.1,m.2.2.2.2.2.2.1,m.2.2.2.2.2.2.2.1,0,0,0,iR,[],[],false,eQ,gu,())
 else if m.1=5 then (m.1,m.2.1,iU,jc,0,m.2.2.2.2.2.1,m.2.2.2.2.2.2.1,m.2.2.2.2.2.2.2.1,0,0,0,iR,[],[],false,eQ,gu,())
 else if m.1=6 then (m.1,m.2.1,iU,jc,0,[],[],m.2.2.2.2.2.2.2.1,0,0,0,iR,[],[],false,eQ,gu,())
 else if m.1=7 then (m.1,m.2.1,iU,jc,0,[],[],0,0,0,0,iR,[],[],false,eQ,gu,())
 else if m.1=8 then (m.1,m.2.1,iU,jc,0,[],[],0,0,m.2.2.2.2.2.2.2.2.2.1,m.2.2.2.2.2.2.2.2.2.2.1,m.2.2.2.2.2.2.2.2.2.2.2.1,[],[],false,eQ,gu,())
 else if m.1=9 then (m.1,m.2.1,iU,jc,0,[],[],m.2.2.2.2.2.2.2.1,0,m.2.2.2.2.2.2.2.2.2.1,0,iR,m.2.2.2.2.2.2.2.2.2.2.2.2.1,[],false,eQ,gu,())
 else if m.1=10 then (m.1,m.2.1,iU,jc,0,[],[],0,0,m.2.2.2.2.2.2.2.2.2.1,0,iR,[],m.2.2.2.2.2.2.2.2.2.2.2.2.2.1,m.2.2.2.2.2.2.2.2.2.2.2.2.2.2.1,eQ,gu,())
 else if m.1=11 then (m.1,m.2.1,iU,jc,0,[],[],0,0,m.2.2.2.2.2.2.2.2.2.1,0,iR,[],[],false,m.2.2.2.2.2.2.2.2.2.2.2.2.2.2.2.1,gu,())
 else (m.1,m.2.1,iU,jc,0,[],[],m.2.2.2.2.2.2.2.1,0,0,0,iR,[],[],false,eQ,m.2.2.2.2.2.2.2.2.2.2.2.2.2.2.2.2.1,())
theorem rE {k:Int} (h1:1≤k) (h2:k≤12):k=1∨k=2∨k=3∨k=4∨k=5∨k=6∨k=7∨k=8∨k=9∨k=10∨k=11∨k=12:=by omega
theorem zgW (m:TMD) (h:1≤m.1∧m.1≤12):F65 (m,())=some (jT m,()):=by
 obtain⟨k,r⟩:=m
 rcases rE h.1 h.2 with h | h | h | h | h | h | h | h | h | h | h | h <;> (dsimp only at h;subst h;rfl)
theorem zhf (m:TMD) (h:1≤m.1∧m.1≤12):F78 (m,())=some (jT m,()):=by
 obtain⟨k,r⟩:=m
 rcases rE h.1 h.2 with h | h | h | h | h | h | h | h | h | h | h | h <;> (dsimp only at h;subst h;rfl)
theorem lM {p:Prop} [Decidable p] {a b:TMD} (ha:ShT a) (hb:ShT b):ShT (if p then a else b):=by
 by_cases h:p
 ·rw [if_pos h];exact ha
 ·rw [if_neg h];exact hb
theorem NT {m:TMD} (h:ShT m):ShT (jT m):=by
 have z:∀ {α:Type},Sh ([]:List α):=fun {_}=>by simp [Sh]
 have zB:ShB []:=⟨z,fun b hb=>by simp at hb⟩
 have zH:ShH eQ:=⟨⟨z,fun b hb=>by simp at hb⟩,z⟩
 obtain⟨h1,h2,h3,h4,h5,h6⟩:=h
 unfold jT
 exact lM ⟨h1,lW,z,zB,z,zH⟩ (lM ⟨z,h2,z,zB,z,zH⟩ (lM ⟨z,lW,z,zB,z,zH⟩ (lM ⟨z,lW,z,zB,z,zH⟩ (lM ⟨z,lW,z,zB,z,zH⟩ (lM ⟨z,lW,z,zB,z,zH⟩ (lM ⟨z,lW,z,zB,z,zH⟩ (lM ⟨z,lW,h3,zB,z,zH⟩ (lM ⟨z,lW,z,h4,z,zH⟩ (lM ⟨z,lW,z,zB,h5,zH⟩ (lM ⟨z,lW,z,zB,z,h6⟩ ⟨z,lW,z,zB,z,zH⟩))))))))))
def oH (l:List ae) (m:Int):Prop:=(l.length:Int)≤m∧∀ x∈l,iT x
theorem Nr (x:ae):wM (x,())=some (!dec' (iT x),()):=by
 obtain⟨k,v,⟨⟩⟩:=x
 have hv:tC ([v],())=some (decide (rV [v]),()):=MP [v] (by simp)
 have hi:rV [v]↔fA v:=by unfold rV;simp
 unfold wM
 simp only [kF,hv,Option.bind_some]
 unfold iT
 by_cases h1:IsKey k
 ·by_cases h2:fA v
  ·rw [decide_eq_true h1,decide_eq_true (hi.2 h2),show dec' (IsKey k∧fA v)=true from dL ⟨h1,h2⟩];rfl
  ·rw [decide_eq_true h1,decide_eq_false (fun h=>h2 (hi.1 h)),show dec' (IsKey k∧fA v)=false from dK (fun h=>h2 h.2)];rfl
 ·rw [decide_eq_false h1,show dec' (IsKey k∧fA v)=false from dK (fun h=>h1 h.1)];rfl
theorem zaL (l:List ae) (hl:Sh l):yR (l,())=some (!dec' (∀ c∈l,iT c),()):=by
 unfold yR Dq
 obtain⟨r,h1,h2⟩:=xN l hl (step:=fun (x_1:Int×Unit)=>bif decide (x_1.fst < Int.ofNat (List.length l)) then Option.bind (idx l x_1.fst) fun b=>Option.bind (wM (b,())) fun b=>bif b.fst then some (Sum.inr x_1) else some (Sum.inl (wrap64 (x_1.fst+1),())) else some (Sum.inr (-1,()))) iT
  (fun i v hi hv hq=>by
   have hi':i < 9223372036854775807:=by unfold Sh at hl;omega
   simp only [aI,hi,decide_true,cond_true,aS,hv,Option.bind_some,Nr,dL hq,Bool.not_true,cond_false,bF hi'])
  (fun i v hi hv hq=>by simp only [aI,hi,decide_true,cond_true,aS,hv,Option.bind_some,Nr,dK hq,Bool.not_false]) (by simp)
 refine aU h1 ?_
 simp only [h2]
theorem LC (l:List ae) (m:Int) (hl:Sh l):qO (l,m,())=some (dec' (oH l m),()):=by
 unfold qO
 simp only [zaL l hl,Option.bind_some,Bool.not_not]
 apply fin
 ·repeat' first | apply bZ | apply bU | apply cu | apply bY
 ·unfold oH;simp only [Int.ofNat_eq_natCast];grind
theorem KQ (l:List ae) (m:Int) (hz:gp l):F85 (l,m,())=some (dec' (oH l m),()):=by
 obtain⟨hl,hs⟩:=hz
 unfold F85
 refine fin (jo l hl (fun _ x=>iT x) ((l.length:Int)≤m) (fun i v hi hv=> ?_) ?_) ?_
 ·have hi':i < 9223372036854775807:=by unfold Sh at hl;omega
  have hk:=hs v (List.mem_of_getElem? hv)
  obtain⟨k,w,⟨⟩⟩:=v
  simp only [aI,hi,decide_true,cond_true,aS,hv,Option.bind_some,jm k hk,BR,bF hi']
  apply fJ
  ·repeat' first | apply fE | apply eY | apply fH | apply fF | apply fG
  ·unfold iT;grind
 ·simp only [aI,Nat.lt_irrefl,decide_false,cond_false]
  exact congrArg (fun z=>some (Sum.inr (z,()))) (iq (p:=(l.length:Int)≤m) (q:=Int.ofNat l.length≤m) Iff.rfl).symm
 ·unfold oH;rw [GI (p:=iT)];exact And.comm
theorem EG (n a b:Int):F67 (n,a,b,())=some (dec' (a≤n∧n≤b),()):=kU n a b
theorem Ew (n a b:Int):F80 (n,a,b,())=some (dec' (a≤n∧n≤b),()):=kU n a b
def ul (l:List TBD):Prop:=(∀ (i:Nat) v,l[i]? = some v→bJ v.1∧oH v.2.1 48∧∀ w,0 < i→l[i - 1]? = some w→w.1 < v.1)∧l.length≤64
theorem zaM (l:List TBD) (hs:ShB l):Au (l,())=some (dec' (ul l),()):=by
 obtain⟨hl,hs⟩:=hs
 unfold Au
 refine fin (jo l hl (fun i v=>bJ v.1∧oH v.2.1 48∧∀ w,0 < i→l[i - 1]? = some w→w.1 < v.1) (l.length≤64) (fun i v hi hv=> ?_) ?_) ?_
 ·have hi':i < 9223372036854775807:=by unfold Sh at hl;omega
  have hr:qO (v.2.1,48,())=_:=LC v.2.1 48 (hs v (List.mem_of_getElem? hv))
  rcases Nat.eq_zero_or_pos i with h0 | h0
  ·have e0:decide ((0:Int) < (i:Int))=false:=decide_eq_false (by omega)
   have hp:(∀ w,0 < i→l[i - 1]? = some w→w.1 < v.1)=True:=propext (mG (l:=l) h0 (fun w=>w.1 < v.1))
   simp only [hp]
   simp only [aI,hi,decide_true,cond_true,aS,hv,Option.bind_some,bF hi',e0,cond_false,EG,hr]
   apply fJ
   ·repeat' first | apply fE | apply eY | apply fH | apply fF | apply fG
   ·unfold bJ;grind
  ·obtain⟨u,hu⟩:∃ u,l[i - 1]? = some u:=⟨_,List.getElem?_eq_getElem (show i - 1 < l.length by omega)⟩
   have e0:decide ((0:Int) < (i:Int))=true:=decide_eq_true (by omega)
   have hp:(∀ w,0 < i→l[i - 1]? = some w→w.1 < v.1)=(u.1 < v.1):=propext (mQ h0 hu (fun w=>w.1 < v.1))
   simp only [hp]
   simp only [aI,hi,decide_true,cond_true,aS,hv,Option.bind_some,bF hi',e0,mZ h0 hi',hu,EG,hr]
   apply fJ
   ·repeat' first | apply fE | apply eY | apply fH | apply fF | apply fG
   ·unfold bJ;grind
 ·simp only [aI,Nat.lt_irrefl,decide_false,cond_false]
  exact congrArg (fun z=>some (Sum.inr (z,()))) (iq (p:=l.length≤64) (q:=Int.ofNat l.length≤64) (by simp only [Int.ofNat_eq_natCast];omega)).symm
 ·unfold ul;exact Iff.rfl
theorem zaB (l:List TBD) (hl:Sh l) (hs:∀ b∈l,gp b.2.1):F84 (l,())=some (dec' (ul l),()):=by
 unfold F84
 refine fin (jo l hl (fun i v=>bJ v.1∧oH v.2.1 48∧∀ w,0 < i→l[i - 1]? = some w→w.1 < v.1) (l.length≤64) (fun i v hi hv=> ?_) ?_) ?_
 ·have hi':i < 9223372036854775807:=by unfold Sh at hl;omega
  have hr:F85 (v.2.1,48,())=_:=KQ v.2.1 48 (hs v (List.mem_of_getElem? hv))
  rcases Nat.eq_zero_or_pos i with h0 | h0
  ·have e0:decide ((0:Int) < (i:Int))=false:=decide_eq_false (by omega)
   have hp:(∀ w,0 < i→l[i - 1]? = some w→w.1 < v.1)=True:=propext (mG (l:=l) h0 (fun w=>w.1 < v.1))
   simp only [hp]
   simp only [aI,hi,decide_true,cond_true,aS,hv,Option.bind_some,bF hi',e0,cond_false,Ew,hr]
   apply fJ
   ·repeat' first | apply fE | apply eY | apply fH | apply fF | apply fG
   ·unfold bJ;grind
  ·obtain⟨u,hu⟩:∃ u,l[i - 1]? = some u:=⟨_,List.getElem?_eq_getElem (show i - 1 < l.length by omega)⟩
   have e0:decide ((0:Int) < (i:Int))=true:=decide_eq_true (by omega)
   have hp:(∀ w,0 < i→l[i - 1]? = some w→w.1 < v.1)=(u.1 < v.1):=propext (mQ h0 hu (fun w=>w.1 < v.1))
   simp only [hp]
   simp only [aI,hi,decide_true,cond_true,aS,hv,Option.bind_some,bF hi',e0,mZ h0 hi',hu,Ew,hr]
   apply fJ
   ·repeat' first | apply fE | apply eY | apply fH | apply fF | apply fG
   ·unfold bJ;grind
 ·simp only [aI,Nat.lt_irrefl,decide_false,cond_false]
  exact congrArg (fun z=>some (Sum.inr (z,()))) (iq (p:=l.length≤64) (q:=Int.ofNat l.length≤64) (by simp only [Int.ofNat_eq_natCast];omega)).symm
 ·unfold ul;exact Iff.rfl
theorem zeh (h:dO):Ar (h,())=some (dec' (h=eQ),()):=by
 obtain⟨a1,a2,a3,a4,⟨⟩⟩:=h
 unfold Ar
 apply fin
 ·repeat' first | apply bZ | apply bU | apply cu | apply bY
 ·simp only [Prod.mk.injEq,Int.ofNat_eq_natCast]
  constructor
  ·intro h;refine⟨?_,?_,?_,?_,trivial⟩ <;> (have h3:∀ {α:Type} (l:List α),(l.length:Int)=0→l=[]:=fun l hl=>List.length_eq_zero_iff.1 (by omega)) <;> grind
  ·rintro ⟨rfl,rfl,rfl,rfl,-⟩;simp
theorem zgx (h:dO) (hs:ShH h):F86 (h,())=some (dec' (h=eQ),()):=by
 unfold F86
 exact aU (KU h eQ hs) rfl
end Go.Proofs.YtpfjaaofpcbejaaGreat
