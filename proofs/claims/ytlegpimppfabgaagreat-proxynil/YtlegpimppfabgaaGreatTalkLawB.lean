/-
 Plain laws of what lies below,as this seat reaches them (by a program of the bench: port.py).
-/
import Derived.Test.YtlegpimppfabgaaGreatTalkLawA
import Derived.Test.YtlegpimppfabgaaGreatSxS
namespace Go.Proofs.YtlegpimppfabgaaGreat
open Go.Sx Go Classical
set_option maxRecDepth 10000
def nC (m:TMD):TMD:=
 if m.1=1 then (m.1,0,m.2.2.1,jJ,0,[],[],0,0,0,0,iF,[],[],false,gy,jG,())
 else if m.1=2 then (m.1,m.2.1,jo,m.2.2.2.1,0,[],[],0,0,0,0,iF,[],[],false,gy,jG,())
 else if m.1=3 then (m.1,m.2.1,jo,jJ,m.2.2.2.2.1,m.2.2.2.2.2.1,m.2.2.2.2.2.2.1,m.2.2.2.2.2.2.2.1,m.2.2.2.2.2.2.2.2.1,0,0,iF,[],[],false,gy,jG,())
 else if m.1=4 then (m.1,m.2.1,jo,jJ,m.2.2.2.2.1,m.2.2.2.2.2.1,m.2.2.2.2.2.2.1,m.2.2.2.2.2.2.2.1,0,0,0,iF,[],[],false,gy,jG,())
 else if m.1=5 then (m.1,m.2.1,jo,jJ,0,m.2.2.2.2.2.1,m.2.2.2.2.2.2.1,m.2.2.2.2.2.2.2.1,0,0,0,iF,[],[],false,gy,jG,())
 else if m.1=6 then (m.1,m.2.1,jo,jJ,0,[],[],m.2.2.2.2.2.2.2.1,0,0,0,iF,[],[],false,gy,jG,())
 else if m.1=7 then (m.1,m.2.1,jo,jJ,0,[],[],0,0,0,0,iF,[],[],false,gy,jG,())
 else if m.1=8 then (m.1,m.2.1,jo,jJ,0,[],[],0,0,m.2.2.2.2.2.2.2.2.2.1,m.2.2.2.2.2.2.2.2.2.2.1,m.2.2.2.2.2.2.2.2.2.2.2.1,[],[],false,gy,jG,())
 else if m.1=9 then (m.1,m.2.1,jo,jJ,0,[],[],m.2.2.2.2.2.2.2.1,0,m.2.2.2.2.2.2.2.2.2.1,0,iF,m.2.2.2.2.2.2.2.2.2.2.2.2.1,[],false,gy,jG,())
 else if m.1=10 then (m.1,m.2.1,jo,jJ,0,[],[],0,0,m.2.2.2.2.2.2.2.2.2.1,0,iF,[],m.2.2.2.2.2.2.2.2.2.2.2.2.2.1,m.2.2.2.2.2.2.2.2.2.2.2.2.2.2.1,gy,jG,())
 else if m.1=11 then (m.1,m.2.1,jo,jJ,0,[],[],0,0,m.2.2.2.2.2.2.2.2.2.1,0,iF,[],[],false,m.2.2.2.2.2.2.2.2.2.2.2.2.2.2.2.1,jG,())
 else (m.1,m.2.1,jo,jJ,0,[],[],m.2.2.2.2.2.2.2.1,0,0,0,iF,[],[],false,gy,m.2.2.2.2.2.2.2.2.2.2.2.2.2.2.2.2.1,())
theorem zG {k:Int} (h1:1≤k) (h2:k≤12):k=1∨k=2∨k=3∨k=4∨k=5∨k=6∨k=7∨k=8∨k=9∨k=10∨k=11∨k=12:=by omega
theorem zde (m:TMD) (h:1≤m.1∧m.1≤12):BH (m,())=some (nC m,()):=by
 obtain⟨k,r⟩:=m
 rcases zG h.1 h.2 with h | h | h | h | h | h | h | h | h | h | h | h <;> (dsimp only at h;subst h;rfl)
theorem kP {p:Prop} [Decidable p] {a b:TMD} (ha:ShT a) (hb:ShT b):ShT (if p then a else b):=by
 by_cases h:p
 ·rw [if_pos h];exact ha
 ·rw [if_neg h];exact hb
theorem zdd {m:TMD} (h:ShT m):ShT (nC m):=by
 have z:∀ {α:Type},Sh ([]:List α):=fun {_}=>by simp [Sh]
 have zB:ShB []:=⟨z,fun b hb=>by simp at hb⟩
 have zH:ShH gy:=⟨⟨z,fun b hb=>by simp at hb⟩,z⟩
 obtain⟨h1,h2,h3,h4,h5,h6⟩:=h
 unfold nC
 exact kP ⟨h1,kY,z,zB,z,zH⟩ (kP ⟨z,h2,z,zB,z,zH⟩ (kP ⟨z,kY,z,zB,z,zH⟩ (kP ⟨z,kY,z,zB,z,zH⟩ (kP ⟨z,kY,z,zB,z,zH⟩ (kP ⟨z,kY,z,zB,z,zH⟩ (kP ⟨z,kY,z,zB,z,zH⟩ (kP ⟨z,kY,h3,zB,z,zH⟩ (kP ⟨z,kY,z,h4,z,zH⟩ (kP ⟨z,kY,z,zB,h5,zH⟩ (kP ⟨z,kY,z,zB,z,h6⟩ ⟨z,kY,z,zB,z,zH⟩))))))))))
def sG (l:List af) (m:Int):Prop:=(l.length:Int)≤m∧∀ x∈l,kS x
theorem KI (x:af):uI (x,())=some (!dec' (kS x),()):=by
 obtain⟨k,v,⟨⟩⟩:=x
 have hv:qP ([v],())=some (decide (ql [v]),()):=Ko [v] (by simp)
 have hi:ql [v]↔fC v:=by unfold ql;simp
 unfold uI
 simp only [iI,hv,Option.bind_some]
 unfold kS
 by_cases h1:IsKey k
 ·by_cases h2:fC v
  ·rw [decide_eq_true h1,decide_eq_true (hi.2 h2),show dec' (IsKey k∧fC v)=true from dV ⟨h1,h2⟩];rfl
  ·rw [decide_eq_true h1,decide_eq_false (fun h=>h2 (hi.1 h)),show dec' (IsKey k∧fC v)=false from dU (fun h=>h2 h.2)];rfl
 ·rw [decide_eq_false h1,show dec' (IsKey k∧fC v)=false from dU (fun h=>h1 h.1)];rfl
theorem X7 (l:List af) (hl:Sh l):xn (l,())=some (!dec' (∀ c∈l,kS c),()):=by
 unfold xn Au
 obtain⟨r,h1,h2⟩:=vV l hl (step:=fun (x_1:Int×Unit)=>bif decide (x_1.fst < Int.ofNat (List.length l)) then Option.bind (idx l x_1.fst) fun b=>Option.bind (uI (b,())) fun b=>bif b.fst then some (Sum.inr x_1) else some (Sum.inl (wrap64 (x_1.fst+1),())) else some (Sum.inr (-1,()))) kS
  (fun i v hi hv hq=>by
   have hi':i < 9223372036854775807:=by unfold Sh at hl;omega
   simp only [aO,hi,decide_true,cond_true,aZ,hv,Option.bind_some,KI,dV hq,Bool.not_true,cond_false,bY hi'])
  (fun i v hi hv hq=>by simp only [aO,hi,decide_true,cond_true,aZ,hv,Option.bind_some,KI,dU hq,Bool.not_false]) (by simp)
 refine aS h1 ?_
 simp only [h2]
theorem JD (l:List af) (m:Int) (hl:Sh l):o9 (l,m,())=some (dec' (sG l m),()):=by
 unfold o9
 simp only [X7 l hl,Option.bind_some,Bool.not_not]
 apply fin
 ·repeat' first | apply dE | apply dC | apply dF | apply dD
 ·unfold sG;simp only [Int.ofNat_eq_natCast];grind
theorem Cm (n a b:Int):iZ (n,a,b,())=some (dec' (a≤n∧n≤b),()):=lF n a b
def y8 (l:List TBD):Prop:=(∀ (i:Nat) v,l[i]? = some v→bQ v.1∧sG v.2.1 48∧∀ w,0 < i→l[i - 1]? = some w→w.1 < v.1)∧l.length≤64
theorem X8 (l:List TBD) (hs:ShB l):yw (l,())=some (dec' (y8 l),()):=by
 obtain⟨hl,hs⟩:=hs
 unfold yw
 refine fin (rX l hl (fun i v=>bQ v.1∧sG v.2.1 48∧∀ w,0 < i→l[i - 1]? = some w→w.1 < v.1) (l.length≤64) (fun i v hi hv=> ?_) ?_) ?_
 ·have hi':i < 9223372036854775807:=by unfold Sh at hl;omega
  have hr:o9 (v.2.1,48,())=_:=JD v.2.1 48 (hs v (List.mem_of_getElem? hv))
  rcases Nat.eq_zero_or_pos i with h0 | h0
  ·have e0:decide ((0:Int) < (i:Int))=false:=decide_eq_false (by omega)
   have hp:(∀ w,0 < i→l[i - 1]? = some w→w.1 < v.1)=True:=propext (vM (l:=l) h0 (fun w=>w.1 < v.1))
   simp only [hp]
   simp only [aO,hi,decide_true,cond_true,aZ,hv,Option.bind_some,bY hi',e0,cond_false,Cm,hr]
   apply lm
   ·repeat' first | apply kF | apply kC | apply kJ | apply kG | apply kH
   ·unfold bQ;grind
  ·obtain⟨u,hu⟩:∃ u,l[i - 1]? = some u:=⟨_,List.getElem?_eq_getElem (show i - 1 < l.length by omega)⟩
   have e0:decide ((0:Int) < (i:Int))=true:=decide_eq_true (by omega)
   have hp:(∀ w,0 < i→l[i - 1]? = some w→w.1 < v.1)=(u.1 < v.1):=propext (vS h0 hu (fun w=>w.1 < v.1))
   simp only [hp]
   simp only [aO,hi,decide_true,cond_true,aZ,hv,Option.bind_some,bY hi',e0,wo h0 hi',hu,Cm,hr]
   apply lm
   ·repeat' first | apply kF | apply kC | apply kJ | apply kG | apply kH
   ·unfold bQ;grind
 ·simp only [aO,Nat.lt_irrefl,decide_false,cond_false]
  exact congrArg (fun z=>some (Sum.inr (z,()))) (jY (p:=l.length≤64) (q:=Int.ofNat l.length≤64) (by simp only [Int.ofNat_eq_natCast];omega)).symm
 ·unfold y8;exact Iff.rfl
theorem zbp (h:iV):yu (h,())=some (dec' (h=gy),()):=by
 obtain⟨a1,a2,a3,a4,⟨⟩⟩:=h
 unfold yu
 apply fin
 ·repeat' first | apply dE | apply dC | apply dF | apply dD
 ·simp only [Prod.mk.injEq,Int.ofNat_eq_natCast]
  constructor
  ·intro h;refine⟨?_,?_,?_,?_,trivial⟩ <;> (have h3:∀ {α:Type} (l:List α),(l.length:Int)=0→l=[]:=fun l hl=>List.length_eq_zero_iff.1 (by omega)) <;> grind
  ·rintro ⟨rfl,rfl,rfl,rfl,-⟩;simp
end Go.Proofs.YtlegpimppfabgaaGreat
