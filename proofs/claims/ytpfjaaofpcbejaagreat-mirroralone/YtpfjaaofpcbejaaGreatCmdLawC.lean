/-
 Plain laws of what lies below,as this seat reaches them (by a program of the bench: port.py).
-/
import Derived.Test.YtpfjaaofpcbejaaGreatCmdLawB
import Derived.Test.YtpfjaaofpcbejaaGreatSxS
namespace Go.Proofs.YtpfjaaofpcbejaaGreat
open Go.Sx Go Classical
set_option maxRecDepth 10000
theorem zeQ {R:Type} {n:Nat} (hn:n≤9223372036854775806) {step:Int×Unit→Option ((Int×Unit)⊕R)} (q:Nat→Prop) (rt rf:R)
  (h:∀ i:Nat,i < n→step ((i:Int),())=some (bif dec' (q i) then .inl (((i+1:Nat):Int),()) else .inr rf)) (hK:step ((n:Int),())=some (.inr rt)) :
  aZ (Int×Unit) R step big (0,())=some (bif dec' (∀ i,i < n→q i) then rt else rf):=by
 refine (pU (mk:=fun i=>((i:Int),())) (fun i=>dec' (q i)) (rt:=rt) (rf:=rf) (by omega) (fun i hi=> ?_) hK).trans ?_
 ·rw [h i hi]
 ·have:(List.range n).all (fun i=>dec' (q i))=dec' (∀ i,i < n→q i):=by
   by_cases ha:∀ i,i < n→q i
   ·rw [dL ha]
    exact List.all_eq_true.2 fun i hi=>dL (ha i (List.mem_range.1 hi))
   ·rw [dK ha,Bool.eq_false_iff]
    intro h
    exact ha fun i hi=> @of_decide_eq_true _ (propDecidable _) (List.all_eq_true.1 h i (List.mem_range.2 hi))
  rw [this]
theorem zeO {α T R:Type} (l:List α) (hl:Sh l) {step:T→Option (T⊕R)} (q:α→Prop) (mk:Nat→T) (idxOf:T→Nat) (hmk:∀ i,idxOf (mk i)=i) (out:Nat→R) (no:R)
  (h1:∀ (i:Nat) v,i < l.length→l[i]? = some v→q v→step (mk i)=some (.inl (mk (i+1))))
  (h2:∀ (i:Nat) v,i < l.length→l[i]? = some v→¬ q v→step (mk i)=some (.inr (out i))) (hK:step (mk l.length)=some (.inr no)) :
  ∃ z,iter step big (mk 0)=some z∧((z=no∧∀ v∈l,q v)∨((∃ i,z=out i)∧¬ ∀ v∈l,q v)):=by
 unfold Sh at hl
 exact qZ (step:=step) (n:=big) (t:=mk 0) (I:=fun t=>∃ i:Nat,t=mk i∧i≤l.length∧∀ j v,j < i→l[j]? = some v→q v) (μ:=fun t=>l.length - idxOf t)
  (Q:=fun _ z=>(z=no∧∀ v∈l,q v)∨((∃ i,z=out i)∧¬ ∀ v∈l,q v)) (fun t ht=>by
   obtain⟨i,rfl,hi,hj⟩:=ht
   by_cases hlt:i < l.length
   ·have e:=List.getElem?_eq_getElem hlt
    by_cases hq:q l[i]
    ·refine .inr ⟨_,h1 i _ hlt e hq,⟨i+1,rfl,hlt,fun j v hjl hv=> ?_⟩,?_,fun r h=>h⟩
     ·by_cases hji:j=i
      ·subst hji;rw [e] at hv;cases hv;exact hq
      ·exact hj j v (by omega) hv
     ·simp only [hmk];omega
    ·exact .inl ⟨_,h2 i _ hlt e hq,.inr ⟨⟨i,rfl⟩,fun h=>hq (h _ (List.getElem_mem hlt))⟩⟩
   ·have:i=l.length:=by omega
    subst this
    refine .inl ⟨_,hK,.inl ⟨rfl,fun v hv=> ?_⟩⟩
    obtain⟨j,hj2,rfl⟩:=List.getElem_of_mem hv
    exact hj j _ hj2 (List.getElem?_eq_getElem hj2)) ⟨0,rfl,Nat.zero_le _,fun j v hj=>by omega⟩ (by rw [jy];simp only [hmk];omega)
theorem zgD (l:List aN) (hl:Sh l) (hk:∀ c∈l,St c.1):zN (l,())=some (dec' (uT l),()):=by
 unfold zN
 refine fin (jo l hl (fun _ c=>oZ c) (l.length≤4) (fun i v hi hv=> ?_) ?_) ?_
 ·have hi':i < 9223372036854775807:=by unfold Sh at hl;omega
  have hs:=hk v (List.mem_of_getElem? hv)
  obtain⟨k,w,s,n,t,⟨⟩⟩:=v
  have e1:(bif decide (1≤w) then bif decide (w≤4) then bif decide (Int.ofNat (List.length t)=0) then some (Sum.inl (dec' (-1099511627776≤n∧n≤1099511627776),())) else some (Sum.inl (false,())) else some (Sum.inl (false,())) else some (Sum.inl (false,())):Option ((Bool×Unit)⊕((Int×Unit)⊕(Bool×Unit))))=some (Sum.inl (dec' (1≤w∧w≤4∧t=[]∧ -1099511627776≤n∧n≤1099511627776),())):=by
   by_cases h1:1≤w <;> by_cases h2:w≤4 <;> by_cases h3:t=[] <;> simp [h1,h2,h3]
  have e2:(bif decide (w=5) then bif decide (n=0) then some (Sum.inl (decide (Int.ofNat (List.length t)≤40),())) else some (Sum.inl (false,())) else some (Sum.inl (false,())):Option ((Bool×Unit)⊕((Int×Unit)⊕(Bool×Unit))))=some (Sum.inl (dec' (w=5∧n=0∧t.length≤40),())):=by
   by_cases h1:w=5 <;> by_cases h2:n=0 <;> simp [h1,h2] <;> omega
  simp only [aI,hi,decide_true,cond_true,aS,hv,Option.bind_some,e1,e2,Sum.elim_inl,jm k hs,lF,bF hi']
  apply fJ
  ·repeat' first | apply fE | apply eY | apply fH | apply fF | apply fG
  ·unfold oZ;grind
 ·simp only [aI,Nat.lt_irrefl,decide_false,cond_false]
  exact congrArg (fun z=>some (Sum.inr (z,()))) (iq (by simp;omega)).symm
 ·unfold uT;rw [GI (p:=oZ)]
def jG (o:ax):Prop:=(o.1=1∧o.2.2.1=[]∧IsKey o.2.1∧o.2.2.2.1.length≤40∧dF o.2.2.2.2.1)∨((o.1=2∨o.1=3)∧o.2.2.2.1=[]∧o.2.2.2.2.1=0∧jM o.2.1 o.2.2.1)
theorem zjc (o:ax):zt (o,())=some (dec' (jG o),()):=by
 obtain⟨k,a,b,v,n,⟨⟩⟩:=o
 unfold zt
 simp only [put_eq,BC,Option.bind_some]
 apply fin
 ·repeat' first | apply bZ | apply bU | apply cu | apply bY
 ·unfold jG;grind
def vU (o:ax):Prop:=St o.2.1∧St o.2.2.1∧St o.2.2.2.1
theorem ziz (o:ax) (ho:vU o):zA (o,())=some (dec' (jG o),()):=by
 obtain⟨k,a,b,v,n,⟨⟩⟩:=o
 obtain⟨h1,h2,h3⟩:=ho
 unfold zA
 simp only [jm a h1,AQ a b h1 h2,xe,Option.bind_some]
 apply fin
 ·repeat' first | apply bZ | apply bU | apply cu | apply bY
 ·unfold jG
  have e1:(Int.ofNat b.length=0)↔b=[]:=by simp
  have e2:(Int.ofNat v.length=0)↔v=[]:=by simp
  rw [e1,e2];simp only [Int.ofNat_eq_natCast];grind
def InP (a b k:List UInt8):Prop:=jM a b∧IsKey k∧(k=a∨(bu a k=true∧bu k b=true))
theorem zkb (a b k:List UInt8):vX (a,b,k,())=some (dec' (InP a b k),()):=by
 unfold vX
 simp only [BC,kF,Option.bind_some,Ns]
 apply fin
 ·repeat' first | apply bZ | apply bU | apply cu | apply uO | apply bY | apply dS | apply uf
 ·unfold InP;grind
theorem ziZ (k a:List UInt8):bu k a=false↔(k=a∨bu a k=true):=by
 rcases Bc k a with h | h | h
 ·have h2:=wZ h
  have h3:k≠a:=fun e=>by rw [e,tZ] at h;cases h
  simp [h,h2,h3]
 ·subst h;simp [tZ]
 ·have h2:=wZ h
  simp [h,h2]
theorem Pi (a b k:List UInt8) (ha:St a) (hb:St b) (hk:St k):wo (a,b,k,())=some (dec' (InP a b k),()):=by
 unfold wo
 simp only [AQ a b ha hb,jm k hk,Option.bind_some]
 apply fin
 ·repeat' first | apply bZ | apply bU | apply cu | apply uO | apply bY | apply dS | apply uf
 ·have e1:(Int.ofNat b.length=0)↔b=[]:=by simp
  have e2:=ziZ k a
  have e3:=uj k
  unfold InP jM
  rw [e1]
  simp only [Bool.not_eq_true',Bool.not_eq_false',e2]
  by_cases hb:b=[]
  ·subst hb;grind
  ·grind
def Meet (a b:ax):Prop:=a.1≠3∧b.1≠3∧(InP a.2.1 a.2.2.1 b.2.1∨InP b.2.1 b.2.2.1 a.2.1)
def sJ (a b:ax):Prop:=a.1≠3∧b.1≠3∧(a.2.1=b.2.1∨InP a.2.1 a.2.2.1 b.2.1∨InP b.2.1 b.2.2.1 a.2.1)
theorem OO (a b:ax):zq (a,b,())=some (dec' (sJ a b),()):=by
 unfold zq
 simp only [zkb,Option.bind_some]
 apply fin
 ·repeat' first | apply bZ | apply bU | apply cu | apply uO | apply bY | apply dS | apply uf
 ·unfold sJ;grind
theorem zgA (a b:ax) (ha:vU a) (hb:vU b):wz (a,b,())=some (dec' (Meet a b),()):=by
 unfold wz
 simp only [Pi _ _ _ ha.1 ha.2.1 hb.1,Pi _ _ _ hb.1 hb.2.1 ha.1,Option.bind_some]
 apply fin
 ·repeat' first | apply bZ | apply bU | apply cu | apply uO | apply bY | apply dS | apply uf
 ·unfold Meet;grind
theorem NE {o:ax} (h:jG o):jM o.2.1 o.2.2.1∧IsKey o.2.1:=by
 rcases h with h | h
 ·exact⟨⟨h.2.2.1,.inl h.2.1⟩,h.2.2.1⟩
 ·exact⟨h.2.2.2,h.2.2.2.1⟩
theorem NI {a b:ax} (ha:jG a) (hb:jG b):sJ a b↔Meet a b:=by
 have h1:=NE ha
 have h2:=NE hb
 unfold sJ Meet InP
 grind
def lU (l:List ax):Prop:=(∀ (i:Nat) v,l[i]? = some v→jG v∧∀ (j:Nat) w,j < i→l[j]? = some w→¬ Meet w v)∧l.length≤4
theorem zeP (l:List ax) (hl:Sh l) (o:ax):yN (l,o,())=some (!dec' (∀ w∈l,¬ sJ w o),o,()):=by
 unfold yN Dk
 obtain⟨z,h1,h2⟩:=zeO l hl (step:=fun (x_1:Int×ax)=>bif decide (x_1.fst < Int.ofNat (List.length l)) then Option.bind (idx l x_1.fst) fun b=>Option.bind (vG (b,x_1.snd,())) fun b=>bif b.fst then some (Sum.inr (x_1.fst,b.snd)) else some (Sum.inl (wrap64 (x_1.fst+1),b.snd.fst)) else some (Sum.inr (-1,x_1.snd,())))
  (fun w=>¬ sJ w o) (fun i=>((i:Int),o)) (fun t=>t.1.toNat) (fun i=>by simp) (fun i=>((i:Int),o,())) (-1,o,())
  (fun i v hi hv hq=>by
   have hi':i < 9223372036854775807:=by unfold Sh at hl;omega
   unfold vG
   simp only [aI,hi,decide_true,cond_true,aS,hv,Option.bind_some,OO,dK hq,cond_false,bF hi'])
  (fun i v hi hv hq=>by
   unfold vG
   simp only [aI,hi,decide_true,cond_true,aS,hv,Option.bind_some,OO,dL (Classical.not_not.1 hq)]) (by simp)
 refine aU h1 ?_
 rcases h2 with ⟨rfl,h2⟩ | ⟨⟨i,rfl⟩,h2⟩
 ·rw [dL h2];rfl
 ·rw [dK h2]
  have:decide ((0:Int)≤(i:Int))=true:=decide_eq_true (by omega)
  simp only [this,Bool.not_false]
theorem Pm (l:List ax) (hl:Sh l):vY (l,())=some (dec' (lU l),()):=by
 unfold vY
 refine fin (jo l hl (fun i v=>jG v∧∀ w∈l.take i,¬ sJ w v) (l.length≤4) (fun i v hi hv=> ?_) ?_) ?_
 ·have hi':i < 9223372036854775807:=by unfold Sh at hl;omega
  have e2:jP l 0 (i:Int)=some (l.take i):=AP (by omega)
  have ht:Sh (l.take i):=by unfold Sh at hl ⊢;rw [List.length_take];omega
  simp only [aI,hi,decide_true,cond_true,aS,hv,Option.bind_some,zjc,e2,zeP _ ht,bF hi']
  apply fJ
  ·repeat' first | apply fE | apply eY | apply fH | apply fF | apply fG
  ·grind
 ·simp only [aI,Nat.lt_irrefl,decide_false,cond_false]
  exact congrArg (fun z=>some (Sum.inr (z,()))) (iq (by simp;omega)).symm
 ·unfold lU
  refine and_congr ?_ Iff.rfl
  constructor
  ·intro h i v hv
   refine⟨(h i v hv).1,fun j w hj hw=> ?_⟩
   have:=(h i v hv).2 w (List.mem_iff_getElem?.2 ⟨j,by rw [List.getElem?_take,if_pos hj];exact hw⟩)
   rwa [NI (h j w hw).1 (h i v hv).1] at this
  ·intro h i v hv
   refine⟨(h i v hv).1,fun w hw=> ?_⟩
   obtain⟨j,hj⟩:=List.mem_iff_getElem?.1 hw
   rw [List.getElem?_take] at hj
   by_cases hji:j < i
   ·rw [if_pos hji] at hj
    rw [NI (h j w hj).1 (h i v hv).1]
    exact (h i v hv).2 j w hji hj
   ·rw [if_neg hji] at hj;cases hj
theorem OC (l:List ax) (hl:Sh l) (hs:∀ o∈l,vU o):wJ (l,())=some (dec' (lU l),()):=by
 unfold wJ
 refine fin (jo l hl (fun i v=>jG v∧∀ j,j < i→∀ w,l[j]? = some w→¬ Meet w v) (l.length≤4) (fun i v hi hv=> ?_) ?_) ?_
 ·have hi':i < 9223372036854775807:=by unfold Sh at hl;omega
  have hz:=hs v (List.mem_of_getElem? hv)
  have inner:=zeQ (n:=i) (by omega) (step:=fun (x_2:Int×Unit)=>bif decide (x_2.fst < (i:Int)) then Option.bind (idx l x_2.fst) fun b=>Option.bind (idx l (i:Int)) fun b_1=>Option.bind (wz (b,b_1,())) fun b=>bif b.fst then some (Sum.inr (Sum.inr (false,()))) else some (Sum.inl (wrap64 (x_2.fst+1),())) else some (Sum.inr (Sum.inl (wrap64 ((i:Int)+1),()))))
   (fun j=>∀ w,l[j]? = some w→¬ Meet w v) (Sum.inl (wrap64 ((i:Int)+1),())) (Sum.inr (false,())) (fun j hj=>by
    obtain⟨w,hw⟩:∃ w,l[j]? = some w:=⟨_,List.getElem?_eq_getElem (show j < l.length by omega)⟩
    have hwz:=hs w (List.mem_of_getElem? hw)
    have e:decide ((j:Int) < (i:Int))=true:=decide_eq_true (by omega)
    simp only [e,cond_true,aS,hw,hv,Option.bind_some,zgA w v hwz hz,bF (show j < 9223372036854775807 by omega)]
    by_cases hm:Meet w v
    ·rw [dL hm,dK (fun h=>h w rfl hm)];rfl
    ·rw [dK hm,dL (fun u hu=>by cases hu;exact hm)];rfl)
   (by simp)
  simp only [aI,hi,decide_true,cond_true,aS,hv,Option.bind_some,ziz v hz]
  simp only [aS,hv,Option.bind_some] at inner
  rw [inner,bF hi']
  by_cases h1:jG v
  ·rw [dL h1]
   simp only [Bool.not_true,cond_false]
   exact oC ⟨fun h=>⟨h1,h⟩,fun h=>h.2⟩
  ·rw [dK h1]
   simp only [Bool.not_false,cond_true]
   rw [eY i]
   exact oC ⟨False.elim,fun h=>h1 h.1⟩
 ·simp only [aI,Nat.lt_irrefl,decide_false,cond_false]
  exact congrArg (fun z=>some (Sum.inr (z,()))) (iq (by simp;omega)).symm
 ·unfold lU
  refine and_congr ?_ Iff.rfl
  exact⟨fun h i v hv=>⟨(h i v hv).1,fun j w hj hw=>(h i v hv).2 j hj w hw⟩,fun h i v hv=>⟨(h i v hv).1,fun j hj w hw=>(h i v hv).2 j w hj hw⟩⟩
end Go.Proofs.YtpfjaaofpcbejaaGreat
