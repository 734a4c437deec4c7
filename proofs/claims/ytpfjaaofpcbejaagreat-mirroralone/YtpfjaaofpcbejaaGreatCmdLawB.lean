/-
 Plain laws of what lies below,as this seat reaches them (by a program of the bench: port.py).
-/
import Derived.Test.YtpfjaaofpcbejaaGreatCmdLawA
import Derived.Test.YtpfjaaofpcbejaaGreatSxS
namespace Go.Proofs.YtpfjaaofpcbejaaGreat
open Go.Sx Go Classical
set_option maxRecDepth 10000
noncomputable abbrev stR (i:Nat) (p:Prop):Option ((Int×Unit)⊕(Bool×Unit)):=some (bif dec' p then .inl (((i+1:Nat):Int),()) else .inr (false,()))
theorem fE (i:Nat):(some (.inl (((i+1:Nat):Int),())):Option ((Int×Unit)⊕(Bool×Unit)))=stR i True:=by rw [stR,dL trivial];rfl
theorem eY (i:Nat):(some (.inr (false,())):Option ((Int×Unit)⊕(Bool×Unit)))=stR i False:=by rw [stR,dK id];rfl
theorem oC {i:Nat} {p q:Prop} (h:p↔q):stR i p=stR i q:=by rw [propext h]
theorem fJ {i:Nat} {X:Option ((Int×Unit)⊕(Bool×Unit))} {p q:Prop} (h:X=stR i p) (h2:p↔q):X=stR i q:=h.trans (oC h2)
theorem fH {i:Nat} {p q r:Prop} {_:Decidable p} {X Y:Option ((Int×Unit)⊕(Bool×Unit))} (hx:X=stR i q) (hy:Y=stR i r):(bif decide p then X else Y)=stR i ((p→q)∧(¬ p→r)):=by
 by_cases hp:p
 ·rw [decide_eq_true hp,cond_true,hx];exact oC (by grind)
 ·rw [decide_eq_false hp,cond_false,hy];exact oC (by grind)
theorem fF {i:Nat} {p q r:Prop} {_:Decidable p} {X Y:Option ((Int×Unit)⊕(Bool×Unit))} (hx:X=stR i q) (hy:Y=stR i r):(bif !decide p then X else Y)=stR i ((¬ p→q)∧(p→r)):=by
 by_cases hp:p
 ·rw [decide_eq_true hp,Bool.not_true,cond_false,hy];exact oC (by grind)
 ·rw [decide_eq_false hp,Bool.not_false,cond_true,hx];exact oC (by grind)
theorem fG {i:Nat} {b:Bool} {q r:Prop} {X Y:Option ((Int×Unit)⊕(Bool×Unit))} (hx:X=stR i q) (hy:Y=stR i r):(bif b then X else Y)=stR i ((b=true→q)∧(b=false→r)):=by
 cases b
 ·rw [cond_false,hy];exact oC (by grind)
 ·rw [cond_true,hx];exact oC (by grind)
theorem jo {α:Type} (l:List α) (hl:Sh l) {step:Int×Unit→Option ((Int×Unit)⊕(Bool×Unit))} (q:Nat→α→Prop) (rt:Prop)
  (h:∀ (i:Nat) v,i < l.length→l[i]? = some v→step ((i:Int),())=stR i (q i v)) (hK:step ((l.length:Int),())=some (.inr (dec' rt,()))) :
  aZ (Int×Unit) (Bool×Unit) step big (0,())=some (dec' ((∀ i v,l[i]? = some v→q i v)∧rt),()):=by
 have hl':l.length≤9223372036854775807:=by unfold Sh at hl;omega
 refine (pU (mk:=fun i=>((i:Int),())) (fun i=>dec' (∀ v,l[i]? = some v→q i v)) (rt:=(dec' rt,())) (rf:=(false,())) hl' (fun i hi=> ?_) hK).trans ?_
 ·have e:=List.getElem?_eq_getElem hi
  rw [h i _ hi e]
  by_cases hq:q i l[i]
  ·have:∀ v,l[i]? = some v→q i v:=by intro v hv;rw [e] at hv;cases hv;exact hq
   rw [stR,dL hq,dL this]
  ·have:¬ ∀ v,l[i]? = some v→q i v:=fun h=>hq (h _ e)
   rw [stR,dK hq,dK this]
 ·by_cases ha:∀ i v,l[i]? = some v→q i v
  ·have:(List.range l.length).all (fun i=>dec' (∀ v,l[i]? = some v→q i v))=true:=List.all_eq_true.2 fun i _=>dL (ha i)
   rw [this]
   exact congrArg (fun z=>some (z,())) (iq (d:=propDecidable _) (by grind))
  ·have:(List.range l.length).all (fun i=>dec' (∀ v,l[i]? = some v→q i v))=false:=by
    rw [Bool.eq_false_iff]
    intro h
    refine ha fun i v hv=> ?_
    have hi:i < l.length:=(List.getElem?_eq_some_iff.1 hv).1
    exact @of_decide_eq_true _ (propDecidable _) (List.all_eq_true.1 h i (List.mem_range.2 hi)) v hv
   rw [this]
   exact congrArg (fun z=>some (z,())) (dK (by grind)).symm
theorem xN {α:Type} (l:List α) (hl:Sh l) {step:Int×Unit→Option ((Int×Unit)⊕(Int×Unit))} (q:α→Prop)
  (h1:∀ (i:Nat) v,i < l.length→l[i]? = some v→q v→step ((i:Int),())=some (.inl (((i+1:Nat):Int),())))
  (h2:∀ (i:Nat) v,i < l.length→l[i]? = some v→¬ q v→step ((i:Int),())=some (.inr ((i:Int),()))) (hK:step ((l.length:Int),())=some (.inr (-1,()))) :
  ∃ r,aZ (Int×Unit) (Int×Unit) step big (0,())=some (r,())∧decide (0≤r) = !dec' (∀ v∈l,q v):=by
 unfold Sh at hl
 obtain⟨r,h3,h4⟩:=qZ (step:=step) (n:=big) (t:=(0,())) (I:=fun t=>∃ i:Nat,t=((i:Int),())∧i≤l.length∧∀ j v,j < i→l[j]? = some v→q v) (μ:=fun t=>l.length - t.1.toNat)
  (Q:=fun _ r=>decide (0≤r.1) = !dec' (∀ v∈l,q v)) (fun t ht=>by
   obtain⟨i,rfl,hi,hj⟩:=ht
   by_cases hlt:i < l.length
   ·have e:=List.getElem?_eq_getElem hlt
    by_cases hq:q l[i]
    ·refine .inr ⟨_,h1 i _ hlt e hq,⟨i+1,rfl,hlt,fun j v hjl hv=> ?_⟩,?_,fun r h=>h⟩
     ·by_cases hji:j=i
      ·subst hji;rw [e] at hv;cases hv;exact hq
      ·exact hj j v (by omega) hv
     ·simp only [Int.toNat_natCast];omega
    ·refine .inl ⟨_,h2 i _ hlt e hq,?_⟩
     have:¬ ∀ v∈l,q v:=fun h=>hq (h _ (List.getElem_mem hlt))
     rw [dK this]
     exact decide_eq_true (by show (0:Int)≤(i:Int);omega)
   ·have:i=l.length:=by omega
    subst this
    refine .inl ⟨_,hK,?_⟩
    have:∀ v∈l,q v:=fun v hv=>by
     obtain⟨j,hj2,rfl⟩:=List.getElem_of_mem hv
     exact hj j _ hj2 (List.getElem?_eq_getElem hj2)
    rw [dL this]
    rfl) ⟨0,rfl,Nat.zero_le _,fun j v hj=>by omega⟩ (by rw [jy];simp only [Int.toNat_zero];omega)
 obtain⟨r,⟨⟩⟩:=r
 exact⟨r,h3,h4⟩
def dF (n:Int):Prop:=0≤n∧n≤1099511627776
def bJ (n:Int):Prop:=1≤n∧n≤1099511627776
def lV (s:List UInt8):Prop:=s.length≤8∧IsKey s
theorem kU (n a b:Int):ku (n,a,b,())=some (dec' (a≤n∧n≤b),()):=by
 unfold ku
 apply fin
 ·repeat' first | apply bZ | apply bU | apply cu | apply bY
 ·grind
theorem lF (n a b:Int):iV (n,a,b,())=some (dec' (a≤n∧n≤b),()):=kU n a b
theorem pV (n:Int):gV (n,())=some (dec' (bJ n),()):=by
 unfold gV
 exact aU (lF n _ _) rfl
theorem xe (n:Int):ji (n,())=some (dec' (dF n),()):=by
 unfold ji
 exact aU (lF n _ _) rfl
theorem OH (n:Int):wE (n,())=some (!dec' (bJ n),()):=by
 unfold wE
 exact aU (kU n _ _) rfl
theorem OM (n:Int):wC (n,())=some (!dec' (dF n),()):=by
 unfold wC
 exact aU (kU n _ _) rfl
theorem J5 (l:List Int) (hl:Sh l):fO (l,())=some (dec' (∀ n∈l,bJ n),()):=by
 unfold fO Dv Dp
 obtain⟨r,h1,h2⟩:=xN l hl (step:=fun (x_1:Int×Unit)=>bif decide (x_1.fst < Int.ofNat (List.length l)) then Option.bind (idx l x_1.fst) fun b=>Option.bind (wE (b,())) fun b=>bif b.fst then some (Sum.inr x_1) else some (Sum.inl (wrap64 (x_1.fst+1),())) else some (Sum.inr (-1,()))) bJ
  (fun i v hi hv hq=>by
   have hi':i < 9223372036854775807:=by unfold Sh at hl;omega
   simp only [aI,hi,decide_true,cond_true,aS,hv,Option.bind_some,OH,dL hq,Bool.not_true,cond_false,bF hi'])
  (fun i v hi hv hq=>by simp only [aI,hi,decide_true,cond_true,aS,hv,Option.bind_some,OH,dK hq,Bool.not_false]) (by simp)
 refine aU (aU h1 rfl) ?_
 simp only [h2,Bool.not_not]
theorem EM (l:List Int) (hl:Sh l):mr (l,())=some (dec' (∀ n∈l,dF n),()):=by
 unfold mr Du Dn
 obtain⟨r,h1,h2⟩:=xN l hl (step:=fun (x_1:Int×Unit)=>bif decide (x_1.fst < Int.ofNat (List.length l)) then Option.bind (idx l x_1.fst) fun b=>Option.bind (wC (b,())) fun b=>bif b.fst then some (Sum.inr x_1) else some (Sum.inl (wrap64 (x_1.fst+1),())) else some (Sum.inr (-1,()))) dF
  (fun i v hi hv hq=>by
   have hi':i < 9223372036854775807:=by unfold Sh at hl;omega
   simp only [aI,hi,decide_true,cond_true,aS,hv,Option.bind_some,OM,dL hq,Bool.not_true,cond_false,bF hi'])
  (fun i v hi hv hq=>by simp only [aI,hi,decide_true,cond_true,aS,hv,Option.bind_some,OM,dK hq,Bool.not_false]) (by simp)
 refine aU (aU h1 rfl) ?_
 simp only [h2,Bool.not_not]
theorem qx (a:Int):fO ([a],())=some (dec' (bJ a),()):=
 fin (J5 [a] (by simp [Sh])) (by simp)
theorem SI (a b:Int):fO ([a,b],())=some (dec' (bJ a∧bJ b),()):=
 fin (J5 [a,b] (by simp [Sh])) (by simp)
theorem TG (a:Int):mr ([a],())=some (dec' (dF a),()):=
 fin (EM [a] (by simp [Sh])) (by simp)
theorem nat3 (a b c:Int):mr ([a,b,c],())=some (dec' (dF a∧dF b∧dF c),()):=
 fin (EM [a,b,c] (by simp [Sh])) (by simp)
theorem nat6 (a b c d e f:Int):mr ([a,b,c,d,e,f],())=some (dec' (dF a∧dF b∧dF c∧dF d∧dF e∧dF f),()):=
 fin (EM [a,b,c,d,e,f] (by simp [Sh])) (by simp)
abbrev St (s:List UInt8):Prop:=s.length≤140737488351232
theorem pre_eq (s:List UInt8):F40 (s,())=some (dec' (lV s),()):=by
 unfold F40
 simp only [kF,Option.bind_some]
 apply fin
 ·repeat' first | apply bZ | apply bU | apply cu | apply bY
 ·unfold lV;simp only [Int.ofNat_eq_natCast];grind
theorem xR (s:List UInt8) (hs:St s):F38 (s,())=some (dec' (lV s),()):=by
 unfold F38
 simp only [jm s hs,Option.bind_some]
 apply fin
 ·repeat' first | apply bZ | apply bU | apply cu | apply bY
 ·unfold lV;simp only [Int.ofNat_eq_natCast];grind
theorem IB (v:mg):nY (v,())=some (dec' (fA v),()):=by
 unfold nY
 refine fin (aU (MP [v] (by simp)) rfl) ?_
 unfold rV
 simp
theorem put_eq (k v:List UInt8) (l:Int):wu (k,v,l,())=some (dec' (IsKey k∧v.length≤40∧dF l),()):=by
 unfold wu
 simp only [kF,TG,Option.bind_some]
 apply fin
 ·repeat' first | apply bZ | apply bU | apply cu | apply bY
 ·simp only [Int.ofNat_eq_natCast];grind
def oZ (c:aN):Prop:=IsKey c.1∧0≤c.2.2.1∧c.2.2.1≤2∧((1≤c.2.1∧c.2.1≤4∧c.2.2.2.2.1=[]∧ -1099511627776≤c.2.2.2.1∧c.2.2.2.1≤1099511627776)∨(c.2.1=5∧c.2.2.2.1=0∧c.2.2.2.2.1.length≤40))
theorem cmp_eq (c:aN):zu (c,())=some (dec' (oZ c),()):=by
 obtain⟨k,w,s,n,v,⟨⟩⟩:=c
 unfold zu
 simp only [kF,kU,Option.bind_some]
 apply fin
 ·repeat' first | apply bZ | apply bU | apply cu | apply bY | apply dS
 ·unfold oZ;simp only [Int.ofNat_eq_natCast];grind
theorem Oq (c:aN):vZ (c,())=some (!dec' (oZ c),()):=by
 unfold vZ
 exact aU (cmp_eq c) rfl
theorem zcg (l:List aN) (hl:Sh l):yO (l,())=some (!dec' (∀ c∈l,oZ c),()):=by
 unfold yO Dl
 obtain⟨r,h1,h2⟩:=xN l hl (step:=fun (x_1:Int×Unit)=>bif decide (x_1.fst < Int.ofNat (List.length l)) then Option.bind (idx l x_1.fst) fun b=>Option.bind (vZ (b,())) fun b=>bif b.fst then some (Sum.inr x_1) else some (Sum.inl (wrap64 (x_1.fst+1),())) else some (Sum.inr (-1,()))) oZ
  (fun i v hi hv hq=>by
   have hi':i < 9223372036854775807:=by unfold Sh at hl;omega
   simp only [aI,hi,decide_true,cond_true,aS,hv,Option.bind_some,Oq,dL hq,Bool.not_true,cond_false,bF hi'])
  (fun i v hi hv hq=>by simp only [aI,hi,decide_true,cond_true,aS,hv,Option.bind_some,Oq,dK hq,Bool.not_false]) (by simp)
 refine aU h1 ?_
 simp only [h2]
def uT (l:List aN):Prop:=(∀ c∈l,oZ c)∧l.length≤4
theorem GI {α:Type} {l:List α} {p:α→Prop}:(∀ (i:Nat) v,l[i]? = some v→p v)↔∀ v∈l,p v:=
 ⟨fun h v hv=>by obtain⟨i,hi,rfl⟩:=List.getElem_of_mem hv;exact h i _ (List.getElem?_eq_getElem hi),fun h i v hv=>h v (List.mem_of_getElem? hv)⟩
end Go.Proofs.YtpfjaaofpcbejaaGreat
