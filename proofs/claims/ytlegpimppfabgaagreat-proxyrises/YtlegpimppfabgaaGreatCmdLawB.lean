/-
 Plain laws of what lies below,as this seat reaches them (by a program of the bench: port.py).
-/
import Derived.Test.YtlegpimppfabgaaGreatCmdLawA
import Derived.Test.YtlegpimppfabgaaGreatSxS
namespace Go.Proofs.YtlegpimppfabgaaGreat
open Go.Sx Go Classical
set_option maxRecDepth 10000
noncomputable abbrev stR (i:Nat) (p:Prop):Option ((Int×Unit)⊕(Bool×Unit)):=some (bif dec' p then .inl (((i+1:Nat):Int),()) else .inr (false,()))
theorem fV (i:Nat):(some (.inl (((i+1:Nat):Int),())):Option ((Int×Unit)⊕(Bool×Unit)))=stR i True:=by rw[stR,bK trivial];rfl
theorem fO (i:Nat):(some (.inr (false,())):Option ((Int×Unit)⊕(Bool×Unit)))=stR i False:=by rw[stR,dA id];rfl
theorem pJ {i:Nat} {p q:Prop} (h:p↔q):stR i p=stR i q:=by rw[propext h]
theorem gu {i:Nat} {X:Option ((Int×Unit)⊕(Bool×Unit))} {p q:Prop} (h:X=stR i p) (h2:p↔q):X=stR i q:=h.trans (pJ h2)
theorem gp {i:Nat} {p q r:Prop} {_:Decidable p} {X Y:Option ((Int×Unit)⊕(Bool×Unit))} (hx:X=stR i q) (hy:Y=stR i r):(bif decide p then X else Y)=stR i ((p→q)∧(¬ p→r)):=by
 by_cases hp:p
 ·rw[decide_eq_true hp,cond_true,hx];exact pJ (by grind)
 ·rw[decide_eq_false hp,cond_false,hy];exact pJ (by grind)
theorem fZ {i:Nat} {p q r:Prop} {_:Decidable p} {X Y:Option ((Int×Unit)⊕(Bool×Unit))} (hx:X=stR i q) (hy:Y=stR i r):(bif !decide p then X else Y)=stR i ((¬ p→q)∧(p→r)):=by
 by_cases hp:p
 ·rw[decide_eq_true hp,Bool.not_true,cond_false,hy];exact pJ (by grind)
 ·rw[decide_eq_false hp,Bool.not_false,cond_true,hx];exact pJ (by grind)
theorem gm {i:Nat} {b:Bool} {q r:Prop} {X Y:Option ((Int×Unit)⊕(Bool×Unit))} (hx:X=stR i q) (hy:Y=stR i r):(bif b then X else Y)=stR i ((b=true→q)∧(b=false→r)):=by
 cases b
 ·rw[cond_false,hy];exact pJ (by grind)
 ·rw[cond_true,hx];exact pJ (by grind)
theorem jM {α:Type} (l:List α) (hl:Sh l) {step:Int×Unit→Option ((Int×Unit)⊕(Bool×Unit))} (q:Nat→α→Prop) (rt:Prop)
  (h:∀ (i:Nat) v,i<l.length→l[i]? = some v→step ((i:Int),())=stR i (q i v)) (hK:step ((l.length:Int),())=some (.inr (dec' rt,()))) :
  aN (Int×Unit) (Bool×Unit) step big (0,())=some (dec' ((∀ i v,l[i]? = some v→q i v)∧rt),()):=by
 have hl':l.length≤9223372036854775807:=by unfold Sh at hl;omega
 refine(qM (mk:=fun i=>((i:Int),())) (fun i=>dec' (∀ v,l[i]? = some v→q i v)) (rt:=(dec' rt,())) (rf:=(false,())) hl' (fun i hi=> ?_) hK).trans ?_
 ·have e:=List.getElem?_eq_getElem hi;rw[h i _ hi e];by_cases hq:q i l[i]
  ·have:∀ v,l[i]? = some v→q i v:=by intro v hv;rw[e] at hv;cases hv;exact hq
   rw[stR,bK hq,bK this]
  ·have:¬ ∀ v,l[i]? = some v→q i v:=fun h=>hq (h _ e);rw[stR,dA hq,dA this]
 ·by_cases ha:∀ i v,l[i]? = some v→q i v
  ·have:(List.range l.length).all (fun i=>dec' (∀ v,l[i]? = some v→q i v))=true:=List.all_eq_true.2 fun i _=>bK (ha i);rw[this];exact congrArg (fun z=>some (z,())) (iO (d:=propDecidable _) (by grind))
  ·have:(List.range l.length).all (fun i=>dec' (∀ v,l[i]? = some v→q i v))=false:=by
    rw[Bool.eq_false_iff];intro h;refine ha fun i v hv=> ?_;have hi:i<l.length:=(List.getElem?_eq_some_iff.1 hv).1;exact @of_decide_eq_true _ (propDecidable _) (List.all_eq_true.1 h i (List.mem_range.2 hi)) v hv
   rw[this];exact congrArg (fun z=>some (z,())) (dA (by grind)).symm
theorem yK {α:Type} (l:List α) (hl:Sh l) {step:Int×Unit→Option ((Int×Unit)⊕(Int×Unit))} (q:α→Prop)
  (h1:∀ (i:Nat) v,i<l.length→l[i]? = some v→q v→step ((i:Int),())=some (.inl (((i+1:Nat):Int),())))
  (h2:∀ (i:Nat) v,i<l.length→l[i]? = some v→¬ q v→step ((i:Int),())=some (.inr ((i:Int),()))) (hK:step ((l.length:Int),())=some (.inr (-1,()))) :
  ∃ r,aN (Int×Unit) (Int×Unit) step big (0,())=some (r,())∧decide (0≤r) = !dec' (∀ v∈l,q v):=by
 unfold Sh at hl;obtain⟨r,h3,h4⟩:=qL (step:=step) (n:=big) (t:=(0,())) (I:=fun t=>∃ i:Nat,t=((i:Int),())∧i≤l.length∧∀ j v,j<i→l[j]? = some v→q v) (μ:=fun t=>l.length-t.1.toNat)
  (Q:=fun _ r=>decide (0≤r.1) = !dec' (∀ v∈l,q v)) (fun t ht=>by
   obtain⟨i,rfl,hi,hj⟩:=ht;by_cases hlt:i<l.length
   ·have e:=List.getElem?_eq_getElem hlt;by_cases hq:q l[i]
    ·refine .inr ⟨_,h1 i _ hlt e hq,⟨i+1,rfl,hlt,fun j v hjl hv=> ?_⟩,?_,fun r h=>h⟩
     ·by_cases hji:j=i
      ·subst hji;rw[e] at hv;cases hv;exact hq
      ·exact hj j v (by omega) hv
     ·simp only[Int.toNat_natCast];omega
    ·refine .inl ⟨_,h2 i _ hlt e hq,?_⟩;have:¬ ∀ v∈l,q v:=fun h=>hq (h _ (List.getElem_mem hlt));rw[dA this];exact decide_eq_true (by show(0:Int)≤(i:Int);omega)
   ·have:i=l.length:=by omega
    subst this;refine .inl ⟨_,hK,?_⟩;have:∀ v∈l,q v:=fun v hv=>by obtain⟨j,hj2,rfl⟩:=List.getElem_of_mem hv;exact hj j _ hj2 (List.getElem?_eq_getElem hj2)
    rw[bK this];rfl) ⟨0,rfl,Nat.zero_le _,fun j v hj=>by omega⟩ (by rw[ji];simp only[Int.toNat_zero];omega)
 obtain⟨r,⟨⟩⟩:=r;exact⟨r,h3,h4⟩
def dF (n:Int):Prop:=0≤n∧n≤1099511627776
def bz (n:Int):Prop:=1≤n∧n≤1099511627776
def nz (s:List UInt8):Prop:=s.length≤8∧IsKey s
theorem lS (n a b:Int):lQ (n,a,b,())=some (dec' (a≤n∧n≤b),()):=by
 unfold lQ;apply fin
 ·repeat' first|apply bV|apply bP|apply bW|apply bU
 ·grind
theorem mr (n a b:Int):jK (n,a,b,())=some (dec' (a≤n∧n≤b),()):=lS n a b
theorem qO (n:Int):iJ (n,())=some (dec' (bz n),()):=by
 unfold iJ;exact aB (mr n _ _) rfl
theorem xX (n:Int):kD (n,())=some (dec' (dF n),()):=by
 unfold kD;exact aB (mr n _ _) rfl
theorem RI (n:Int):AQ (n,())=some (!dec' (bz n),()):=by
 unfold AQ;exact aB (lS n _ _) rfl
theorem RN (n:Int):Ar (n,())=some (!dec' (dF n),()):=by
 unfold Ar;exact aB (lS n _ _) rfl
theorem Ob (l:List Int) (hl:Sh l):gK (l,())=some (dec' (∀ n∈l,bz n),()):=by
 unfold gK KY KW;obtain⟨r,h1,h2⟩:=yK l hl (step:=fun(x_1:Int×Unit)=>bif decide (x_1.fst<Int.ofNat (List.length l)) then Option.bind (idx l x_1.fst) fun b=>Option.bind (AQ (b,())) fun b=>bif b.fst then some (Sum.inr x_1) else some (Sum.inl (wrap64 (x_1.fst+1),())) else some (Sum.inr (-1,()))) bz
  (fun i v hi hv hq=>by
   have hi':i<9223372036854775807:=by unfold Sh at hl;omega
   simp only[ax,hi,decide_true,cond_true,aI,hv,Option.bind_some,RI,bK hq,Bool.not_true,cond_false,aP hi'])
  (fun i v hi hv hq=>by simp only[ax,hi,decide_true,cond_true,aI,hv,Option.bind_some,RI,dA hq,Bool.not_false]) (by simp)
 refine aB (aB h1 rfl) ?_;simp only[h2,Bool.not_not]
theorem Ha (l:List Int) (hl:Sh l):o7 (l,())=some (dec' (∀ n∈l,dF n),()):=by
 unfold o7 KX KU;obtain⟨r,h1,h2⟩:=yK l hl (step:=fun(x_1:Int×Unit)=>bif decide (x_1.fst<Int.ofNat (List.length l)) then Option.bind (idx l x_1.fst) fun b=>Option.bind (Ar (b,())) fun b=>bif b.fst then some (Sum.inr x_1) else some (Sum.inl (wrap64 (x_1.fst+1),())) else some (Sum.inr (-1,()))) dF
  (fun i v hi hv hq=>by
   have hi':i<9223372036854775807:=by unfold Sh at hl;omega
   simp only[ax,hi,decide_true,cond_true,aI,hv,Option.bind_some,RN,bK hq,Bool.not_true,cond_false,aP hi'])
  (fun i v hi hv hq=>by simp only[ax,hi,decide_true,cond_true,aI,hv,Option.bind_some,RN,dA hq,Bool.not_false]) (by simp)
 refine aB (aB h1 rfl) ?_;simp only[h2,Bool.not_not]
theorem rJ (a:Int):gK ([a],())=some (dec' (bz a),()):=
 fin (Ob [a] (by simp[Sh])) (by simp)
theorem UX (a b:Int):gK ([a,b],())=some (dec' (bz a∧bz b),()):=
 fin (Ob [a,b] (by simp[Sh])) (by simp)
theorem Vs (a:Int):o7 ([a],())=some (dec' (dF a),()):=
 fin (Ha [a] (by simp[Sh])) (by simp)
theorem nat3 (a b c:Int):o7 ([a,b,c],())=some (dec' (dF a∧dF b∧dF c),()):=
 fin (Ha [a,b,c] (by simp[Sh])) (by simp)
theorem nat6 (a b c d e f:Int):o7 ([a,b,c,d,e,f],())=some (dec' (dF a∧dF b∧dF c∧dF d∧dF e∧dF f),()):=
 fin (Ha [a,b,c,d,e,f] (by simp[Sh])) (by simp)
abbrev St (s:List UInt8):Prop:=s.length≤140737488351232
theorem pre_eq (s:List UInt8):F67 (s,())=some (dec' (nz s),()):=by
 unfold F67;simp only[jQ,Option.bind_some];apply fin
 ·repeat' first|apply bV|apply bP|apply bW|apply bU
 ·unfold nz;simp only[Int.ofNat_eq_natCast];grind
theorem yO (s:List UInt8) (hs:St s):F76 (s,())=some (dec' (nz s),()):=by
 unfold F76;simp only[jg s hs,Option.bind_some];apply fin
 ·repeat' first|apply bV|apply bP|apply bW|apply bU
 ·unfold nz;simp only[Int.ofNat_eq_natCast];grind
theorem KZ (v:nO):qA (v,())=some (dec' (fP v),()):=by
 unfold qA;refine fin (aB (P9 [v] (by simp)) rfl) ?_;unfold uk;simp
theorem put_eq (k v:List UInt8) (l:Int):AU (k,v,l,())=some (dec' (IsKey k∧v.length≤40∧dF l),()):=by
 unfold AU;simp only[jQ,Vs,Option.bind_some];apply fin
 ·repeat' first|apply bV|apply bP|apply bW|apply bU
 ·simp only[Int.ofNat_eq_natCast];grind
def nD (c:dm):Prop:=IsKey c.1∧0≤c.2.2.1∧c.2.2.1≤2∧((1≤c.2.1∧c.2.1≤4∧c.2.2.2.2.1=[]∧ -1099511627776≤c.2.2.2.1∧c.2.2.2.1≤1099511627776)∨(c.2.1=5∧c.2.2.2.1=0∧c.2.2.2.2.1.length≤40))
theorem cmp_eq (c:dm):EQ (c,())=some (dec' (nD c),()):=by
 obtain⟨k,w,s,n,v,⟨⟩⟩:=c;unfold EQ;simp only[jQ,lS,Option.bind_some];apply fin
 ·repeat' first|apply bV|apply bP|apply bW|apply bU|apply eU
 ·unfold nD;simp only[Int.ofNat_eq_natCast];grind
theorem Rl (c:dm):Aw (c,())=some (!dec' (nD c),()):=by
 unfold Aw;exact aB (cmp_eq c) rfl
theorem Zj (l:List dm) (hl:Sh l):D9 (l,())=some (!dec' (∀ c∈l,nD c),()):=by
 unfold D9 KP;obtain⟨r,h1,h2⟩:=yK l hl (step:=fun(x_1:Int×Unit)=>bif decide (x_1.fst<Int.ofNat (List.length l)) then Option.bind (idx l x_1.fst) fun b=>Option.bind (Aw (b,())) fun b=>bif b.fst then some (Sum.inr x_1) else some (Sum.inl (wrap64 (x_1.fst+1),())) else some (Sum.inr (-1,()))) nD
  (fun i v hi hv hq=>by
   have hi':i<9223372036854775807:=by unfold Sh at hl;omega
   simp only[ax,hi,decide_true,cond_true,aI,hv,Option.bind_some,Rl,bK hq,Bool.not_true,cond_false,aP hi'])
  (fun i v hi hv hq=>by simp only[ax,hi,decide_true,cond_true,aI,hv,Option.bind_some,Rl,dA hq,Bool.not_false]) (by simp)
 refine aB h1 ?_;simp only[h2]
def pW (l:List dm):Prop:=(∀ c∈l,nD c)∧l.length≤4
theorem Jo {α:Type} {l:List α} {p:α→Prop}:(∀ (i:Nat) v,l[i]? = some v→p v)↔∀ v∈l,p v:=
 ⟨fun h v hv=>by obtain⟨i,hi,rfl⟩:=List.getElem_of_mem hv;exact h i _ (List.getElem?_eq_getElem hi),fun h i v hv=>h v (List.mem_of_getElem? hv)⟩
end Go.Proofs.YtlegpimppfabgaaGreat
