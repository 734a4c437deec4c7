/-
 Plain laws of what lies below,as this seat reaches them (by a program of the bench: port.py).
-/
import Derived.Test.YtlegpimppfabgaaGreatCmdLawA
import Derived.Test.YtlegpimppfabgaaGreatSxS
namespace Go.Proofs.YtlegpimppfabgaaGreat
open Go.Sx Go Classical
set_option maxRecDepth 10000
noncomputable abbrev stR (i:Nat) (p:Prop):Option ((Int×Unit)⊕(Bool×Unit)):=some (bif dec' p then .inl (((i+1:Nat):Int),()) else .inr (false,()))
theorem kF (i:Nat):(some (.inl (((i+1:Nat):Int),())):Option ((Int×Unit)⊕(Bool×Unit)))=stR i True:=by rw [stR,dV trivial];rfl
theorem kC (i:Nat):(some (.inr (false,())):Option ((Int×Unit)⊕(Bool×Unit)))=stR i False:=by rw [stR,dU id];rfl
theorem qc {i:Nat} {p q:Prop} (h:p↔q):stR i p=stR i q:=by rw [propext h]
theorem lm {i:Nat} {X:Option ((Int×Unit)⊕(Bool×Unit))} {p q:Prop} (h:X=stR i p) (h2:p↔q):X=stR i q:=h.trans (qc h2)
theorem kJ {i:Nat} {p q r:Prop} {_:Decidable p} {X Y:Option ((Int×Unit)⊕(Bool×Unit))} (hx:X=stR i q) (hy:Y=stR i r):(bif decide p then X else Y)=stR i ((p→q)∧(¬ p→r)):=by
 by_cases hp:p
 ·rw [decide_eq_true hp,cond_true,hx];exact qc (by grind)
 ·rw [decide_eq_false hp,cond_false,hy];exact qc (by grind)
theorem kG {i:Nat} {p q r:Prop} {_:Decidable p} {X Y:Option ((Int×Unit)⊕(Bool×Unit))} (hx:X=stR i q) (hy:Y=stR i r):(bif !decide p then X else Y)=stR i ((¬ p→q)∧(p→r)):=by
 by_cases hp:p
 ·rw [decide_eq_true hp,Bool.not_true,cond_false,hy];exact qc (by grind)
 ·rw [decide_eq_false hp,Bool.not_false,cond_true,hx];exact qc (by grind)
theorem kH {i:Nat} {b:Bool} {q r:Prop} {X Y:Option ((Int×Unit)⊕(Bool×Unit))} (hx:X=stR i q) (hy:Y=stR i r):(bif b then X else Y)=stR i ((b=true→q)∧(b=false→r)):=by
 cases b
 ·rw [cond_false,hy];exact qc (by grind)
 ·rw [cond_true,hx];exact qc (by grind)
theorem rX {α:Type} (l:List α) (hl:Sh l) {step:Int×Unit→Option ((Int×Unit)⊕(Bool×Unit))} (q:Nat→α→Prop) (rt:Prop)
  (h:∀ (i:Nat) v,i < l.length→l[i]? = some v→step ((i:Int),())=stR i (q i v)) (hK:step ((l.length:Int),())=some (.inr (dec' rt,()))) :
  bu (Int×Unit) (Bool×Unit) step big (0,())=some (dec' ((∀ i v,l[i]? = some v→q i v)∧rt),()):=by
 have hl':l.length≤9223372036854775807:=by unfold Sh at hl;omega
 refine (rU (mk:=fun i=>((i:Int),())) (fun i=>dec' (∀ v,l[i]? = some v→q i v)) (rt:=(dec' rt,())) (rf:=(false,())) hl' (fun i hi=> ?_) hK).trans ?_
 ·have e:=List.getElem?_eq_getElem hi
  rw [h i _ hi e]
  by_cases hq:q i l[i]
  ·have:∀ v,l[i]? = some v→q i v:=by intro v hv;rw [e] at hv;cases hv;exact hq
   rw [stR,dV hq,dV this]
  ·have:¬ ∀ v,l[i]? = some v→q i v:=fun h=>hq (h _ e)
   rw [stR,dU hq,dU this]
 ·by_cases ha:∀ i v,l[i]? = some v→q i v
  ·have:(List.range l.length).all (fun i=>dec' (∀ v,l[i]? = some v→q i v))=true:=List.all_eq_true.2 fun i _=>dV (ha i)
   rw [this]
   exact congrArg (fun z=>some (z,())) (jY (d:=propDecidable _) (by grind))
  ·have:(List.range l.length).all (fun i=>dec' (∀ v,l[i]? = some v→q i v))=false:=by
    rw [Bool.eq_false_iff]
    intro h
    refine ha fun i v hv=> ?_
    have hi:i < l.length:=(List.getElem?_eq_some_iff.1 hv).1
    exact @of_decide_eq_true _ (propDecidable _) (List.all_eq_true.1 h i (List.mem_range.2 hi)) v hv
   rw [this]
   exact congrArg (fun z=>some (z,())) (dU (by grind)).symm
theorem vV {α:Type} (l:List α) (hl:Sh l) {step:Int×Unit→Option ((Int×Unit)⊕(Int×Unit))} (q:α→Prop)
  (h1:∀ (i:Nat) v,i < l.length→l[i]? = some v→q v→step ((i:Int),())=some (.inl (((i+1:Nat):Int),())))
  (h2:∀ (i:Nat) v,i < l.length→l[i]? = some v→¬ q v→step ((i:Int),())=some (.inr ((i:Int),()))) (hK:step ((l.length:Int),())=some (.inr (-1,()))) :
  ∃ r,bu (Int×Unit) (Int×Unit) step big (0,())=some (r,())∧decide (0≤r) = !dec' (∀ v∈l,q v):=by
 unfold Sh at hl
 obtain⟨r,h3,h4⟩:=pV (step:=step) (n:=big) (t:=(0,())) (I:=fun t=>∃ i:Nat,t=((i:Int),())∧i≤l.length∧∀ j v,j < i→l[j]? = some v→q v) (μ:=fun t=>l.length - t.1.toNat)
  (Q:=fun _ r=>decide (0≤r.1) = !dec' (∀ v∈l,q v)) (fun t ht=>by
   obtain⟨i,rfl,hi,hj⟩:=ht
   by_cases hlt:i < l.length
   ·have e:=List.getElem?_eq_getElem hlt
    by_cases hq:q l[i]
    ·refine .inr ⟨_,h1 i _ hlt e hq,⟨i+1,rfl,hlt,fun j v hjl hv=> ?_⟩,?_,fun r h=>h⟩
     ·by_cases hji:j=i
      ·subst hji;rw [e] at hv;cases hv;exact hq
      ·exact hj j v (by omega) hv
     ·simp only [Int.toNat_natCast];omega
    ·refine .inl ⟨_,h2 i _ hlt e hq,?_⟩
     have:¬ ∀ v∈l,q v:=fun h=>hq (h _ (List.getElem_mem hlt))
     rw [dU this]
     exact decide_eq_true (by show (0:Int)≤(i:Int);omega)
   ·have:i=l.length:=by omega
    subst this
    refine .inl ⟨_,hK,?_⟩
    have:∀ v∈l,q v:=fun v hv=>by
     obtain⟨j,hj2,rfl⟩:=List.getElem_of_mem hv
     exact hj j _ hj2 (List.getElem?_eq_getElem hj2)
    rw [dV this]
    rfl) ⟨0,rfl,Nat.zero_le _,fun j v hj=>by omega⟩ (by rw [jZ];simp only [Int.toNat_zero];omega)
 obtain⟨r,⟨⟩⟩:=r
 exact⟨r,h3,h4⟩
def dH (n:Int):Prop:=0≤n∧n≤1099511627776
def bQ (n:Int):Prop:=1≤n∧n≤1099511627776
def nJ (s:List UInt8):Prop:=s.length≤8∧IsKey s
theorem lF (n a b:Int):jA (n,a,b,())=some (dec' (a≤n∧n≤b),()):=by
 unfold jA
 apply fin
 ·repeat' first | apply dE | apply dC | apply dF | apply dD
 ·grind
theorem Mc (n:Int):uM (n,())=some (!dec' (bQ n),()):=by
 unfold uM
 exact aS (lF n _ _) rfl
theorem Me (n:Int):uD (n,())=some (!dec' (dH n),()):=by
 unfold uD
 exact aS (lF n _ _) rfl
theorem IK (l:List Int) (hl:Sh l):ed (l,())=some (dec' (∀ n∈l,bQ n),()):=by
 unfold ed AL AB
 obtain⟨r,h1,h2⟩:=vV l hl (step:=fun (x_1:Int×Unit)=>bif decide (x_1.fst < Int.ofNat (List.length l)) then Option.bind (idx l x_1.fst) fun b=>Option.bind (uM (b,())) fun b=>bif b.fst then some (Sum.inr x_1) else some (Sum.inl (wrap64 (x_1.fst+1),())) else some (Sum.inr (-1,()))) bQ
  (fun i v hi hv hq=>by
   have hi':i < 9223372036854775807:=by unfold Sh at hl;omega
   simp only [aO,hi,decide_true,cond_true,aZ,hv,Option.bind_some,Mc,dV hq,Bool.not_true,cond_false,bY hi'])
  (fun i v hi hv hq=>by simp only [aO,hi,decide_true,cond_true,aZ,hv,Option.bind_some,Mc,dU hq,Bool.not_false]) (by simp)
 refine aS (aS h1 rfl) ?_
 simp only [h2,Bool.not_not]
theorem CP (l:List Int) (hl:Sh l):lw (l,())=some (dec' (∀ n∈l,dH n),()):=by
 unfold lw AC AA
 obtain⟨r,h1,h2⟩:=vV l hl (step:=fun (x_1:Int×Unit)=>bif decide (x_1.fst < Int.ofNat (List.length l)) then Option.bind (idx l x_1.fst) fun b=>Option.bind (uD (b,())) fun b=>bif b.fst then some (Sum.inr x_1) else some (Sum.inl (wrap64 (x_1.fst+1),())) else some (Sum.inr (-1,()))) dH
  (fun i v hi hv hq=>by
   have hi':i < 9223372036854775807:=by unfold Sh at hl;omega
   simp only [aO,hi,decide_true,cond_true,aZ,hv,Option.bind_some,Me,dV hq,Bool.not_true,cond_false,bY hi'])
  (fun i v hi hv hq=>by simp only [aO,hi,decide_true,cond_true,aZ,hv,Option.bind_some,Me,dU hq,Bool.not_false]) (by simp)
 refine aS (aS h1 rfl) ?_
 simp only [h2,Bool.not_not]
theorem oM (a:Int):ed ([a],())=some (dec' (bQ a),()):=
 fin (IK [a] (by simp [Sh])) (by simp)
theorem Qi (a b:Int):ed ([a,b],())=some (dec' (bQ a∧bQ b),()):=
 fin (IK [a,b] (by simp [Sh])) (by simp)
theorem QB (a:Int):lw ([a],())=some (dec' (dH a),()):=
 fin (CP [a] (by simp [Sh])) (by simp)
theorem nat3 (a b c:Int):lw ([a,b,c],())=some (dec' (dH a∧dH b∧dH c),()):=
 fin (CP [a,b,c] (by simp [Sh])) (by simp)
theorem nat6 (a b c d e f:Int):lw ([a,b,c,d,e,f],())=some (dec' (dH a∧dH b∧dH c∧dH d∧dH e∧dH f),()):=
 fin (CP [a,b,c,d,e,f] (by simp [Sh])) (by simp)
abbrev St (s:List UInt8):Prop:=s.length≤140737488351232
theorem pre_eq (s:List UInt8):F67 (s,())=some (dec' (nJ s),()):=by
 unfold F67
 simp only [iI,Option.bind_some]
 apply fin
 ·repeat' first | apply dE | apply dC | apply dF | apply dD
 ·unfold nJ;simp only [Int.ofNat_eq_natCast];grind
theorem Gn (v:mD):mG (v,())=some (dec' (fC v),()):=by
 unfold mG
 refine fin (aS (Ko [v] (by simp)) rfl) ?_
 unfold ql
 simp
theorem put_eq (k v:List UInt8) (l:Int):uN (k,v,l,())=some (dec' (IsKey k∧v.length≤40∧dH l),()):=by
 unfold uN
 simp only [iI,QB,Option.bind_some]
 apply fin
 ·repeat' first | apply dE | apply dC | apply dF | apply dD
 ·simp only [Int.ofNat_eq_natCast];grind
def oL (c:aN):Prop:=IsKey c.1∧0≤c.2.2.1∧c.2.2.1≤2∧((1≤c.2.1∧c.2.1≤4∧c.2.2.2.2.1=[]∧ -1099511627776≤c.2.2.2.1∧c.2.2.2.1≤1099511627776)∨(c.2.1=5∧c.2.2.2.1=0∧c.2.2.2.2.1.length≤40))
theorem cmp_eq (c:aN):xU (c,())=some (dec' (oL c),()):=by
 obtain⟨k,w,s,n,v,⟨⟩⟩:=c
 unfold xU
 simp only [iI,lF,Option.bind_some]
 apply fin
 ·repeat' first | apply dE | apply dC | apply dF | apply dD | apply gq
 ·unfold oL;simp only [Int.ofNat_eq_natCast];grind
theorem LM (c:aN):uG (c,())=some (!dec' (oL c),()):=by
 unfold uG
 exact aS (cmp_eq c) rfl
theorem ZC (l:List aN) (hl:Sh l):xh (l,())=some (!dec' (∀ c∈l,oL c),()):=by
 unfold xh Ar
 obtain⟨r,h1,h2⟩:=vV l hl (step:=fun (x_1:Int×Unit)=>bif decide (x_1.fst < Int.ofNat (List.length l)) then Option.bind (idx l x_1.fst) fun b=>Option.bind (uG (b,())) fun b=>bif b.fst then some (Sum.inr x_1) else some (Sum.inl (wrap64 (x_1.fst+1),())) else some (Sum.inr (-1,()))) oL
  (fun i v hi hv hq=>by
   have hi':i < 9223372036854775807:=by unfold Sh at hl;omega
   simp only [aO,hi,decide_true,cond_true,aZ,hv,Option.bind_some,LM,dV hq,Bool.not_true,cond_false,bY hi'])
  (fun i v hi hv hq=>by simp only [aO,hi,decide_true,cond_true,aZ,hv,Option.bind_some,LM,dU hq,Bool.not_false]) (by simp)
 refine aS h1 ?_
 simp only [h2]
def qm (l:List aN):Prop:=(∀ c∈l,oL c)∧l.length≤4
end Go.Proofs.YtlegpimppfabgaaGreat
