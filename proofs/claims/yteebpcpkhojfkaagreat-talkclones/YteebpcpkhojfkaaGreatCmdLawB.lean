/-
 Plain laws of what lies below,as this seat reaches them (by a program of the bench: port.py).
-/
import Derived.Test.YteebpcpkhojfkaaGreatCmdLawA
import Derived.Test.YteebpcpkhojfkaaGreatSxS
namespace Go.Proofs.YteebpcpkhojfkaaGreat
open Go.Sx Go Classical
set_option maxRecDepth 10000
noncomputable abbrev stR (i:Nat) (p:Prop):Option ((Int×Unit)⊕(Bool×Unit)):=some (bif dec' p then .inl (((i+1:Nat):Int),()) else .inr (false,()))
theorem fO (i:Nat):(some (.inl (((i+1:Nat):Int),())):Option ((Int×Unit)⊕(Bool×Unit)))=stR i True:=by rw[stR,bP trivial];rfl
theorem fJ (i:Nat):(some (.inr (false,())):Option ((Int×Unit)⊕(Bool×Unit)))=stR i False:=by rw[stR,bU id];rfl
theorem qx {i:Nat} {p q:Prop} (h:p↔q):stR i p=stR i q:=by rw[propext h]
theorem fV {i:Nat} {X:Option ((Int×Unit)⊕(Bool×Unit))} {p q:Prop} (h:X=stR i p) (h2:p↔q):X=stR i q:=h.trans (qx h2)
theorem fU {i:Nat} {p q r:Prop} {_:Decidable p} {X Y:Option ((Int×Unit)⊕(Bool×Unit))} (hx:X=stR i q) (hy:Y=stR i r):(bif decide p then X else Y)=stR i ((p→q)∧(¬ p→r)):=by
 by_cases hp:p
 ·rw[decide_eq_true hp,cond_true,hx];exact qx (by grind)
 ·rw[decide_eq_false hp,cond_false,hy];exact qx (by grind)
theorem fP {i:Nat} {p q r:Prop} {_:Decidable p} {X Y:Option ((Int×Unit)⊕(Bool×Unit))} (hx:X=stR i q) (hy:Y=stR i r):(bif !decide p then X else Y)=stR i ((¬ p→q)∧(p→r)):=by
 by_cases hp:p
 ·rw[decide_eq_true hp,Bool.not_true,cond_false,hy];exact qx (by grind)
 ·rw[decide_eq_false hp,Bool.not_false,cond_true,hx];exact qx (by grind)
theorem fQ {i:Nat} {b:Bool} {q r:Prop} {X Y:Option ((Int×Unit)⊕(Bool×Unit))} (hx:X=stR i q) (hy:Y=stR i r):(bif b then X else Y)=stR i ((b=true→q)∧(b=false→r)):=by
 cases b
 ·rw[cond_false,hy];exact qx (by grind)
 ·rw[cond_true,hx];exact qx (by grind)
theorem jP {α:Type} (l:List α) (hl:Sh l) {step:Int×Unit→Option ((Int×Unit)⊕(Bool×Unit))} (q:Nat→α→Prop) (rt:Prop)
  (h:∀ (i:Nat) v,i<l.length→l[i]? = some v→step ((i:Int),())=stR i (q i v)) (hK:step ((l.length:Int),())=some (.inr (dec' rt,()))) :
  aC (Int×Unit) (Bool×Unit) step big (0,())=some (dec' ((∀ i v,l[i]? = some v→q i v)∧rt),()):=by
 have hl':l.length≤9223372036854775807:=by unfold Sh at hl;omega
 refine(rV (mk:=fun i=>((i:Int),())) (fun i=>dec' (∀ v,l[i]? = some v→q i v)) (rt:=(dec' rt,())) (rf:=(false,())) hl' (fun i hi=> ?_) hK).trans ?_
 ·have e:=List.getElem?_eq_getElem hi;rw[h i _ hi e];by_cases hq:q i l[i]
  ·have:∀ v,l[i]? = some v→q i v:=by intro v hv;rw[e] at hv;cases hv;exact hq
   rw[stR,bP hq,bP this]
  ·have:¬ ∀ v,l[i]? = some v→q i v:=fun h=>hq (h _ e);rw[stR,bU hq,bU this]
 ·by_cases ha:∀ i v,l[i]? = some v→q i v
  ·have:(List.range l.length).all (fun i=>dec' (∀ v,l[i]? = some v→q i v))=true:=List.all_eq_true.2 fun i _=>bP (ha i);rw[this];exact congrArg (fun z=>some (z,())) (iC (d:=propDecidable _) (by grind))
  ·have:(List.range l.length).all (fun i=>dec' (∀ v,l[i]? = some v→q i v))=false:=by
    rw[Bool.eq_false_iff];intro h;refine ha fun i v hv=> ?_;have hi:i<l.length:=(List.getElem?_eq_some_iff.1 hv).1;exact @of_decide_eq_true _ (propDecidable _) (List.all_eq_true.1 h i (List.mem_range.2 hi)) v hv
   rw[this];exact congrArg (fun z=>some (z,())) (bU (by grind)).symm
theorem zK {α:Type} (l:List α) (hl:Sh l) {step:Int×Unit→Option ((Int×Unit)⊕(Int×Unit))} (q:α→Prop)
  (h1:∀ (i:Nat) v,i<l.length→l[i]? = some v→q v→step ((i:Int),())=some (.inl (((i+1:Nat):Int),())))
  (h2:∀ (i:Nat) v,i<l.length→l[i]? = some v→¬ q v→step ((i:Int),())=some (.inr ((i:Int),()))) (hK:step ((l.length:Int),())=some (.inr (-1,()))) :
  ∃ r,aC (Int×Unit) (Int×Unit) step big (0,())=some (r,())∧decide (0≤r) = !dec' (∀ v∈l,q v):=by
 unfold Sh at hl;obtain⟨r,h3,h4⟩:=rU (step:=step) (n:=big) (t:=(0,())) (I:=fun t=>∃ i:Nat,t=((i:Int),())∧i≤l.length∧∀ j v,j<i→l[j]? = some v→q v) (μ:=fun t=>l.length-t.1.toNat)
  (Q:=fun _ r=>decide (0≤r.1) = !dec' (∀ v∈l,q v)) (fun t ht=>by
   obtain⟨i,rfl,hi,hj⟩:=ht;by_cases hlt:i<l.length
   ·have e:=List.getElem?_eq_getElem hlt;by_cases hq:q l[i]
    ·refine .inr ⟨_,h1 i _ hlt e hq,⟨i+1,rfl,hlt,fun j v hjl hv=> ?_⟩,?_,fun r h=>h⟩
     ·by_cases hji:j=i
      ·subst hji;rw[e] at hv;cases hv;exact hq
      ·exact hj j v (by omega) hv
     ·simp only[Int.toNat_natCast];omega
    ·refine .inl ⟨_,h2 i _ hlt e hq,?_⟩;have:¬ ∀ v∈l,q v:=fun h=>hq (h _ (List.getElem_mem hlt));rw[bU this];exact decide_eq_true (by show(0:Int)≤(i:Int);omega)
   ·have:i=l.length:=by omega
    subst this;refine .inl ⟨_,hK,?_⟩;have:∀ v∈l,q v:=fun v hv=>by obtain⟨j,hj2,rfl⟩:=List.getElem_of_mem hv;exact hj j _ hj2 (List.getElem?_eq_getElem hj2)
    rw[bP this];rfl) ⟨0,rfl,Nat.zero_le _,fun j v hj=>by omega⟩ (by rw[jv];simp only[Int.toNat_zero];omega)
 obtain⟨r,⟨⟩⟩:=r;exact⟨r,h3,h4⟩
def dH (n:Int):Prop:=0≤n∧n≤1099511627776
def bI (n:Int):Prop:=1≤n∧n≤1099511627776
def lT (s:List UInt8):Prop:=s.length≤8∧IsKey s
theorem mD (n a b:Int):mi (n,a,b,())=some (dec' (a≤n∧n≤b),()):=by
 unfold mi;apply fin
 ·repeat' first|apply cO|apply bW|apply cZ|apply cu
 ·grind
theorem nz (n a b:Int):jJ (n,a,b,())=some (dec' (a≤n∧n≤b),()):=mD n a b
theorem rX (n:Int):iq (n,())=some (dec' (bI n),()):=by
 unfold iq;exact aK (nz n _ _) rfl
theorem yV (n:Int):kF (n,())=some (dec' (dH n),()):=by
 unfold kF;exact aK (nz n _ _) rfl
theorem Uy (n:Int):BI (n,())=some (!dec' (bI n),()):=by
 unfold BI;exact aK (mD n _ _) rfl
theorem UC (n:Int):BG (n,())=some (!dec' (dH n),()):=by
 unfold BG;exact aK (mD n _ _) rfl
theorem Py (l:List Int) (hl:Sh l):gy (l,())=some (dec' (∀ n∈l,bI n),()):=by
 unfold gy Md L6;obtain⟨r,h1,h2⟩:=zK l hl (step:=fun(x_1:Int×Unit)=>bif decide (x_1.fst<Int.ofNat (List.length l)) then Option.bind (idx l x_1.fst) fun b=>Option.bind (BI (b,())) fun b=>bif b.fst then some (Sum.inr x_1) else some (Sum.inl (wrap64 (x_1.fst+1),())) else some (Sum.inr (-1,()))) bI
  (fun i v hi hv hq=>by
   have hi':i<9223372036854775807:=by unfold Sh at hl;omega
   simp only[aB,hi,decide_true,cond_true,aP,hv,Option.bind_some,Uy,bP hq,Bool.not_true,cond_false,aT hi'])
  (fun i v hi hv hq=>by simp only[aB,hi,decide_true,cond_true,aP,hv,Option.bind_some,Uy,bU hq,Bool.not_false]) (by simp)
 refine aK (aK h1 rfl) ?_;simp only[h2,Bool.not_not]
theorem Iu (l:List Int) (hl:Sh l):qc (l,())=some (dec' (∀ n∈l,dH n),()):=by
 unfold qc Mc LZ;obtain⟨r,h1,h2⟩:=zK l hl (step:=fun(x_1:Int×Unit)=>bif decide (x_1.fst<Int.ofNat (List.length l)) then Option.bind (idx l x_1.fst) fun b=>Option.bind (BG (b,())) fun b=>bif b.fst then some (Sum.inr x_1) else some (Sum.inl (wrap64 (x_1.fst+1),())) else some (Sum.inr (-1,()))) dH
  (fun i v hi hv hq=>by
   have hi':i<9223372036854775807:=by unfold Sh at hl;omega
   simp only[aB,hi,decide_true,cond_true,aP,hv,Option.bind_some,UC,bP hq,Bool.not_true,cond_false,aT hi'])
  (fun i v hi hv hq=>by simp only[aB,hi,decide_true,cond_true,aP,hv,Option.bind_some,UC,bU hq,Bool.not_false]) (by simp)
 refine aK (aK h1 rfl) ?_;simp only[h2,Bool.not_not]
theorem tV (a:Int):gy ([a],())=some (dec' (bI a),()):=
 fin (Py [a] (by simp[Sh])) (by simp)
theorem WR (a b:Int):gy ([a,b],())=some (dec' (bI a∧bI b),()):=
 fin (Py [a,b] (by simp[Sh])) (by simp)
theorem Xn (a:Int):qc ([a],())=some (dec' (dH a),()):=
 fin (Iu [a] (by simp[Sh])) (by simp)
theorem nat3 (a b c:Int):qc ([a,b,c],())=some (dec' (dH a∧dH b∧dH c),()):=
 fin (Iu [a,b,c] (by simp[Sh])) (by simp)
theorem nat6 (a b c d e f:Int):qc ([a,b,c,d,e,f],())=some (dec' (dH a∧dH b∧dH c∧dH d∧dH e∧dH f),()):=
 fin (Iu [a,b,c,d,e,f] (by simp[Sh])) (by simp)
abbrev St (s:List UInt8):Prop:=s.length≤140737488351232
theorem pre_eq (s:List UInt8):qf (s,())=some (dec' (lT s),()):=by
 unfold qf;simp only[mO,Option.bind_some];apply fin
 ·repeat' first|apply cO|apply bW|apply cZ|apply cu
 ·unfold lT;simp only[Int.ofNat_eq_natCast];grind
theorem zO (s:List UInt8) (hs:St s):F38 (s,())=some (dec' (lT s),()):=by
 unfold F38;simp only[jM s hs,Option.bind_some];apply fin
 ·repeat' first|apply cO|apply bW|apply cZ|apply cu
 ·unfold lT;simp only[Int.ofNat_eq_natCast];grind
theorem MB (v:gW):pY (v,())=some (dec' (dU v),()):=by
 unfold pY;refine fin (aK (RF [v] (by simp)) rfl) ?_;unfold uX;simp
theorem put_eq (k v:List UInt8) (l:Int):BF (k,v,l,())=some (dec' (IsKey k∧v.length≤40∧dH l),()):=by
 unfold BF;simp only[mO,Xn,Option.bind_some];apply fin
 ·repeat' first|apply cO|apply bW|apply cZ|apply cu
 ·simp only[Int.ofNat_eq_natCast];grind
def nV (c:dJ):Prop:=IsKey c.1∧0≤c.2.2.1∧c.2.2.1≤2∧((1≤c.2.1∧c.2.1≤4∧c.2.2.2.2.1=[]∧ -1099511627776≤c.2.2.2.1∧c.2.2.2.1≤1099511627776)∨(c.2.1=5∧c.2.2.2.1=0∧c.2.2.2.2.1.length≤40))
theorem cmp_eq (c:dJ):Gm (c,())=some (dec' (nV c),()):=by
 obtain⟨k,w,s,n,v,⟨⟩⟩:=c;unfold Gm;simp only[mO,mD,Option.bind_some];apply fin
 ·repeat' first|apply cO|apply bW|apply cZ|apply cu|apply eQ
 ·unfold nV;simp only[Int.ofNat_eq_natCast];grind
theorem Ug (c:dJ):BB (c,())=some (!dec' (nV c),()):=by
 unfold BB;exact aK (cmp_eq c) rfl
theorem zaZ (l:List dJ) (hl:Sh l):EZ (l,())=some (!dec' (∀ c∈l,nV c),()):=by
 unfold EZ LY;obtain⟨r,h1,h2⟩:=zK l hl (step:=fun(x_1:Int×Unit)=>bif decide (x_1.fst<Int.ofNat (List.length l)) then Option.bind (idx l x_1.fst) fun b=>Option.bind (BB (b,())) fun b=>bif b.fst then some (Sum.inr x_1) else some (Sum.inl (wrap64 (x_1.fst+1),())) else some (Sum.inr (-1,()))) nV
  (fun i v hi hv hq=>by
   have hi':i<9223372036854775807:=by unfold Sh at hl;omega
   simp only[aB,hi,decide_true,cond_true,aP,hv,Option.bind_some,Ug,bP hq,Bool.not_true,cond_false,aT hi'])
  (fun i v hi hv hq=>by simp only[aB,hi,decide_true,cond_true,aP,hv,Option.bind_some,Ug,bU hq,Bool.not_false]) (by simp)
 refine aK h1 ?_;simp only[h2]
def uY (l:List dJ):Prop:=(∀ c∈l,nV c)∧l.length≤4
theorem JV {α:Type} {l:List α} {p:α→Prop}:(∀ (i:Nat) v,l[i]? = some v→p v)↔∀ v∈l,p v:=
 ⟨fun h v hv=>by obtain⟨i,hi,rfl⟩:=List.getElem_of_mem hv;exact h i _ (List.getElem?_eq_getElem hi),fun h i v hv=>h v (List.mem_of_getElem? hv)⟩
end Go.Proofs.YteebpcpkhojfkaaGreat
