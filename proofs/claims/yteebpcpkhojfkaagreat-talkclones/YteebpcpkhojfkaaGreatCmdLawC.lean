/-
 Plain laws of what lies below,as this seat reaches them (by a program of the bench: port.py).
-/
import Derived.Test.YteebpcpkhojfkaaGreatCmdLawB
import Derived.Test.YteebpcpkhojfkaaGreatSxS
namespace Go.Proofs.YteebpcpkhojfkaaGreat
open Go.Sx Go Classical
set_option maxRecDepth 10000
theorem zb6 {R:Type} {n:Nat} (hn:n≤9223372036854775806) {step:Int×Unit→Option ((Int×Unit)⊕R)} (q:Nat→Prop) (rt rf:R)
  (h:∀ i:Nat,i<n→step ((i:Int),())=some (bif dec' (q i) then .inl (((i+1:Nat):Int),()) else .inr rf)) (hK:step ((n:Int),())=some (.inr rt)) :
  aC (Int×Unit) R step big (0,())=some (bif dec' (∀ i,i<n→q i) then rt else rf):=by
 refine(rV (mk:=fun i=>((i:Int),())) (fun i=>dec' (q i)) (rt:=rt) (rf:=rf) (by omega) (fun i hi=> ?_) hK).trans ?_
 ·rw[h i hi]
 ·have:(List.range n).all (fun i=>dec' (q i))=dec' (∀ i,i<n→q i):=by
   by_cases ha:∀ i,i<n→q i
   ·rw[bP ha];exact List.all_eq_true.2 fun i hi=>bP (ha i (List.mem_range.1 hi))
   ·rw[bU ha,Bool.eq_false_iff];intro h;exact ha fun i hi=> @of_decide_eq_true _ (propDecidable _) (List.all_eq_true.1 h i (List.mem_range.2 hi))
  rw[this]
theorem zb4 {α T R:Type} (l:List α) (hl:Sh l) {step:T→Option (T⊕R)} (q:α→Prop) (mk:Nat→T) (idxOf:T→Nat) (hmk:∀ i,idxOf (mk i)=i) (out:Nat→R) (no:R)
  (h1:∀ (i:Nat) v,i<l.length→l[i]? = some v→q v→step (mk i)=some (.inl (mk (i+1))))
  (h2:∀ (i:Nat) v,i<l.length→l[i]? = some v→¬ q v→step (mk i)=some (.inr (out i))) (hK:step (mk l.length)=some (.inr no)) :
  ∃ z,iter step big (mk 0)=some z∧((z=no∧∀ v∈l,q v)∨((∃ i,z=out i)∧¬ ∀ v∈l,q v)):=by
 unfold Sh at hl;exact rU (step:=step) (n:=big) (t:=mk 0) (I:=fun t=>∃ i:Nat,t=mk i∧i≤l.length∧∀ j v,j<i→l[j]? = some v→q v) (μ:=fun t=>l.length-idxOf t)
  (Q:=fun _ z=>(z=no∧∀ v∈l,q v)∨((∃ i,z=out i)∧¬ ∀ v∈l,q v)) (fun t ht=>by
   obtain⟨i,rfl,hi,hj⟩:=ht;by_cases hlt:i<l.length
   ·have e:=List.getElem?_eq_getElem hlt;by_cases hq:q l[i]
    ·refine .inr ⟨_,h1 i _ hlt e hq,⟨i+1,rfl,hlt,fun j v hjl hv=> ?_⟩,?_,fun r h=>h⟩
     ·by_cases hji:j=i
      ·subst hji;rw[e] at hv;cases hv;exact hq
      ·exact hj j v (by omega) hv
     ·simp only[hmk];omega
    ·exact .inl ⟨_,h2 i _ hlt e hq,.inr ⟨⟨i,rfl⟩,fun h=>hq (h _ (List.getElem_mem hlt))⟩⟩
   ·have:i=l.length:=by omega
    subst this;refine .inl ⟨_,hK,.inl ⟨rfl,fun v hv=> ?_⟩⟩;obtain⟨j,hj2,rfl⟩:=List.getElem_of_mem hv;exact hj j _ hj2 (List.getElem?_eq_getElem hj2)) ⟨0,rfl,Nat.zero_le _,fun j v hj=>by omega⟩ (by rw[jv];simp only[hmk];omega)
theorem zcl (l:List dJ) (hl:Sh l) (hk:∀ c∈l,St c.1):Gz (l,())=some (dec' (uY l),()):=by
 unfold Gz;refine fin (jP l hl (fun _ c=>nV c) (l.length≤4) (fun i v hi hv=> ?_) ?_) ?_
 ·have hi':i<9223372036854775807:=by unfold Sh at hl;omega
  have hs:=hk v (List.mem_of_getElem? hv);obtain⟨k,w,s,n,t,⟨⟩⟩:=v;have e1:(bif decide (1≤w) then bif decide (w≤4) then bif decide (Int.ofNat (List.length t)=0) then some (Sum.inl (dec' (-1099511627776≤n∧n≤1099511627776),())) else some (Sum.inl (false,())) else some (Sum.inl (false,())) else some (Sum.inl (false,())):Option ((Bool×Unit)⊕((Int×Unit)⊕(Bool×Unit))))=some (Sum.inl (dec' (1≤w∧w≤4∧t=[]∧ -1099511627776≤n∧n≤1099511627776),())):=by by_cases h1:1≤w<;>by_cases h2:w≤4<;>by_cases h3:t=[]<;>simp[h1,h2,h3]
  have e2:(bif decide (w=5) then bif decide (n=0) then some (Sum.inl (decide (Int.ofNat (List.length t)≤40),())) else some (Sum.inl (false,())) else some (Sum.inl (false,())):Option ((Bool×Unit)⊕((Int×Unit)⊕(Bool×Unit))))=some (Sum.inl (dec' (w=5∧n=0∧t.length≤40),())):=by by_cases h1:w=5<;>by_cases h2:n=0<;>simp[h1,h2]<;>omega
  simp only[aB,hi,decide_true,cond_true,aP,hv,Option.bind_some,e1,e2,Sum.elim_inl,jM k hs,nz,aT hi'];apply fV
  ·repeat' first|apply fO|apply fJ|apply fU|apply fP|apply fQ
  ·unfold nV;grind
 ·simp only[aB,Nat.lt_irrefl,decide_false,cond_false];exact congrArg (fun z=>some (Sum.inr (z,()))) (iC (by simp;omega)).symm
 ·unfold uY;rw[JV (p:=nV)]
def jH (o:aV):Prop:=(o.1=1∧o.2.2.1=[]∧IsKey o.2.1∧o.2.2.2.1.length≤40∧dH o.2.2.2.2.1)∨((o.1=2∨o.1=3)∧o.2.2.2.1=[]∧o.2.2.2.2.1=0∧lH o.2.1 o.2.2.1)
theorem zeA (o:aV):Gl (o,())=some (dec' (jH o),()):=by
 obtain⟨k,a,b,v,n,⟨⟩⟩:=o;unfold Gl;simp only[put_eq,DW,Option.bind_some];apply fin
 ·repeat' first|apply cO|apply bW|apply cZ|apply cu
 ·unfold jH;grind
def vZ (o:aV):Prop:=St o.2.1∧St o.2.2.1∧St o.2.2.2.1
theorem zdZ (o:aV) (ho:vZ o):Gu (o,())=some (dec' (jH o),()):=by
 obtain⟨k,a,b,v,n,⟨⟩⟩:=o;obtain⟨h1,h2,h3⟩:=ho;unfold Gu;simp only[jM a h1,CZ a b h1 h2,yV,Option.bind_some];apply fin
 ·repeat' first|apply cO|apply bW|apply cZ|apply cu
 ·unfold jH;have e1:(Int.ofNat b.length=0)↔b=[]:=by simp
  have e2:(Int.ofNat v.length=0)↔v=[]:=by simp
  rw[e1,e2];simp only[Int.ofNat_eq_natCast];grind
def InP (a b k:List UInt8):Prop:=lH a b∧IsKey k∧(k=a∨(aY a k=true∧aY k b=true))
theorem zfJ (a b k:List UInt8):Bz (a,b,k,())=some (dec' (InP a b k),()):=by
 unfold Bz;simp only[DW,mO,Option.bind_some,SB];apply fin
 ·repeat' first|apply cO|apply bW|apply cZ|apply xM|apply cu|apply eQ|apply wM
 ·unfold InP;grind
theorem zep (k a:List UInt8):aY k a=false↔(k=a∨aY a k=true):=by
 rcases Du k a with h|h|h
 ·have h2:=yU h;have h3:k≠a:=fun e=>by rw[e,wK] at h;cases h
  simp[h,h2,h3]
 ·subst h;simp[wK]
 ·have h2:=yU h;simp[h,h2]
theorem UY (a b k:List UInt8) (ha:St a) (hb:St b) (hk:St k):BC (a,b,k,())=some (dec' (InP a b k),()):=by
 unfold BC;simp only[CZ a b ha hb,jM k hk,Option.bind_some];apply fin
 ·repeat' first|apply cO|apply bW|apply cZ|apply xM|apply cu|apply eQ|apply wM
 ·have e1:(Int.ofNat b.length=0)↔b=[]:=by simp
  have e2:=zep k a;have e3:=wR k;unfold InP lH;rw[e1];simp only[Bool.not_eq_true',Bool.not_eq_false',e2];by_cases hb:b=[]
  ·subst hb;grind
  ·grind
def Meet (a b:aV):Prop:=a.1≠3∧b.1≠3∧(InP a.2.1 a.2.2.1 b.2.1∨InP b.2.1 b.2.2.1 a.2.1)
def vM (a b:aV):Prop:=a.1≠3∧b.1≠3∧(a.2.1=b.2.1∨InP a.2.1 a.2.2.1 b.2.1∨InP b.2.1 b.2.2.1 a.2.1)
theorem UD (a b:aV):Gj (a,b,())=some (dec' (vM a b),()):=by
 unfold Gj;simp only[zfJ,Option.bind_some];apply fin
 ·repeat' first|apply cO|apply bW|apply cZ|apply xM|apply cu|apply eQ|apply wM
 ·unfold vM;grind
theorem zck (a b:aV) (ha:vZ a) (hb:vZ b):BH (a,b,())=some (dec' (Meet a b),()):=by
 unfold BH;simp only[UY _ _ _ ha.1 ha.2.1 hb.1,UY _ _ _ hb.1 hb.2.1 ha.1,Option.bind_some];apply fin
 ·repeat' first|apply cO|apply bW|apply cZ|apply xM|apply cu|apply eQ|apply wM
 ·unfold Meet;grind
theorem DZ {o:aV} (h:jH o):lH o.2.1 o.2.2.1∧IsKey o.2.1:=by
 rcases h with h|h
 ·exact⟨⟨h.2.2.1,.inl h.2.1⟩,h.2.2.1⟩
 ·exact⟨h.2.2.2,h.2.2.2.1⟩
theorem Tm {a b:aV} (ha:jH a) (hb:jH b):vM a b↔Meet a b:=by
 have h1:=DZ ha;have h2:=DZ hb;unfold vM Meet InP;grind
def mY (l:List aV):Prop:=(∀ (i:Nat) v,l[i]? = some v→jH v∧∀ (j:Nat) w,j<i→l[j]? = some w→¬ Meet w v)∧l.length≤4
theorem zb5 (l:List aV) (hl:Sh l) (o:aV):EY (l,o,())=some (!dec' (∀ w∈l,¬ vM w o),o,()):=by
 unfold EY LX;obtain⟨z,h1,h2⟩:=zb4 l hl (step:=fun(x_1:Int×aV)=>bif decide (x_1.fst<Int.ofNat (List.length l)) then Option.bind (idx l x_1.fst) fun b=>Option.bind (AX (b,x_1.snd,())) fun b=>bif b.fst then some (Sum.inr (x_1.fst,b.snd)) else some (Sum.inl (wrap64 (x_1.fst+1),b.snd.fst)) else some (Sum.inr (-1,x_1.snd,())))
  (fun w=>¬ vM w o) (fun i=>((i:Int),o)) (fun t=>t.1.toNat) (fun i=>by simp) (fun i=>((i:Int),o,())) (-1,o,())
  (fun i v hi hv hq=>by
   have hi':i<9223372036854775807:=by unfold Sh at hl;omega
   unfold AX;simp only[aB,hi,decide_true,cond_true,aP,hv,Option.bind_some,UD,bU hq,cond_false,aT hi'])
  (fun i v hi hv hq=>by unfold AX;simp only[aB,hi,decide_true,cond_true,aP,hv,Option.bind_some,UD,bP (Classical.not_not.1 hq)]) (by simp)
 refine aK h1 ?_;rcases h2 with⟨rfl,h2⟩|⟨⟨i,rfl⟩,h2⟩
 ·rw[bP h2];rfl
 ·rw[bU h2];have:decide ((0:Int)≤(i:Int))=true:=decide_eq_true (by omega);simp only[this,Bool.not_false]
theorem U0 (l:List aV) (hl:Sh l):BA (l,())=some (dec' (mY l),()):=by
 unfold BA;refine fin (jP l hl (fun i v=>jH v∧∀ w∈l.take i,¬ vM w v) (l.length≤4) (fun i v hi hv=> ?_) ?_) ?_
 ·have hi':i<9223372036854775807:=by unfold Sh at hl;omega
  have e2:iI l 0 (i:Int)=some (l.take i):=Hw (by omega);have ht:Sh (l.take i):=by unfold Sh at hl ⊢;rw[List.length_take];omega
  simp only[aB,hi,decide_true,cond_true,aP,hv,Option.bind_some,zeA,e2,zb5 _ ht,aT hi'];apply fV
  ·repeat' first|apply fO|apply fJ|apply fU|apply fP|apply fQ
  ·grind
 ·simp only[aB,Nat.lt_irrefl,decide_false,cond_false];exact congrArg (fun z=>some (Sum.inr (z,()))) (iC (by simp;omega)).symm
 ·unfold mY;refine and_congr ?_ Iff.rfl;constructor
  ·intro h i v hv;refine⟨(h i v hv).1,fun j w hj hw=> ?_⟩;have:=(h i v hv).2 w (List.mem_iff_getElem?.2 ⟨j,by rw[List.getElem?_take,if_pos hj];exact hw⟩);rwa[Tm (h j w hw).1 (h i v hv).1] at this
  ·intro h i v hv;refine⟨(h i v hv).1,fun w hw=> ?_⟩;obtain⟨j,hj⟩:=List.mem_iff_getElem?.1 hw;rw[List.getElem?_take] at hj;by_cases hji:j<i
   ·rw[if_pos hji] at hj;rw[Tm (h j w hj).1 (h i v hv).1];exact(h i v hv).2 j w hji hj
   ·rw[if_neg hji] at hj;cases hj
theorem Us (l:List aV) (hl:Sh l) (hs:∀ o∈l,vZ o):BV (l,())=some (dec' (mY l),()):=by
 unfold BV;refine fin (jP l hl (fun i v=>jH v∧∀ j,j<i→∀ w,l[j]? = some w→¬ Meet w v) (l.length≤4) (fun i v hi hv=> ?_) ?_) ?_
 ·have hi':i<9223372036854775807:=by unfold Sh at hl;omega
  have hz:=hs v (List.mem_of_getElem? hv);have inner:=zb6 (n:=i) (by omega) (step:=fun(x_2:Int×Unit)=>bif decide (x_2.fst<(i:Int)) then Option.bind (idx l x_2.fst) fun b=>Option.bind (idx l (i:Int)) fun b_1=>Option.bind (BH (b,b_1,())) fun b=>bif b.fst then some (Sum.inr (Sum.inr (false,()))) else some (Sum.inl (wrap64 (x_2.fst+1),())) else some (Sum.inr (Sum.inl (wrap64 ((i:Int)+1),()))))
   (fun j=>∀ w,l[j]? = some w→¬ Meet w v) (Sum.inl (wrap64 ((i:Int)+1),())) (Sum.inr (false,())) (fun j hj=>by
    obtain⟨w,hw⟩:∃ w,l[j]? = some w:=⟨_,List.getElem?_eq_getElem (show j<l.length by omega)⟩
    have hwz:=hs w (List.mem_of_getElem? hw);have e:decide ((j:Int)<(i:Int))=true:=decide_eq_true (by omega);simp only[e,cond_true,aP,hw,hv,Option.bind_some,zck w v hwz hz,aT (show j<9223372036854775807 by omega)];by_cases hm:Meet w v
    ·rw[bP hm,bU (fun h=>h w rfl hm)];rfl
    ·rw[bU hm,bP (fun u hu=>by cases hu;exact hm)];rfl)
   (by simp)
  simp only[aB,hi,decide_true,cond_true,aP,hv,Option.bind_some,zdZ v hz];simp only[aP,hv,Option.bind_some] at inner;rw[inner,aT hi'];by_cases h1:jH v
  ·rw[bP h1];simp only[Bool.not_true,cond_false];exact qx ⟨fun h=>⟨h1,h⟩,fun h=>h.2⟩
  ·rw[bU h1];simp only[Bool.not_false,cond_true];rw[fJ i];exact qx ⟨False.elim,fun h=>h1 h.1⟩
 ·simp only[aB,Nat.lt_irrefl,decide_false,cond_false];exact congrArg (fun z=>some (Sum.inr (z,()))) (iC (by simp;omega)).symm
 ·unfold mY;refine and_congr ?_ Iff.rfl;exact⟨fun h i v hv=>⟨(h i v hv).1,fun j w hj hw=>(h i v hv).2 j hj w hw⟩,fun h i v hv=>⟨(h i v hv).1,fun j hj w hw=>(h i v hv).2 j w hj hw⟩⟩
end Go.Proofs.YteebpcpkhojfkaaGreat
