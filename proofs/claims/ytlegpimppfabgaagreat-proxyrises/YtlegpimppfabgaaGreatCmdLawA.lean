/-
 Plain laws of what lies below,as this seat reaches them (by a program of the bench: port.py).
-/
import Derived.Test.YtlegpimppfabgaaGreatCmdVerKey
import Derived.Test.YtlegpimppfabgaaGreatSxS
namespace Go.Proofs.YtlegpimppfabgaaGreat
open Go.Sx Go Classical
set_option maxRecDepth 10000
noncomputable abbrev dec' (p:Prop):Bool:= @decide p (propDecidable p)
theorem iO {p q:Prop} [d:Decidable q] (h:p↔q):dec' p=decide q:=by
 by_cases hq:q
 ·rw[decide_eq_true hq];exact decide_eq_true (h.2 hq)
 ·rw[decide_eq_false hq];exact decide_eq_false (fun x=>hq (h.1 x))
theorem bU {p q r:Prop} {_:Decidable p} {X Y:Option (Bool×Unit)} (hx:X=some (dec' q,())) (hy:Y=some (dec' r,())):(bif decide p then X else Y)=some (dec' ((p→q)∧(¬ p→r)),()):=by
 by_cases hp:p
 ·rw[decide_eq_true hp,cond_true,hx];exact congrArg (fun z=>some (z,())) (iO (d:=propDecidable _) (by grind))
 ·rw[decide_eq_false hp,cond_false,hy];exact congrArg (fun z=>some (z,())) (iO (d:=propDecidable _) (by grind))
theorem eU {p q r:Prop} {_:Decidable p} {X Y:Option (Bool×Unit)} (hx:X=some (dec' q,())) (hy:Y=some (dec' r,())):(bif !decide p then X else Y)=some (dec' ((¬ p→q)∧(p→r)),()):=by
 by_cases hp:p
 ·rw[decide_eq_true hp,Bool.not_true,cond_false,hy];exact congrArg (fun z=>some (z,())) (iO (d:=propDecidable _) (by grind))
 ·rw[decide_eq_false hp,Bool.not_false,cond_true,hx];exact congrArg (fun z=>some (z,())) (iO (d:=propDecidable _) (by grind))
theorem ve {b:Bool} {q r:Prop} {X Y:Option (Bool×Unit)} (hx:X=some (dec' q,())) (hy:Y=some (dec' r,())):(bif b then X else Y)=some (dec' ((b=true→q)∧(b=false→r)),()):=by
 cases b
 ·rw[cond_false,hy];exact congrArg (fun z=>some (z,())) (iO (d:=propDecidable _) (by grind))
 ·rw[cond_true,hx];exact congrArg (fun z=>some (z,())) (iO (d:=propDecidable _) (by grind))
theorem bV:(some (true,()):Option (Bool×Unit))=some (dec' True,()):=by simp[dec']
theorem bP:(some (false,()):Option (Bool×Unit))=some (dec' False,()):=by simp[dec']
theorem bW (p:Prop) {_:Decidable p}:(some (decide p,()):Option (Bool×Unit))=some (dec' p,()):=congrArg (fun z=>some (z,())) (iO (p:=p) Iff.rfl).symm
theorem wz (b:Bool):(some (b,()):Option (Bool×Unit))=some (dec' (b=true),()):=by
 cases b<;>simp[dec']
theorem fin {X:Option (Bool×Unit)} {p q:Prop} (h:X=some (dec' p,())) (h2:p↔q):X=some (dec' q,()):=by
 rw[h,iO (d:=propDecidable _) h2]
theorem dA {p:Prop} (h:¬ p):dec' p=false:= @decide_eq_false p (propDecidable p) h
theorem bK {p:Prop} (h:p):dec' p=true:= @decide_eq_true p (propDecidable p) h
theorem qQ {α:Type} (a b:List α) (ha:a.length≤9223372036854775806) {step:Int×Unit→Option ((Int×Unit)⊕(Bool×Unit))}
  (h1:∀ (i:Nat) v,i<a.length→a[i]? = some v→b[i]? = some v→step ((i:Int),())=some (.inl (((i+1:Nat):Int),())))
  (h2:∀ (i:Nat) v w,i<a.length→a[i]? = some v→b[i]? = some w→v≠w→step ((i:Int),())=some (.inr (false,())))
  (hK:step ((a.length:Int),())=some (.inr (true,()))) :
  (bif !decide (Int.ofNat a.length=Int.ofNat b.length) then some (false,()) else aN (Int×Unit) (Bool×Unit) step big (0,()))=some (dec' (a=b),()):=by
 by_cases hl:a.length=b.length
 ·have e:decide (Int.ofNat a.length=Int.ofNat b.length)=true:=decide_eq_true (by rw[hl]);simp only[e,Bool.not_true,cond_false];refine(qM (mk:=fun i=>((i:Int),())) (fun i=>decide (a[i]? = b[i]?)) (rt:=(true,())) (rf:=(false,())) (by omega) (fun i hi=> ?_) hK).trans ?_
  ·have e1:=List.getElem?_eq_getElem hi;have e2:=List.getElem?_eq_getElem (hl▸hi:i<b.length);by_cases hv:a[i]=b[i]'(hl▸hi)
   ·rw[h1 i _ hi e1 (by rw[e2,hv]),e1,e2,hv];simp
   ·rw[h2 i _ _ hi e1 e2 hv,e1,e2];simp[hv]
  ·by_cases hab:a=b
   ·subst hab;have:(List.range a.length).all (fun i=>decide (a[i]? = a[i]?))=true:=by simp
    rw[this];simp
   ·have:(List.range a.length).all (fun i=>decide (a[i]? = b[i]?))=false:=by
     rw[Bool.eq_false_iff];intro h;refine hab (List.ext_getElem? fun i=> ?_);by_cases hi:i<a.length
     ·have:=List.all_eq_true.1 h i (List.mem_range.2 hi);exact of_decide_eq_true this
     ·rw[List.getElem?_eq_none (by omega),List.getElem?_eq_none (by omega)]
    rw[this];simp[hab]
 ·have e:decide (Int.ofNat a.length=Int.ofNat b.length)=false:=decide_eq_false (by intro h;exact hl (Int.ofNat.inj h));have:a≠b:=fun h=>hl (by rw[h]);simp only[e,Bool.not_false,cond_true];exact congrArg (fun z=>some (z,())) (dA this).symm
theorem IC (a b:List dm) (ha:Sh a):Fe (a,b,())=some (dec' (a=b),()):=by
 unfold Fe;refine qQ a b ha (fun i v hi hv hw=> ?_) (fun i v w hi hv hw hne=> ?_) (by simp)
 ·have hi':i<9223372036854775807:=by unfold Sh at ha;omega
  simp only[ax,hi,decide_true,cond_true,aI,hv,hw,Option.bind_some,aP hi',Bool.and_self,Bool.and_true,Bool.not_true,cond_false]
 ·simp only[ax,hi,decide_true,cond_true,aI,hv,hw,Option.bind_some];rw[show(!(decide (v.fst=w.fst) && (decide (v.snd.fst=w.snd.fst) && (decide (v.snd.snd.fst=w.snd.snd.fst) && (decide (v.snd.snd.snd.fst=w.snd.snd.snd.fst) && (decide (v.snd.snd.snd.snd.fst=w.snd.snd.snd.snd.fst) && true))))))=true from ?_]
  ·rfl
  ·rw[Bool.not_eq_true',Bool.eq_false_iff];intro h2;apply hne;simp only[Bool.and_eq_true,decide_eq_true_eq,and_true] at h2;grind
theorem yG (a b:List aK) (ha:Sh a):AX (a,b,())=some (dec' (a=b),()):=by
 unfold AX;refine qQ a b ha (fun i v hi hv hw=> ?_) (fun i v w hi hv hw hne=> ?_) (by simp)
 ·have hi':i<9223372036854775807:=by unfold Sh at ha;omega
  simp only[ax,hi,decide_true,cond_true,aI,hv,hw,Option.bind_some,aP hi',Bool.and_self,Bool.and_true,Bool.not_true,cond_false]
 ·simp only[ax,hi,decide_true,cond_true,aI,hv,hw,Option.bind_some];rw[show(!(decide (v.fst=w.fst) && (decide (v.snd.fst=w.snd.fst) && (decide (v.snd.snd.fst=w.snd.snd.fst) && (decide (v.snd.snd.snd.fst=w.snd.snd.snd.fst) && (decide (v.snd.snd.snd.snd.fst=w.snd.snd.snd.snd.fst) && true))))))=true from ?_]
  ·rfl
  ·rw[Bool.not_eq_true',Bool.eq_false_iff];intro h2;apply hne;simp only[Bool.and_eq_true,decide_eq_true_eq,and_true] at h2;grind
theorem GK (a b:List fQ) (ha:Sh a):Fa (a,b,())=some (dec' (a=b),()):=by
 unfold Fa;refine qQ a b ha (fun i v hi hv hw=> ?_) (fun i v w hi hv hw hne=> ?_) (by simp)
 ·have hi':i<9223372036854775807:=by unfold Sh at ha;omega
  simp only[ax,hi,decide_true,cond_true,aI,hv,hw,Option.bind_some,aP hi',Bool.and_self,Bool.and_true,Bool.not_true,cond_false]
 ·simp only[ax,hi,decide_true,cond_true,aI,hv,hw,Option.bind_some];rw[show(!(decide (v.fst=w.fst) && (decide (v.snd.fst=w.snd.fst) && (decide (v.snd.snd.fst=w.snd.snd.fst) && true))))=true from ?_]
  ·rfl
  ·rw[Bool.not_eq_true',Bool.eq_false_iff];intro h2;apply hne;simp only[Bool.and_eq_true,decide_eq_true_eq,and_true] at h2;grind
theorem BB (a b:List aX) (ha:Sh a):xA (a,b,())=some (dec' (a=b),()):=by
 unfold xA;refine qQ a b ha (fun i v hi hv hw=> ?_) (fun i v w hi hv hw hne=> ?_) (by simp)
 ·have hi':i<9223372036854775807:=by unfold Sh at ha;omega
  simp only[ax,hi,decide_true,cond_true,aI,hv,hw,Option.bind_some,aP hi',Bool.and_self,Bool.and_true,Bool.not_true,cond_false,BEq.rfl]
 ·simp only[ax,hi,decide_true,cond_true,aI,hv,hw,Option.bind_some];rw[show(!(decide (v.fst=w.fst) && (decide (v.snd.fst.fst=w.snd.fst.fst) && (decide (v.snd.fst.snd.fst=w.snd.fst.snd.fst) && (decide (v.snd.fst.snd.snd.fst=w.snd.fst.snd.snd.fst) && (decide (v.snd.fst.snd.snd.snd.fst=w.snd.fst.snd.snd.snd.fst) && (decide (v.snd.fst.snd.snd.snd.snd.fst=w.snd.fst.snd.snd.snd.snd.fst) && (decide (v.snd.fst.snd.snd.snd.snd.snd.fst=w.snd.fst.snd.snd.snd.snd.snd.fst) && (v.snd.fst.snd.snd.snd.snd.snd.snd.fst == w.snd.fst.snd.snd.snd.snd.snd.snd.fst && true)))))) && true)))=true from ?_]
  ·rfl
  ·rw[Bool.not_eq_true',Bool.eq_false_iff];intro h2;apply hne;simp only[Bool.and_eq_true,decide_eq_true_eq,beq_iff_eq,and_true] at h2;grind
theorem BH (a b:List aX) (ha:Sh a):AV (a,b,())=some (dec' (a=b),()):=by
 unfold AV;exact aB (BB a b ha) rfl
theorem G6 (a b:dh) (ha:Sh a.2.2.2.2.1):xB (a,b,())=some (dec' (a=b),()):=by
 obtain⟨a1,a2,a3,a4,a5,a6,a7,⟨⟩⟩:=a;obtain⟨b1,b2,b3,b4,b5,b6,b7,⟨⟩⟩:=b;unfold xB;simp only[BH a5 b5 ha,Option.bind_some,yS];apply fin
 ·repeat' first|apply bV|apply bP|apply bW|apply bU
 ·simp only[Prod.mk.injEq];grind
def ShS (l:List dw):Prop:=Sh l∧∀ s∈l,Sh s.2.2.1.2.2.2.2.1
def ShC (c:aJ):Prop:=Sh c.2.2.2.2.2.2.2.1∧Sh c.2.2.2.2.2.2.2.2.1∧Sh c.2.2.2.2.2.2.2.2.2.1∧Sh c.2.2.2.2.2.2.2.2.2.2.2.2.2.2.1∧ShS c.2.2.2.2.2.2.2.2.2.2.2.2.2.2.2.1∧Sh c.2.2.2.2.2.2.2.2.2.2.2.2.2.2.2.2.1
theorem OD (a b:dw) (ha:Sh a.2.2.1.2.2.2.2.1):ER (a,b,())=some (dec' (a=b),()):=by
 obtain⟨a1,a2,a3,⟨⟩⟩:=a;obtain⟨b1,b2,b3,⟨⟩⟩:=b;unfold ER;simp only[G6 a3 b3 ha,Option.bind_some];apply fin
 ·repeat' first|apply bV|apply bP|apply bW|apply bU
 ·simp only[Prod.mk.injEq];grind
theorem YD (a b:List dw) (ha:ShS a):Ea (a,b,())=some (dec' (a=b),()):=by
 unfold Ea;refine qQ a b ha.1 (fun i v hi hv hw=> ?_) (fun i v w hi hv hw hne=> ?_) (by simp)
 ·have hi':i<9223372036854775807:=by have:=ha.1;unfold Sh at this;omega
  simp only[ax,hi,decide_true,cond_true,aI,hv,hw,Option.bind_some,aP hi',OD v v (ha.2 v (List.mem_of_getElem? hv)),bK,Bool.not_true,cond_false]
 ·simp only[ax,hi,decide_true,cond_true,aI,hv,hw,Option.bind_some,OD v w (ha.2 v (List.mem_of_getElem? hv)),dA hne,Bool.not_false]
theorem Pn (a b:List dw) (ha:ShS a):Fb (a,b,())=some (dec' (a=b),()):=by
 unfold Fb;exact aB (YD a b ha) rfl
theorem CU (a b:aJ) (ha:ShC a):sQ (a,b,())=some (dec' (a=b),()):=by
 obtain⟨a1,a2,a3,a4,a5,a6,a7,a8,a9,a10,a11,a12,a13,a14,a15,a16,a17,⟨⟩⟩:=a;obtain⟨b1,b2,b3,b4,b5,b6,b7,b8,b9,b10,b11,b12,b13,b14,b15,b16,b17,⟨⟩⟩:=b;obtain⟨h8,h9,h10,h15,h16,h17⟩:=ha;unfold sQ;simp only[IC a8 b8 h8,yG a9 b9 h9,yG a10 b10 h10,BH a15 b15 h15,Pn a16 b16 h16,GK a17 b17 h17,Option.bind_some,yS];apply fin
 ·repeat' first|apply bV|apply bP|apply bW|apply bU
 ·simp only[Prod.mk.injEq];grind
theorem YN (a b:List dm) (ha:Sh a):MZ (a,b,())=some (dec' (a=b),()):=IC a b ha
theorem PL (a b:List aK) (ha:Sh a):ET (a,b,())=some (dec' (a=b),()):=yG a b ha
theorem xY (a b:List aX) (ha:Sh a):F64 (a,b,())=some (dec' (a=b),()):=BB a b ha
theorem NM (a b:List fQ) (ha:Sh a):ES (a,b,())=some (dec' (a=b),()):=GK a b ha
theorem GI (a b:dh) (ha:Sh a.2.2.2.2.1):uP (a,b,())=some (dec' (a=b),()):=by
 rw[←G6 a b ha];unfold uP xB;simp only[xY a.2.2.2.2.1 b.2.2.2.2.1 ha,BH a.2.2.2.2.1 b.2.2.2.2.1 ha]
theorem OO (a b:List dw) (ha:ShS a):AB (a,b,())=some (dec' (a=b),()):=by
 unfold AB;refine qQ a b ha.1 (fun i v hi hv hw=> ?_) (fun i v w hi hv hw hne=> ?_) (by simp)
 ·have hi':i<9223372036854775807:=by have:=ha.1;unfold Sh at this;omega
  have hr:uP (v.2.2.1,v.2.2)=_:=GI v.2.2.1 v.2.2.1 (ha.2 v (List.mem_of_getElem? hv));simp only[ax,hi,decide_true,cond_true,aI,hv,hw,Option.bind_some,aP hi',hr,bK,Bool.not_true,cond_false]
 ·have hr:uP (v.2.2.1,w.2.2)=_:=GI v.2.2.1 w.2.2.1 (ha.2 v (List.mem_of_getElem? hv));simp only[ax,hi,decide_true,cond_true,aI,hv,hw,Option.bind_some,hr];by_cases h1:v.1=w.1
  ·by_cases h2:v.2.1=w.2.1
   ·have h3:¬ v.2.2.1=w.2.2.1:=by intro h3;apply hne;grind
    simp[h1,h2,dA h3]
   ·simp[h1,h2]
  ·simp[h1]
theorem ZP (a b:aJ) (ha:ShC a):Fg (a,b,())=some (dec' (a=b),()):=by
 rw[←CU a b ha];obtain⟨h8,h9,h10,h15,h16,h17⟩:=ha;obtain⟨a1,a2,a3,a4,a5,a6,a7,a8,a9,a10,a11,a12,a13,a14,a15,a16,a17,⟨⟩⟩:=a;obtain⟨b1,b2,b3,b4,b5,b6,b7,b8,b9,b10,b11,b12,b13,b14,b15,b16,b17,⟨⟩⟩:=b;unfold Fg sQ;simp only[IC a8 b8 h8,yG a9 b9 h9,yG a10 b10 h10,BH a15 b15 h15,Pn a16 b16 h16,GK a17 b17 h17,YN a8 b8 h8,PL a9 b9 h9,PL a10 b10 h10,xY a15 b15 h15,OO a16 b16 h16,NM a17 b17 h17]
def ShH (h:gz):Prop:=ShS h.2.2.1∧Sh h.2.2.2.1
theorem OT (a b:gz) (ha:ShH a):A7 (a,b,())=some (dec' (a=b),()):=by
 obtain⟨h1,h2⟩:=ha;obtain⟨a1,a2,a3,a4,⟨⟩⟩:=a;obtain⟨b1,b2,b3,b4,⟨⟩⟩:=b;unfold A7;simp only[OO a3 b3 h1,NM a4 b4 h2,Option.bind_some];apply fin
 ·repeat' first|apply bV|apply bP|apply bW|apply bU
 ·simp only[Prod.mk.injEq];grind
end Go.Proofs.YtlegpimppfabgaaGreat
