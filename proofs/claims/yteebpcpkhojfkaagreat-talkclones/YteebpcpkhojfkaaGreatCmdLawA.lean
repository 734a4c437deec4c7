/-
 Plain laws of what lies below,as this seat reaches them (by a program of the bench: port.py).
-/
import Derived.Test.YteebpcpkhojfkaaGreatCmdVerKey
import Derived.Test.YteebpcpkhojfkaaGreatSxS
namespace Go.Proofs.YteebpcpkhojfkaaGreat
open Go.Sx Go Classical
set_option maxRecDepth 10000
noncomputable abbrev dec' (p:Prop):Bool:= @decide p (propDecidable p)
theorem iC {p q:Prop} [d:Decidable q] (h:p↔q):dec' p=decide q:=by
 by_cases hq:q
 ·rw[decide_eq_true hq];exact decide_eq_true (h.2 hq)
 ·rw[decide_eq_false hq];exact decide_eq_false (fun x=>hq (h.1 x))
theorem cu {p q r:Prop} {_:Decidable p} {X Y:Option (Bool×Unit)} (hx:X=some (dec' q,())) (hy:Y=some (dec' r,())):(bif decide p then X else Y)=some (dec' ((p→q)∧(¬ p→r)),()):=by
 by_cases hp:p
 ·rw[decide_eq_true hp,cond_true,hx];exact congrArg (fun z=>some (z,())) (iC (d:=propDecidable _) (by grind))
 ·rw[decide_eq_false hp,cond_false,hy];exact congrArg (fun z=>some (z,())) (iC (d:=propDecidable _) (by grind))
theorem eQ {p q r:Prop} {_:Decidable p} {X Y:Option (Bool×Unit)} (hx:X=some (dec' q,())) (hy:Y=some (dec' r,())):(bif !decide p then X else Y)=some (dec' ((¬ p→q)∧(p→r)),()):=by
 by_cases hp:p
 ·rw[decide_eq_true hp,Bool.not_true,cond_false,hy];exact congrArg (fun z=>some (z,())) (iC (d:=propDecidable _) (by grind))
 ·rw[decide_eq_false hp,Bool.not_false,cond_true,hx];exact congrArg (fun z=>some (z,())) (iC (d:=propDecidable _) (by grind))
theorem wM {b:Bool} {q r:Prop} {X Y:Option (Bool×Unit)} (hx:X=some (dec' q,())) (hy:Y=some (dec' r,())):(bif b then X else Y)=some (dec' ((b=true→q)∧(b=false→r)),()):=by
 cases b
 ·rw[cond_false,hy];exact congrArg (fun z=>some (z,())) (iC (d:=propDecidable _) (by grind))
 ·rw[cond_true,hx];exact congrArg (fun z=>some (z,())) (iC (d:=propDecidable _) (by grind))
theorem cO:(some (true,()):Option (Bool×Unit))=some (dec' True,()):=by simp[dec']
theorem bW:(some (false,()):Option (Bool×Unit))=some (dec' False,()):=by simp[dec']
theorem cZ (p:Prop) {_:Decidable p}:(some (decide p,()):Option (Bool×Unit))=some (dec' p,()):=congrArg (fun z=>some (z,())) (iC (p:=p) Iff.rfl).symm
theorem xM (b:Bool):(some (b,()):Option (Bool×Unit))=some (dec' (b=true),()):=by
 cases b<;>simp[dec']
theorem fin {X:Option (Bool×Unit)} {p q:Prop} (h:X=some (dec' p,())) (h2:p↔q):X=some (dec' q,()):=by
 rw[h,iC (d:=propDecidable _) h2]
theorem bU {p:Prop} (h:¬ p):dec' p=false:= @decide_eq_false p (propDecidable p) h
theorem bP {p:Prop} (h:p):dec' p=true:= @decide_eq_true p (propDecidable p) h
theorem rZ {α:Type} (a b:List α) (ha:a.length≤9223372036854775806) {step:Int×Unit→Option ((Int×Unit)⊕(Bool×Unit))}
  (h1:∀ (i:Nat) v,i<a.length→a[i]? = some v→b[i]? = some v→step ((i:Int),())=some (.inl (((i+1:Nat):Int),())))
  (h2:∀ (i:Nat) v w,i<a.length→a[i]? = some v→b[i]? = some w→v≠w→step ((i:Int),())=some (.inr (false,())))
  (hK:step ((a.length:Int),())=some (.inr (true,()))) :
  (bif !decide (Int.ofNat a.length=Int.ofNat b.length) then some (false,()) else aC (Int×Unit) (Bool×Unit) step big (0,()))=some (dec' (a=b),()):=by
 by_cases hl:a.length=b.length
 ·have e:decide (Int.ofNat a.length=Int.ofNat b.length)=true:=decide_eq_true (by rw[hl]);simp only[e,Bool.not_true,cond_false];refine(rV (mk:=fun i=>((i:Int),())) (fun i=>decide (a[i]? = b[i]?)) (rt:=(true,())) (rf:=(false,())) (by omega) (fun i hi=> ?_) hK).trans ?_
  ·have e1:=List.getElem?_eq_getElem hi;have e2:=List.getElem?_eq_getElem (hl▸hi:i<b.length);by_cases hv:a[i]=b[i]'(hl▸hi)
   ·rw[h1 i _ hi e1 (by rw[e2,hv]),e1,e2,hv];simp
   ·rw[h2 i _ _ hi e1 e2 hv,e1,e2];simp[hv]
  ·by_cases hab:a=b
   ·subst hab;have:(List.range a.length).all (fun i=>decide (a[i]? = a[i]?))=true:=by simp
    rw[this];simp
   ·have:(List.range a.length).all (fun i=>decide (a[i]? = b[i]?))=false:=by
     rw[Bool.eq_false_iff];intro h;refine hab (List.ext_getElem? fun i=> ?_);by_cases hi:i<a.length
     ·have:=List.all_eq_true.1 h i (List.mem_range.2 hi);exact of_decide_eq_true this
     ·rw[List.getElem?_eq_none (by omega),List.getElem?_eq_none (by omega)]
    rw[this];simp[hab]
 ·have e:decide (Int.ofNat a.length=Int.ofNat b.length)=false:=decide_eq_false (by intro h;exact hl (Int.ofNat.inj h));have:a≠b:=fun h=>hl (by rw[h]);simp only[e,Bool.not_false,cond_true];exact congrArg (fun z=>some (z,())) (bU this).symm
theorem Jn (a b:List dJ) (ha:Sh a):GR (a,b,())=some (dec' (a=b),()):=by
 unfold GR;refine rZ a b ha (fun i v hi hv hw=> ?_) (fun i v w hi hv hw hne=> ?_) (by simp)
 ·have hi':i<9223372036854775807:=by unfold Sh at ha;omega
  simp only[aB,hi,decide_true,cond_true,aP,hv,hw,Option.bind_some,aT hi',Bool.and_self,Bool.and_true,Bool.not_true,cond_false]
 ·simp only[aB,hi,decide_true,cond_true,aP,hv,hw,Option.bind_some];rw[show(!(decide (v.fst=w.fst) && (decide (v.snd.fst=w.snd.fst) && (decide (v.snd.snd.fst=w.snd.snd.fst) && (decide (v.snd.snd.snd.fst=w.snd.snd.snd.fst) && (decide (v.snd.snd.snd.snd.fst=w.snd.snd.snd.snd.fst) && true))))))=true from ?_]
  ·rfl
  ·rw[Bool.not_eq_true',Bool.eq_false_iff];intro h2;apply hne;simp only[Bool.and_eq_true,decide_eq_true_eq,and_true] at h2;grind
theorem zD (a b:List aV) (ha:Sh a):Ce (a,b,())=some (dec' (a=b),()):=by
 unfold Ce;refine rZ a b ha (fun i v hi hv hw=> ?_) (fun i v w hi hv hw hne=> ?_) (by simp)
 ·have hi':i<9223372036854775807:=by unfold Sh at ha;omega
  simp only[aB,hi,decide_true,cond_true,aP,hv,hw,Option.bind_some,aT hi',Bool.and_self,Bool.and_true,Bool.not_true,cond_false]
 ·simp only[aB,hi,decide_true,cond_true,aP,hv,hw,Option.bind_some];rw[show(!(decide (v.fst=w.fst) && (decide (v.snd.fst=w.snd.fst) && (decide (v.snd.snd.fst=w.snd.snd.fst) && (decide (v.snd.snd.snd.fst=w.snd.snd.snd.fst) && (decide (v.snd.snd.snd.snd.fst=w.snd.snd.snd.snd.fst) && true))))))=true from ?_]
  ·rfl
  ·rw[Bool.not_eq_true',Bool.eq_false_iff];intro h2;apply hne;simp only[Bool.and_eq_true,decide_eq_true_eq,and_true] at h2;grind
theorem H8 (a b:List dm) (ha:Sh a):GM (a,b,())=some (dec' (a=b),()):=by
 unfold GM;refine rZ a b ha (fun i v hi hv hw=> ?_) (fun i v w hi hv hw hne=> ?_) (by simp)
 ·have hi':i<9223372036854775807:=by unfold Sh at ha;omega
  simp only[aB,hi,decide_true,cond_true,aP,hv,hw,Option.bind_some,aT hi',Bool.and_self,Bool.and_true,Bool.not_true,cond_false]
 ·simp only[aB,hi,decide_true,cond_true,aP,hv,hw,Option.bind_some];rw[show(!(decide (v.fst=w.fst) && (decide (v.snd.fst=w.snd.fst) && (decide (v.snd.snd.fst=w.snd.snd.fst) && true))))=true from ?_]
  ·rfl
  ·rw[Bool.not_eq_true',Bool.eq_false_iff];intro h2;apply hne;simp only[Bool.and_eq_true,decide_eq_true_eq,and_true] at h2;grind
theorem CY (a b:List aO) (ha:Sh a):F79 (a,b,())=some (dec' (a=b),()):=by
 unfold F79;refine rZ a b ha (fun i v hi hv hw=> ?_) (fun i v w hi hv hw hne=> ?_) (by simp)
 ·have hi':i<9223372036854775807:=by unfold Sh at ha;omega
  simp only[aB,hi,decide_true,cond_true,aP,hv,hw,Option.bind_some,aT hi',Bool.and_self,Bool.and_true,Bool.not_true,cond_false,BEq.rfl]
 ·simp only[aB,hi,decide_true,cond_true,aP,hv,hw,Option.bind_some];rw[show(!(decide (v.fst=w.fst) && (decide (v.snd.fst.fst=w.snd.fst.fst) && (decide (v.snd.fst.snd.fst=w.snd.fst.snd.fst) && (decide (v.snd.fst.snd.snd.fst=w.snd.fst.snd.snd.fst) && (decide (v.snd.fst.snd.snd.snd.fst=w.snd.fst.snd.snd.snd.fst) && (decide (v.snd.fst.snd.snd.snd.snd.fst=w.snd.fst.snd.snd.snd.snd.fst) && (decide (v.snd.fst.snd.snd.snd.snd.snd.fst=w.snd.fst.snd.snd.snd.snd.snd.fst) && (v.snd.fst.snd.snd.snd.snd.snd.snd.fst == w.snd.fst.snd.snd.snd.snd.snd.snd.fst && true)))))) && true)))=true from ?_]
  ·rfl
  ·rw[Bool.not_eq_true',Bool.eq_false_iff];intro h2;apply hne;simp only[Bool.and_eq_true,decide_eq_true_eq,beq_iff_eq,and_true] at h2;grind
theorem Dn (a b:List aO) (ha:Sh a):Cc (a,b,())=some (dec' (a=b),()):=by
 unfold Cc;exact aK (CY a b ha) rfl
theorem Il (a b:dG) (ha:Sh a.2.2.2.2.1):F77 (a,b,())=some (dec' (a=b),()):=by
 obtain⟨a1,a2,a3,a4,a5,a6,a7,⟨⟩⟩:=a;obtain⟨b1,b2,b3,b4,b5,b6,b7,⟨⟩⟩:=b;unfold F77;simp only[Dn a5 b5 ha,Option.bind_some,zV];apply fin
 ·repeat' first|apply cO|apply bW|apply cZ|apply cu
 ·simp only[Prod.mk.injEq];grind
def ShS (l:List aW):Prop:=Sh l∧∀ s∈l,Sh s.2.2.1.2.2.2.2.1
def ShC (c:bn):Prop:=Sh c.2.2.2.2.2.2.2.1∧Sh c.2.2.2.2.2.2.2.2.1∧Sh c.2.2.2.2.2.2.2.2.2.1∧Sh c.2.2.2.2.2.2.2.2.2.2.2.2.2.2.1∧ShS c.2.2.2.2.2.2.2.2.2.2.2.2.2.2.2.1∧Sh c.2.2.2.2.2.2.2.2.2.2.2.2.2.2.2.2.1
theorem Qa (a b:aW) (ha:Sh a.2.2.1.2.2.2.2.1):Gx (a,b,())=some (dec' (a=b),()):=by
 obtain⟨a1,a2,a3,⟨⟩⟩:=a;obtain⟨b1,b2,b3,⟨⟩⟩:=b;unfold Gx;simp only[Il a3 b3 ha,Option.bind_some];apply fin
 ·repeat' first|apply cO|apply bW|apply cZ|apply cu
 ·simp only[Prod.mk.injEq];grind
theorem zae (a b:List aW) (ha:ShS a):E5 (a,b,())=some (dec' (a=b),()):=by
 unfold E5;refine rZ a b ha.1 (fun i v hi hv hw=> ?_) (fun i v w hi hv hw hne=> ?_) (by simp)
 ·have hi':i<9223372036854775807:=by have:=ha.1;unfold Sh at this;omega
  simp only[aB,hi,decide_true,cond_true,aP,hv,hw,Option.bind_some,aT hi',Qa v v (ha.2 v (List.mem_of_getElem? hv)),bP,Bool.not_true,cond_false]
 ·simp only[aB,hi,decide_true,cond_true,aP,hv,hw,Option.bind_some,Qa v w (ha.2 v (List.mem_of_getElem? hv)),bU hne,Bool.not_false]
theorem QO (a b:List aW) (ha:ShS a):GN (a,b,())=some (dec' (a=b),()):=by
 unfold GN;exact aK (zae a b ha) rfl
theorem Ea (a b:bn) (ha:ShC a):F76 (a,b,())=some (dec' (a=b),()):=by
 obtain⟨a1,a2,a3,a4,a5,a6,a7,a8,a9,a10,a11,a12,a13,a14,a15,a16,a17,⟨⟩⟩:=a;obtain⟨b1,b2,b3,b4,b5,b6,b7,b8,b9,b10,b11,b12,b13,b14,b15,b16,b17,⟨⟩⟩:=b;obtain⟨h8,h9,h10,h15,h16,h17⟩:=ha;unfold F76;simp only[Jn a8 b8 h8,zD a9 b9 h9,zD a10 b10 h10,Dn a15 b15 h15,QO a16 b16 h16,H8 a17 b17 h17,Option.bind_some,zV];apply fin
 ·repeat' first|apply cO|apply bW|apply cZ|apply cu
 ·simp only[Prod.mk.injEq];grind
theorem zao (a b:List dJ) (ha:Sh a):Ov (a,b,())=some (dec' (a=b),()):=Jn a b ha
theorem Q4 (a b:List aV) (ha:Sh a):GZ (a,b,())=some (dec' (a=b),()):=zD a b ha
theorem yX (a b:List aO) (ha:Sh a):F67 (a,b,())=some (dec' (a=b),()):=CY a b ha
theorem O5 (a b:List dm) (ha:Sh a):GY (a,b,())=some (dec' (a=b),()):=H8 a b ha
theorem H7 (a b:dG) (ha:Sh a.2.2.2.2.1):F65 (a,b,())=some (dec' (a=b),()):=by
 rw[←Il a b ha];unfold F65 F77;simp only[yX a.2.2.2.2.1 b.2.2.2.2.1 ha,Dn a.2.2.2.2.1 b.2.2.2.2.1 ha]
theorem Qi (a b:List aW) (ha:ShS a):Cm (a,b,())=some (dec' (a=b),()):=by
 unfold Cm;refine rZ a b ha.1 (fun i v hi hv hw=> ?_) (fun i v w hi hv hw hne=> ?_) (by simp)
 ·have hi':i<9223372036854775807:=by have:=ha.1;unfold Sh at this;omega
  have hr:F65 (v.2.2.1,v.2.2)=_:=H7 v.2.2.1 v.2.2.1 (ha.2 v (List.mem_of_getElem? hv));simp only[aB,hi,decide_true,cond_true,aP,hv,hw,Option.bind_some,aT hi',hr,bP,Bool.not_true,cond_false]
 ·have hr:F65 (v.2.2.1,w.2.2)=_:=H7 v.2.2.1 w.2.2.1 (ha.2 v (List.mem_of_getElem? hv));simp only[aB,hi,decide_true,cond_true,aP,hv,hw,Option.bind_some,hr];by_cases h1:v.1=w.1
  ·by_cases h2:v.2.1=w.2.1
   ·have h3:¬ v.2.2.1=w.2.2.1:=by intro h3;apply hne;grind
    simp[h1,h2,bU h3]
   ·simp[h1,h2]
  ·simp[h1]
theorem zbq (a b:bn) (ha:ShC a):F64 (a,b,())=some (dec' (a=b),()):=by
 rw[←Ea a b ha];obtain⟨h8,h9,h10,h15,h16,h17⟩:=ha;obtain⟨a1,a2,a3,a4,a5,a6,a7,a8,a9,a10,a11,a12,a13,a14,a15,a16,a17,⟨⟩⟩:=a;obtain⟨b1,b2,b3,b4,b5,b6,b7,b8,b9,b10,b11,b12,b13,b14,b15,b16,b17,⟨⟩⟩:=b;unfold F64 F76;simp only[Jn a8 b8 h8,zD a9 b9 h9,zD a10 b10 h10,Dn a15 b15 h15,QO a16 b16 h16,H8 a17 b17 h17,zao a8 b8 h8,Q4 a9 b9 h9,Q4 a10 b10 h10,yX a15 b15 h15,Qi a16 b16 h16,O5 a17 b17 h17]
def ShH (h:dD):Prop:=ShS h.2.2.1∧Sh h.2.2.2.1
theorem Qk (a b:dD) (ha:ShH a):F68 (a,b,())=some (dec' (a=b),()):=by
 obtain⟨h1,h2⟩:=ha;obtain⟨a1,a2,a3,a4,⟨⟩⟩:=a;obtain⟨b1,b2,b3,b4,⟨⟩⟩:=b;unfold F68;simp only[Qi a3 b3 h1,O5 a4 b4 h2,Option.bind_some];apply fin
 ·repeat' first|apply cO|apply bW|apply cZ|apply cu
 ·simp only[Prod.mk.injEq];grind
end Go.Proofs.YteebpcpkhojfkaaGreat
