/-
 Plain laws of what lies below,as this seat reaches them (by a program of the bench: port.py).
-/
import Derived.Test.YtpfjaaofpcbejaaGreatCmdVerKey
import Derived.Test.YtpfjaaofpcbejaaGreatSxS
namespace Go.Proofs.YtpfjaaofpcbejaaGreat
open Go.Sx Go Classical
set_option maxRecDepth 10000
noncomputable abbrev dec' (p:Prop):Bool:= @decide p (propDecidable p)
theorem zbt {p q:Prop} [d:Decidable q] (h:p↔q):dec' p=decide q:=by
 by_cases hq:q
 ·rw [decide_eq_true hq];exact decide_eq_true (h.2 hq)
 ·rw [decide_eq_false hq];exact decide_eq_false (fun x=>hq (h.1 x))
theorem zav {p q r:Prop} {_:Decidable p} {X Y:Option (Bool×Unit)} (hx:X=some (dec' q,())) (hy:Y=some (dec' r,())):(bif decide p then X else Y)=some (dec' ((p→q)∧(¬ p→r)),()):=by
 by_cases hp:p
 ·rw [decide_eq_true hp,cond_true,hx]
  exact congrArg (fun z=>some (z,())) (zbt (d:=propDecidable _) (by grind))
 ·rw [decide_eq_false hp,cond_false,hy]
  exact congrArg (fun z=>some (z,())) (zbt (d:=propDecidable _) (by grind))
theorem zaG {p q r:Prop} {_:Decidable p} {X Y:Option (Bool×Unit)} (hx:X=some (dec' q,())) (hy:Y=some (dec' r,())):(bif !decide p then X else Y)=some (dec' ((¬ p→q)∧(p→r)),()):=by
 by_cases hp:p
 ·rw [decide_eq_true hp,Bool.not_true,cond_false,hy]
  exact congrArg (fun z=>some (z,())) (zbt (d:=propDecidable _) (by grind))
 ·rw [decide_eq_false hp,Bool.not_false,cond_true,hx]
  exact congrArg (fun z=>some (z,())) (zbt (d:=propDecidable _) (by grind))
theorem zcr {b:Bool} {q r:Prop} {X Y:Option (Bool×Unit)} (hx:X=some (dec' q,())) (hy:Y=some (dec' r,())):(bif b then X else Y)=some (dec' ((b=true→q)∧(b=false→r)),()):=by
 cases b
 ·rw [cond_false,hy]
  exact congrArg (fun z=>some (z,())) (zbt (d:=propDecidable _) (by grind))
 ·rw [cond_true,hx]
  exact congrArg (fun z=>some (z,())) (zbt (d:=propDecidable _) (by grind))
theorem zaw:(some (true,()):Option (Bool×Unit))=some (dec' True,()):=by simp [dec']
theorem zam:(some (false,()):Option (Bool×Unit))=some (dec' False,()):=by simp [dec']
theorem zaB (p:Prop) {_:Decidable p}:(some (decide p,()):Option (Bool×Unit))=some (dec' p,()):=congrArg (fun z=>some (z,())) (zbt (p:=p) Iff.rfl).symm
theorem zhW (b:Bool):(some (b,()):Option (Bool×Unit))=some (dec' (b=true),()):=by
 cases b <;> simp [dec']
theorem fin {X:Option (Bool×Unit)} {p q:Prop} (h:X=some (dec' p,())) (h2:p↔q):X=some (dec' q,()):=by
 rw [h,zbt (d:=propDecidable _) h2]
theorem zaE {p:Prop} (h:¬ p):dec' p=false:= @decide_eq_false p (propDecidable p) h
theorem zaN {p:Prop} (h:p):dec' p=true:= @decide_eq_true p (propDecidable p) h
theorem zd1 {α:Type} (a b:List α) (ha:a.length≤9223372036854775806) {step:Int×Unit→Option ((Int×Unit)⊕(Bool×Unit))}
  (h1:∀ (i:Nat) v,i < a.length→a[i]? = some v→b[i]? = some v→step ((i:Int),())=some (.inl (((i+1:Nat):Int),())))
  (h2:∀ (i:Nat) v w,i < a.length→a[i]? = some v→b[i]? = some w→v≠w→step ((i:Int),())=some (.inr (false,())))
  (hK:step ((a.length:Int),())=some (.inr (true,()))) :
  (bif !decide (Int.ofNat a.length=Int.ofNat b.length) then some (false,()) else zaT (Int×Unit) (Bool×Unit) step big (0,()))=some (dec' (a=b),()):=by
 by_cases hl:a.length=b.length
 ·have e:decide (Int.ofNat a.length=Int.ofNat b.length)=true:=decide_eq_true (by rw [hl])
  simp only [e,Bool.not_true,cond_false]
  refine (zcR (mk:=fun i=>((i:Int),())) (fun i=>decide (a[i]? = b[i]?)) (rt:=(true,())) (rf:=(false,())) (by omega) (fun i hi=> ?_) hK).trans ?_
  ·have e1:=List.getElem?_eq_getElem hi
   have e2:=List.getElem?_eq_getElem (hl▸hi:i < b.length)
   by_cases hv:a[i]=b[i]'(hl▸hi)
   ·rw [h1 i _ hi e1 (by rw [e2,hv]),e1,e2,hv];simp
   ·rw [h2 i _ _ hi e1 e2 hv,e1,e2];simp [hv]
  ·by_cases hab:a=b
   ·subst hab
    have:(List.range a.length).all (fun i=>decide (a[i]? = a[i]?))=true:=by simp
    rw [this];simp
   ·have:(List.range a.length).all (fun i=>decide (a[i]? = b[i]?))=false:=by
     rw [Bool.eq_false_iff]
     intro h
     refine hab (List.ext_getElem? fun i=> ?_)
     by_cases hi:i < a.length
     ·have:=List.all_eq_true.1 h i (List.mem_range.2 hi)
      exact of_decide_eq_true this
     ·rw [List.getElem?_eq_none (by omega),List.getElem?_eq_none (by omega)]
    rw [this];simp [hab]
 ·have e:decide (Int.ofNat a.length=Int.ofNat b.length)=false:=decide_eq_false (by intro h;exact hl (Int.ofNat.inj h))
  have:a≠b:=fun h=>hl (by rw [h])
  simp only [e,Bool.not_false,cond_true]
  exact congrArg (fun z=>some (z,())) (zaE this).symm
theorem zgP (a b:List T96D) (ha:Sh a):F134 (a,b,())=some (dec' (a=b),()):=by
 unfold F134
 refine zd1 a b ha (fun i v hi hv hw=> ?_) (fun i v w hi hv hw hne=> ?_) (by simp)
 ·have hi':i < 9223372036854775807:=by unfold Sh at ha;omega
  simp only [zao,hi,decide_true,cond_true,zan,hv,hw,Option.bind_some,zak hi',Bool.and_self,Bool.and_true,Bool.not_true,cond_false]
 ·simp only [zao,hi,decide_true,cond_true,zan,hv,hw,Option.bind_some]
  rw [show (!(decide (v.fst=w.fst) && (decide (v.snd.fst=w.snd.fst) && (decide (v.snd.snd.fst=w.snd.snd.fst) && (decide (v.snd.snd.snd.fst=w.snd.snd.snd.fst) && (decide (v.snd.snd.snd.snd.fst=w.snd.snd.snd.snd.fst) && true))))))=true from ?_]
  ·rfl
  ·rw [Bool.not_eq_true',Bool.eq_false_iff];intro h2;apply hne;simp only [Bool.and_eq_true,decide_eq_true_eq,and_true] at h2;grind
theorem zeN (a b:List T48D) (ha:Sh a):F135 (a,b,())=some (dec' (a=b),()):=by
 unfold F135
 refine zd1 a b ha (fun i v hi hv hw=> ?_) (fun i v w hi hv hw hne=> ?_) (by simp)
 ·have hi':i < 9223372036854775807:=by unfold Sh at ha;omega
  simp only [zao,hi,decide_true,cond_true,zan,hv,hw,Option.bind_some,zak hi',Bool.and_self,Bool.and_true,Bool.not_true,cond_false]
 ·simp only [zao,hi,decide_true,cond_true,zan,hv,hw,Option.bind_some]
  rw [show (!(decide (v.fst=w.fst) && (decide (v.snd.fst=w.snd.fst) && (decide (v.snd.snd.fst=w.snd.snd.fst) && (decide (v.snd.snd.snd.fst=w.snd.snd.snd.fst) && (decide (v.snd.snd.snd.snd.fst=w.snd.snd.snd.snd.fst) && true))))))=true from ?_]
  ·rfl
  ·rw [Bool.not_eq_true',Bool.eq_false_iff];intro h2;apply hne;simp only [Bool.and_eq_true,decide_eq_true_eq,and_true] at h2;grind
theorem zes (a b:List zai) (ha:Sh a):F138 (a,b,())=some (dec' (a=b),()):=by
 unfold F138
 refine zd1 a b ha (fun i v hi hv hw=> ?_) (fun i v w hi hv hw hne=> ?_) (by simp)
 ·have hi':i < 9223372036854775807:=by unfold Sh at ha;omega
  simp only [zao,hi,decide_true,cond_true,zan,hv,hw,Option.bind_some,zak hi',Bool.and_self,Bool.and_true,Bool.not_true,cond_false]
 ·simp only [zao,hi,decide_true,cond_true,zan,hv,hw,Option.bind_some]
  rw [show (!(decide (v.fst=w.fst) && (decide (v.snd.fst=w.snd.fst) && (decide (v.snd.snd.fst=w.snd.snd.fst) && true))))=true from ?_]
  ·rfl
  ·rw [Bool.not_eq_true',Bool.eq_false_iff];intro h2;apply hne;simp only [Bool.and_eq_true,decide_eq_true_eq,and_true] at h2;grind
theorem zcS (a b:List T70D) (ha:Sh a):F95 (a,b,())=some (dec' (a=b),()):=by
 unfold F95
 refine zd1 a b ha (fun i v hi hv hw=> ?_) (fun i v w hi hv hw hne=> ?_) (by simp)
 ·have hi':i < 9223372036854775807:=by unfold Sh at ha;omega
  simp only [zao,hi,decide_true,cond_true,zan,hv,hw,Option.bind_some,zak hi',Bool.and_self,Bool.and_true,Bool.not_true,cond_false,BEq.rfl]
 ·simp only [zao,hi,decide_true,cond_true,zan,hv,hw,Option.bind_some]
  rw [show (!(decide (v.fst=w.fst) && (decide (v.snd.fst.fst=w.snd.fst.fst) && (decide (v.snd.fst.snd.fst=w.snd.fst.snd.fst) && (decide (v.snd.fst.snd.snd.fst=w.snd.fst.snd.snd.fst) && (decide (v.snd.fst.snd.snd.snd.fst=w.snd.fst.snd.snd.snd.fst) && (decide (v.snd.fst.snd.snd.snd.snd.fst=w.snd.fst.snd.snd.snd.snd.fst) && (decide (v.snd.fst.snd.snd.snd.snd.snd.fst=w.snd.fst.snd.snd.snd.snd.snd.fst) && (v.snd.fst.snd.snd.snd.snd.snd.snd.fst == w.snd.fst.snd.snd.snd.snd.snd.snd.fst && true)))))) && true)))=true from ?_]
  ·rfl
  ·rw [Bool.not_eq_true',Bool.eq_false_iff];intro h2;apply hne;simp only [Bool.and_eq_true,decide_eq_true_eq,beq_iff_eq,and_true] at h2;grind
theorem zd9 (a b:List T70D) (ha:Sh a):F136 (a,b,())=some (dec' (a=b),()):=by
 unfold F136
 exact zar (zcS a b ha) rfl
theorem zfc (a b:T51D) (ha:Sh a.2.2.2.2.1):F93 (a,b,())=some (dec' (a=b),()):=by
 obtain⟨a1,a2,a3,a4,a5,a6,a7,⟨⟩⟩:=a
 obtain⟨b1,b2,b3,b4,b5,b6,b7,⟨⟩⟩:=b
 unfold F93
 simp only [zd9 a5 b5 ha,Option.bind_some,zgV]
 apply fin
 ·repeat' first | apply zaw | apply zam | apply zaB | apply zav
 ·simp only [Prod.mk.injEq];grind
def ShS (l:List T94D):Prop:=Sh l∧∀ s∈l,Sh s.2.2.1.2.2.2.2.1
def ShC (c:T28D):Prop:=Sh c.2.2.2.2.2.2.2.1∧Sh c.2.2.2.2.2.2.2.2.1∧Sh c.2.2.2.2.2.2.2.2.2.1∧Sh c.2.2.2.2.2.2.2.2.2.2.2.2.2.2.1∧ShS c.2.2.2.2.2.2.2.2.2.2.2.2.2.2.2.1∧Sh c.2.2.2.2.2.2.2.2.2.2.2.2.2.2.2.2.1
theorem zhx (a b:T94D) (ha:Sh a.2.2.1.2.2.2.2.1):F170 (a,b,())=some (dec' (a=b),()):=by
 obtain⟨a1,a2,a3,⟨⟩⟩:=a
 obtain⟨b1,b2,b3,⟨⟩⟩:=b
 unfold F170
 simp only [zfc a3 b3 ha,Option.bind_some]
 apply fin
 ·repeat' first | apply zaw | apply zam | apply zaB | apply zav
 ·simp only [Prod.mk.injEq];grind
theorem zmf (a b:List T94D) (ha:ShS a):zq2 (a,b,())=some (dec' (a=b),()):=by
 unfold zq2
 refine zd1 a b ha.1 (fun i v hi hv hw=> ?_) (fun i v w hi hv hw hne=> ?_) (by simp)
 ·have hi':i < 9223372036854775807:=by have:=ha.1;unfold Sh at this;omega
  simp only [zao,hi,decide_true,cond_true,zan,hv,hw,Option.bind_some,zak hi',zhx v v (ha.2 v (List.mem_of_getElem? hv)),zaN,Bool.not_true,cond_false]
 ·simp only [zao,hi,decide_true,cond_true,zan,hv,hw,Option.bind_some,zhx v w (ha.2 v (List.mem_of_getElem? hv)),zaE hne,Bool.not_false]
theorem zi1 (a b:List T94D) (ha:ShS a):F137 (a,b,())=some (dec' (a=b),()):=by
 unfold F137
 exact zar (zmf a b ha) rfl
theorem zfX (a b:T28D) (ha:ShC a):F92 (a,b,())=some (dec' (a=b),()):=by
 obtain⟨a1,a2,a3,a4,a5,a6,a7,a8,a9,a10,a11,a12,a13,a14,a15,a16,a17,⟨⟩⟩:=a
 obtain⟨b1,b2,b3,b4,b5,b6,b7,b8,b9,b10,b11,b12,b13,b14,b15,b16,b17,⟨⟩⟩:=b
 obtain⟨h8,h9,h10,h15,h16,h17⟩:=ha
 unfold F92
 simp only [zgP a8 b8 h8,zeN a9 b9 h9,zeN a10 b10 h10,zd9 a15 b15 h15,zi1 a16 b16 h16,zes a17 b17 h17,Option.bind_some,zgV]
 apply fin
 ·repeat' first | apply zaw | apply zam | apply zaB | apply zav
 ·simp only [Prod.mk.injEq];grind
theorem zmH (a b:List T96D) (ha:Sh a):F156 (a,b,())=some (dec' (a=b),()):=zgP a b ha
theorem zjf (a b:List T48D) (ha:Sh a):F157 (a,b,())=some (dec' (a=b),()):=zeN a b ha
theorem zcy (a b:List T70D) (ha:Sh a):F119 (a,b,())=some (dec' (a=b),()):=zcS a b ha
theorem zfA (a b:List zai) (ha:Sh a):F159 (a,b,())=some (dec' (a=b),()):=zes a b ha
theorem zer (a b:T51D) (ha:Sh a.2.2.2.2.1):F117 (a,b,())=some (dec' (a=b),()):=by
 rw [←zfc a b ha]
 unfold F117 F93
 simp only [zcy a.2.2.2.2.1 b.2.2.2.2.1 ha,zd9 a.2.2.2.2.1 b.2.2.2.2.1 ha]
theorem zhE (a b:List T94D) (ha:ShS a):F158 (a,b,())=some (dec' (a=b),()):=by
 unfold F158
 refine zd1 a b ha.1 (fun i v hi hv hw=> ?_) (fun i v w hi hv hw hne=> ?_) (by simp)
 ·have hi':i < 9223372036854775807:=by have:=ha.1;unfold Sh at this;omega
  have hr:F117 (v.2.2.1,v.2.2)=_:=zer v.2.2.1 v.2.2.1 (ha.2 v (List.mem_of_getElem? hv))
  simp only [zao,hi,decide_true,cond_true,zan,hv,hw,Option.bind_some,zak hi',hr,zaN,Bool.not_true,cond_false]
 ·have hr:F117 (v.2.2.1,w.2.2)=_:=zer v.2.2.1 w.2.2.1 (ha.2 v (List.mem_of_getElem? hv))
  simp only [zao,hi,decide_true,cond_true,zan,hv,hw,Option.bind_some,hr]
  by_cases h1:v.1=w.1
  ·by_cases h2:v.2.1=w.2.1
   ·have h3:¬ v.2.2.1=w.2.2.1:=by intro h3;apply hne;grind
    simp [h1,h2,zaE h3]
   ·simp [h1,h2]
  ·simp [h1]
theorem zpu (a b:T28D) (ha:ShC a):F116 (a,b,())=some (dec' (a=b),()):=by
 rw [←zfX a b ha]
 obtain⟨h8,h9,h10,h15,h16,h17⟩:=ha
 obtain⟨a1,a2,a3,a4,a5,a6,a7,a8,a9,a10,a11,a12,a13,a14,a15,a16,a17,⟨⟩⟩:=a
 obtain⟨b1,b2,b3,b4,b5,b6,b7,b8,b9,b10,b11,b12,b13,b14,b15,b16,b17,⟨⟩⟩:=b
 unfold F116 F92
 simp only [zgP a8 b8 h8,zeN a9 b9 h9,zeN a10 b10 h10,zd9 a15 b15 h15,zi1 a16 b16 h16,zes a17 b17 h17,zmH a8 b8 h8,zjf a9 b9 h9,zjf a10 b10 h10,zcy a15 b15 h15,zhE a16 b16 h16,zfA a17 b17 h17]
def ShH (h:T55D):Prop:=ShS h.2.2.1∧Sh h.2.2.2.1
theorem zhG (a b:T55D) (ha:ShH a):F120 (a,b,())=some (dec' (a=b),()):=by
 obtain⟨h1,h2⟩:=ha
 obtain⟨a1,a2,a3,a4,⟨⟩⟩:=a
 obtain⟨b1,b2,b3,b4,⟨⟩⟩:=b
 unfold F120
 simp only [zhE a3 b3 h1,zfA a4 b4 h2,Option.bind_some]
 apply fin
 ·repeat' first | apply zaw | apply zam | apply zaB | apply zav
 ·simp only [Prod.mk.injEq];grind
end Go.Proofs.YtpfjaaofpcbejaaGreat
