/-
 Plain laws of what lies below,as this seat reaches them (by a program of the bench: port.py).
-/
import Derived.Test.YteebpcpkhojfkaaGreatCmdLawK
import Derived.Test.YteebpcpkhojfkaaGreatSxS
namespace Go.Proofs.YteebpcpkhojfkaaGreat
open Go.Sx Go Classical
set_option maxRecDepth 10000
theorem UH (k:Int) (a2 a3 a4:List UInt8) (a5 a6 a7:Int) (a8:List dJ) (a9 a10:List aV) (a11 a12 a13:Int) (a14:Bool) (a15:List aO) (a16:List aW) (a17:List dm) :
  vW (k,a2,a3,a4,a5,a6,a7,a8,a9,a10,a11,a12,a13,a14,a15,a16,a17,())=bG k++aZ a2++aZ a3++aZ a4++ak a5++ak a6++ak a7++qR a8++lg a9++lg a10++ak a11++ak a12++ak a13++je a14++lI a15++sK a16++nG a17:=by
 simp only[vW,aF,dQ,List.append_nil,List.append_assoc]
def Plain (c:bn):Prop:=(∀ x∈c.2.2.2.2.2.2.2.2.2.2.2.2.2.2.1,qC x)∧∀ s∈c.2.2.2.2.2.2.2.2.2.2.2.2.2.2.2.1,iH s.2.2.1
theorem JY (n m:Int) (c:bn):pR (n,m,c,())=ak n++ak m++vW c:=by
 simp only[pR,aF,dQ,List.append_nil,List.append_assoc]
theorem bytes_eq (j:ji) (hz:yj j.2.2.1) (hv:St j.2.2.1.2.2.2.1) (hcv:∀ x∈j.2.2.1.2.2.2.2.2.2.2.1,St x.2.2.2.2.1) (hp:Plain j.2.2.1) (h:(pR j).length≤Big):F46 (j,())=some (pR j,()):=by
 obtain⟨n,m,c,⟨⟩⟩:=j;obtain⟨⟨h8,h9,h10,h15,h16,h17⟩,-,t2,t3,hcm,o9,o10,z15,z16⟩:=hz;obtain⟨p15,p16⟩:=hp;obtain⟨k,a2,a3,a4,a5,a6,a7,a8,a9,a10,a11,a12,a13,a14,a15,a16,a17,⟨⟩⟩:=c;simp only at t2 t3 hcm o9 o10 z15 z16 h8 h9 h10 h15 h16 h17 p15 p16 hv hcv;have e15:jl a15=lI a15:=uF p15;have e16:nO a16=sK a16:=DU p16;rw[JY,UH,←e15,←e16] at h ⊢;simp only[List.length_append,kJ,dZ,bu,fK] at h;have hcl:(qR a8).length=(countB a8.length).length+(a8.flatMap nS).length:=by unfold qR iO;rw[List.length_append]
 unfold F46;have hj0:=lF [[n,m].flatMap ak,[Sx.byteOf (IntKind.wrap IntKind.u8 k)],aZ a2,aZ a3,aZ a4,[a5,a6,a7].flatMap ak,countB a8.length] (by simp[Sh]) (by simp only[List.flatMap_cons,List.flatMap_nil,List.length_append,bu,dZ,List.length_nil,List.length_cons,id];omega);simp only[ja [n,m] (by simp),ja [a5,a6,a7] (by simp),iY a2 t2,iY a3 t3,iY a4 hv,uD,hj0,Option.bind_some];generalize hb0:List.flatMap id [[n,m].flatMap ak,[Sx.byteOf (IntKind.wrap IntKind.u8 k)],aZ a2,aZ a3,aZ a4,[a5,a6,a7].flatMap ak,countB a8.length]=b0;have l0:b0.length=41+12+a2.length+a3.length+a4.length+(countB a8.length).length:=by rw[←hb0];simp only[List.flatMap_cons,List.flatMap_nil,List.length_append,bu,dZ,List.length_nil,List.length_cons,id];omega
 refine oL a8 h8 nS b0 (fun i d=>(d,(i:Int),())) (by omega) (fun i v d hi hv hd=> ?_) ?_
 ·have hi':i<9223372036854775807:=by unfold Sh at h8;omega
  have s1:=hcm v (List.mem_of_getElem? hv);have s5:=hcv v (List.mem_of_getElem? hv);obtain⟨v1,v2,v3,v4,v5,⟨⟩⟩:=v;rw[TZ] at hd ⊢;simp only[List.length_append,bu,dZ,kJ] at hd;have hj:=lF [d,aZ v1,[Sx.byteOf (IntKind.wrap IntKind.u8 v2),Sx.byteOf (IntKind.wrap IntKind.u8 v3)],[v4].flatMap ak,aZ v5] (by simp[Sh]) (by simp only[List.flatMap_cons,List.flatMap_nil,List.length_append,bu,dZ,List.length_nil,List.length_cons,id];omega);have ht5:F56 (v5,())=_:=iY v5 s5;simp only[aB,hi,decide_true,cond_true,aP,hv,Option.bind_some,ja [v4] (by simp),iY v1 s1,ht5,hj,aT hi'];simp only[List.append_assoc,List.flatMap_cons,List.flatMap_nil,List.append_nil,id,bG,vJ,List.cons_append,List.nil_append]
 ·simp only[aB,Nat.lt_irrefl,decide_false,cond_false];generalize hb1:b0++List.flatMap nS a8=b1;have l1:b1.length=b0.length+(List.flatMap nS a8).length:=by rw[←hb1,List.length_append]
  refine(congrArg (Option.map Sum.inr) (?_:_=some (ak n++ak m++(bG k++aZ a2++aZ a3++aZ a4++ak a5++ak a6++ak a7++qR a8++lg a9++lg a10++ak a11++ak a12++ak a13++je a14++jl a15++nO a16++nG a17),()))).trans rfl;have hj:=lF [b1,lg a9,lg a10,[a11,a12,a13].flatMap ak,je a14,jl a15,nO a16++nG a17] (by simp[Sh]) (by simp only[List.flatMap_cons,List.flatMap_nil,List.length_append,bu,fK,List.length_nil,id];omega);simp only[PD a9 h9 o9 (by omega),PD a10 h10 o10 (by omega),ja [a11,a12,a13] (by simp),zA,OT a15 h15 z15.2 (by omega),OI a16 a17 z16 h17 (by omega),hj,Option.bind_some];rw[←hb1,←hb0];have e8:qR a8=countB a8.length++a8.flatMap nS:=rfl;rw[e8];simp only[List.append_assoc,List.flatMap_cons,List.flatMap_nil,List.append_nil,id,bG,vJ,List.cons_append,List.nil_append]
end Go.Proofs.YteebpcpkhojfkaaGreat
