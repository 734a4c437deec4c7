/-
 Plain laws of what lies below,as this seat reaches them (by a program of the bench: port.py).
-/
import Derived.Test.YteebpcpkhojfkaaGreatRmsgLawE
import Derived.Test.YteebpcpkhojfkaaGreatSxS
namespace Go.Proofs.YteebpcpkhojfkaaGreat
open Go.Sx Go Classical
set_option maxRecDepth 10000
def ShB (l:List TBD):Prop:=Sh l∧∀ b∈l,Sh b.2.1
def ShT (m:TMD):Prop:=Sh m.2.2.1.2.2.2.2.2.2.2.2.2.1∧ShC m.2.2.2.1.2.2.1∧Sh m.2.2.2.2.2.2.2.2.2.2.2.1.2.2.2.2.1∧ShB m.2.2.2.2.2.2.2.2.2.2.2.2.1∧Sh m.2.2.2.2.2.2.2.2.2.2.2.2.2.1∧ShH m.2.2.2.2.2.2.2.2.2.2.2.2.2.2.2.1
theorem PU (a b:TBD) (ha:Sh a.2.1):GL (a,b,())=some (dec' (a=b),()):=by
 obtain⟨a1,a2,⟨⟩⟩:=a;obtain⟨b1,b2,⟨⟩⟩:=b;unfold GL;simp only[CY a2 b2 ha,Option.bind_some];apply fin
 ·repeat' first|apply cO|apply bW|apply cZ|apply cu
 ·simp only[Prod.mk.injEq];grind
theorem Ze (a b:List TBD) (ha:ShB a):Fe (a,b,())=some (dec' (a=b),()):=by
 unfold Fe;refine rZ a b ha.1 (fun i v hi hv hw=> ?_) (fun i v w hi hv hw hne=> ?_) (by simp)
 ·have hi':i<9223372036854775807:=by have:=ha.1;unfold Sh at this;omega
  simp only[aB,hi,decide_true,cond_true,aP,hv,hw,Option.bind_some,aT hi',PU v v (ha.2 v (List.mem_of_getElem? hv)),bP,Bool.not_true,cond_false]
 ·simp only[aB,hi,decide_true,cond_true,aP,hv,hw,Option.bind_some,PU v w (ha.2 v (List.mem_of_getElem? hv)),bU hne,Bool.not_false]
theorem Zv (a b:List TBD) (ha:ShB a):F78 (a,b,())=some (dec' (a=b),()):=by
 unfold F78;exact aK (Ze a b ha) rfl
theorem Y6 (a b:List TBD) (ha:ShB a):F66 (a,b,())=some (dec' (a=b),()):=by
 unfold F66;refine rZ a b ha.1 (fun i v hi hv hw=> ?_) (fun i v w hi hv hw hne=> ?_) (by simp)
 ·have hi':i<9223372036854775807:=by have:=ha.1;unfold Sh at this;omega
  have hr:F67 (v.2.1,v.2)=_:=yX v.2.1 v.2.1 (ha.2 v (List.mem_of_getElem? hv));simp only[aB,hi,decide_true,cond_true,aP,hv,hw,Option.bind_some,aT hi',hr,bP,Bool.not_true,cond_false]
 ·have hr:F67 (v.2.1,w.2)=_:=yX v.2.1 w.2.1 (ha.2 v (List.mem_of_getElem? hv));simp only[aB,hi,decide_true,cond_true,aP,hv,hw,Option.bind_some,hr];by_cases h1:v.1=w.1
  ·have h3:¬ v.2.1=w.2.1:=by intro h3;apply hne;grind
   simp[h1,bU h3]
  ·simp[h1]
theorem zbL (a b:dD) (ha:ShH a):F80 (a,b,())=some (dec' (a=b),()):=by
 obtain⟨h1,h2⟩:=ha;obtain⟨a1,a2,a3,a4,⟨⟩⟩:=a;obtain⟨b1,b2,b3,b4,⟨⟩⟩:=b;have z:∀ {α:Type},Sh ([]:List α):=fun{_}=>by simp[Sh]
 have hc:=Ea (0,[],[],[],0,0,0,[],[],[],0,0,0,false,[],a3,a4,()) (0,[],[],[],0,0,0,[],[],[],0,0,0,false,[],b3,b4,()) ⟨z,z,z,z,h1,h2⟩;unfold F80;simp only[hc,Option.bind_some];apply fin
 ·repeat' first|apply cO|apply bW|apply cZ|apply cu
 ·simp only[Prod.mk.injEq];grind
theorem Tf (a b:eX):(decide (a.fst=b.fst) && (decide (a.snd.fst=b.snd.fst) && (decide (a.snd.snd.fst=b.snd.snd.fst) && (decide (a.snd.snd.snd.fst=b.snd.snd.snd.fst) && (decide (a.snd.snd.snd.snd.fst=b.snd.snd.snd.snd.fst) && (decide (a.snd.snd.snd.snd.snd.fst=b.snd.snd.snd.snd.snd.fst) && (decide (a.snd.snd.snd.snd.snd.snd.fst=b.snd.snd.snd.snd.snd.snd.fst) && (decide (a.snd.snd.snd.snd.snd.snd.snd.fst=b.snd.snd.snd.snd.snd.snd.snd.fst) && (decide (a.snd.snd.snd.snd.snd.snd.snd.snd.fst=b.snd.snd.snd.snd.snd.snd.snd.snd.fst) && (decide (a.snd.snd.snd.snd.snd.snd.snd.snd.snd.fst=b.snd.snd.snd.snd.snd.snd.snd.snd.snd.fst) && true))))))))))=dec' (a=b):=by
 by_cases h:a=b
 ·rw[bP h,h];simp
 ·rw[bU h,Bool.eq_false_iff];intro h2;apply h;obtain⟨a1,a2,a3,a4,a5,a6,a7,a8,a9,a10,⟨⟩⟩:=a;obtain⟨b1,b2,b3,b4,b5,b6,b7,b8,b9,b10,⟨⟩⟩:=b;simp only[Bool.and_eq_true,decide_eq_true_eq,and_true] at h2;simp only[Prod.mk.injEq];grind
theorem Tc (a b:TMD) (ha:ShT a):F18 (a,b,())=some (dec' (a=b),()):=by
 obtain⟨h1,h2,h3,h4,h5,h6⟩:=ha;obtain⟨a1,a2,a3,⟨j1,j2,j3,⟨⟩⟩,a5,a6,a7,a8,a9,a10,a11,a12,a13,a14,a15,a16,a17,⟨⟩⟩:=a;obtain⟨b1,b2,b3,⟨k1,k2,k3,⟨⟩⟩,b5,b6,b7,b8,b9,b10,b11,b12,b13,b14,b15,b16,b17,⟨⟩⟩:=b;unfold F18;simp only[Jv a3 b3 h1,Ea j3 k3 h2,Il a12 b12 h3,Zv a13 b13 h4,CY a14 b14 h5,zbL a16 b16 h6,Tf a17 b17,zV,Option.bind_some];apply fin
 ·repeat' first|apply cO|apply bW|apply cZ|apply cu
 ·simp only[Prod.mk.injEq];grind
theorem Q5 (a b:TMD) (ha:ShT a):F15 (a,b,())=some (dec' (a=b),()):=by
 obtain⟨h1,h2,h3,h4,h5,h6⟩:=ha;obtain⟨a1,a2,a3,⟨j1,j2,j3,⟨⟩⟩,a5,a6,a7,a8,a9,a10,a11,a12,a13,a14,a15,a16,a17,⟨⟩⟩:=a;obtain⟨b1,b2,b3,⟨k1,k2,k3,⟨⟩⟩,b5,b6,b7,b8,b9,b10,b11,b12,b13,b14,b15,b16,b17,⟨⟩⟩:=b;unfold F15;simp only[ZG a3 b3 h1,zbq j3 k3 h2,H7 a12 b12 h3,Y6 a13 b13 h4,yX a14 b14 h5,Qk a16 b16 h6,Tf a17 b17,zV,Option.bind_some];apply fin
 ·repeat' first|apply cO|apply bW|apply cZ|apply cu
 ·simp only[Prod.mk.injEq];grind
end Go.Proofs.YteebpcpkhojfkaaGreat
