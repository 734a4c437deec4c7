/-
 Plain laws of what lies below,as this seat reaches them (by a program of the bench: port.py).
-/
import Derived.Test.YtlegpimppfabgaaGreatRmsgLawC
import Derived.Test.YtlegpimppfabgaaGreatSxS
namespace Go.Proofs.YtlegpimppfabgaaGreat
open Go.Sx Go Classical
set_option maxRecDepth 10000
def ShB (l:List TBD):Prop:=Sh l∧∀ b∈l,Sh b.2.1
def ShT (m:TMD):Prop:=Sh m.2.2.1.2.2.2.2.2.2.2.2.2.1∧ShC m.2.2.2.1.2.2.1∧Sh m.2.2.2.2.2.2.2.2.2.2.2.1.2.2.2.2.1∧ShB m.2.2.2.2.2.2.2.2.2.2.2.2.1∧Sh m.2.2.2.2.2.2.2.2.2.2.2.2.2.1∧ShH m.2.2.2.2.2.2.2.2.2.2.2.2.2.2.2.1
theorem Ot (a b:TBD) (ha:Sh a.2.1):EW (a,b,())=some (dec' (a=b),()):=by
 obtain⟨a1,a2,⟨⟩⟩:=a;obtain⟨b1,b2,⟨⟩⟩:=b;unfold EW;simp only[BB a2 b2 ha,Option.bind_some];apply fin
 ·repeat' first|apply bV|apply bP|apply bW|apply bU
 ·simp only[Prod.mk.injEq];grind
theorem XD (a b:List TBD) (ha:ShB a):Ee (a,b,())=some (dec' (a=b),()):=by
 unfold Ee;refine qQ a b ha.1 (fun i v hi hv hw=> ?_) (fun i v w hi hv hw hne=> ?_) (by simp)
 ·have hi':i<9223372036854775807:=by have:=ha.1;unfold Sh at this;omega
  simp only[ax,hi,decide_true,cond_true,aI,hv,hw,Option.bind_some,aP hi',Ot v v (ha.2 v (List.mem_of_getElem? hv)),bK,Bool.not_true,cond_false]
 ·simp only[ax,hi,decide_true,cond_true,aI,hv,hw,Option.bind_some,Ot v w (ha.2 v (List.mem_of_getElem? hv)),dA hne,Bool.not_false]
theorem XR (a b:List TBD) (ha:ShB a):FI (a,b,())=some (dec' (a=b),()):=by
 unfold FI;exact aB (XD a b ha) rfl
theorem Xw (a b:List TBD) (ha:ShB a):F25 (a,b,())=some (dec' (a=b),()):=by
 unfold F25;refine qQ a b ha.1 (fun i v hi hv hw=> ?_) (fun i v w hi hv hw hne=> ?_) (by simp)
 ·have hi':i<9223372036854775807:=by have:=ha.1;unfold Sh at this;omega
  have hr:F64 (v.2.1,v.2)=_:=xY v.2.1 v.2.1 (ha.2 v (List.mem_of_getElem? hv));simp only[ax,hi,decide_true,cond_true,aI,hv,hw,Option.bind_some,aP hi',hr,bK,Bool.not_true,cond_false]
 ·have hr:F64 (v.2.1,w.2)=_:=xY v.2.1 w.2.1 (ha.2 v (List.mem_of_getElem? hv));simp only[ax,hi,decide_true,cond_true,aI,hv,hw,Option.bind_some,hr];by_cases h1:v.1=w.1
  ·have h3:¬ v.2.1=w.2.1:=by intro h3;apply hne;grind
   simp[h1,dA h3]
  ·simp[h1]
theorem zaf (a b:gz) (ha:ShH a):FH (a,b,())=some (dec' (a=b),()):=by
 obtain⟨h1,h2⟩:=ha;obtain⟨a1,a2,a3,a4,⟨⟩⟩:=a;obtain⟨b1,b2,b3,b4,⟨⟩⟩:=b;have z:∀ {α:Type},Sh ([]:List α):=fun{_}=>by simp[Sh]
 have hc:=CU (0,[],[],[],0,0,0,[],[],[],0,0,0,false,[],a3,a4,()) (0,[],[],[],0,0,0,[],[],[],0,0,0,false,[],b3,b4,()) ⟨z,z,z,z,h1,h2⟩;unfold FH;simp only[hc,Option.bind_some];apply fin
 ·repeat' first|apply bV|apply bP|apply bW|apply bU
 ·simp only[Prod.mk.injEq];grind
theorem QF (a b:jo):(decide (a.fst=b.fst) && (decide (a.snd.fst=b.snd.fst) && (decide (a.snd.snd.fst=b.snd.snd.fst) && (decide (a.snd.snd.snd.fst=b.snd.snd.snd.fst) && (decide (a.snd.snd.snd.snd.fst=b.snd.snd.snd.snd.fst) && (decide (a.snd.snd.snd.snd.snd.fst=b.snd.snd.snd.snd.snd.fst) && (decide (a.snd.snd.snd.snd.snd.snd.fst=b.snd.snd.snd.snd.snd.snd.fst) && (decide (a.snd.snd.snd.snd.snd.snd.snd.fst=b.snd.snd.snd.snd.snd.snd.snd.fst) && (decide (a.snd.snd.snd.snd.snd.snd.snd.snd.fst=b.snd.snd.snd.snd.snd.snd.snd.snd.fst) && (decide (a.snd.snd.snd.snd.snd.snd.snd.snd.snd.fst=b.snd.snd.snd.snd.snd.snd.snd.snd.snd.fst) && true))))))))))=dec' (a=b):=by
 by_cases h:a=b
 ·rw[bK h,h];simp
 ·rw[dA h,Bool.eq_false_iff];intro h2;apply h;obtain⟨a1,a2,a3,a4,a5,a6,a7,a8,a9,a10,⟨⟩⟩:=a;obtain⟨b1,b2,b3,b4,b5,b6,b7,b8,b9,b10,⟨⟩⟩:=b;simp only[Bool.and_eq_true,decide_eq_true_eq,and_true] at h2;simp only[Prod.mk.injEq];grind
theorem za6 (a b:TMD) (ha:ShT a):FZ (a,b,())=some (dec' (a=b),()):=by
 obtain⟨h1,h2,h3,h4,h5,h6⟩:=ha;obtain⟨a1,a2,a3,⟨j1,j2,j3,⟨⟩⟩,a5,a6,a7,a8,a9,a10,a11,a12,a13,a14,a15,a16,a17,⟨⟩⟩:=a;obtain⟨b1,b2,b3,⟨k1,k2,k3,⟨⟩⟩,b5,b6,b7,b8,b9,b10,b11,b12,b13,b14,b15,b16,b17,⟨⟩⟩:=b;unfold FZ;simp only[IP a3 b3 h1,CU j3 k3 h2,G6 a12 b12 h3,XR a13 b13 h4,BB a14 b14 h5,zaf a16 b16 h6,QF a17 b17,yS,Option.bind_some];apply fin
 ·repeat' first|apply bV|apply bP|apply bW|apply bU
 ·simp only[Prod.mk.injEq];grind
theorem ZM (a b:TMD) (ha:ShT a):FY (a,b,())=some (dec' (a=b),()):=by
 obtain⟨h1,h2,h3,h4,h5,h6⟩:=ha;obtain⟨a1,a2,a3,⟨j1,j2,j3,⟨⟩⟩,a5,a6,a7,a8,a9,a10,a11,a12,a13,a14,a15,a16,a17,⟨⟩⟩:=a;obtain⟨b1,b2,b3,⟨k1,k2,k3,⟨⟩⟩,b5,b6,b7,b8,b9,b10,b11,b12,b13,b14,b15,b16,b17,⟨⟩⟩:=b;unfold FY;simp only[X4 a3 b3 h1,ZP j3 k3 h2,GI a12 b12 h3,Xw a13 b13 h4,xY a14 b14 h5,OT a16 b16 h6,QF a17 b17,yS,Option.bind_some];apply fin
 ·repeat' first|apply bV|apply bP|apply bW|apply bU
 ·simp only[Prod.mk.injEq];grind
end Go.Proofs.YtlegpimppfabgaaGreat
