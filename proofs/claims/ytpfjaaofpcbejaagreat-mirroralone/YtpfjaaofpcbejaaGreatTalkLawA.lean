/-
 Plain laws of what lies below,as this seat reaches them (by a program of the bench: port.py).
-/
import Derived.Test.YtpfjaaofpcbejaaGreatRmsgLawE
import Derived.Test.YtpfjaaofpcbejaaGreatSxS
namespace Go.Proofs.YtpfjaaofpcbejaaGreat
open Go.Sx Go Classical
set_option maxRecDepth 10000
def ShB (l:List TBD):Prop:=Sh l∧∀ b∈l,Sh b.2.1
def ShT (m:TMD):Prop:=Sh m.2.2.1.2.2.2.2.2.2.2.2.2.1∧ShC m.2.2.2.1.2.2.1∧Sh m.2.2.2.2.2.2.2.2.2.2.2.1.2.2.2.2.1∧ShB m.2.2.2.2.2.2.2.2.2.2.2.2.1∧Sh m.2.2.2.2.2.2.2.2.2.2.2.2.2.1∧ShH m.2.2.2.2.2.2.2.2.2.2.2.2.2.2.2.1
theorem Ky (a b:TBD) (ha:Sh a.2.1):zY (a,b,())=some (dec' (a=b),()):=by
 obtain⟨a1,a2,⟨⟩⟩:=a
 obtain⟨b1,b2,⟨⟩⟩:=b
 unfold zY
 simp only [AO a2 b2 ha,Option.bind_some]
 apply fin
 ·repeat' first | apply bZ | apply bU | apply cu | apply bY
 ·simp only [Prod.mk.injEq];grind
theorem zaw (a b:List TBD) (ha:ShB a):yT (a,b,())=some (dec' (a=b),()):=by
 unfold yT
 refine pW a b ha.1 (fun i v hi hv hw=> ?_) (fun i v w hi hv hw hne=> ?_) (by simp)
 ·have hi':i < 9223372036854775807:=by have:=ha.1;unfold Sh at this;omega
  simp only [aI,hi,decide_true,cond_true,aS,hv,hw,Option.bind_some,bF hi',Ky v v (ha.2 v (List.mem_of_getElem? hv)),dL,Bool.not_true,cond_false]
 ·simp only [aI,hi,decide_true,cond_true,aS,hv,hw,Option.bind_some,Ky v w (ha.2 v (List.mem_of_getElem? hv)),dK hne,Bool.not_false]
theorem zaK (a b:List TBD) (ha:ShB a):F94 (a,b,())=some (dec' (a=b),()):=by
 unfold F94
 exact aU (zaw a b ha) rfl
theorem zaq (a b:List TBD) (ha:ShB a):Ag (a,b,())=some (dec' (a=b),()):=by
 unfold Ag
 refine pW a b ha.1 (fun i v hi hv hw=> ?_) (fun i v w hi hv hw hne=> ?_) (by simp)
 ·have hi':i < 9223372036854775807:=by have:=ha.1;unfold Sh at this;omega
  have hr:pF (v.2.1,v.2)=_:=xg v.2.1 v.2.1 (ha.2 v (List.mem_of_getElem? hv))
  simp only [aI,hi,decide_true,cond_true,aS,hv,hw,Option.bind_some,bF hi',hr,dL,Bool.not_true,cond_false]
 ·have hr:pF (v.2.1,w.2)=_:=xg v.2.1 w.2.1 (ha.2 v (List.mem_of_getElem? hv))
  simp only [aI,hi,decide_true,cond_true,aS,hv,hw,Option.bind_some,hr]
  by_cases h1:v.1=w.1
  ·have h3:¬ v.2.1=w.2.1:=by intro h3;apply hne;grind
   simp [h1,dK h3]
  ·simp [h1]
theorem zex (a b:dO) (ha:ShH a):F96 (a,b,())=some (dec' (a=b),()):=by
 obtain⟨h1,h2⟩:=ha
 obtain⟨a1,a2,a3,a4,⟨⟩⟩:=a
 obtain⟨b1,b2,b3,b4,⟨⟩⟩:=b
 have z:∀ {α:Type},Sh ([]:List α):=fun {_}=>by simp [Sh]
 have hc:=BL (0,[],[],[],0,0,0,[],[],[],0,0,0,false,[],a3,a4,()) (0,[],[],[],0,0,0,[],[],[],0,0,0,false,[],b3,b4,()) ⟨z,z,z,z,h1,h2⟩
 unfold F96
 simp only [hc,Option.bind_some]
 apply fin
 ·repeat' first | apply bZ | apply bU | apply cu | apply bY
 ·simp only [Prod.mk.injEq];grind
theorem NG (a b:aH):(decide (a.fst=b.fst) && (decide (a.snd.fst=b.snd.fst) && (decide (a.snd.snd.fst=b.snd.snd.fst) && (decide (a.snd.snd.snd.fst=b.snd.snd.snd.fst) && (decide (a.snd.snd.snd.snd.fst=b.snd.snd.snd.snd.fst) && (decide (a.snd.snd.snd.snd.snd.fst=b.snd.snd.snd.snd.snd.fst) && (decide (a.snd.snd.snd.snd.snd.snd.fst=b.snd.snd.snd.snd.snd.snd.fst) && (decide (a.snd.snd.snd.snd.snd.snd.snd.fst=b.snd.snd.snd.snd.snd.snd.snd.fst) && (decide (a.snd.snd.snd.snd.snd.snd.snd.snd.fst=b.snd.snd.snd.snd.snd.snd.snd.snd.fst) && (decide (a.snd.snd.snd.snd.snd.snd.snd.snd.snd.fst=b.snd.snd.snd.snd.snd.snd.snd.snd.snd.fst) && true))))))))))=dec' (a=b):=by
 by_cases h:a=b
 ·rw [dL h,h];simp
 ·rw [dK h,Bool.eq_false_iff]
  intro h2
  apply h
  obtain⟨a1,a2,a3,a4,a5,a6,a7,a8,a9,a10,⟨⟩⟩:=a
  obtain⟨b1,b2,b3,b4,b5,b6,b7,b8,b9,b10,⟨⟩⟩:=b
  simp only [Bool.and_eq_true,decide_eq_true_eq,and_true] at h2
  simp only [Prod.mk.injEq];grind
theorem zgK (a b:TMD) (ha:ShT a):F64 (a,b,())=some (dec' (a=b),()):=by
 obtain⟨h1,h2,h3,h4,h5,h6⟩:=ha
 obtain⟨a1,a2,a3,⟨j1,j2,j3,⟨⟩⟩,a5,a6,a7,a8,a9,a10,a11,a12,a13,a14,a15,a16,a17,⟨⟩⟩:=a
 obtain⟨b1,b2,b3,⟨k1,k2,k3,⟨⟩⟩,b5,b6,b7,b8,b9,b10,b11,b12,b13,b14,b15,b16,b17,⟨⟩⟩:=b
 unfold F64
 simp only [FY a3 b3 h1,BL j3 k3 h2,EI a12 b12 h3,zaK a13 b13 h4,AO a14 b14 h5,zex a16 b16 h6,NG a17 b17,xY,Option.bind_some]
 apply fin
 ·repeat' first | apply bZ | apply bU | apply cu | apply bY
 ·simp only [Prod.mk.injEq];grind
theorem zd7 (a b:TMD) (ha:ShT a):F77 (a,b,())=some (dec' (a=b),()):=by
 obtain⟨h1,h2,h3,h4,h5,h6⟩:=ha
 obtain⟨a1,a2,a3,⟨j1,j2,j3,⟨⟩⟩,a5,a6,a7,a8,a9,a10,a11,a12,a13,a14,a15,a16,a17,⟨⟩⟩:=a
 obtain⟨b1,b2,b3,⟨k1,k2,k3,⟨⟩⟩,b5,b6,b7,b8,b9,b10,b11,b12,b13,b14,b15,b16,b17,⟨⟩⟩:=b
 unfold F77
 simp only [zaU a3 b3 h1,zea j3 k3 h2,Ey a12 b12 h3,zaq a13 b13 h4,xg a14 b14 h5,KU a16 b16 h6,NG a17 b17,xY,Option.bind_some]
 apply fin
 ·repeat' first | apply bZ | apply bU | apply cu | apply bY
 ·simp only [Prod.mk.injEq];grind
end Go.Proofs.YtpfjaaofpcbejaaGreat
