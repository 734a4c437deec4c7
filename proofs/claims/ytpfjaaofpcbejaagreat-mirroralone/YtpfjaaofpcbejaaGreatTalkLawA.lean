/-
 Plain laws of what lies below,as this seat reaches them (by a program of the bench: port.py).
-/
import Derived.Test.YtpfjaaofpcbejaaGreatRmsgLawE
import Derived.Test.YtpfjaaofpcbejaaGreatSxS
namespace Go.Proofs.YtpfjaaofpcbejaaGreat
open Go.Sx Go Classical
set_option maxRecDepth 10000
def ShB (l:List TBD):Prop:=Sh l∧∀ b∈l,Sh b.2.1
def ShT (m:TMD):Prop:=Sh m.2.2.1.2.2.2.2.2.2.2.2.2.1∧ShC m.2.2.2.1.2.2.1∧Sh m.2.2.2.2.2.2.2.2.2.2.2.1.2.2.2.2.1∧ShB m.2.2.2.2.2.2.2.2.2.2.2.2.1∧Sh m.2.2.2.2.2.2.2.2.2.2.2.2.2.1∧ShH m.2.2.2.2.2.2.2.2.2.2.2.2.2.2.2.1
theorem zgX (a b:TBD) (ha:Sh a.2.1):F140 (a,b,())=some (dec' (a=b),()):=by
 obtain⟨a1,a2,⟨⟩⟩:=a
 obtain⟨b1,b2,⟨⟩⟩:=b
 unfold F140
 simp only [zcS a2 b2 ha,Option.bind_some]
 apply fin
 ·repeat' first | apply zaw | apply zam | apply zaB | apply zav
 ·simp only [Prod.mk.injEq];grind
theorem ziG (a b:List TBD) (ha:ShB a):zq6 (a,b,())=some (dec' (a=b),()):=by
 unfold zq6
 refine zd1 a b ha.1 (fun i v hi hv hw=> ?_) (fun i v w hi hv hw hne=> ?_) (by simp)
 ·have hi':i < 9223372036854775807:=by have:=ha.1;unfold Sh at this;omega
  simp only [zao,hi,decide_true,cond_true,zan,hv,hw,Option.bind_some,zak hi',zgX v v (ha.2 v (List.mem_of_getElem? hv)),zaN,Bool.not_true,cond_false]
 ·simp only [zao,hi,decide_true,cond_true,zan,hv,hw,Option.bind_some,zgX v w (ha.2 v (List.mem_of_getElem? hv)),zaE hne,Bool.not_false]
theorem zjY (a b:List TBD) (ha:ShB a):F94 (a,b,())=some (dec' (a=b),()):=by
 unfold F94
 exact zar (ziG a b ha) rfl
theorem zid (a b:List TBD) (ha:ShB a):F118 (a,b,())=some (dec' (a=b),()):=by
 unfold F118
 refine zd1 a b ha.1 (fun i v hi hv hw=> ?_) (fun i v w hi hv hw hne=> ?_) (by simp)
 ·have hi':i < 9223372036854775807:=by have:=ha.1;unfold Sh at this;omega
  have hr:F119 (v.2.1,v.2)=_:=zcy v.2.1 v.2.1 (ha.2 v (List.mem_of_getElem? hv))
  simp only [zao,hi,decide_true,cond_true,zan,hv,hw,Option.bind_some,zak hi',hr,zaN,Bool.not_true,cond_false]
 ·have hr:F119 (v.2.1,w.2)=_:=zcy v.2.1 w.2.1 (ha.2 v (List.mem_of_getElem? hv))
  simp only [zao,hi,decide_true,cond_true,zan,hv,hw,Option.bind_some,hr]
  by_cases h1:v.1=w.1
  ·have h3:¬ v.2.1=w.2.1:=by intro h3;apply hne;grind
   simp [h1,zaE h3]
  ·simp [h1]
theorem zqb (a b:T55D) (ha:ShH a):F96 (a,b,())=some (dec' (a=b),()):=by
 obtain⟨h1,h2⟩:=ha
 obtain⟨a1,a2,a3,a4,⟨⟩⟩:=a
 obtain⟨b1,b2,b3,b4,⟨⟩⟩:=b
 have z:∀ {α:Type},Sh ([]:List α):=fun {_}=>by simp [Sh]
 have hc:=zfX (0,[],[],[],0,0,0,[],[],[],0,0,0,false,[],a3,a4,()) (0,[],[],[],0,0,0,[],[],[],0,0,0,false,[],b3,b4,()) ⟨z,z,z,z,h1,h2⟩
 unfold F96
 simp only [hc,Option.bind_some]
 apply fin
 ·repeat' first | apply zaw | apply zam | apply zaB | apply zav
 ·simp only [Prod.mk.injEq];grind
theorem zlx (a b:T53D):(decide (a.fst=b.fst) && (decide (a.snd.fst=b.snd.fst) && (decide (a.snd.snd.fst=b.snd.snd.fst) && (decide (a.snd.snd.snd.fst=b.snd.snd.snd.fst) && (decide (a.snd.snd.snd.snd.fst=b.snd.snd.snd.snd.fst) && (decide (a.snd.snd.snd.snd.snd.fst=b.snd.snd.snd.snd.snd.fst) && (decide (a.snd.snd.snd.snd.snd.snd.fst=b.snd.snd.snd.snd.snd.snd.fst) && (decide (a.snd.snd.snd.snd.snd.snd.snd.fst=b.snd.snd.snd.snd.snd.snd.snd.fst) && (decide (a.snd.snd.snd.snd.snd.snd.snd.snd.fst=b.snd.snd.snd.snd.snd.snd.snd.snd.fst) && (decide (a.snd.snd.snd.snd.snd.snd.snd.snd.snd.fst=b.snd.snd.snd.snd.snd.snd.snd.snd.snd.fst) && true))))))))))=dec' (a=b):=by
 by_cases h:a=b
 ·rw [zaN h,h];simp
 ·rw [zaE h,Bool.eq_false_iff]
  intro h2
  apply h
  obtain⟨a1,a2,a3,a4,a5,a6,a7,a8,a9,a10,⟨⟩⟩:=a
  obtain⟨b1,b2,b3,b4,b5,b6,b7,b8,b9,b10,⟨⟩⟩:=b
  simp only [Bool.and_eq_true,decide_eq_true_eq,and_true] at h2
  simp only [Prod.mk.injEq];grind
theorem ztg (a b:TMD) (ha:ShT a):F64 (a,b,())=some (dec' (a=b),()):=by
 obtain⟨h1,h2,h3,h4,h5,h6⟩:=ha
 obtain⟨a1,a2,a3,⟨j1,j2,j3,⟨⟩⟩,a5,a6,a7,a8,a9,a10,a11,a12,a13,a14,a15,a16,a17,⟨⟩⟩:=a
 obtain⟨b1,b2,b3,⟨k1,k2,k3,⟨⟩⟩,b5,b6,b7,b8,b9,b10,b11,b12,b13,b14,b15,b16,b17,⟨⟩⟩:=b
 unfold F64
 simp only [zh9 a3 b3 h1,zfX j3 k3 h2,zfc a12 b12 h3,zjY a13 b13 h4,zcS a14 b14 h5,zqb a16 b16 h6,zlx a17 b17,zgV,Option.bind_some]
 apply fin
 ·repeat' first | apply zaw | apply zam | apply zaB | apply zav
 ·simp only [Prod.mk.injEq];grind
theorem zpr (a b:TMD) (ha:ShT a):F77 (a,b,())=some (dec' (a=b),()):=by
 obtain⟨h1,h2,h3,h4,h5,h6⟩:=ha
 obtain⟨a1,a2,a3,⟨j1,j2,j3,⟨⟩⟩,a5,a6,a7,a8,a9,a10,a11,a12,a13,a14,a15,a16,a17,⟨⟩⟩:=a
 obtain⟨b1,b2,b3,⟨k1,k2,k3,⟨⟩⟩,b5,b6,b7,b8,b9,b10,b11,b12,b13,b14,b15,b16,b17,⟨⟩⟩:=b
 unfold F77
 simp only [zks a3 b3 h1,zpu j3 k3 h2,zer a12 b12 h3,zid a13 b13 h4,zcy a14 b14 h5,zhG a16 b16 h6,zlx a17 b17,zgV,Option.bind_some]
 apply fin
 ·repeat' first | apply zaw | apply zam | apply zaB | apply zav
 ·simp only [Prod.mk.injEq];grind
end Go.Proofs.YtpfjaaofpcbejaaGreat
