/-
 Plain laws of what lies below,as this seat reaches them (by a program of the bench: port.py).
-/
import Derived.Test.YtlegpimppfabgaaGreatRmsgLawE
import Derived.Test.YtlegpimppfabgaaGreatSxS
namespace Go.Proofs.YtlegpimppfabgaaGreat
open Go.Sx Go Classical
set_option maxRecDepth 10000
def ShB (l:List TBD):Prop:=Sh l∧∀ b∈l,Sh b.2.1
def ShT (m:TMD):Prop:=Sh m.2.2.1.2.2.2.2.2.2.2.2.2.1∧ShC m.2.2.2.1.2.2.1∧Sh m.2.2.2.2.2.2.2.2.2.2.2.1.2.2.2.2.1∧ShB m.2.2.2.2.2.2.2.2.2.2.2.2.1∧Sh m.2.2.2.2.2.2.2.2.2.2.2.2.2.1∧ShH m.2.2.2.2.2.2.2.2.2.2.2.2.2.2.2.1
theorem I5 (a b:TBD) (ha:Sh a.2.1):xX (a,b,())=some (dec' (a=b),()):=by
 obtain⟨a1,a2,⟨⟩⟩:=a
 obtain⟨b1,b2,⟨⟩⟩:=b
 unfold xX
 simp only [BX a2 b2 ha,Option.bind_some]
 apply fin
 ·repeat' first | apply dE | apply dC | apply dF | apply dD
 ·simp only [Prod.mk.injEq];grind
theorem XR (a b:List TBD) (ha:ShB a):xu (a,b,())=some (dec' (a=b),()):=by
 unfold xu
 refine sF a b ha.1 (fun i v hi hv hw=> ?_) (fun i v w hi hv hw hne=> ?_) (by simp)
 ·have hi':i < 9223372036854775807:=by have:=ha.1;unfold Sh at this;omega
  simp only [aO,hi,decide_true,cond_true,aZ,hv,hw,Option.bind_some,bY hi',I5 v v (ha.2 v (List.mem_of_getElem? hv)),dV,Bool.not_true,cond_false]
 ·simp only [aO,hi,decide_true,cond_true,aZ,hv,hw,Option.bind_some,I5 v w (ha.2 v (List.mem_of_getElem? hv)),dU hne,Bool.not_false]
theorem X6 (a b:List TBD) (ha:ShB a):yC (a,b,())=some (dec' (a=b),()):=by
 unfold yC
 exact aS (XR a b ha) rfl
theorem zbA (a b:iV) (ha:ShH a):yB (a,b,())=some (dec' (a=b),()):=by
 obtain⟨h1,h2⟩:=ha
 obtain⟨a1,a2,a3,a4,⟨⟩⟩:=a
 obtain⟨b1,b2,b3,b4,⟨⟩⟩:=b
 have z:∀ {α:Type},Sh ([]:List α):=fun {_}=>by simp [Sh]
 have hc:=Ei (0,[],[],[],0,0,0,[],[],[],0,0,0,false,[],a3,a4,()) (0,[],[],[],0,0,0,[],[],[],0,0,0,false,[],b3,b4,()) ⟨z,z,z,z,h1,h2⟩
 unfold yB
 simp only [hc,Option.bind_some]
 apply fin
 ·repeat' first | apply dE | apply dC | apply dF | apply dD
 ·simp only [Prod.mk.injEq];grind
theorem zc0 (a b:bg):(decide (a.fst=b.fst) && (decide (a.snd.fst=b.snd.fst) && (decide (a.snd.snd.fst=b.snd.snd.fst) && (decide (a.snd.snd.snd.fst=b.snd.snd.snd.fst) && (decide (a.snd.snd.snd.snd.fst=b.snd.snd.snd.snd.fst) && (decide (a.snd.snd.snd.snd.snd.fst=b.snd.snd.snd.snd.snd.fst) && (decide (a.snd.snd.snd.snd.snd.snd.fst=b.snd.snd.snd.snd.snd.snd.fst) && (decide (a.snd.snd.snd.snd.snd.snd.snd.fst=b.snd.snd.snd.snd.snd.snd.snd.fst) && (decide (a.snd.snd.snd.snd.snd.snd.snd.snd.fst=b.snd.snd.snd.snd.snd.snd.snd.snd.fst) && (decide (a.snd.snd.snd.snd.snd.snd.snd.snd.snd.fst=b.snd.snd.snd.snd.snd.snd.snd.snd.snd.fst) && true))))))))))=dec' (a=b):=by
 by_cases h:a=b
 ·rw [dV h,h];simp
 ·rw [dU h,Bool.eq_false_iff]
  intro h2
  apply h
  obtain⟨a1,a2,a3,a4,a5,a6,a7,a8,a9,a10,⟨⟩⟩:=a
  obtain⟨b1,b2,b3,b4,b5,b6,b7,b8,b9,b10,⟨⟩⟩:=b
  simp only [Bool.and_eq_true,decide_eq_true_eq,and_true] at h2
  simp only [Prod.mk.injEq];grind
theorem zcZ (a b:TMD) (ha:ShT a):yG (a,b,())=some (dec' (a=b),()):=by
 obtain⟨h1,h2,h3,h4,h5,h6⟩:=ha
 obtain⟨a1,a2,a3,⟨j1,j2,j3,⟨⟩⟩,a5,a6,a7,a8,a9,a10,a11,a12,a13,a14,a15,a16,a17,⟨⟩⟩:=a
 obtain⟨b1,b2,b3,⟨k1,k2,k3,⟨⟩⟩,b5,b6,b7,b8,b9,b10,b11,b12,b13,b14,b15,b16,b17,⟨⟩⟩:=b
 unfold yG
 simp only [KO a3 b3 h1,Ei j3 k3 h2,Jl a12 b12 h3,X6 a13 b13 h4,BX a14 b14 h5,zbA a16 b16 h6,zc0 a17 b17,zL,Option.bind_some]
 apply fin
 ·repeat' first | apply dE | apply dC | apply dF | apply dD
 ·simp only [Prod.mk.injEq];grind
end Go.Proofs.YtlegpimppfabgaaGreat
