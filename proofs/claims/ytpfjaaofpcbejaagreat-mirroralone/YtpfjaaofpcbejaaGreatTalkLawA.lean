/-
 Plain laws of what lies below,as this seat reaches them (by a program of the bench: port.py).
-/
import Derived.Test.YtpfjaaofpcbejaaGreatRmsgLawE
import Derived.Test.YtpfjaaofpcbejaaGreatSxS
namespace Go.Proofs.YtpfjaaofpcbejaaGreat
open Go.Sx Go Classical
set_option maxRecDepth 10000
def ShB (l:List TBD):Prop:=Sh l∧∀ b∈l,Sh b.2.1
def ShT (m:TMD):Prop:=Sh m.2.2.1.2.2.2.2.2.2.2.2.2.1∧ShC m.2.2.2.1.2.2.1∧Sh m.2.2.2.2.2.2.2.2.2.2.2.1.2.2.2.2.1∧ShB m.2.2.2.2.2.2.2.2.2.2.2.2.1∧Sh m.2.2.2.2.2.2.2.2.2.2.2.2.2.1∧ShH m.2.2.2.2.2.2.2.2.2.2.2.2.2.2.2.1
theorem batch1_same (a b:TBD) (ha:Sh a.2.1):F140 (a,b,())=some (dec' (a=b),()):=by
 obtain⟨a1,a2,⟨⟩⟩:=a
 obtain⟨b1,b2,⟨⟩⟩:=b
 unfold F140
 simp only [eqItems_same a2 b2 ha,Option.bind_some]
 apply fin
 ·repeat' first | apply base_true | apply base_false | apply base_dec | apply cond_step
 ·simp only [Prod.mk.injEq];grind
theorem batchesF_same (a b:List TBD) (ha:ShB a):F139a (a,b,())=some (dec' (a=b),()):=by
 unfold F139a
 refine eq_loop a b ha.1 (fun i v hi hv hw=> ?_) (fun i v w hi hv hw hne=> ?_) (by simp)
 ·have hi':i < 9223372036854775807:=by have:=ha.1;unfold Sh at this;omega
  simp only [lt_len,hi,decide_true,cond_true,idx_nat,hv,hw,Option.bind_some,wrap64_nat hi',batch1_same v v (ha.2 v (List.mem_of_getElem? hv)),dec_true,Bool.not_true,cond_false]
 ·simp only [lt_len,hi,decide_true,cond_true,idx_nat,hv,hw,Option.bind_some,batch1_same v w (ha.2 v (List.mem_of_getElem? hv)),dec_false hne,Bool.not_false]
theorem batches_same (a b:List TBD) (ha:ShB a):F94 (a,b,())=some (dec' (a=b),()):=by
 unfold F94
 exact bind_of (batchesF_same a b ha) rfl
theorem rBatches_same (a b:List TBD) (ha:ShB a):F118 (a,b,())=some (dec' (a=b),()):=by
 unfold F118
 refine eq_loop a b ha.1 (fun i v hi hv hw=> ?_) (fun i v w hi hv hw hne=> ?_) (by simp)
 ·have hi':i < 9223372036854775807:=by have:=ha.1;unfold Sh at this;omega
  have hr:F119 (v.2.1,v.2)=_:=rItems_same v.2.1 v.2.1 (ha.2 v (List.mem_of_getElem? hv))
  simp only [lt_len,hi,decide_true,cond_true,idx_nat,hv,hw,Option.bind_some,wrap64_nat hi',hr,dec_true,Bool.not_true,cond_false]
 ·have hr:F119 (v.2.1,w.2)=_:=rItems_same v.2.1 w.2.1 (ha.2 v (List.mem_of_getElem? hv))
  simp only [lt_len,hi,decide_true,cond_true,idx_nat,hv,hw,Option.bind_some,hr]
  by_cases h1:v.1=w.1
  ·have h3:¬ v.2.1=w.2.1:=by intro h3;apply hne;grind
   simp [h1,dec_false h3]
  ·simp [h1]
theorem hand_same (a b:T55D) (ha:ShH a):F96 (a,b,())=some (dec' (a=b),()):=by
 obtain⟨h1,h2⟩:=ha
 obtain⟨a1,a2,a3,a4,⟨⟩⟩:=a
 obtain⟨b1,b2,b3,b4,⟨⟩⟩:=b
 have z:∀ {α:Type},Sh ([]:List α):=fun {_}=>by simp [Sh]
 have hc:=cmd_same (0,[],[],[],0,0,0,[],[],[],0,0,0,false,[],a3,a4,()) (0,[],[],[],0,0,0,[],[],[],0,0,0,false,[],b3,b4,()) ⟨z,z,z,z,h1,h2⟩
 unfold F96
 simp only [hc,Option.bind_some]
 apply fin
 ·repeat' first | apply base_true | apply base_false | apply base_dec | apply cond_step
 ·simp only [Prod.mk.injEq];grind
theorem move_beq (a b:T53D):(decide (a.fst=b.fst) && (decide (a.snd.fst=b.snd.fst) && (decide (a.snd.snd.fst=b.snd.snd.fst) && (decide (a.snd.snd.snd.fst=b.snd.snd.snd.fst) && (decide (a.snd.snd.snd.snd.fst=b.snd.snd.snd.snd.fst) && (decide (a.snd.snd.snd.snd.snd.fst=b.snd.snd.snd.snd.snd.fst) && (decide (a.snd.snd.snd.snd.snd.snd.fst=b.snd.snd.snd.snd.snd.snd.fst) && (decide (a.snd.snd.snd.snd.snd.snd.snd.fst=b.snd.snd.snd.snd.snd.snd.snd.fst) && (decide (a.snd.snd.snd.snd.snd.snd.snd.snd.fst=b.snd.snd.snd.snd.snd.snd.snd.snd.fst) && (decide (a.snd.snd.snd.snd.snd.snd.snd.snd.snd.fst=b.snd.snd.snd.snd.snd.snd.snd.snd.snd.fst) && true))))))))))=dec' (a=b):=by
 by_cases h:a=b
 ·rw [dec_true h,h];simp
 ·rw [dec_false h,Bool.eq_false_iff]
  intro h2
  apply h
  obtain⟨a1,a2,a3,a4,a5,a6,a7,a8,a9,a10,⟨⟩⟩:=a
  obtain⟨b1,b2,b3,b4,b5,b6,b7,b8,b9,b10,⟨⟩⟩:=b
  simp only [Bool.and_eq_true,decide_eq_true_eq,and_true] at h2
  simp only [Prod.mk.injEq];grind
theorem msg_same (a b:TMD) (ha:ShT a):F64 (a,b,())=some (dec' (a=b),()):=by
 obtain⟨h1,h2,h3,h4,h5,h6⟩:=ha
 obtain⟨a1,a2,a3,⟨j1,j2,j3,⟨⟩⟩,a5,a6,a7,a8,a9,a10,a11,a12,a13,a14,a15,a16,a17,⟨⟩⟩:=a
 obtain⟨b1,b2,b3,⟨k1,k2,k3,⟨⟩⟩,b5,b6,b7,b8,b9,b10,b11,b12,b13,b14,b15,b16,b17,⟨⟩⟩:=b
 unfold F64
 simp only [sameM_eq a3 b3 h1,cmd_same j3 k3 h2,reply_same a12 b12 h3,batches_same a13 b13 h4,eqItems_same a14 b14 h5,hand_same a16 b16 h6,move_beq a17 b17,beq_dec,Option.bind_some]
 apply fin
 ·repeat' first | apply base_true | apply base_false | apply base_dec | apply cond_step
 ·simp only [Prod.mk.injEq];grind
theorem rMsg_same (a b:TMD) (ha:ShT a):F77 (a,b,())=some (dec' (a=b),()):=by
 obtain⟨h1,h2,h3,h4,h5,h6⟩:=ha
 obtain⟨a1,a2,a3,⟨j1,j2,j3,⟨⟩⟩,a5,a6,a7,a8,a9,a10,a11,a12,a13,a14,a15,a16,a17,⟨⟩⟩:=a
 obtain⟨b1,b2,b3,⟨k1,k2,k3,⟨⟩⟩,b5,b6,b7,b8,b9,b10,b11,b12,b13,b14,b15,b16,b17,⟨⟩⟩:=b
 unfold F77
 simp only [refSameM_eq a3 b3 h1,rCmd_same j3 k3 h2,rReply_same a12 b12 h3,rBatches_same a13 b13 h4,rItems_same a14 b14 h5,rHand_same a16 b16 h6,move_beq a17 b17,beq_dec,Option.bind_some]
 apply fin
 ·repeat' first | apply base_true | apply base_false | apply base_dec | apply cond_step
 ·simp only [Prod.mk.injEq];grind
end Go.Proofs.YtpfjaaofpcbejaaGreat
