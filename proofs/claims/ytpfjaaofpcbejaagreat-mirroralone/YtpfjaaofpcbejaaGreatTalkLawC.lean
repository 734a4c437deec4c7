/-
 Plain laws of what lies below,as this seat reaches them (by a program of the bench: port.py).
-/
import Derived.Test.YtpfjaaofpcbejaaGreatTalkLawB
import Derived.Test.YtpfjaaofpcbejaaGreatSxS
namespace Go.Proofs.YtpfjaaofpcbejaaGreat
open Go.Sx Go Classical
set_option maxRecDepth 10000
def Kind1 (k rid:Int) (raft:Msg) (job:T33D) (cl:Int) (fr en:List UInt8) (rev most err hint:Int) (rep:T51D) (bat:List TBD) (its:List T70D) (hand:T55D) (mov:T53D):Prop:=
 (k=1∧mayM raft=true)∨(k=2∧Pos40 rid∧JobOk job)∨
 (k=3∧Pos40 rid∧0≤cl∧cl≤31∧IsRange fr en∧Nat40 rev∧0≤most∧most≤8)∨
 (k=4∧Pos40 rid∧0≤cl∧cl≤31∧IsRange fr en∧Pos40 rev)∨
 (k=5∧Pos40 rid∧IsPre fr∧(en=[]∨IsKey en)∧Pos40 rev)∨
 (k=6∧Pos40 rid∧Pos40 rev)∨(k=7∧Pos40 rid)∨
 (k=8∧Pos40 rid∧0≤err∧err≤15∧ -1≤hint∧hint≤2∧ReplyOk rep)∨
 (k=9∧Pos40 rid∧0≤err∧err≤15∧0≤rev∧rev≤1099511627777∧BatchesOk bat)∨
 (k=10∧Pos40 rid∧0≤err∧err≤15∧ItemsOk its 8)∨
 (k=11∧Pos40 rid∧0≤err∧err≤15∧(hand=NoHand∨HandOk hand))∨
 (k=12∧Pos40 rid∧Nat40 rev∧MoveOk mov)
def KindT (m:TMD):Prop:=Kind1 m.1 m.2.1 m.2.2.1 m.2.2.2.1 m.2.2.2.2.1 m.2.2.2.2.2.1 m.2.2.2.2.2.2.1 m.2.2.2.2.2.2.2.1 m.2.2.2.2.2.2.2.2.1 m.2.2.2.2.2.2.2.2.2.1 m.2.2.2.2.2.2.2.2.2.2.1 m.2.2.2.2.2.2.2.2.2.2.2.1 m.2.2.2.2.2.2.2.2.2.2.2.2.1 m.2.2.2.2.2.2.2.2.2.2.2.2.2.1 m.2.2.2.2.2.2.2.2.2.2.2.2.2.2.2.1 m.2.2.2.2.2.2.2.2.2.2.2.2.2.2.2.2.1
def RightT (m:TMD):Prop:=(1≤m.1∧m.1≤12)∧keepT m=m∧KindT m
theorem keep_client (m:TMD) (hk:1≤m.1∧m.1≤12) (h:keepT m=m) (h3:m.1≠3) (h4:m.1≠4):m.2.2.2.2.1=0:=by
 obtain⟨k,r⟩:=m
 rcases kinds12 hk.1 hk.2 with e | e | e | e | e | e | e | e | e | e | e | e <;> (dsimp only at e;subst e)
 all_goals first | exact absurd rfl h3 | exact absurd rfl h4 | exact (congrArg (fun m:TMD=>m.2.2.2.2.1) h).symm
theorem keep_err (m:TMD) (hk:1≤m.1∧m.1≤12) (h:keepT m=m) (h8:m.1 < 8∨m.1=12):m.2.2.2.2.2.2.2.2.2.1=0:=by
 obtain⟨k,r⟩:=m
 rcases kinds12 hk.1 hk.2 with e | e | e | e | e | e | e | e | e | e | e | e <;> (dsimp only at e;subst e)
 all_goals first | exact (congrArg (fun m:TMD=>m.2.2.2.2.2.2.2.2.2.1) h).symm | (exfalso;dsimp only at h8;omega)
theorem tright_eq (m:TMD) (hm:ShT m):F48 (m,())=some (dec' (RightT m),()):=by
 by_cases hk:1≤m.1∧m.1≤12
 ·have hE:=keep_err m hk
  have hS:=msg_same (keepT m) m (keepT_sh hm)
  have hK:=keepT_eq m hk
  obtain⟨h1,h2,h3,h4,h5,h6⟩:=hm
  unfold RightT KindT
  obtain⟨p,hp⟩:∃ p:Prop,p=(keepT m=m):=⟨_,rfl⟩
  rw [←hp] at hS hE ⊢
  generalize keepT m=z at hS hK
  clear hp
  obtain⟨k,rid,raft,job,cl,fr,en,rev,most,err,hint,rep,bat,its,done,hand,mov,⟨⟩⟩:=m
  have e1:F66 (raft,())=some (mayM raft,()):=(mayM_eq raft h1).1
  have e2:=job_eq job h2
  have e3:=reply_eq rep h3
  have e4:=tbatches_eq bat h4
  have e5:=titems_eq its 8 h5
  have e6:=hand_eq hand h6
  have n1:decide (k < 1)=false:=decide_eq_false (by have:=hk.1;dsimp only at this;omega)
  have n2:decide (12 < k)=false:=decide_eq_false (by have:=hk.2;dsimp only at this;omega)
  dsimp only at hk hE
  unfold F48 F68 F69
  simp only [n1,n2,hK,hS,cond_false,e1,e2,e3,e4,e5,e6,twithin_eq,range_eq,pre_eq,key_eq,noHand_eq,move_eq,Option.bind_some]
  clear hS hK e1 e2 e3 e4 e5 e6 n1 n2
  rcases kinds12 hk.1 hk.2 with e | e | e | e | e | e | e | e | e | e | e | e
  all_goals
   subst e
   simp only [Int.reduceEq,Int.reduceLT,Int.reduceLE,decide_true,decide_false,cond_true,cond_false,bindSome]
   apply fin
   ·repeat' first | apply base_true | apply base_false | apply base_dec | apply base_b | apply cond_step | apply cond_stepN | apply cond_stepB
   ·simp only [Kind1,Pos40,Nat40,Int.reduceEq,Int.reduceNeg,false_and,true_and,false_or,or_false,or_self]
    try grind
 ·have:¬ RightT m:=fun h=>hk h.1
  rw [dec_false this]
  unfold F48
  by_cases n1:m.1 < 1
  ·rw [decide_eq_true n1];rfl
  ·have n2:12 < m.1:=by omega
   rw [decide_eq_false n1,decide_eq_true n2];rfl
def SzT (m:TMD):Prop:=ShT m∧SzCmd m.2.2.2.1.2.2.1∧St m.2.2.2.2.2.1∧St m.2.2.2.2.2.2.1∧SzReply m.2.2.2.2.2.2.2.2.2.2.2.1∧(∀ b∈m.2.2.2.2.2.2.2.2.2.2.2.2.1,SzItems b.2.1)∧SzItems m.2.2.2.2.2.2.2.2.2.2.2.2.2.1∧SzHand m.2.2.2.2.2.2.2.2.2.2.2.2.2.2.2.1∧SzMove m.2.2.2.2.2.2.2.2.2.2.2.2.2.2.2.2.1
theorem rTright_eq (m:TMD) (hz:SzT m):F53 (m,())=some (dec' (RightT m),()):=by
 obtain⟨hm,z1,z2,z3,z4,z5,z6,z7,z8⟩:=hz
 by_cases hk:1≤m.1∧m.1≤12
 ·have hE:=keep_err m hk
  have hC:=keep_client m hk
  have hS:=rMsg_same (keepT m) m (keepT_sh hm)
  have hK:=bareT_eq m hk
  obtain⟨h1,h2,h3,h4,h5,h6⟩:=hm
  unfold RightT KindT
  obtain⟨p,hp⟩:∃ p:Prop,p=(keepT m=m):=⟨_,rfl⟩
  rw [←hp] at hS hE hC ⊢
  generalize keepT m=z at hS hK
  clear hp
  obtain⟨k,rid,raft,job,cl,fr,en,rev,most,err,hint,rep,bat,its,done,hand,mov,⟨⟩⟩:=m
  have e1:F79 (raft,())=some (mayM raft,()):=(mayM_eq raft h1).2
  have e2:=rJob_eq job z1
  have e3:=rReply_eq rep z4
  have e4:=rTbatches_eq bat h4.1 z5
  have e5:=rTItems_eq its 8 z6
  have e6:=rHand_eq hand z7
  have e7:=rNone_eq hand h6
  have e8:=rMove_eq mov z8
  have e9:=refRange_eq fr en z2 z3
  have e10:=rPre_eq fr z2
  have e11:=refKey_eq en z3
  have n1:decide (k < 1)=false:=decide_eq_false (by have:=hk.1;dsimp only at this;omega)
  have n2:decide (12 < k)=false:=decide_eq_false (by have:=hk.2;dsimp only at this;omega)
  dsimp only at hk hE hC
  unfold F53
  simp only [n1,n2,hK,hS,cond_false,e1,e2,e3,e4,e5,e6,e7,e8,e9,e10,e11,rTwithin_eq,Option.bind_some]
  clear hS hK e1 e2 e3 e4 e5 e6 e7 e8 e9 e10 e11 n1 n2
  rcases kinds12 hk.1 hk.2 with e | e | e | e | e | e | e | e | e | e | e | e
  all_goals
   subst e
   simp only [Int.reduceEq,Int.reduceLE,decide_true,decide_false,cond_true,cond_false]
   apply fin
   ·repeat' first | apply base_true | apply base_false | apply base_dec | apply base_b | apply cond_step | apply cond_stepN | apply cond_stepB
   ·simp only [Kind1,Pos40,Nat40,Int.reduceEq,Int.reduceNeg,false_and,true_and,false_or,or_false,or_self]
    try grind
 ·have:¬ RightT m:=fun h=>hk h.1
  rw [dec_false this]
  unfold F53
  by_cases n1:m.1 < 1
  ·rw [decide_eq_true n1];rfl
  ·have n2:12 < m.1:=by omega
   rw [decide_eq_false n1,decide_eq_true n2];rfl
end Go.Proofs.YtpfjaaofpcbejaaGreat
