/-
 Plain laws of what lies below,as this seat reaches them (by a program of the bench: port.py).
-/
import Derived.Test.YtpfjaaofpcbejaaGreatTalkLawB
import Derived.Test.YtpfjaaofpcbejaaGreatSxS
namespace Go.Proofs.YtpfjaaofpcbejaaGreat
open Go.Sx Go Classical
set_option maxRecDepth 10000
def nJ (k rid:Int) (raft:Msg) (job:mi) (cl:Int) (fr en:List UInt8) (rev most err hint:Int) (rep:fM) (bat:List TBD) (its:List ae) (hand:dO) (mov:aH):Prop:=
 (k=1∧qB raft=true)∨(k=2∧bJ rid∧vF job)∨
 (k=3∧bJ rid∧0≤cl∧cl≤31∧jM fr en∧dF rev∧0≤most∧most≤8)∨
 (k=4∧bJ rid∧0≤cl∧cl≤31∧jM fr en∧bJ rev)∨
 (k=5∧bJ rid∧lV fr∧(en=[]∨IsKey en)∧bJ rev)∨
 (k=6∧bJ rid∧bJ rev)∨(k=7∧bJ rid)∨
 (k=8∧bJ rid∧0≤err∧err≤15∧ -1≤hint∧hint≤2∧lH rep)∨
 (k=9∧bJ rid∧0≤err∧err≤15∧0≤rev∧rev≤1099511627777∧ul bat)∨
 (k=10∧bJ rid∧0≤err∧err≤15∧oH its 8)∨
 (k=11∧bJ rid∧0≤err∧err≤15∧(hand=eQ∨uS hand))∨
 (k=12∧bJ rid∧dF rev∧yB mov)
def yL (m:TMD):Prop:=nJ m.1 m.2.1 m.2.2.1 m.2.2.2.1 m.2.2.2.2.1 m.2.2.2.2.2.1 m.2.2.2.2.2.2.1 m.2.2.2.2.2.2.2.1 m.2.2.2.2.2.2.2.2.1 m.2.2.2.2.2.2.2.2.2.1 m.2.2.2.2.2.2.2.2.2.2.1 m.2.2.2.2.2.2.2.2.2.2.2.1 m.2.2.2.2.2.2.2.2.2.2.2.2.1 m.2.2.2.2.2.2.2.2.2.2.2.2.2.1 m.2.2.2.2.2.2.2.2.2.2.2.2.2.2.2.1 m.2.2.2.2.2.2.2.2.2.2.2.2.2.2.2.2.1
def iw (m:TMD):Prop:=(1≤m.1∧m.1≤12)∧jT m=m∧yL m
theorem zaX (m:TMD) (hk:1≤m.1∧m.1≤12) (h:jT m=m) (h3:m.1≠3) (h4:m.1≠4):m.2.2.2.2.1=0:=by
 obtain⟨k,r⟩:=m
 rcases rE hk.1 hk.2 with e | e | e | e | e | e | e | e | e | e | e | e <;> (dsimp only at e;subst e)
 all_goals first | exact absurd rfl h3 | exact absurd rfl h4 | exact (congrArg (fun m:TMD=>m.2.2.2.2.1) h).symm
theorem NS (m:TMD) (hk:1≤m.1∧m.1≤12) (h:jT m=m) (h8:m.1 < 8∨m.1=12):m.2.2.2.2.2.2.2.2.2.1=0:=by
 obtain⟨k,r⟩:=m
 rcases rE hk.1 hk.2 with e | e | e | e | e | e | e | e | e | e | e | e <;> (dsimp only at e;subst e)
 all_goals first | exact (congrArg (fun m:TMD=>m.2.2.2.2.2.2.2.2.2.1) h).symm | (exfalso;dsimp only at h8;omega)
theorem xE (m:TMD) (hm:ShT m):F48 (m,())=some (dec' (iw m),()):=by
 by_cases hk:1≤m.1∧m.1≤12
 ·have hE:=NS m hk
  have hS:=zgK (jT m) m (NT hm)
  have hK:=zgW m hk
  obtain⟨h1,h2,h3,h4,h5,h6⟩:=hm
  unfold iw yL
  obtain⟨p,hp⟩:∃ p:Prop,p=(jT m=m):=⟨_,rfl⟩
  rw [←hp] at hS hE ⊢
  generalize jT m=z at hS hK
  clear hp
  obtain⟨k,rid,raft,job,cl,fr,en,rev,most,err,hint,rep,bat,its,done,hand,mov,⟨⟩⟩:=m
  have e1:F66 (raft,())=some (qB raft,()):=(GK raft h1).1
  have e2:=ziQ job h2
  have e3:=Nw rep h3
  have e4:=zaM bat h4
  have e5:=LC its 8 h5
  have e6:=zh8 hand h6
  have n1:decide (k < 1)=false:=decide_eq_false (by have:=hk.1;dsimp only at this;omega)
  have n2:decide (12 < k)=false:=decide_eq_false (by have:=hk.2;dsimp only at this;omega)
  dsimp only at hk hE
  unfold F48 F68 F69
  simp only [n1,n2,hK,hS,cond_false,e1,e2,e3,e4,e5,e6,EG,BC,pre_eq,kF,zeh,zhQ,Option.bind_some]
  clear hS hK e1 e2 e3 e4 e5 e6 n1 n2
  rcases rE hk.1 hk.2 with e | e | e | e | e | e | e | e | e | e | e | e
  all_goals
   subst e
   simp only [Int.reduceEq,Int.reduceLT,Int.reduceLE,decide_true,decide_false,cond_true,cond_false,Ol]
   apply fin
   ·repeat' first | apply bZ | apply bU | apply cu | apply uO | apply bY | apply dS | apply uf
   ·simp only [nJ,bJ,dF,Int.reduceEq,Int.reduceNeg,false_and,true_and,false_or,or_false,or_self]
    try grind
 ·have:¬ iw m:=fun h=>hk h.1
  rw [dK this]
  unfold F48
  by_cases n1:m.1 < 1
  ·rw [decide_eq_true n1];rfl
  ·have n2:12 < m.1:=by omega
   rw [decide_eq_false n1,decide_eq_true n2];rfl
def SzT (m:TMD):Prop:=ShT m∧vC m.2.2.2.1.2.2.1∧St m.2.2.2.2.2.1∧St m.2.2.2.2.2.2.1∧Cc m.2.2.2.2.2.2.2.2.2.2.2.1∧(∀ b∈m.2.2.2.2.2.2.2.2.2.2.2.2.1,gp b.2.1)∧gp m.2.2.2.2.2.2.2.2.2.2.2.2.2.1∧Hz m.2.2.2.2.2.2.2.2.2.2.2.2.2.2.2.1∧uP m.2.2.2.2.2.2.2.2.2.2.2.2.2.2.2.2.1
theorem xx (m:TMD) (hz:SzT m):F53 (m,())=some (dec' (iw m),()):=by
 obtain⟨hm,z1,z2,z3,z4,z5,z6,z7,z8⟩:=hz
 by_cases hk:1≤m.1∧m.1≤12
 ·have hE:=NS m hk
  have hC:=zaX m hk
  have hS:=zd7 (jT m) m (NT hm)
  have hK:=zhf m hk
  obtain⟨h1,h2,h3,h4,h5,h6⟩:=hm
  unfold iw yL
  obtain⟨p,hp⟩:∃ p:Prop,p=(jT m=m):=⟨_,rfl⟩
  rw [←hp] at hS hE hC ⊢
  generalize jT m=z at hS hK
  clear hp
  obtain⟨k,rid,raft,job,cl,fr,en,rev,most,err,hint,rep,bat,its,done,hand,mov,⟨⟩⟩:=m
  have e1:F79 (raft,())=some (qB raft,()):=(GK raft h1).2
  have e2:=zhE job z1
  have e3:=L8 rep z4
  have e4:=zaB bat h4.1 z5
  have e5:=KQ its 8 z6
  have e6:=zgC hand z7
  have e7:=zgx hand h6
  have e8:=zgz mov z8
  have e9:=AQ fr en z2 z3
  have e10:=xR fr z2
  have e11:=jm en z3
  have n1:decide (k < 1)=false:=decide_eq_false (by have:=hk.1;dsimp only at this;omega)
  have n2:decide (12 < k)=false:=decide_eq_false (by have:=hk.2;dsimp only at this;omega)
  dsimp only at hk hE hC
  unfold F53
  simp only [n1,n2,hK,hS,cond_false,e1,e2,e3,e4,e5,e6,e7,e8,e9,e10,e11,Ew,Option.bind_some]
  clear hS hK e1 e2 e3 e4 e5 e6 e7 e8 e9 e10 e11 n1 n2
  rcases rE hk.1 hk.2 with e | e | e | e | e | e | e | e | e | e | e | e
  all_goals
   subst e
   simp only [Int.reduceEq,Int.reduceLE,decide_true,decide_false,cond_true,cond_false]
   apply fin
   ·repeat' first | apply bZ | apply bU | apply cu | apply uO | apply bY | apply dS | apply uf
   ·simp only [nJ,bJ,dF,Int.reduceEq,Int.reduceNeg,false_and,true_and,false_or,or_false,or_self]
    try grind
 ·have:¬ iw m:=fun h=>hk h.1
  rw [dK this]
  unfold F53
  by_cases n1:m.1 < 1
  ·rw [decide_eq_true n1];rfl
  ·have n2:12 < m.1:=by omega
   rw [decide_eq_false n1,decide_eq_true n2];rfl
end Go.Proofs.YtpfjaaofpcbejaaGreat
