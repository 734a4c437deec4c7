/-
 Plain laws of what lies below,as this seat reaches them (by a program of the bench: port.py).
-/
import Derived.Test.YtpfjaaofpcbejaaGreatTalkLawB
import Derived.Test.YtpfjaaofpcbejaaGreatSxS
namespace Go.Proofs.YtpfjaaofpcbejaaGreat
open Go.Sx Go Classical
set_option maxRecDepth 10000
def zhk (k rid:Int) (raft:Msg) (job:T33D) (cl:Int) (fr en:List UInt8) (rev most err hint:Int) (rep:T51D) (bat:List TBD) (its:List T70D) (hand:T55D) (mov:T53D):Prop:=
 (k=1∧mayM raft=true)∨(k=2∧za7 rid∧zni job)∨
 (k=3∧za7 rid∧0≤cl∧cl≤31∧zb4 fr en∧zbz rev∧0≤most∧most≤8)∨
 (k=4∧za7 rid∧0≤cl∧cl≤31∧zb4 fr en∧za7 rev)∨
 (k=5∧za7 rid∧zg6 fr∧(en=[]∨IsKey en)∧za7 rev)∨
 (k=6∧za7 rid∧za7 rev)∨(k=7∧za7 rid)∨
 (k=8∧za7 rid∧0≤err∧err≤15∧ -1≤hint∧hint≤2∧zcI rep)∨
 (k=9∧za7 rid∧0≤err∧err≤15∧0≤rev∧rev≤1099511627777∧zdi bat)∨
 (k=10∧za7 rid∧0≤err∧err≤15∧zdG its 8)∨
 (k=11∧za7 rid∧0≤err∧err≤15∧(hand=zbq∨zhZ hand))∨
 (k=12∧za7 rid∧zbz rev∧zkd mov)
def zqY (m:TMD):Prop:=zhk m.1 m.2.1 m.2.2.1 m.2.2.2.1 m.2.2.2.2.1 m.2.2.2.2.2.1 m.2.2.2.2.2.2.1 m.2.2.2.2.2.2.2.1 m.2.2.2.2.2.2.2.2.1 m.2.2.2.2.2.2.2.2.2.1 m.2.2.2.2.2.2.2.2.2.2.1 m.2.2.2.2.2.2.2.2.2.2.2.1 m.2.2.2.2.2.2.2.2.2.2.2.2.1 m.2.2.2.2.2.2.2.2.2.2.2.2.2.1 m.2.2.2.2.2.2.2.2.2.2.2.2.2.2.2.1 m.2.2.2.2.2.2.2.2.2.2.2.2.2.2.2.2.1
def zb3 (m:TMD):Prop:=(1≤m.1∧m.1≤12)∧zeQ m=m∧zqY m
theorem zkF (m:TMD) (hk:1≤m.1∧m.1≤12) (h:zeQ m=m) (h3:m.1≠3) (h4:m.1≠4):m.2.2.2.2.1=0:=by
 obtain⟨k,r⟩:=m
 rcases zet hk.1 hk.2 with e | e | e | e | e | e | e | e | e | e | e | e <;> (dsimp only at e;subst e)
 all_goals first | exact absurd rfl h3 | exact absurd rfl h4 | exact (congrArg (fun m:TMD=>m.2.2.2.2.1) h).symm
theorem zlH (m:TMD) (hk:1≤m.1∧m.1≤12) (h:zeQ m=m) (h8:m.1 < 8∨m.1=12):m.2.2.2.2.2.2.2.2.2.1=0:=by
 obtain⟨k,r⟩:=m
 rcases zet hk.1 hk.2 with e | e | e | e | e | e | e | e | e | e | e | e <;> (dsimp only at e;subst e)
 all_goals first | exact (congrArg (fun m:TMD=>m.2.2.2.2.2.2.2.2.2.1) h).symm | (exfalso;dsimp only at h8;omega)
theorem zdO (m:TMD) (hm:ShT m):F48 (m,())=some (dec' (zb3 m),()):=by
 by_cases hk:1≤m.1∧m.1≤12
 ·have hE:=zlH m hk
  have hS:=ztg (zeQ m) m (zlI hm)
  have hK:=ztu m hk
  obtain⟨h1,h2,h3,h4,h5,h6⟩:=hm
  unfold zb3 zqY
  obtain⟨p,hp⟩:∃ p:Prop,p=(zeQ m=m):=⟨_,rfl⟩
  rw [←hp] at hS hE ⊢
  generalize zeQ m=z at hS hK
  clear hp
  obtain⟨k,rid,raft,job,cl,fr,en,rev,most,err,hint,rep,bat,its,done,hand,mov,⟨⟩⟩:=m
  have e1:F66 (raft,())=some (mayM raft,()):=(zkD raft h1).1
  have e2:=zw0 job h2
  have e3:=zlq rep h3
  have e4:=zkh bat h4
  have e5:=ziQ its 8 h5
  have e6:=zvF hand h6
  have n1:decide (k < 1)=false:=decide_eq_false (by have:=hk.1;dsimp only at this;omega)
  have n2:decide (12 < k)=false:=decide_eq_false (by have:=hk.2;dsimp only at this;omega)
  dsimp only at hk hE
  unfold F48 F68 F69
  simp only [n1,n2,hK,hS,cond_false,e1,e2,e3,e4,e5,e6,ze9,zfP,pre_eq,zdd,zpJ,zvj,Option.bind_some]
  clear hS hK e1 e2 e3 e4 e5 e6 n1 n2
  rcases zet hk.1 hk.2 with e | e | e | e | e | e | e | e | e | e | e | e
  all_goals
   subst e
   simp only [Int.reduceEq,Int.reduceLT,Int.reduceLE,decide_true,decide_false,cond_true,cond_false,zl1]
   apply fin
   ·repeat' first | apply zaw | apply zam | apply zaB | apply zhW | apply zav | apply zaG | apply zcr
   ·simp only [zhk,za7,zbz,Int.reduceEq,Int.reduceNeg,false_and,true_and,false_or,or_false,or_self]
    try grind
 ·have:¬ zb3 m:=fun h=>hk h.1
  rw [zaE this]
  unfold F48
  by_cases n1:m.1 < 1
  ·rw [decide_eq_true n1];rfl
  ·have n2:12 < m.1:=by omega
   rw [decide_eq_false n1,decide_eq_true n2];rfl
def SzT (m:TMD):Prop:=ShT m∧znh m.2.2.2.1.2.2.1∧St m.2.2.2.2.2.1∧St m.2.2.2.2.2.2.1∧ziJ m.2.2.2.2.2.2.2.2.2.2.2.1∧(∀ b∈m.2.2.2.2.2.2.2.2.2.2.2.2.1,zbi b.2.1)∧zbi m.2.2.2.2.2.2.2.2.2.2.2.2.2.1∧zqQ m.2.2.2.2.2.2.2.2.2.2.2.2.2.2.2.1∧zhX m.2.2.2.2.2.2.2.2.2.2.2.2.2.2.2.2.1
theorem zc9 (m:TMD) (hz:SzT m):F53 (m,())=some (dec' (zb3 m),()):=by
 obtain⟨hm,z1,z2,z3,z4,z5,z6,z7,z8⟩:=hz
 by_cases hk:1≤m.1∧m.1≤12
 ·have hE:=zlH m hk
  have hC:=zkF m hk
  have hS:=zpr (zeQ m) m (zlI hm)
  have hK:=ztQ m hk
  obtain⟨h1,h2,h3,h4,h5,h6⟩:=hm
  unfold zb3 zqY
  obtain⟨p,hp⟩:∃ p:Prop,p=(zeQ m=m):=⟨_,rfl⟩
  rw [←hp] at hS hE hC ⊢
  generalize zeQ m=z at hS hK
  clear hp
  obtain⟨k,rid,raft,job,cl,fr,en,rev,most,err,hint,rep,bat,its,done,hand,mov,⟨⟩⟩:=m
  have e1:F79 (raft,())=some (mayM raft,()):=(zkD raft h1).2
  have e2:=zuY job z1
  have e3:=zje rep z4
  have e4:=zjd bat h4.1 z5
  have e5:=zhD its 8 z6
  have e6:=zs3 hand z7
  have e7:=zsV hand h6
  have e8:=zsX mov z8
  have e9:=zdp fr en z2 z3
  have e10:=zgk fr z2
  have e11:=zbe en z3
  have n1:decide (k < 1)=false:=decide_eq_false (by have:=hk.1;dsimp only at this;omega)
  have n2:decide (12 < k)=false:=decide_eq_false (by have:=hk.2;dsimp only at this;omega)
  dsimp only at hk hE hC
  unfold F53
  simp only [n1,n2,hK,hS,cond_false,e1,e2,e3,e4,e5,e6,e7,e8,e9,e10,e11,zeq,Option.bind_some]
  clear hS hK e1 e2 e3 e4 e5 e6 e7 e8 e9 e10 e11 n1 n2
  rcases zet hk.1 hk.2 with e | e | e | e | e | e | e | e | e | e | e | e
  all_goals
   subst e
   simp only [Int.reduceEq,Int.reduceLE,decide_true,decide_false,cond_true,cond_false]
   apply fin
   ·repeat' first | apply zaw | apply zam | apply zaB | apply zhW | apply zav | apply zaG | apply zcr
   ·simp only [zhk,za7,zbz,Int.reduceEq,Int.reduceNeg,false_and,true_and,false_or,or_false,or_self]
    try grind
 ·have:¬ zb3 m:=fun h=>hk h.1
  rw [zaE this]
  unfold F53
  by_cases n1:m.1 < 1
  ·rw [decide_eq_true n1];rfl
  ·have n2:12 < m.1:=by omega
   rw [decide_eq_false n1,decide_eq_true n2];rfl
end Go.Proofs.YtpfjaaofpcbejaaGreat
