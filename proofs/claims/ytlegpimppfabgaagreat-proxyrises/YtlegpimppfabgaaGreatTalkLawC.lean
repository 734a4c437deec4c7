/-
 Plain laws of what lies below,as this seat reaches them (by a program of the bench: port.py).
-/
import Derived.Test.YtlegpimppfabgaaGreatTalkLawB
import Derived.Test.YtlegpimppfabgaaGreatSxS
namespace Go.Proofs.YtlegpimppfabgaaGreat
open Go.Sx Go Classical
set_option maxRecDepth 10000
def l9 (k rid:Int) (raft:Msg) (job:lK) (cl:Int) (fr en:List UInt8) (rev most err hint:Int) (rep:dh) (bat:List TBD) (its:List aX) (hand:gz) (mov:jo):Prop:=
 (k=1∧rX raft=true)∨(k=2∧bz rid∧uD job)∨
 (k=3∧bz rid∧0≤cl∧cl≤31∧dZ fr en∧dF rev∧0≤most∧most≤8)∨
 (k=4∧bz rid∧0≤cl∧cl≤31∧dZ fr en∧bz rev)∨
 (k=5∧bz rid∧nz fr∧(en=[]∨IsKey en)∧bz rev)∨
 (k=6∧bz rid∧bz rev)∨(k=7∧bz rid)∨
 (k=8∧bz rid∧0≤err∧err≤15∧ -1≤hint∧hint≤2∧mJ rep)∨
 (k=9∧bz rid∧0≤err∧err≤15∧0≤rev∧rev≤1099511627777∧pF bat)∨
 (k=10∧bz rid∧0≤err∧err≤15∧pM its 8)∨
 (k=11∧bz rid∧0≤err∧err≤15∧(hand=gZ∨wE hand))∨
 (k=12∧bz rid∧dF rev∧wC mov)
def uC (m:TMD):Prop:=l9 m.1 m.2.1 m.2.2.1 m.2.2.2.1 m.2.2.2.2.1 m.2.2.2.2.2.1 m.2.2.2.2.2.2.1 m.2.2.2.2.2.2.2.1 m.2.2.2.2.2.2.2.2.1 m.2.2.2.2.2.2.2.2.2.1 m.2.2.2.2.2.2.2.2.2.2.1 m.2.2.2.2.2.2.2.2.2.2.2.1 m.2.2.2.2.2.2.2.2.2.2.2.2.1 m.2.2.2.2.2.2.2.2.2.2.2.2.2.1 m.2.2.2.2.2.2.2.2.2.2.2.2.2.2.2.1 m.2.2.2.2.2.2.2.2.2.2.2.2.2.2.2.2.1
def eX (m:TMD):Prop:=(1≤m.1∧m.1≤12)∧kS m=m∧uC m
theorem X7 (m:TMD) (hk:1≤m.1∧m.1≤12) (h:kS m=m) (h3:m.1≠3) (h4:m.1≠4):m.2.2.2.2.1=0:=by
 obtain⟨k,r⟩:=m;rcases oq hk.1 hk.2 with e|e|e|e|e|e|e|e|e|e|e|e<;>(dsimp only at e;subst e)
 all_goals first|exact absurd rfl h3|exact absurd rfl h4|exact(congrArg (fun m:TMD=>m.2.2.2.2.1) h).symm
theorem QQ (m:TMD) (hk:1≤m.1∧m.1≤12) (h:kS m=m) (h8:m.1<8∨m.1=12):m.2.2.2.2.2.2.2.2.2.1=0:=by
 obtain⟨k,r⟩:=m;rcases oq hk.1 hk.2 with e|e|e|e|e|e|e|e|e|e|e|e<;>(dsimp only at e;subst e)
 all_goals first|exact(congrArg (fun m:TMD=>m.2.2.2.2.2.2.2.2.2.1) h).symm|(exfalso;dsimp only at h8;omega)
theorem yu (m:TMD) (hm:ShT m):F83 (m,())=some (dec' (eX m),()):=by
 by_cases hk:1≤m.1∧m.1≤12
 ·have hE:=QQ m hk;have hS:=za6 (kS m) m (QR hm);have hK:=zbl m hk;obtain⟨h1,h2,h3,h4,h5,h6⟩:=hm;unfold eX uC;obtain⟨p,hp⟩:∃ p:Prop,p=(kS m=m):=⟨_,rfl⟩
  rw[←hp] at hS hE ⊢;generalize kS m=z at hS hK;clear hp;obtain⟨k,rid,raft,job,cl,fr,en,rev,most,err,hint,rep,bat,its,done,hand,mov,⟨⟩⟩:=m;have e1:qE (raft,())=some (rX raft,()):=(Jp raft h1).1;have e2:=zda job h2;have e3:=Qx rep h3;have e4:=XU bat h4;have e5:=Pe its 8 h5;have e6:=zcg hand h6;have n1:decide (k<1)=false:=decide_eq_false (by have:=hk.1;dsimp only at this;omega);have n2:decide (12<k)=false:=decide_eq_false (by have:=hk.2;dsimp only at this;omega);dsimp only at hk hE;unfold F83 Nl Nk;simp only[n1,n2,hK,hS,cond_false,e1,e2,e3,e4,e5,e6,GY,qK,pre_eq,jQ,ZY,zb9,Option.bind_some];clear hS hK e1 e2 e3 e4 e5 e6 n1 n2;rcases oq hk.1 hk.2 with e|e|e|e|e|e|e|e|e|e|e|e
  all_goals
   subst e;simp only[Int.reduceEq,Int.reduceLT,Int.reduceLE,decide_true,decide_false,cond_true,cond_false,Rh];apply fin
   ·repeat' first|apply bV|apply bP|apply bW|apply wz|apply bU|apply eU|apply ve
   ·simp only[l9,bz,dF,Int.reduceEq,Int.reduceNeg,false_and,true_and,false_or,or_false,or_self]
    try grind
 ·have:¬ eX m:=fun h=>hk h.1;rw[dA this];unfold F83;by_cases n1:m.1<1
  ·rw[decide_eq_true n1];rfl
  ·have n2:12<m.1:=by omega
   rw[decide_eq_false n1,decide_eq_true n2];rfl
def SzT (m:TMD):Prop:=ShT m∧ng m.2.2.2.1.2.2.1∧St m.2.2.2.2.2.1∧St m.2.2.2.2.2.2.1∧yU m.2.2.2.2.2.2.2.2.2.2.2.1∧(∀ b∈m.2.2.2.2.2.2.2.2.2.2.2.2.1,mG b.2.1)∧mG m.2.2.2.2.2.2.2.2.2.2.2.2.2.1∧JW m.2.2.2.2.2.2.2.2.2.2.2.2.2.2.2.1∧JV m.2.2.2.2.2.2.2.2.2.2.2.2.2.2.2.2.1
theorem yg (m:TMD) (hz:SzT m):F85 (m,())=some (dec' (eX m),()):=by
 obtain⟨hm,z1,z2,z3,z4,z5,z6,z7,z8⟩:=hz;by_cases hk:1≤m.1∧m.1≤12
 ·have hE:=QQ m hk;have hC:=X7 m hk;have hS:=ZM (kS m) m (QR hm);have hK:=zbD m hk;obtain⟨h1,h2,h3,h4,h5,h6⟩:=hm;unfold eX uC;obtain⟨p,hp⟩:∃ p:Prop,p=(kS m=m):=⟨_,rfl⟩
  rw[←hp] at hS hE hC ⊢;generalize kS m=z at hS hK;clear hp;obtain⟨k,rid,raft,job,cl,fr,en,rev,most,err,hint,rep,bat,its,done,hand,mov,⟨⟩⟩:=m;have e1:uT (raft,())=some (rX raft,()):=(Jp raft h1).2;have e2:=zbX job z1;have e3:=PK rep z4;have e4:=XJ bat h4.1 z5;have e5:=OM its 8 z6;have e6:=zaW hand z7;have e7:=zaR hand h6;have e8:=zaT mov z8;have e9:=qG fr en z2 z3;have e10:=yO fr z2;have e11:=jg en z3;have n1:decide (k<1)=false:=decide_eq_false (by have:=hk.1;dsimp only at this;omega);have n2:decide (12<k)=false:=decide_eq_false (by have:=hk.2;dsimp only at this;omega);dsimp only at hk hE hC;unfold F85;simp only[n1,n2,hK,hS,cond_false,e1,e2,e3,e4,e5,e6,e7,e8,e9,e10,e11,GH,Option.bind_some];clear hS hK e1 e2 e3 e4 e5 e6 e7 e8 e9 e10 e11 n1 n2;rcases oq hk.1 hk.2 with e|e|e|e|e|e|e|e|e|e|e|e
  all_goals
   subst e;simp only[Int.reduceEq,Int.reduceLE,decide_true,decide_false,cond_true,cond_false];apply fin
   ·repeat' first|apply bV|apply bP|apply bW|apply wz|apply bU|apply eU|apply ve
   ·simp only[l9,bz,dF,Int.reduceEq,Int.reduceNeg,false_and,true_and,false_or,or_false,or_self]
    try grind
 ·have:¬ eX m:=fun h=>hk h.1;rw[dA this];unfold F85;by_cases n1:m.1<1
  ·rw[decide_eq_true n1];rfl
  ·have n2:12<m.1:=by omega
   rw[decide_eq_false n1,decide_eq_true n2];rfl
end Go.Proofs.YtlegpimppfabgaaGreat
