/-
 Plain laws of what lies below,as this seat reaches them (by a program of the bench: port.py).
-/
import Derived.Test.YteebpcpkhojfkaaGreatTalkLawB
import Derived.Test.YteebpcpkhojfkaaGreatSxS
namespace Go.Proofs.YteebpcpkhojfkaaGreat
open Go.Sx Go Classical
set_option maxRecDepth 10000
def mZ (k rid:Int) (raft:Msg) (job:ji) (cl:Int) (fr en:List UInt8) (rev most err hint:Int) (rep:dG) (bat:List TBD) (its:List aO) (hand:dD) (mov:eX):Prop:=
 (k=1∧qZ raft=true)∨(k=2∧bI rid∧vO job)∨
 (k=3∧bI rid∧0≤cl∧cl≤31∧lH fr en∧dH rev∧0≤most∧most≤8)∨
 (k=4∧bI rid∧0≤cl∧cl≤31∧lH fr en∧bI rev)∨
 (k=5∧bI rid∧lT fr∧(en=[]∨IsKey en)∧bI rev)∨
 (k=6∧bI rid∧bI rev)∨(k=7∧bI rid)∨
 (k=8∧bI rid∧0≤err∧err≤15∧ -1≤hint∧hint≤2∧iH rep)∨
 (k=9∧bI rid∧0≤err∧err≤15∧0≤rev∧rev≤1099511627777∧rQ bat)∨
 (k=10∧bI rid∧0≤err∧err≤15∧qE its 8)∨
 (k=11∧bI rid∧0≤err∧err≤15∧(hand=dX∨lL hand))∨
 (k=12∧bI rid∧dH rev∧qK mov)
def vN (m:TMD):Prop:=mZ m.1 m.2.1 m.2.2.1 m.2.2.2.1 m.2.2.2.2.1 m.2.2.2.2.2.1 m.2.2.2.2.2.2.1 m.2.2.2.2.2.2.2.1 m.2.2.2.2.2.2.2.2.1 m.2.2.2.2.2.2.2.2.2.1 m.2.2.2.2.2.2.2.2.2.2.1 m.2.2.2.2.2.2.2.2.2.2.2.1 m.2.2.2.2.2.2.2.2.2.2.2.2.1 m.2.2.2.2.2.2.2.2.2.2.2.2.2.1 m.2.2.2.2.2.2.2.2.2.2.2.2.2.2.2.1 m.2.2.2.2.2.2.2.2.2.2.2.2.2.2.2.2.1
def mQ (m:TMD):Prop:=(1≤m.1∧m.1≤12)∧kW m=m∧vN m
theorem ZH (m:TMD) (hk:1≤m.1∧m.1≤12) (h:kW m=m) (h3:m.1≠3) (h4:m.1≠4):m.2.2.2.2.1=0:=by
 obtain⟨k,r⟩:=m;rcases qy hk.1 hk.2 with e|e|e|e|e|e|e|e|e|e|e|e<;>(dsimp only at e;subst e)
 all_goals first|exact absurd rfl h3|exact absurd rfl h4|exact(congrArg (fun m:TMD=>m.2.2.2.2.1) h).symm
theorem TA (m:TMD) (hk:1≤m.1∧m.1≤12) (h:kW m=m) (h8:m.1<8∨m.1=12):m.2.2.2.2.2.2.2.2.2.1=0:=by
 obtain⟨k,r⟩:=m;rcases qy hk.1 hk.2 with e|e|e|e|e|e|e|e|e|e|e|e<;>(dsimp only at e;subst e)
 all_goals first|exact(congrArg (fun m:TMD=>m.2.2.2.2.2.2.2.2.2.1) h).symm|(exfalso;dsimp only at h8;omega)
theorem QI (m:TMD) (hm:ShT m):F17 (m,())=some (dec' (mQ m),()):=by
 by_cases hk:1≤m.1∧m.1≤12
 ·have hE:=TA m hk;have hS:=Tc (kW m) m (TC hm);have hK:=zcL m hk;obtain⟨h1,h2,h3,h4,h5,h6⟩:=hm;unfold mQ vN;obtain⟨p,hp⟩:∃ p:Prop,p=(kW m=m):=⟨_,rfl⟩
  rw[←hp] at hS hE ⊢;generalize kW m=z at hS hK;clear hp;obtain⟨k,rid,raft,job,cl,fr,en,rev,most,err,hint,rep,bat,its,done,hand,mov,⟨⟩⟩:=m;have e1:F71 (raft,())=some (qZ raft,()):=(Eg raft h1).1;have e2:=zei job h2;have e3:=SG rep h3;have e4:=Zz bat h4;have e5:=QJ its 8 h5;have e6:=zdA hand h6;have n1:decide (k<1)=false:=decide_eq_false (by have:=hk.1;dsimp only at this;omega);have n2:decide (12<k)=false:=decide_eq_false (by have:=hk.2;dsimp only at this;omega);dsimp only at hk hE;unfold F17 F73 F74;simp only[n1,n2,hK,hS,cond_false,e1,e2,e3,e4,e5,e6,Ie,DW,pre_eq,mO,zbz,zdt,Option.bind_some];clear hS hK e1 e2 e3 e4 e5 e6 n1 n2;rcases qy hk.1 hk.2 with e|e|e|e|e|e|e|e|e|e|e|e
  all_goals
   subst e;simp only[Int.reduceEq,Int.reduceLT,Int.reduceLE,decide_true,decide_false,cond_true,cond_false,Ud];apply fin
   ·repeat' first|apply cO|apply bW|apply cZ|apply xM|apply cu|apply eQ|apply wM
   ·simp only[mZ,bI,dH,Int.reduceEq,Int.reduceNeg,false_and,true_and,false_or,or_false,or_self]
    try grind
 ·have:¬ mQ m:=fun h=>hk h.1;rw[bU this];unfold F17;by_cases n1:m.1<1
  ·rw[decide_eq_true n1];rfl
  ·have n2:12<m.1:=by omega
   rw[decide_eq_false n1,decide_eq_true n2];rfl
def SzT (m:TMD):Prop:=ShT m∧yj m.2.2.2.1.2.2.1∧St m.2.2.2.2.2.1∧St m.2.2.2.2.2.2.1∧zX m.2.2.2.2.2.2.2.2.2.2.2.1∧(∀ b∈m.2.2.2.2.2.2.2.2.2.2.2.2.1,su b.2.1)∧su m.2.2.2.2.2.2.2.2.2.2.2.2.2.1∧EC m.2.2.2.2.2.2.2.2.2.2.2.2.2.2.2.1∧Ez m.2.2.2.2.2.2.2.2.2.2.2.2.2.2.2.2.1
theorem zan (m:TMD) (hz:SzT m):F11 (m,())=some (dec' (mQ m),()):=by
 obtain⟨hm,z1,z2,z3,z4,z5,z6,z7,z8⟩:=hz;by_cases hk:1≤m.1∧m.1≤12
 ·have hE:=TA m hk;have hC:=ZH m hk;have hS:=Q5 (kW m) m (TC hm);have hK:=zc0 m hk;obtain⟨h1,h2,h3,h4,h5,h6⟩:=hm;unfold mQ vN;obtain⟨p,hp⟩:∃ p:Prop,p=(kW m=m):=⟨_,rfl⟩
  rw[←hp] at hS hE hC ⊢;generalize kW m=z at hS hK;clear hp;obtain⟨k,rid,raft,job,cl,fr,en,rev,most,err,hint,rep,bat,its,done,hand,mov,⟨⟩⟩:=m;have e1:F34 (raft,())=some (qZ raft,()):=(Eg raft h1).2;have e2:=zdi job z1;have e3:=IZ rep z4;have e4:=Zj bat h4.1 z5;have e5:=Qh its 8 z6;have e6:=SL hand z7;have e7:=SI hand h6;have e8:=SK mov z8;have e9:=CZ fr en z2 z3;have e10:=zO fr z2;have e11:=jM en z3;have n1:decide (k<1)=false:=decide_eq_false (by have:=hk.1;dsimp only at this;omega);have n2:decide (12<k)=false:=decide_eq_false (by have:=hk.2;dsimp only at this;omega);dsimp only at hk hE hC;unfold F11;simp only[n1,n2,hK,hS,cond_false,e1,e2,e3,e4,e5,e6,e7,e8,e9,e10,e11,H6,Option.bind_some];clear hS hK e1 e2 e3 e4 e5 e6 e7 e8 e9 e10 e11 n1 n2;rcases qy hk.1 hk.2 with e|e|e|e|e|e|e|e|e|e|e|e
  all_goals
   subst e;simp only[Int.reduceEq,Int.reduceLE,decide_true,decide_false,cond_true,cond_false];apply fin
   ·repeat' first|apply cO|apply bW|apply cZ|apply xM|apply cu|apply eQ|apply wM
   ·simp only[mZ,bI,dH,Int.reduceEq,Int.reduceNeg,false_and,true_and,false_or,or_false,or_self]
    try grind
 ·have:¬ mQ m:=fun h=>hk h.1;rw[bU this];unfold F11;by_cases n1:m.1<1
  ·rw[decide_eq_true n1];rfl
  ·have n2:12<m.1:=by omega
   rw[decide_eq_false n1,decide_eq_true n2];rfl
end Go.Proofs.YteebpcpkhojfkaaGreat
