/-
 Plain laws of what lies below,as this seat reaches them (by a program of the bench: port.py).
-/
import Derived.Test.YtlegpimppfabgaaGreatTalkLawB
import Derived.Test.YtlegpimppfabgaaGreatSxS
namespace Go.Proofs.YtlegpimppfabgaaGreat
open Go.Sx Go Classical
set_option maxRecDepth 10000
def oJ (k rid:Int) (raft:Msg) (job:uA) (cl:Int) (fr en:List UInt8) (rev most err hint:Int) (rep:fG) (bat:List TBD) (its:List af) (hand:iV) (mov:bg):Prop:=
 (k=1∧qI raft=true)∨(k=2∧bQ rid∧xe job)∨
 (k=3∧bQ rid∧0≤cl∧cl≤31∧fM fr en∧dH rev∧0≤most∧most≤8)∨
 (k=4∧bQ rid∧0≤cl∧cl≤31∧fM fr en∧bQ rev)∨
 (k=5∧bQ rid∧nJ fr∧(en=[]∨IsKey en)∧bQ rev)∨
 (k=6∧bQ rid∧bQ rev)∨(k=7∧bQ rid)∨
 (k=8∧bQ rid∧0≤err∧err≤15∧ -1≤hint∧hint≤2∧nX rep)∨
 (k=9∧bQ rid∧0≤err∧err≤15∧0≤rev∧rev≤1099511627777∧y8 bat)∨
 (k=10∧bQ rid∧0≤err∧err≤15∧sG its 8)∨
 (k=11∧bQ rid∧0≤err∧err≤15∧(hand=gy∨zX hand))∨
 (k=12∧bQ rid∧dH rev∧Fg mov)
def Gm (m:TMD):Prop:=oJ m.1 m.2.1 m.2.2.1 m.2.2.2.1 m.2.2.2.2.1 m.2.2.2.2.2.1 m.2.2.2.2.2.2.1 m.2.2.2.2.2.2.2.1 m.2.2.2.2.2.2.2.2.1 m.2.2.2.2.2.2.2.2.2.1 m.2.2.2.2.2.2.2.2.2.2.1 m.2.2.2.2.2.2.2.2.2.2.2.1 m.2.2.2.2.2.2.2.2.2.2.2.2.1 m.2.2.2.2.2.2.2.2.2.2.2.2.2.1 m.2.2.2.2.2.2.2.2.2.2.2.2.2.2.2.1 m.2.2.2.2.2.2.2.2.2.2.2.2.2.2.2.2.1
def sW (m:TMD):Prop:=(1≤m.1∧m.1≤12)∧nC m=m∧Gm m
theorem zdc (m:TMD) (hk:1≤m.1∧m.1≤12) (h:nC m=m) (h8:m.1 < 8∨m.1=12):m.2.2.2.2.2.2.2.2.2.1=0:=by
 obtain⟨k,r⟩:=m
 rcases zG hk.1 hk.2 with e | e | e | e | e | e | e | e | e | e | e | e <;> (dsimp only at e;subst e)
 all_goals first | exact (congrArg (fun m:TMD=>m.2.2.2.2.2.2.2.2.2.1) h).symm | (exfalso;dsimp only at h8;omega)
theorem ZI (m:TMD) (hm:ShT m):F83 (m,())=some (dec' (sW m),()):=by
 by_cases hk:1≤m.1∧m.1≤12
 ·have hE:=zdc m hk
  have hS:=zcZ (nC m) m (zdd hm)
  have hK:=zde m hk
  obtain⟨h1,h2,h3,h4,h5,h6⟩:=hm
  unfold sW Gm
  obtain⟨p,hp⟩:∃ p:Prop,p=(nC m=m):=⟨_,rfl⟩
  rw [←hp] at hS hE ⊢
  generalize nC m=z at hS hK
  clear hp
  obtain⟨k,rid,raft,job,cl,fr,en,rev,most,err,hint,rep,bat,its,done,hand,mov,⟨⟩⟩:=m
  have e1:mJ (raft,())=some (qI raft,()):=(MC raft h1).1
  have e2:=zeG job h2
  have e3:=KP rep h3
  have e4:=X8 bat h4
  have e5:=JD its 8 h5
  have e6:=zdZ hand h6
  have n1:decide (k < 1)=false:=decide_eq_false (by have:=hk.1;dsimp only at this;omega)
  have n2:decide (12 < k)=false:=decide_eq_false (by have:=hk.2;dsimp only at this;omega)
  dsimp only at hk hE
  unfold F83 BG BF
  simp only [n1,n2,hK,hS,cond_false,e1,e2,e3,e4,e5,e6,Cm,pR,pre_eq,iI,zbp,zdS,Option.bind_some]
  clear hS hK e1 e2 e3 e4 e5 e6 n1 n2
  rcases zG hk.1 hk.2 with e | e | e | e | e | e | e | e | e | e | e | e
  all_goals
   subst e
   simp only [Int.reduceEq,Int.reduceLT,Int.reduceLE,decide_true,decide_false,cond_true,cond_false,zdp]
   apply fin
   ·repeat' first | apply dE | apply dC | apply dF | apply EY | apply dD | apply gq | apply CW
   ·simp only [oJ,bQ,dH,Int.reduceEq,Int.reduceNeg,false_and,true_and,false_or,or_false,or_self]
    try grind
 ·have:¬ sW m:=fun h=>hk h.1
  rw [dU this]
  unfold F83
  by_cases n1:m.1 < 1
  ·rw [decide_eq_true n1];rfl
  ·have n2:12 < m.1:=by omega
   rw [decide_eq_false n1,decide_eq_true n2];rfl
def SzT (m:TMD):Prop:=ShT m∧Oy m.2.2.2.1.2.2.1∧St m.2.2.2.2.2.1∧St m.2.2.2.2.2.2.1∧EJ m.2.2.2.2.2.2.2.2.2.2.2.1∧(∀ b∈m.2.2.2.2.2.2.2.2.2.2.2.2.1,zN b.2.1)∧zN m.2.2.2.2.2.2.2.2.2.2.2.2.2.1∧NG m.2.2.2.2.2.2.2.2.2.2.2.2.2.2.2.1∧NF m.2.2.2.2.2.2.2.2.2.2.2.2.2.2.2.2.1
end Go.Proofs.YtlegpimppfabgaaGreat
