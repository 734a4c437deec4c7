/-
 Mirr: a tick and what is heard,by a mirror and by the document's,side by side.
-/
import Derived.Test.YtpfjaaofpcbejaaGreatMirrLawD
namespace Go.Proofs.YtpfjaaofpcbejaaGreat
open Go.Sx Go Classical
set_option maxRecDepth 10000
theorem ix0:jZ 2 (0:Int)=some 0:=rfl
theorem ix1:jZ 2 (1:Int)=some 1:=rfl
theorem lZ:Nat.beq 0 0=true:=rfl
theorem nP:Nat.beq 1 0=false:=rfl
theorem nO:Nat.beq 1 (0+1)=true:=rfl
theorem w01:wrap64 (0+1)=1:=rfl
theorem w11:wrap64 (1+1)=2:=rfl
theorem l02:decide ((0:Int) < 2)=true:=rfl
theorem l12:decide ((1:Int) < 2)=true:=rfl
theorem l22:decide ((2:Int) < 2)=false:=rfl
theorem q00:decide ((0:Int)=0)=true:=rfl
theorem q10:decide ((1:Int)=0)=false:=rfl
theorem q01:decide ((0:Int)=1)=false:=rfl
theorem q11:decide ((1:Int)=1)=true:=rfl
theorem q0n:decide ((0:Int)=Int.ofNat 0)=true:=rfl
theorem q1n:decide ((1:Int)=Int.ofNat 0)=false:=rfl
theorem q1m:decide ((1:Int)=Int.ofNat (0+1))=true:=rfl
theorem zev {ep n0 n1 r0 r1 fr:Int} {src dst:List UInt8} {o0 o1:Bool} {M:dm} {W:fU} {m:TMD} (hn0:1≤n0∧n0≤3) (hn1:1≤n1∧n1≤3) (h:kQ ep src dst n0 n1 r0 r1 o0 o1 M W) (zm:SzT m) (hB:Bnd m) :
  ∃ M' W' o0' o1',F12 (M,fr,m,())=some (M',())∧F14 (W,fr,m,())=some (W',())∧kQ ep src dst n0 n1 r0 r1 o0' o1' M' W'∧(o0'=true→o0=true)∧(o1'=true→o1=true):=by
 obtain⟨c0,c1,w0,w1,asked,known,mv,pin,pg,tl,again,fen,fen',hand,over,has,dn,its,htl,tls,up,hh,hand',rfl,rfl,hc0,hc1,hp,ht,hv⟩:=h
 obtain⟨n,hn⟩:=DN
 unfold F12 F14
 rw [hn]
 rcases MN (fr:=fr) (by omega) hn0 hc0 hB zm with ⟨c0',w0',a1,a2,a3⟩ | ⟨rfl,hR,h8,c0',w0',a1,a2,a3⟩
 ·rcases MN (fr:=fr) (by omega) hn1 hc1 hB zm with ⟨c1',w1',b1,b2,b3⟩ | ⟨rfl,hR,h8,c1',w1',b1,b2,b3⟩
  ·refine⟨_,_,o0,o1,?_,?_,⟨c0',c1',w0',w1',asked,known,mv,pin,pg,tl,again,fen,fen',hand,over,has,dn,its,htl,tls,up,hh,hand',rfl,rfl,a3,b3,hp,ht,hv⟩,id,id⟩
   ·simp only [List.head?_cons,Option.bind_some,a1,b1,cond_false]
   ·simp only [iter,l02,l12,l22,ix0,ix1,lZ,nP,nO,w01,w11,q01,a2,b2,cond_true,cond_false,Option.bind_some,Sum.elim_inl,Sum.elim_inr,aT]
  ·obtain⟨M',W',p1,p2,p3⟩:=zbk (m:=m) ⟨c0',c1',w0',w1',asked,known,mv,pin,pg,tl,again,fen,fen',hand,over,has,dn,its,htl,tls,up,hh,hand',rfl,rfl,a3,b3,hp,ht,hv⟩ zm
   refine⟨M',W',o0,false,?_,?_,p3,id,(fun h=>by cases h)⟩
   ·simp only [List.head?_cons,Option.bind_some,a1,b1,cond_false,cond_true]
    exact aU p1 rfl
   ·simp only [iter,l02,l12,ix0,ix1,lZ,nP,nO,w01,w11,q01,a2,b2,cond_true,cond_false,Option.bind_some,Sum.elim_inl,aT]
    rw [p2]
    rfl
 ·obtain⟨M',W',p1,p2,p3⟩:=zeu (m:=m) ⟨c0',c1,w0',w1,asked,known,mv,pin,pg,tl,again,fen,fen',hand,over,has,dn,its,htl,tls,up,hh,hand',rfl,rfl,a3,hc1,hp,ht,hv⟩ zm hB hR h8
  refine⟨M',W',false,o1,?_,?_,p3,(fun h=>by cases h),id⟩
  ·simp only [List.head?_cons,Option.bind_some,a1,cond_true]
   exact aU p1 rfl
  ·simp only [iter,l02,ix0,lZ,q01,a2,cond_true,cond_false,Option.bind_some,aT]
   rw [p2]
   rfl
theorem zcm {ep n0 n1 r0 r1:Int} {src dst:List UInt8} {o0 o1:Bool} {M:dm} {W:fU} (hn0:1≤n0∧n0≤3) (hn1:1≤n1∧n1≤3) (h1:St src) (h2:St dst) (h:kQ ep src dst n0 n1 r0 r1 o0 o1 M W) (hx:¬ (o0=true∧o1=true)) :
  ∃ p ok M' W' out r0' r1' o0' o1',F9 (M,())=some (p,ok,M',())∧F10 (W,())=some (W',out,())∧kQ ep src dst n0 n1 r0' r1' o0' o1' M' W'∧
   ((ok=false∧r0'=r0∧r1'=r1∧o0'=o0∧o1'=o1)∨(ok=true∧o0'=true∧o1'=false∧ToC 0 p r0'∧(o0=true→r0'=r0)∧o1=false)∨(ok=true∧o1'=true∧o0'=false∧ToC 1 p r1'∧(o1=true→r1'=r1)∧o0=false)):=by
 obtain⟨c0,c1,w0,w1,asked,known,mv,pin,pg,tl,again,fen,fen',hand,over,has,dn,its,htl,tls,up,hh,hand',rfl,rfl,hc0,hc1,hp,ht,hv⟩:=h
 obtain⟨n,hn⟩:=DN
 obtain⟨u0,v0⟩:=Bg hc0
 obtain⟨u1,v1⟩:=Bg hc1
 unfold F9 F10
 rw [hn]
 cases o0 with
 | true=>
  obtain rfl:o1=false:=by cases o1 with | false=>rfl | true=>exact absurd ⟨rfl,rfl⟩ hx
  obtain⟨p,ok,c0',w0',out,a1,a2,a3,a4⟩:=LD hn0 hc0
  refine⟨p,ok,_,_,out,r0,r1,true,false,?_,?_,⟨c0',c1,w0',w1,asked,known,mv,pin,pg,tl,again,fen,fen',hand,over,has,dn,its,htl,tls,up,hh,hand',rfl,rfl,a3,hc1,hp,ht,hv⟩,?_⟩
  ·simp only [List.head?_cons,Option.bind_some,u0,cond_true,a1]
  ·simp only [iter,l02,ix0,lZ,v0,a2,cond_true,Option.bind_some,Sum.elim_inr]
  ·cases ok with
   | false=>exact .inl ⟨rfl,rfl,rfl,rfl,rfl⟩
   | true=>exact .inr (.inl ⟨rfl,rfl,rfl,a4 rfl,fun _=>rfl,rfl⟩)
 | false=>
 cases o1 with
 | true=>
  obtain⟨p,ok,c1',w1',out,a1,a2,a3,a4⟩:=LD hn1 hc1
  refine⟨p,ok,_,_,out,r0,r1,false,true,?_,?_,⟨c0,c1',w0,w1',asked,known,mv,pin,pg,tl,again,fen,fen',hand,over,has,dn,its,htl,tls,up,hh,hand',rfl,rfl,hc0,a3,hp,ht,hv⟩,?_⟩
  ·simp only [List.head?_cons,Option.bind_some,u0,u1,cond_true,cond_false,a1]
  ·simp only [iter,l02,l12,ix0,ix1,lZ,nP,nO,w01,v0,v1,a2,cond_true,cond_false,Option.bind_some,Sum.elim_inl,Sum.elim_inr]
  ·cases ok with
   | false=>exact .inl ⟨rfl,rfl,rfl,rfl,rfl⟩
   | true=>exact .inr (.inr ⟨rfl,rfl,rfl,a4 rfl,fun _=>rfl,rfl⟩)
 | false=>
  obtain⟨q,s,b1,b2,b3,b4⟩:=zei (ep:=ep) (n0:=n0) (n1:=n1) (src:=src) (dst:=dst) (t0:=[c0]) (t1:=[c1]) (to':=(w0,w1,())) (asked:=asked) (known:=known) (v:=mv) (pin:=pin) (again:=again) (fen:=fen) (fen':=fen') (over:=over) (hh:=hh) (hand:=hand) (hand':=hand') hp ht hv h1 h2
  by_cases hq:q.1=0
  ·have dq:decide (q.1=0)=true:=decide_eq_true hq
   refine⟨NoP,false,_,_,[],r0,r1,false,false,?_,?_,⟨c0,c1,w0,w1,asked,known,mv,pin,pg,tl,again,fen,fen',hand,over,has,dn,its,htl,tls,up,hh,hand',rfl,rfl,hc0,hc1,hp,ht,hv⟩,.inl ⟨rfl,rfl,rfl,rfl,rfl⟩⟩
   ·simp only [List.head?_cons,Option.bind_some,u0,u1,cond_false,b1,dq,cond_true]
   ·simp only [iter,l02,l12,l22,ix0,ix1,lZ,nP,nO,w01,w11,v0,v1,cond_true,cond_false,Option.bind_some,Sum.elim_inl,b2,dq,Option.map_some,Sum.elim_inr]
  ·have dq:decide (q.1=0)=false:=decide_eq_false hq
   rcases b4 with rfl | rfl
   ·rcases Om hn0 hc0 b3.1 b3.2 with ⟨p,c0',w0',a1,a2,a3,a4⟩ | ⟨a1,a2⟩
    ·refine⟨p,true,_,_,[p],wrap64 (r0+1),r1,true,false,?_,?_,⟨c0',c1,w0',w1,q,known,mv,pin,pg,tl,again,fen,fen',hand,over,has,dn,its,htl,tls,up,hh,hand',rfl,rfl,a3,hc1,hp,ht,hv⟩,.inr (.inl ⟨rfl,rfl,rfl,a4,fun h=>(by cases h),rfl⟩)⟩
     ·simp only [List.head?_cons,decide_true,Option.bind_some,u0,u1,cond_false,cond_true,b1,dq,q0n,a1,Bool.not_true]
     ·simp only [iter,decide_true,l02,l12,l22,ix0,ix1,lZ,nP,nO,w01,w11,v0,v1,cond_true,cond_false,Option.bind_some,Sum.elim_inl,b2,dq,a2,Bool.not_true,Option.map_some,Sum.elim_inr]
    ·refine⟨NoP,false,_,_,[],r0,r1,false,false,?_,?_,⟨c0,c1,w0,w1,asked,known,mv,pin,pg,tl,again,fen,fen',hand,over,has,dn,its,htl,tls,up,hh,hand',rfl,rfl,hc0,hc1,hp,ht,hv⟩,.inl ⟨rfl,rfl,rfl,rfl,rfl⟩⟩
     ·simp only [List.head?_cons,Int.reduceEq,decide_false,Option.bind_some,u0,u1,cond_false,cond_true,b1,dq,q0n,a1,Bool.not_false]
     ·simp only [iter,Int.reduceEq,decide_false,l02,l12,l22,ix0,ix1,lZ,nP,nO,w01,w11,v0,v1,cond_true,cond_false,Option.bind_some,Sum.elim_inl,b2,dq,a2,Bool.not_false,Option.map_some,Sum.elim_inr]
   ·rcases Om hn1 hc1 b3.1 b3.2 with ⟨p,c1',w1',a1,a2,a3,a4⟩ | ⟨a1,a2⟩
    ·refine⟨p,true,_,_,[p],r0,wrap64 (r1+1),false,true,?_,?_,⟨c0,c1',w0,w1',q,known,mv,pin,pg,tl,again,fen,fen',hand,over,has,dn,its,htl,tls,up,hh,hand',rfl,rfl,hc0,a3,hp,ht,hv⟩,.inr (.inr ⟨rfl,rfl,rfl,a4,fun h=>(by cases h),rfl⟩)⟩
     ·simp only [List.head?_cons,decide_true,Option.bind_some,u0,u1,cond_false,cond_true,b1,dq,q1n,q1m,a1,Bool.not_true]
     ·simp only [iter,decide_true,l02,l12,l22,ix0,ix1,lZ,nP,nO,w01,w11,v0,v1,cond_true,cond_false,Option.bind_some,Sum.elim_inl,b2,dq,a2,Bool.not_true,Option.map_some,Sum.elim_inr]
    ·refine⟨NoP,false,_,_,[],r0,r1,false,false,?_,?_,⟨c0,c1,w0,w1,asked,known,mv,pin,pg,tl,again,fen,fen',hand,over,has,dn,its,htl,tls,up,hh,hand',rfl,rfl,hc0,hc1,hp,ht,hv⟩,.inl ⟨rfl,rfl,rfl,rfl,rfl⟩⟩
     ·simp only [List.head?_cons,Int.reduceEq,decide_false,Option.bind_some,u0,u1,cond_false,cond_true,b1,dq,q1n,q1m,a1,Bool.not_false]
     ·simp only [iter,Int.reduceEq,decide_false,l02,l12,l22,ix0,ix1,lZ,nP,nO,w01,w11,v0,v1,cond_true,cond_false,Option.bind_some,Sum.elim_inl,b2,dq,a2,Bool.not_false,Option.map_some,Sum.elim_inr]
end Go.Proofs.YtpfjaaofpcbejaaGreat
