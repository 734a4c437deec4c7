/-
 Mirr: what is heard,by a mirror and by the document's.
-/
import Derived.Test.YtpfjaaofpcbejaaGreatMirrLawC
namespace Go.Proofs.YtpfjaaofpcbejaaGreat
open Go.Sx Go Classical
set_option maxRecDepth 10000
theorem zed {R1 R2:Type} {B:List TBD} {s1:(Int×List ae×Int×Unit)→Option ((Int×List ae×Int×Unit)⊕((List ae×Int×Unit)⊕R1))} {s2:(Int×List ae×Int×Unit)→Option ((Int×List ae×Int×Unit)⊕((Int×List ae×Unit)⊕R2))}
  (hn:B.length≤9223372036854775800) (hz:∀ b∈B,gp b.2.1)
  (h1:∀ (k:Nat) l to' b,B[k]? = some b→l.length≤64→s1 ((k:Int),l,to',())=if 64 < l.length+b.2.1.length then some (.inr (.inl (l,wrap64 (b.1 - 1),()))) else some (.inl (((k+1:Nat):Int),l++b.2.1,to',())))
  (e1:∀ l to',s1 ((B.length:Int),l,to',())=some (.inr (.inl (l,to',()))))
  (h2:∀ (k:Nat) l to' b,B[k]? = some b→l.length≤64→s2 (to',l,(k:Int),())=if 64 < l.length+b.2.1.length then some (.inr (.inl (wrap64 (b.1 - 1),l,()))) else some (.inl (to',l++b.2.1,((k+1:Nat):Int),())))
  (e2:∀ l to',s2 (to',l,(B.length:Int),())=some (.inr (.inl (to',l,())))) (t0:Int) :
  ∃ l to',iter s1 big (0,[],t0,())=some (.inl (l,to',()))∧iter s2 big (t0,[],0,())=some (.inl (to',l,()))∧gp l:=by
 have main:∀ d (k:Nat) l m,k+d=B.length→d < m→l.length≤64→gp l→∃ l' to',iter s1 m ((k:Int),l,t0,())=some (.inl (l',to',()))∧iter s2 m (t0,l,(k:Int),())=some (.inl (to',l',()))∧gp l':=by
  intro d
  induction d with
  | zero=>
   intro k l m hk hm hl hs
   cases m with
   | zero=>omega
   | succ m=>
    rw [Nat.add_zero] at hk
    subst hk
    exact⟨l,t0,by simp [iter,e1],by simp [iter,e2],hs⟩
  | succ d ih=>
   intro k l m hk hm hl hs
   cases m with
   | zero=>omega
   | succ m=>
    obtain⟨b,hb⟩:∃ b,B[k]? = some b:=⟨_,List.getElem?_eq_getElem (by omega)⟩
    have a1:=h1 k l t0 b hb hl
    have a2:=h2 k l t0 b hb hl
    by_cases c:64 < l.length+b.2.1.length
    ·rw [if_pos c] at a1 a2
     exact⟨l,wrap64 (b.1 - 1),by simp [iter,a1],by simp [iter,a2],hs⟩
    ·rw [if_neg c] at a1 a2
     have hs':gp (l++b.2.1):=⟨by unfold Sh;rw [List.length_append];omega,fun x hx=>by
      rcases List.mem_append.1 hx with h | h
      ·exact hs.2 x h
      ·exact (hz b (List.mem_of_getElem? hb)).2 x h⟩
     obtain⟨l',to',q1,q2,q3⟩:=ih (k+1) (l++b.2.1) m (by omega) (by omega) (by rw [List.length_append];omega) hs'
     exact⟨l',to',by simp only [iter,a1,Option.bind_some,Sum.elim_inl];exact q1,by simp only [iter,a2,Option.bind_some,Sum.elim_inl];exact q2,q3⟩
 exact main B.length 0 [] big (by omega) (by rw [jy];omega) (by simp) pK
def kQ (ep:Int) (src dst:List UInt8) (n0 n1 r0 r1:Int) (o0 o1:Bool) (M:dm) (W:fU):Prop:=
 ∃ c0 c1 w0 w1 asked known mv pin pg tl again fen fen' hand over has dn its htl tls up hh hand',
  M=((ep,src,dst,(n0,n1,()),()),0,[c0],[c1],asked,known,mv,pin,pg,tl,again,fen,hand,over,())∧
  W=(ep,src,dst,0,(w0,w1,()),asked,known,mv,pin,has,dn,its,htl,tls,up,again,fen',hh,hand',over,())∧
  nK 0 n0 r0 o0 c0 w0∧nK 1 n1 r1 o1 c1 w1∧PgR pg has dn its∧TlR tl htl tls up∧uP mv
theorem zbk {ep n0 n1 r0 r1:Int} {src dst:List UInt8} {o0 o1:Bool} {M:dm} {W:fU} {m:TMD} (h:kQ ep src dst n0 n1 r0 r1 o0 o1 M W) (zm:SzT m) :
  ∃ M' W',F30 (M,m,())=some (M',())∧F34 (W,m,())=some (W',())∧kQ ep src dst n0 n1 r0 r1 o0 o1 M' W':=by
 obtain⟨c0,c1,w0,w1,asked,known,mv,pin,pg,tl,again,fen,fen',hand,over,has,dn,its,htl,tls,up,hh,hand',rfl,rfl,hc0,hc1,hp,ht,hv⟩:=h
 have hm:uP m.2.2.2.2.2.2.2.2.2.2.2.2.2.2.2.2.1:=zm.2.2.2.2.2.2.2.2
 unfold F30 F34
 by_cases h12:m.1=12
 ·have d12:decide (m.1=12)=true:=decide_eq_true h12
  simp only [d12,cond_true]
  exact⟨_,_,rfl,rfl,_,_,_,_,_,_,_,_,_,_,_,_,_,_,_,_,_,_,_,_,_,_,_,rfl,rfl,hc0,hc1,.inl ⟨rfl,rfl⟩,.inl ⟨rfl,rfl⟩,hm⟩
 ·have d12:decide (m.1=12)=false:=decide_eq_false h12
  simp only [d12,cond_false]
  cases decide (asked.2.2.2.1.2.2.1.1=12) with
  | true=>exact⟨_,_,rfl,rfl,_,_,_,_,_,_,_,_,_,_,_,_,_,_,_,_,_,_,_,_,_,_,_,rfl,rfl,hc0,hc1,.inl ⟨rfl,rfl⟩,.inl ⟨rfl,rfl⟩,hv⟩
  | false=>exact⟨_,_,rfl,rfl,_,_,_,_,_,_,_,_,_,_,_,_,_,_,_,_,_,_,_,_,_,_,_,rfl,rfl,hc0,hc1,.inl ⟨rfl,rfl⟩,.inl ⟨rfl,rfl⟩,hv⟩
theorem zaW {ep n0 n1 r0 r1:Int} {src dst:List UInt8} {o0 o1:Bool} {M:dm} {W:fU} {m:TMD} (h:kQ ep src dst n0 n1 r0 r1 o0 o1 M W) (zm:SzT m) (hc:tV m) :
  ∃ M' W',F54 (M,m,())=some (M',())∧F56 (W,m,())=some (W',())∧kQ ep src dst n0 n1 r0 r1 o0 o1 M' W':=by
 obtain⟨c0,c1,w0,w1,asked,known,mv,pin,pg,tl,again,fen,fen',hand,over,has,dn,its,htl,tls,up,hh,hand',rfl,rfl,hc0,hc1,hp,ht,hv⟩:=h
 obtain⟨-,-,-,⟨hb1,hb2⟩,-⟩:=hc
 obtain⟨-,-,-,-,-,hz,-⟩:=zm
 obtain⟨xk,rid,raft,job,cl,fr,en,rev,most,err,hint,rep,bat,xi,done,hd,xm,⟨⟩⟩:=m
 have hb1:bat.length≤dG:=hb1
 have hb2:∀ b∈bat,b.2.1.length≤dG:=hb2
 have hz:∀ b∈bat,gp b.2.1:=hz
 have hcap:dG=34359738368:=rfl
 unfold F54 F56
 have cond64:∀ (l:List ae) (b:TBD),b∈bat→l.length≤64→decide ((64:Int) < wrap64 (Int.ofNat l.length+Int.ofNat b.2.1.length))=decide (64 < l.length+b.2.1.length):=fun l b hb hl=>by
  have:=hb2 b hb
  have e:wrap64 (Int.ofNat l.length+Int.ofNat b.2.1.length)=((l.length+b.2.1.length:Nat):Int):=by
   rw [dU (by simp;omega) (by simp;omega)]
   simp
  rw [e]
  exact decide_eq_decide.2 (by omega)
 obtain⟨l,to',e1,e2,hs⟩:=zed (B:=bat) (by omega) hz (t0:=wrap64 (rev - 1)) (R1:=dm×Unit) (R2:=fU×Unit)
  (s1:=fun (x_1:Int×List ae×Int×Unit)=>bif decide (x_1.1 < Int.ofNat (List.length bat)) then
   Option.bind (idx bat x_1.1) fun b=>bif decide (64 < wrap64 (Int.ofNat (List.length x_1.2.1)+Int.ofNat (List.length b.2.1))) then some (Sum.inr (Sum.inl (x_1.2.1,wrap64 (b.1 - 1),()))) else Option.bind (fD x_1.2.1 b.2.1) fun b=>some (Sum.inl (wrap64 (x_1.1+1),b,x_1.2.2))
   else some (Sum.inr (Sum.inl x_1.2)))
  (s2:=fun (x_1:Int×List ae×Int×Unit)=>bif decide (x_1.2.2.1 < Int.ofNat (List.length bat)) then
   Option.bind (idx bat x_1.2.2.1) fun b=>bif decide (64 < wrap64 (Int.ofNat (List.length x_1.2.1)+Int.ofNat (List.length b.2.1))) then Option.bind (idx bat x_1.2.2.1) fun b=>some (Sum.inr (Sum.inl (wrap64 (b.1 - 1),x_1.2.1,()))) else Option.bind (idx bat x_1.2.2.1) fun b=>Option.bind (fD x_1.2.1 b.2.1) fun b=>some (Sum.inl (x_1.1,b,wrap64 (x_1.2.2.1+1),()))
   else some (Sum.inr (Sum.inl (x_1.1,x_1.2.1,()))))
  (fun k l to' b hb hl=>by
   have hk:k < bat.length:=(List.getElem?_eq_some_iff.1 hb).1
   have hm:=List.mem_of_getElem? hb
   have wk:wrap64 ((k:Int)+1)=((k+1:Nat):Int):=bF (by omega)
   simp only [aI,hk,decide_true,cond_true,aS,hb,Option.bind_some,cond64 l b hm hl]
   by_cases c:64 < l.length+b.2.1.length
   ·simp only [c,decide_true,cond_true,if_true]
   ·simp only [c,decide_false,cond_false,if_false,oG (show l.length+b.2.1.length≤dG by omega),Option.bind_some,wk])
  (fun l to'=>by simp only [aI,Nat.lt_irrefl,decide_false,cond_false])
  (fun k l to' b hb hl=>by
   have hk:k < bat.length:=(List.getElem?_eq_some_iff.1 hb).1
   have hm:=List.mem_of_getElem? hb
   have wk:wrap64 ((k:Int)+1)=((k+1:Nat):Int):=bF (by omega)
   simp only [aI,hk,decide_true,cond_true,aS,hb,Option.bind_some,cond64 l b hm hl]
   by_cases c:64 < l.length+b.2.1.length
   ·simp only [c,decide_true,cond_true,if_true]
   ·simp only [c,decide_false,cond_false,if_false,oG (show l.length+b.2.1.length≤dG by omega),Option.bind_some,wk])
  (fun l to'=>by simp only [aI,Nat.lt_irrefl,decide_false,cond_false])
 by_cases hlt:mv.2.2.2.2.2.2.2.1 < to'
 ·refine⟨((ep,src,dst,(n0,n1,()),()),0,[c0],[c1],asked,known,mv,pin,pg,[(l,to',())],again,fen,hand,over,()),(ep,src,dst,0,(w0,w1,()),asked,known,mv,pin,has,dn,its,true,l,to',again,fen',hh,hand',over,()),aU e1 ?_,aU e2 ?_,?_⟩
  ·simp only [Sum.elim_inl,decide_eq_true hlt,cond_true,tk9]
  ·simp only [Sum.elim_inl,decide_eq_true hlt,cond_true,aW]
  ·exact⟨_,_,_,_,_,_,_,_,_,_,_,_,_,_,_,_,_,_,_,_,_,_,_,rfl,rfl,hc0,hc1,hp,.inr ⟨rfl,rfl,hs⟩,hv⟩
 ·refine⟨((ep,src,dst,(n0,n1,()),()),0,[c0],[c1],asked,known,mv,pin,pg,tl,again,fen,hand,over,()),(ep,src,dst,0,(w0,w1,()),asked,known,mv,pin,has,dn,its,htl,tls,up,again,fen',hh,hand',over,()),aU e1 ?_,aU e2 ?_,?_⟩
  ·simp only [Sum.elim_inl,decide_eq_false hlt,cond_false,tk9]
  ·simp only [Sum.elim_inl,decide_eq_false hlt,cond_false,aW]
  ·exact⟨_,_,_,_,_,_,_,_,_,_,_,_,_,_,_,_,_,_,_,_,_,_,_,rfl,rfl,hc0,hc1,hp,ht,hv⟩
section
variable (cfg:lw) (ord:Int) (t0 t1:List CD) (asked:TMD) (known:Bool) (mv:aH) (pin:Int) (pg:List (List ae×Bool×Unit)) (tl:List (List ae×Int×Unit)) (again fen:Bool) (hand:List dO) (over:Bool)
 (rid:Int) (raft:Msg) (job:mi) (cl:Int) (fr en:List UInt8) (rev most hint:Int) (rep:fM) (bat:List TBD) (xi:List ae) (done:Bool) (hd:dO) (xm:aH)
theorem ziW:F31 ((cfg,ord,t0,t1,asked,known,mv,pin,pg,tl,again,fen,hand,over,()),(9,rid,raft,job,cl,fr,en,rev,most,0,hint,rep,bat,xi,done,hd,xm,()),())=Option.bind (F54 ((cfg,ord,t0,t1,asked,known,mv,pin,pg,tl,again,fen,hand,over,()),(9,rid,raft,job,cl,fr,en,rev,most,0,hint,rep,bat,xi,done,hd,xm,()),())) fun b=>some b:=by kernel_rfl
theorem zh6:F31 ((cfg,ord,t0,t1,asked,known,mv,pin,pg,tl,again,fen,hand,over,()),(10,rid,raft,job,cl,fr,en,rev,most,0,hint,rep,bat,xi,done,hd,xm,()),())=some ((cfg,ord,t0,t1,asked,known,mv,pin,[(xi,done,())],tl,again,fen,hand,over,()),()):=by kernel_rfl
theorem zh5:F31 ((cfg,ord,t0,t1,asked,known,mv,pin,pg,tl,again,fen,hand,over,()),(11,rid,raft,job,cl,fr,en,rev,most,0,hint,rep,bat,xi,done,hd,xm,()),())=some ((cfg,ord,t0,t1,asked,known,mv,pin,pg,tl,again,fen,[hd],over,()),()):=by kernel_rfl
theorem zh4:F31 ((cfg,ord,t0,t1,asked,known,mv,pin,pg,tl,again,fen,hand,over,()),(12,rid,raft,job,cl,fr,en,rev,most,0,hint,rep,bat,xi,done,hd,xm,()),())=some ((cfg,ord,t0,t1,asked,known,mv,fC rev 1,pg,tl,again,fen,hand,over,()),()):=by kernel_rfl
theorem PG:F31 ((cfg,ord,t0,t1,asked,known,mv,pin,pg,tl,again,fen,hand,over,()),(8,rid,raft,job,cl,fr,en,rev,most,0,hint,rep,bat,xi,done,hd,xm,()),())=bif decide (rep.1=0) then some ((cfg,ord,t0,t1,asked,known,mv,pin,pg,tl,again,fen || decide (asked.2.2.2.1.2.2.1.1=10),hand,over || decide (asked.2.2.2.1.2.2.1.1=11),()),()) else some ((cfg,ord,t0,t1,asked,known,mv,pin,pg,tl,again,fen,hand,over,()),()):=by
 cases fen <;> cases over <;> kernel_rfl
theorem zh3:F31 ((cfg,ord,t0,t1,asked,known,mv,pin,pg,tl,again,fen,hand,over,()),(9,rid,raft,job,cl,fr,en,rev,most,9,hint,rep,bat,xi,done,hd,xm,()),())=some ((cfg,ord,t0,t1,asked,known,mv,0,pg,tl,true,fen,hand,over,()),()):=by kernel_rfl
theorem zg2:F31 ((cfg,ord,t0,t1,asked,known,mv,pin,pg,tl,again,fen,hand,over,()),(10,rid,raft,job,cl,fr,en,rev,most,9,hint,rep,bat,xi,done,hd,xm,()),())=some ((cfg,ord,t0,t1,asked,known,mv,0,pg,tl,true,fen,hand,over,()),()):=by kernel_rfl
theorem OU:∀ err:Int,err≠0→F31 ((cfg,ord,t0,t1,asked,known,mv,pin,pg,tl,again,fen,hand,over,()),(8,rid,raft,job,cl,fr,en,rev,most,err,hint,rep,bat,xi,done,hd,xm,()),())=some ((cfg,ord,t0,t1,asked,known,mv,pin,pg,tl,again,fen,hand,over,()),())
 | Int.ofNat 0,h=>absurd rfl h
 | Int.ofNat (n+1),_=>by kernel_rfl
 | Int.negSucc n,_=>by kernel_rfl
theorem NZ:∀ err:Int,err≠0→F31 ((cfg,ord,t0,t1,asked,known,mv,pin,pg,tl,again,fen,hand,over,()),(11,rid,raft,job,cl,fr,en,rev,most,err,hint,rep,bat,xi,done,hd,xm,()),())=some ((cfg,ord,t0,t1,asked,known,mv,pin,pg,tl,again,fen,hand,over,()),())
 | Int.ofNat 0,h=>absurd rfl h
 | Int.ofNat (n+1),_=>by kernel_rfl
 | Int.negSucc n,_=>by kernel_rfl
theorem NY:∀ err:Int,err≠0→F31 ((cfg,ord,t0,t1,asked,known,mv,pin,pg,tl,again,fen,hand,over,()),(12,rid,raft,job,cl,fr,en,rev,most,err,hint,rep,bat,xi,done,hd,xm,()),())=some ((cfg,ord,t0,t1,asked,known,mv,pin,pg,tl,again,fen,hand,over,()),())
 | Int.ofNat 0,h=>absurd rfl h
 | Int.ofNat (n+1),_=>by kernel_rfl
 | Int.negSucc n,_=>by kernel_rfl
theorem zh2:∀ err:Int,err≠0→err≠9→F31 ((cfg,ord,t0,t1,asked,known,mv,pin,pg,tl,again,fen,hand,over,()),(9,rid,raft,job,cl,fr,en,rev,most,err,hint,rep,bat,xi,done,hd,xm,()),())=some ((cfg,ord,t0,t1,asked,known,mv,pin,pg,tl,again,fen,hand,over,()),())
 | Int.ofNat 0,h,_=>absurd rfl h
 | Int.ofNat 1,_,_=>by kernel_rfl
 | Int.ofNat 2,_,_=>by kernel_rfl
 | Int.ofNat 3,_,_=>by kernel_rfl
 | Int.ofNat 4,_,_=>by kernel_rfl
 | Int.ofNat 5,_,_=>by kernel_rfl
 | Int.ofNat 6,_,_=>by kernel_rfl
 | Int.ofNat 7,_,_=>by kernel_rfl
 | Int.ofNat 8,_,_=>by kernel_rfl
 | Int.ofNat 9,_,h=>absurd rfl h
 | Int.ofNat (n+10),_,_=>by kernel_rfl
 | Int.negSucc n,_,_=>by kernel_rfl
theorem zg1:∀ err:Int,err≠0→err≠9→F31 ((cfg,ord,t0,t1,asked,known,mv,pin,pg,tl,again,fen,hand,over,()),(10,rid,raft,job,cl,fr,en,rev,most,err,hint,rep,bat,xi,done,hd,xm,()),())=some ((cfg,ord,t0,t1,asked,known,mv,pin,pg,tl,again,fen,hand,over,()),())
 | Int.ofNat 0,h,_=>absurd rfl h
 | Int.ofNat 1,_,_=>by kernel_rfl
 | Int.ofNat 2,_,_=>by kernel_rfl
 | Int.ofNat 3,_,_=>by kernel_rfl
 | Int.ofNat 4,_,_=>by kernel_rfl
 | Int.ofNat 5,_,_=>by kernel_rfl
 | Int.ofNat 6,_,_=>by kernel_rfl
 | Int.ofNat 7,_,_=>by kernel_rfl
 | Int.ofNat 8,_,_=>by kernel_rfl
 | Int.ofNat 9,_,h=>absurd rfl h
 | Int.ofNat (n+10),_,_=>by kernel_rfl
 | Int.negSucc n,_,_=>by kernel_rfl
end
section
variable (ep:Int) (src dst:List UInt8) (to':DU) (asked:TMD) (known:Bool) (mv:aH) (pin:Int) (has dn:Bool) (its:List ae) (htl:Bool) (tls:List ae) (up:Int) (again fen:Bool) (hh:Bool) (hand:dO) (over:Bool)
 (rid:Int) (raft:Msg) (job:mi) (cl:Int) (fr en:List UInt8) (rev most hint:Int) (rep:fM) (bat:List TBD) (xi:List ae) (done:Bool) (hd:dO) (xm:aH)
theorem zh1:F35 ((ep,src,dst,0,to',asked,known,mv,pin,has,dn,its,htl,tls,up,again,fen,hh,hand,over,()),(10,rid,raft,job,cl,fr,en,rev,most,0,hint,rep,bat,xi,done,hd,xm,()),())=some ((ep,src,dst,0,to',asked,known,mv,pin,true,done,xi,htl,tls,up,again,fen,hh,hand,over,()),()):=by kernel_rfl
theorem zh0:F35 ((ep,src,dst,0,to',asked,known,mv,pin,has,dn,its,htl,tls,up,again,fen,hh,hand,over,()),(11,rid,raft,job,cl,fr,en,rev,most,0,hint,rep,bat,xi,done,hd,xm,()),())=some ((ep,src,dst,0,to',asked,known,mv,pin,has,dn,its,htl,tls,up,again,fen,true,hd,over,()),()):=by kernel_rfl
theorem zhZ:F35 ((ep,src,dst,0,to',asked,known,mv,pin,has,dn,its,htl,tls,up,again,fen,hh,hand,over,()),(12,rid,raft,job,cl,fr,en,rev,most,0,hint,rep,bat,xi,done,hd,xm,()),())=some ((ep,src,dst,0,to',asked,known,mv,fC rev 1,has,dn,its,htl,tls,up,again,fen,hh,hand,over,()),()):=by kernel_rfl
theorem zhX:F35 ((ep,src,dst,0,to',asked,known,mv,pin,has,dn,its,htl,tls,up,again,fen,hh,hand,over,()),(9,rid,raft,job,cl,fr,en,rev,most,9,hint,rep,bat,xi,done,hd,xm,()),())=some ((ep,src,dst,0,to',asked,known,mv,0,has,dn,its,htl,tls,up,true,fen,hh,hand,over,()),()):=by kernel_rfl
theorem zg0:F35 ((ep,src,dst,0,to',asked,known,mv,pin,has,dn,its,htl,tls,up,again,fen,hh,hand,over,()),(10,rid,raft,job,cl,fr,en,rev,most,9,hint,rep,bat,xi,done,hd,xm,()),())=some ((ep,src,dst,0,to',asked,known,mv,0,has,dn,its,htl,tls,up,true,fen,hh,hand,over,()),()):=by kernel_rfl
theorem OT:∀ err:Int,err≠0→F35 ((ep,src,dst,0,to',asked,known,mv,pin,has,dn,its,htl,tls,up,again,fen,hh,hand,over,()),(8,rid,raft,job,cl,fr,en,rev,most,err,hint,rep,bat,xi,done,hd,xm,()),())=some ((ep,src,dst,0,to',asked,known,mv,pin,has,dn,its,htl,tls,up,again,fen,hh,hand,over,()),())
 | Int.ofNat 0,h=>absurd rfl h
 | Int.ofNat 1,_=>by kernel_rfl
 | Int.ofNat 2,_=>by kernel_rfl
 | Int.ofNat 3,_=>by kernel_rfl
 | Int.ofNat 4,_=>by kernel_rfl
 | Int.ofNat 5,_=>by kernel_rfl
 | Int.ofNat 6,_=>by kernel_rfl
 | Int.ofNat 7,_=>by kernel_rfl
 | Int.ofNat 8,_=>by kernel_rfl
 | Int.ofNat 9,_=>by kernel_rfl
 | Int.ofNat (n+10),_=>by kernel_rfl
 | Int.negSucc n,_=>by kernel_rfl
theorem NW:∀ err:Int,err≠0→F35 ((ep,src,dst,0,to',asked,known,mv,pin,has,dn,its,htl,tls,up,again,fen,hh,hand,over,()),(11,rid,raft,job,cl,fr,en,rev,most,err,hint,rep,bat,xi,done,hd,xm,()),())=some ((ep,src,dst,0,to',asked,known,mv,pin,has,dn,its,htl,tls,up,again,fen,hh,hand,over,()),())
 | Int.ofNat 0,h=>absurd rfl h
 | Int.ofNat 1,_=>by kernel_rfl
 | Int.ofNat 2,_=>by kernel_rfl
 | Int.ofNat 3,_=>by kernel_rfl
 | Int.ofNat 4,_=>by kernel_rfl
 | Int.ofNat 5,_=>by kernel_rfl
 | Int.ofNat 6,_=>by kernel_rfl
 | Int.ofNat 7,_=>by kernel_rfl
 | Int.ofNat 8,_=>by kernel_rfl
 | Int.ofNat 9,_=>by kernel_rfl
 | Int.ofNat (n+10),_=>by kernel_rfl
 | Int.negSucc n,_=>by kernel_rfl
theorem NV:∀ err:Int,err≠0→F35 ((ep,src,dst,0,to',asked,known,mv,pin,has,dn,its,htl,tls,up,again,fen,hh,hand,over,()),(12,rid,raft,job,cl,fr,en,rev,most,err,hint,rep,bat,xi,done,hd,xm,()),())=some ((ep,src,dst,0,to',asked,known,mv,pin,has,dn,its,htl,tls,up,again,fen,hh,hand,over,()),())
 | Int.ofNat 0,h=>absurd rfl h
 | Int.ofNat 1,_=>by kernel_rfl
 | Int.ofNat 2,_=>by kernel_rfl
 | Int.ofNat 3,_=>by kernel_rfl
 | Int.ofNat 4,_=>by kernel_rfl
 | Int.ofNat 5,_=>by kernel_rfl
 | Int.ofNat 6,_=>by kernel_rfl
 | Int.ofNat 7,_=>by kernel_rfl
 | Int.ofNat 8,_=>by kernel_rfl
 | Int.ofNat 9,_=>by kernel_rfl
 | Int.ofNat (n+10),_=>by kernel_rfl
 | Int.negSucc n,_=>by kernel_rfl
theorem zhW:∀ err:Int,err≠0→err≠9→F35 ((ep,src,dst,0,to',asked,known,mv,pin,has,dn,its,htl,tls,up,again,fen,hh,hand,over,()),(9,rid,raft,job,cl,fr,en,rev,most,err,hint,rep,bat,xi,done,hd,xm,()),())=some ((ep,src,dst,0,to',asked,known,mv,pin,has,dn,its,htl,tls,up,again,fen,hh,hand,over,()),())
 | Int.ofNat 0,h,_=>absurd rfl h
 | Int.ofNat 1,_,_=>by kernel_rfl
 | Int.ofNat 2,_,_=>by kernel_rfl
 | Int.ofNat 3,_,_=>by kernel_rfl
 | Int.ofNat 4,_,_=>by kernel_rfl
 | Int.ofNat 5,_,_=>by kernel_rfl
 | Int.ofNat 6,_,_=>by kernel_rfl
 | Int.ofNat 7,_,_=>by kernel_rfl
 | Int.ofNat 8,_,_=>by kernel_rfl
 | Int.ofNat 9,_,h=>absurd rfl h
 | Int.ofNat (n+10),_,_=>by kernel_rfl
 | Int.negSucc n,_,_=>by kernel_rfl
theorem zgZ:∀ err:Int,err≠0→err≠9→F35 ((ep,src,dst,0,to',asked,known,mv,pin,has,dn,its,htl,tls,up,again,fen,hh,hand,over,()),(10,rid,raft,job,cl,fr,en,rev,most,err,hint,rep,bat,xi,done,hd,xm,()),())=some ((ep,src,dst,0,to',asked,known,mv,pin,has,dn,its,htl,tls,up,again,fen,hh,hand,over,()),())
 | Int.ofNat 0,h,_=>absurd rfl h
 | Int.ofNat 1,_,_=>by kernel_rfl
 | Int.ofNat 2,_,_=>by kernel_rfl
 | Int.ofNat 3,_,_=>by kernel_rfl
 | Int.ofNat 4,_,_=>by kernel_rfl
 | Int.ofNat 5,_,_=>by kernel_rfl
 | Int.ofNat 6,_,_=>by kernel_rfl
 | Int.ofNat 7,_,_=>by kernel_rfl
 | Int.ofNat 8,_,_=>by kernel_rfl
 | Int.ofNat 9,_,h=>absurd rfl h
 | Int.ofNat (n+10),_,_=>by kernel_rfl
 | Int.negSucc n,_,_=>by kernel_rfl
theorem zhY (rep:Int×Bool×Int×List ae×Int×Int×Unit):∀ e:Int,e≠0→F35 ((ep,src,dst,0,to',asked,known,mv,pin,has,dn,its,htl,tls,up,again,fen,hh,hand,over,()),(8,rid,raft,job,cl,fr,en,rev,most,0,hint,(e,rep),bat,xi,done,hd,xm,()),())=some ((ep,src,dst,0,to',asked,known,mv,pin,has,dn,its,htl,tls,up,again,fen,hh,hand,over,()),())
 | Int.ofNat 0,h=>absurd rfl h
 | Int.ofNat (n+1),_=>by kernel_rfl
 | Int.negSucc n,_=>by kernel_rfl
theorem ziV (q1 q2:Int) (q3:iO) (q4 q5:Int) (q6) (q7:Unit) (q8) (rep:Int×Bool×Int×List ae×Int×Int×Unit):∀ a:Int,F35 ((ep,src,dst,0,to',(q1,q2,q3,(q4,q5,(a,q6),q7),q8),known,mv,pin,has,dn,its,htl,tls,up,again,fen,hh,hand,over,()),(8,rid,raft,job,cl,fr,en,rev,most,0,hint,(0,rep),bat,xi,done,hd,xm,()),())=some ((ep,src,dst,0,to',(q1,q2,q3,(q4,q5,(a,q6),q7),q8),known,mv,pin,has,dn,its,htl,tls,up,again,(decide (a=10) || fen),hh,hand,(over || decide (a=11)),()),())
 | Int.ofNat 0=>by cases over <;> kernel_rfl
 | Int.ofNat 1=>by cases over <;> kernel_rfl
 | Int.ofNat 2=>by cases over <;> kernel_rfl
 | Int.ofNat 3=>by cases over <;> kernel_rfl
 | Int.ofNat 4=>by cases over <;> kernel_rfl
 | Int.ofNat 5=>by cases over <;> kernel_rfl
 | Int.ofNat 6=>by cases over <;> kernel_rfl
 | Int.ofNat 7=>by cases over <;> kernel_rfl
 | Int.ofNat 8=>by cases over <;> kernel_rfl
 | Int.ofNat 9=>by cases over <;> kernel_rfl
 | Int.ofNat 10=>by cases over <;> kernel_rfl
 | Int.ofNat 11=>by cases over <;> kernel_rfl
 | Int.ofNat (n+12)=>by cases over <;> kernel_rfl
 | Int.negSucc n=>by cases over <;> kernel_rfl
end
theorem zeu {ep n0 n1 r0 r1:Int} {src dst:List UInt8} {o0 o1:Bool} {M:dm} {W:fU} {m:TMD} (h:kQ ep src dst n0 n1 r0 r1 o0 o1 M W) (zm:SzT m) (hB:Bnd m) (hR:iw m) (h8:8≤m.1) :
  ∃ M' W',F31 (M,m,())=some (M',())∧F35 (W,m,())=some (W',())∧kQ ep src dst n0 n1 r0 r1 o0 o1 M' W':=by
 have hcap:=Bf zm.1 hR hB.2.1 hB.2.2
 have h12:=hR.1.2
 have hpull:=zaW h zm hcap
 have hself:=h
 obtain⟨c0,c1,w0,w1,asked,known,mv,pin,pg,tl,again,fen,fen',hand,over,has,dn,its,htl,tls,up,hh,hand',rfl,rfl,hc0,hc1,hp,ht,hv⟩:=h
 obtain⟨M',W',p1,p2,p3⟩:=hpull
 have hxi:gp m.2.2.2.2.2.2.2.2.2.2.2.2.2.1:=zm.2.2.2.2.2.2.1
 clear zm hB hR hcap
 obtain⟨xk,rid,raft,job,cl,fr,en,rev,most,err,hint,rep,bat,xi,done,hd,xm,⟨⟩⟩:=m
 have hk:xk=8∨xk=9∨xk=10∨xk=11∨xk=12:=by
  have a:(8:Int)≤xk:=h8
  have b:xk≤12:=h12
  omega
 clear h8 h12
 by_cases e0:err=0
 ·subst e0
  rcases hk with rfl | rfl | rfl | rfl | rfl
  ·obtain⟨re,rep⟩:=rep
   by_cases hr:re=0
   ·subst hr
    obtain⟨q1,q2,q3,⟨q4,q5,⟨a,q6⟩,q7⟩,q8⟩:=asked
    exact⟨_,_,(PG ..).trans rfl,(ziV ..).trans rfl,_,_,_,_,_,_,_,_,_,_,_,_,_,_,_,_,_,_,_,_,_,_,_,rfl,rfl,hc0,hc1,hp,ht,hv⟩
   ·exact⟨_,_,(PG ..).trans (by rw [show decide ((re,rep).1=0)=false from decide_eq_false hr];rfl),by apply zhY;exact hr,hself⟩
  ·refine⟨M',W',(ziW ..).trans (by rw [p1];rfl),?_,p3⟩
   have z9:decide ((0:Int)=9)=false:=rfl
   have z0:decide ((0:Int)=0)=true:=rfl
   have k9:decide ((9:Int)=9)=true:=rfl
   have k8:decide ((9:Int)=8)=false:=rfl
   unfold F35
   simp only [Int.reduceEq,decide_true,decide_false,Bool.not_true,cond_true,cond_false,Option.bind_some,Sum.elim_inl,tk8]
   rw [p2]
   rfl
  ·exact⟨_,_,zh6 ..,zh1 ..,_,_,_,_,_,_,_,_,_,_,_,_,_,_,_,_,_,_,_,_,_,_,_,rfl,rfl,hc0,hc1,.inr ⟨rfl,rfl,hxi⟩,ht,hv⟩
  ·exact⟨_,_,zh5 ..,zh0 ..,_,_,_,_,_,_,_,_,_,_,_,_,_,_,_,_,_,_,_,_,_,_,_,rfl,rfl,hc0,hc1,hp,ht,hv⟩
  ·exact⟨_,_,zh4 ..,zhZ ..,_,_,_,_,_,_,_,_,_,_,_,_,_,_,_,_,_,_,_,_,_,_,_,rfl,rfl,hc0,hc1,hp,ht,hv⟩
 ·by_cases e9:err=9
  ·subst e9
   rcases hk with rfl | rfl | rfl | rfl | rfl
   ·exact⟨_,_,by apply OU;exact e0,by apply OT;exact e0,hself⟩
   ·exact⟨_,_,zh3 ..,zhX ..,_,_,_,_,_,_,_,_,_,_,_,_,_,_,_,_,_,_,_,_,_,_,_,rfl,rfl,hc0,hc1,hp,ht,hv⟩
   ·exact⟨_,_,zg2 ..,zg0 ..,_,_,_,_,_,_,_,_,_,_,_,_,_,_,_,_,_,_,_,_,_,_,_,rfl,rfl,hc0,hc1,hp,ht,hv⟩
   ·exact⟨_,_,by apply NZ;exact e0,by apply NW;exact e0,hself⟩
   ·exact⟨_,_,by apply NY;exact e0,by apply NV;exact e0,hself⟩
  ·rcases hk with rfl | rfl | rfl | rfl | rfl
   ·exact⟨_,_,by apply OU;exact e0,by apply OT;exact e0,hself⟩
   ·exact⟨_,_,by apply zh2;exact e0;exact e9,by apply zhW;exact e0;exact e9,hself⟩
   ·exact⟨_,_,by apply zg1;exact e0;exact e9,by apply zgZ;exact e0;exact e9,hself⟩
   ·exact⟨_,_,by apply NZ;exact e0,by apply NW;exact e0,hself⟩
   ·exact⟨_,_,by apply NY;exact e0,by apply NV;exact e0,hself⟩
end Go.Proofs.YtpfjaaofpcbejaaGreat
