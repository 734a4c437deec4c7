/-
 Mirr: what is heard,by a mirror and by the document's.
-/
import Derived.Test.YtpfjaaofpcbejaaGreatMirrLawC
namespace Go.Proofs.YtpfjaaofpcbejaaGreat
open Go.Sx Go Classical
set_option maxRecDepth 10000
theorem pull_loop {R1 R2:Type} {B:List TBD} {s1:(Int×List T70D×Int×Unit)→Option ((Int×List T70D×Int×Unit)⊕((List T70D×Int×Unit)⊕R1))} {s2:(Int×List T70D×Int×Unit)→Option ((Int×List T70D×Int×Unit)⊕((Int×List T70D×Unit)⊕R2))}
  (hn:B.length≤9223372036854775800) (hz:∀ b∈B,SzItems b.2.1)
  (h1:∀ (k:Nat) l to' b,B[k]? = some b→l.length≤64→s1 ((k:Int),l,to',())=if 64 < l.length+b.2.1.length then some (.inr (.inl (l,wrap64 (b.1 - 1),()))) else some (.inl (((k+1:Nat):Int),l++b.2.1,to',())))
  (e1:∀ l to',s1 ((B.length:Int),l,to',())=some (.inr (.inl (l,to',()))))
  (h2:∀ (k:Nat) l to' b,B[k]? = some b→l.length≤64→s2 (to',l,(k:Int),())=if 64 < l.length+b.2.1.length then some (.inr (.inl (wrap64 (b.1 - 1),l,()))) else some (.inl (to',l++b.2.1,((k+1:Nat):Int),())))
  (e2:∀ l to',s2 (to',l,(B.length:Int),())=some (.inr (.inl (to',l,())))) (t0:Int) :
  ∃ l to',iter s1 big (0,[],t0,())=some (.inl (l,to',()))∧iter s2 big (t0,[],0,())=some (.inl (to',l,()))∧SzItems l:=by
 have main:∀ d (k:Nat) l m,k+d=B.length→d < m→l.length≤64→SzItems l→∃ l' to',iter s1 m ((k:Int),l,t0,())=some (.inl (l',to',()))∧iter s2 m (t0,l,(k:Int),())=some (.inl (to',l',()))∧SzItems l':=by
  intro d
  induction d with
  | zero=>
   intro k l m hk hm hl hs
   cases m with
   | zero=>omega
   | succ m=>
    rw [Nat.add_zero] at hk
    subst hk
    exact⟨l,t0,by simp [iter,e1],by simp [iter,e2],hs⟩
  | succ d ih=>
   intro k l m hk hm hl hs
   cases m with
   | zero=>omega
   | succ m=>
    obtain⟨b,hb⟩:∃ b,B[k]? = some b:=⟨_,List.getElem?_eq_getElem (by omega)⟩
    have a1:=h1 k l t0 b hb hl
    have a2:=h2 k l t0 b hb hl
    by_cases c:64 < l.length+b.2.1.length
    ·rw [if_pos c] at a1 a2
     exact⟨l,wrap64 (b.1 - 1),by simp [iter,a1],by simp [iter,a2],hs⟩
    ·rw [if_neg c] at a1 a2
     have hs':SzItems (l++b.2.1):=⟨by unfold Sh;rw [List.length_append];omega,fun x hx=>by
      rcases List.mem_append.1 hx with h | h
      ·exact hs.2 x h
      ·exact (hz b (List.mem_of_getElem? hb)).2 x h⟩
     obtain⟨l',to',q1,q2,q3⟩:=ih (k+1) (l++b.2.1) m (by omega) (by omega) (by rw [List.length_append];omega) hs'
     exact⟨l',to',by simp only [iter,a1,Option.bind_some,Sum.elim_inl];exact q1,by simp only [iter,a2,Option.bind_some,Sum.elim_inl];exact q2,q3⟩
 exact main B.length 0 [] big (by omega) (by rw [big_eq];omega) (by simp) szItemsNil
def MRel (ep:Int) (src dst:List UInt8) (n0 n1 r0 r1:Int) (o0 o1:Bool) (M:L93D) (W:Y61D):Prop:=
 ∃ c0 c1 w0 w1 asked known mv pin pg tl again fen fen' hand over has dn its htl tls up hh hand',
  M=((ep,src,dst,(n0,n1,()),()),0,[c0],[c1],asked,known,mv,pin,pg,tl,again,fen,hand,over,())∧
  W=(ep,src,dst,0,(w0,w1,()),asked,known,mv,pin,has,dn,its,htl,tls,up,again,fen',hh,hand',over,())∧
  CallR 0 n0 r0 o0 c0 w0∧CallR 1 n1 r1 o1 c1 w1∧PgR pg has dn its∧TlR tl htl tls up∧SzMove mv
theorem there_both {ep n0 n1 r0 r1:Int} {src dst:List UInt8} {o0 o1:Bool} {M:L93D} {W:Y61D} {m:TMD} (h:MRel ep src dst n0 n1 r0 r1 o0 o1 M W) (zm:SzT m) :
  ∃ M' W',F30 (M,m,())=some (M',())∧F34 (W,m,())=some (W',())∧MRel ep src dst n0 n1 r0 r1 o0 o1 M' W':=by
 obtain⟨c0,c1,w0,w1,asked,known,mv,pin,pg,tl,again,fen,fen',hand,over,has,dn,its,htl,tls,up,hh,hand',rfl,rfl,hc0,hc1,hp,ht,hv⟩:=h
 have hm:SzMove m.2.2.2.2.2.2.2.2.2.2.2.2.2.2.2.2.1:=zm.2.2.2.2.2.2.2.2
 unfold F30 F34
 by_cases h12:m.1=12
 ·have d12:decide (m.1=12)=true:=decide_eq_true h12
  simp only [d12,cond_true]
  exact⟨_,_,rfl,rfl,_,_,_,_,_,_,_,_,_,_,_,_,_,_,_,_,_,_,_,_,_,_,_,rfl,rfl,hc0,hc1,.inl ⟨rfl,rfl⟩,.inl ⟨rfl,rfl⟩,hm⟩
 ·have d12:decide (m.1=12)=false:=decide_eq_false h12
  simp only [d12,cond_false]
  cases decide (asked.2.2.2.1.2.2.1.1=12) with
  | true=>exact⟨_,_,rfl,rfl,_,_,_,_,_,_,_,_,_,_,_,_,_,_,_,_,_,_,_,_,_,_,_,rfl,rfl,hc0,hc1,.inl ⟨rfl,rfl⟩,.inl ⟨rfl,rfl⟩,hv⟩
  | false=>exact⟨_,_,rfl,rfl,_,_,_,_,_,_,_,_,_,_,_,_,_,_,_,_,_,_,_,_,_,_,_,rfl,rfl,hc0,hc1,.inl ⟨rfl,rfl⟩,.inl ⟨rfl,rfl⟩,hv⟩
theorem pulled_both {ep n0 n1 r0 r1:Int} {src dst:List UInt8} {o0 o1:Bool} {M:L93D} {W:Y61D} {m:TMD} (h:MRel ep src dst n0 n1 r0 r1 o0 o1 M W) (zm:SzT m) (hc:CapT m) :
  ∃ M' W',F54 (M,m,())=some (M',())∧F56 (W,m,())=some (W',())∧MRel ep src dst n0 n1 r0 r1 o0 o1 M' W':=by
 obtain⟨c0,c1,w0,w1,asked,known,mv,pin,pg,tl,again,fen,fen',hand,over,has,dn,its,htl,tls,up,hh,hand',rfl,rfl,hc0,hc1,hp,ht,hv⟩:=h
 obtain⟨-,-,-,⟨hb1,hb2⟩,-⟩:=hc
 obtain⟨-,-,-,-,-,hz,-⟩:=zm
 obtain⟨xk,rid,raft,job,cl,fr,en,rev,most,err,hint,rep,bat,xi,done,hd,xm,⟨⟩⟩:=m
 have hb1:bat.length≤capB:=hb1
 have hb2:∀ b∈bat,b.2.1.length≤capB:=hb2
 have hz:∀ b∈bat,SzItems b.2.1:=hz
 have hcap:capB=34359738368:=rfl
 unfold F54 F56
 have cond64:∀ (l:List T70D) (b:TBD),b∈bat→l.length≤64→decide ((64:Int) < wrap64 (Int.ofNat l.length+Int.ofNat b.2.1.length))=decide (64 < l.length+b.2.1.length):=fun l b hb hl=>by
  have:=hb2 b hb
  have e:wrap64 (Int.ofNat l.length+Int.ofNat b.2.1.length)=((l.length+b.2.1.length:Nat):Int):=by
   rw [wrap64_eq (by simp;omega) (by simp;omega)]
   simp
  rw [e]
  exact decide_eq_decide.2 (by omega)
 obtain⟨l,to',e1,e2,hs⟩:=pull_loop (B:=bat) (by omega) hz (t0:=wrap64 (rev - 1)) (R1:=L93D×Unit) (R2:=Y61D×Unit)
  (s1:=fun (x_1:Int×List T70D×Int×Unit)=>bif decide (x_1.1 < Int.ofNat (List.length bat)) then
   Option.bind (idx bat x_1.1) fun b=>bif decide (64 < wrap64 (Int.ofNat (List.length x_1.2.1)+Int.ofNat (List.length b.2.1))) then some (Sum.inr (Sum.inl (x_1.2.1,wrap64 (b.1 - 1),()))) else Option.bind (appO x_1.2.1 b.2.1) fun b=>some (Sum.inl (wrap64 (x_1.1+1),b,x_1.2.2))
   else some (Sum.inr (Sum.inl x_1.2)))
  (s2:=fun (x_1:Int×List T70D×Int×Unit)=>bif decide (x_1.2.2.1 < Int.ofNat (List.length bat)) then
   Option.bind (idx bat x_1.2.2.1) fun b=>bif decide (64 < wrap64 (Int.ofNat (List.length x_1.2.1)+Int.ofNat (List.length b.2.1))) then Option.bind (idx bat x_1.2.2.1) fun b=>some (Sum.inr (Sum.inl (wrap64 (b.1 - 1),x_1.2.1,()))) else Option.bind (idx bat x_1.2.2.1) fun b=>Option.bind (appO x_1.2.1 b.2.1) fun b=>some (Sum.inl (x_1.1,b,wrap64 (x_1.2.2.1+1),()))
   else some (Sum.inr (Sum.inl (x_1.1,x_1.2.1,()))))
  (fun k l to' b hb hl=>by
   have hk:k < bat.length:=(List.getElem?_eq_some_iff.1 hb).1
   have hm:=List.mem_of_getElem? hb
   have wk:wrap64 ((k:Int)+1)=((k+1:Nat):Int):=wrap64_nat (by omega)
   simp only [lt_len,hk,decide_true,cond_true,idx_nat,hb,Option.bind_some,cond64 l b hm hl]
   by_cases c:64 < l.length+b.2.1.length
   ·simp only [c,decide_true,cond_true,if_true]
   ·simp only [c,decide_false,cond_false,if_false,appO_eq (show l.length+b.2.1.length≤capB by omega),Option.bind_some,wk])
  (fun l to'=>by simp only [lt_len,Nat.lt_irrefl,decide_false,cond_false])
  (fun k l to' b hb hl=>by
   have hk:k < bat.length:=(List.getElem?_eq_some_iff.1 hb).1
   have hm:=List.mem_of_getElem? hb
   have wk:wrap64 ((k:Int)+1)=((k+1:Nat):Int):=wrap64_nat (by omega)
   simp only [lt_len,hk,decide_true,cond_true,idx_nat,hb,Option.bind_some,cond64 l b hm hl]
   by_cases c:64 < l.length+b.2.1.length
   ·simp only [c,decide_true,cond_true,if_true]
   ·simp only [c,decide_false,cond_false,if_false,appO_eq (show l.length+b.2.1.length≤capB by omega),Option.bind_some,wk])
  (fun l to'=>by simp only [lt_len,Nat.lt_irrefl,decide_false,cond_false])
 by_cases hlt:mv.2.2.2.2.2.2.2.1 < to'
 ·refine⟨_,_,bind_of e1 ?_,bind_of e2 ?_,?_⟩
  ·exact ((c0,c1,w0,w1,asked,known,mv,pin,pg,tl,again,fen,fen',hand,over) |> fun _=>((ep,src,dst,(n0,n1,()),()),0,[c0],[c1],asked,known,mv,pin,pg,[(l,to',())],again,fen,hand,over,()))
  ·exact (ep,src,dst,0,(w0,w1,()),asked,known,mv,pin,has,dn,its,true,l,to',again,fen',hh,hand',over,())
  ·simp only [Sum.elim_inl,decide_eq_true hlt,cond_true]
  ·simp only [Sum.elim_inl,decide_eq_true hlt,cond_true]
  ·exact⟨_,_,_,_,_,_,_,_,_,_,_,_,_,_,_,_,_,_,_,_,_,_,_,rfl,rfl,hc0,hc1,hp,.inr ⟨rfl,rfl,hs⟩,hv⟩
 ·refine⟨_,_,bind_of e1 ?_,bind_of e2 ?_,?_⟩
  ·exact ((ep,src,dst,(n0,n1,()),()),0,[c0],[c1],asked,known,mv,pin,pg,tl,again,fen,hand,over,())
  ·exact (ep,src,dst,0,(w0,w1,()),asked,known,mv,pin,has,dn,its,htl,tls,up,again,fen',hh,hand',over,())
  ·simp only [Sum.elim_inl,decide_eq_false hlt,cond_false]
  ·simp only [Sum.elim_inl,decide_eq_false hlt,cond_false]
  ·exact⟨_,_,_,_,_,_,_,_,_,_,_,_,_,_,_,_,_,_,_,_,_,_,_,rfl,rfl,hc0,hc1,hp,ht,hv⟩
theorem here_both {ep n0 n1 r0 r1:Int} {src dst:List UInt8} {o0 o1:Bool} {M:L93D} {W:Y61D} {m:TMD} (h:MRel ep src dst n0 n1 r0 r1 o0 o1 M W) (zm:SzT m) (hB:Bnd m) (hR:RightT m) (h8:8≤m.1) :
  ∃ M' W',F31 (M,m,())=some (M',())∧F35 (W,m,())=some (W',())∧MRel ep src dst n0 n1 r0 r1 o0 o1 M' W':=by
 have hcap:=right_cap zm.1 hR hB.2.1 hB.2.2
 have h12:=hR.1.2
 have hpull:=pulled_both h zm hcap
 have hself:=h
 obtain⟨c0,c1,w0,w1,asked,known,mv,pin,pg,tl,again,fen,fen',hand,over,has,dn,its,htl,tls,up,hh,hand',rfl,rfl,hc0,hc1,hp,ht,hv⟩:=h
 obtain⟨M',W',p1,p2,p3⟩:=hpull
 have hxi:SzItems m.2.2.2.2.2.2.2.2.2.2.2.2.2.1:=zm.2.2.2.2.2.2.1
 clear zm hB hR hcap
 obtain⟨xk,rid,raft,job,cl,fr,en,rev,most,err,hint,rep,bat,xi,done,hd,xm,⟨⟩⟩:=m
 have hk:xk=8∨xk=9∨xk=10∨xk=11∨xk=12:=by
  have a:(8:Int)≤xk:=h8
  have b:xk≤12:=h12
  omega
 clear h8 h12
 unfold F31 F35
 have nine:((9:Int)=0)=False:=by simp
 by_cases e0:err=0
 ·subst e0
  have z9:decide ((0:Int)=9)=false:=rfl
  have z0:decide ((0:Int)=0)=true:=rfl
  rcases hk with rfl | rfl | rfl | rfl | rfl
  ·have k10:decide ((8:Int)=10)=false:=rfl
   have k9:decide ((8:Int)=9)=false:=rfl
   have k12:decide ((8:Int)=12)=false:=rfl
   have k8:decide ((8:Int)=8)=true:=rfl
   have k11:decide ((8:Int)=11)=false:=rfl
   simp only [z9,z0,k10,k9,k12,k8,k11,Bool.not_true,Bool.not_false,cond_true,cond_false,Option.bind_some,Sum.elim_inl,Sum.elim_inr]
   cases decide (rep.1=0) <;> cases fen <;> cases over <;> cases decide (asked.2.2.2.1.2.2.1.1=10) <;> cases decide (asked.2.2.2.1.2.2.1.1=11) <;>
    exact⟨_,_,rfl,rfl,_,_,_,_,_,_,_,_,_,_,_,_,_,_,_,_,_,_,_,_,_,_,_,rfl,rfl,hc0,hc1,hp,ht,hv⟩
  ·have k10:decide ((9:Int)=10)=false:=rfl
   have k9:decide ((9:Int)=9)=true:=rfl
   have k12:decide ((9:Int)=12)=false:=rfl
   have k8:decide ((9:Int)=8)=false:=rfl
   have k11:decide ((9:Int)=11)=false:=rfl
   simp only [z9,z0,k10,k9,k12,k8,k11,Bool.not_true,Bool.not_false,cond_true,cond_false,Option.bind_some,Sum.elim_inl,Sum.elim_inr]
   refine⟨M',W',?_,?_,p3⟩
   ·rw [p1];rfl
   ·rw [p2];rfl
  ·have k10:decide ((10:Int)=10)=true:=rfl
   have k9:decide ((10:Int)=9)=false:=rfl
   have k12:decide ((10:Int)=12)=false:=rfl
   have k8:decide ((10:Int)=8)=false:=rfl
   have k11:decide ((10:Int)=11)=false:=rfl
   simp only [z9,z0,k10,k9,k12,k8,k11,Bool.not_true,Bool.not_false,cond_true,cond_false,Option.bind_some,Sum.elim_inl,Sum.elim_inr]
   exact⟨_,_,rfl,rfl,_,_,_,_,_,_,_,_,_,_,_,_,_,_,_,_,_,_,_,_,_,_,_,rfl,rfl,hc0,hc1,.inr ⟨rfl,rfl,hxi⟩,ht,hv⟩
  ·have k10:decide ((11:Int)=10)=false:=rfl
   have k9:decide ((11:Int)=9)=false:=rfl
   have k12:decide ((11:Int)=12)=false:=rfl
   have k8:decide ((11:Int)=8)=false:=rfl
   have k11:decide ((11:Int)=11)=true:=rfl
   simp only [z9,z0,k10,k9,k12,k8,k11,Bool.not_true,Bool.not_false,cond_true,cond_false,Option.bind_some,Sum.elim_inl,Sum.elim_inr]
   exact⟨_,_,rfl,rfl,_,_,_,_,_,_,_,_,_,_,_,_,_,_,_,_,_,_,_,_,_,_,_,rfl,rfl,hc0,hc1,hp,ht,hv⟩
  ·have k10:decide ((12:Int)=10)=false:=rfl
   have k9:decide ((12:Int)=9)=false:=rfl
   have k12:decide ((12:Int)=12)=true:=rfl
   have k8:decide ((12:Int)=8)=false:=rfl
   have k11:decide ((12:Int)=11)=false:=rfl
   simp only [z9,z0,k10,k9,k12,k8,k11,Bool.not_true,Bool.not_false,cond_true,cond_false,Option.bind_some,Sum.elim_inl,Sum.elim_inr]
   exact⟨_,_,rfl,rfl,_,_,_,_,_,_,_,_,_,_,_,_,_,_,_,_,_,_,_,_,_,_,_,rfl,rfl,hc0,hc1,hp,ht,hv⟩
 ·have z0:decide (err=0)=false:=decide_eq_false e0
  by_cases e9:err=9
  ·subst e9
   have z9:decide ((9:Int)=9)=true:=rfl
   rcases hk with rfl | rfl | rfl | rfl | rfl
   ·have k10:decide ((8:Int)=10)=false:=rfl
    have k9:decide ((8:Int)=9)=false:=rfl
    simp only [z9,z0,k10,k9,Bool.not_true,Bool.not_false,cond_true,cond_false,Option.bind_some,Sum.elim_inl]
    exact⟨_,_,rfl,rfl,hself⟩
   ·have k10:decide ((9:Int)=10)=false:=rfl
    simp only [z9,z0,k10,Bool.not_true,Bool.not_false,cond_true,cond_false,Option.bind_some,Sum.elim_inl]
    exact⟨_,_,rfl,rfl,_,_,_,_,_,_,_,_,_,_,_,_,_,_,_,_,_,_,_,_,_,_,_,rfl,rfl,hc0,hc1,hp,ht,hv⟩
   ·have k10:decide ((10:Int)=10)=true:=rfl
    have k9:decide ((10:Int)=9)=false:=rfl
    simp only [z9,z0,k10,k9,Bool.not_true,Bool.not_false,cond_true,cond_false,Option.bind_some,Sum.elim_inl]
    exact⟨_,_,rfl,rfl,_,_,_,_,_,_,_,_,_,_,_,_,_,_,_,_,_,_,_,_,_,_,_,rfl,rfl,hc0,hc1,hp,ht,hv⟩
   ·have k10:decide ((11:Int)=10)=false:=rfl
    have k9:decide ((11:Int)=9)=false:=rfl
    simp only [z9,z0,k10,k9,Bool.not_true,Bool.not_false,cond_true,cond_false,Option.bind_some,Sum.elim_inl]
    exact⟨_,_,rfl,rfl,hself⟩
   ·have k10:decide ((12:Int)=10)=false:=rfl
    have k9:decide ((12:Int)=9)=false:=rfl
    simp only [z9,z0,k10,k9,Bool.not_true,Bool.not_false,cond_true,cond_false,Option.bind_some,Sum.elim_inl]
    exact⟨_,_,rfl,rfl,hself⟩
  ·have z9:decide (err=9)=false:=decide_eq_false e9
   refine⟨_,_,?_,?_,hself⟩
   ·simp only [z9,z0,Bool.not_true,Bool.not_false,cond_true,cond_false]
    cases decide (xk=10) <;> cases decide (xk=9) <;> rfl
   ·simp only [z9,z0,Bool.not_true,Bool.not_false,cond_true,cond_false,Option.bind_some,Sum.elim_inl]
end Go.Proofs.YtpfjaaofpcbejaaGreat
