/-
 Prox: what is heard,by a proxy and by the document's: what was done,what changed,how far the move is.
-/
import Derived.Test.YtlegpimppfabgaaGreatProxLawD
namespace Go.Proofs.YtlegpimppfabgaaGreat
open Go.Sx Go Classical
set_option maxRecDepth 10000
theorem Pz {m:TMD} (h:eX m):pF m.2.2.2.2.2.2.2.2.2.2.2.2.1∧(m.1≠9→m.2.2.2.2.2.2.2.2.2.2.2.2.1=[]):=by
 obtain⟨hk,hkeep,hK⟩:=h;obtain⟨k,r⟩:=m;have key:k≠9→(k,r).2.2.2.2.2.2.2.2.2.2.2.2.1=[]:=by
  intro h9;rcases oq hk.1 hk.2 with e|e|e|e|e|e|e|e|e|e|e|e<;>(dsimp only at e;subst e)
  all_goals first|exact absurd rfl h9|exact(congrArg (fun m:TMD=>m.2.2.2.2.2.2.2.2.2.2.2.2.1) hkeep).symm
 refine⟨?_,key⟩;by_cases h9:k=9
 ·subst h9;unfold uC l9 at hK;simp only[Int.reduceEq,false_and,true_and,false_or,or_false] at hK;exact hK.2.2.2.2.2
 ·rw[key h9];exact⟨fun i v hv=>by simp at hv,Nat.zero_le _⟩
theorem ZG {m:TMD} (h:eX m):m.2.2.2.2.2.2.2.2.2.2.2.1.2.2.2.2.1.length≤8:=by
 obtain⟨hk,hkeep,hK⟩:=h;obtain⟨k,r⟩:=m;by_cases h8:k=8
 ·subst h8;unfold uC l9 at hK;simp only[Int.reduceEq,false_and,true_and,false_or,or_false] at hK;exact hK.2.2.2.2.2.2.2.2.2.2.2.2.1
 ·have key:(k,r).2.2.2.2.2.2.2.2.2.2.2.1=dX:=by
   rcases oq hk.1 hk.2 with e|e|e|e|e|e|e|e|e|e|e|e<;>(dsimp only at e;subst e)
   all_goals first|exact absurd rfl h8|exact(congrArg (fun m:TMD=>m.2.2.2.2.2.2.2.2.2.2.2.1) hkeep).symm
  rw[key];exact Nat.zero_le _
theorem ZH {m:TMD} (h:eX m) (h3:m.2.2.2.2.2.2.2.2.2.2.2.2.2.2.2.2.1.1=3):m.1=12∧wC m.2.2.2.2.2.2.2.2.2.2.2.2.2.2.2.2.1:=by
 obtain⟨hk,hkeep,hK⟩:=h;obtain⟨k,r⟩:=m;by_cases h12:k=12
 ·subst h12;unfold uC l9 at hK;simp only[Int.reduceEq,false_and,true_and,false_or,or_false] at hK;exact⟨rfl,hK.2.2⟩
 ·exfalso;have key:(k,r).2.2.2.2.2.2.2.2.2.2.2.2.2.2.2.2.1=jT:=by
   rcases oq hk.1 hk.2 with e|e|e|e|e|e|e|e|e|e|e|e<;>(dsimp only at e;subst e)
   all_goals first|exact absurd rfl h12|exact(congrArg (fun m:TMD=>m.2.2.2.2.2.2.2.2.2.2.2.2.2.2.2.2.1) hkeep).symm
  rw[key] at h3;exact absurd h3 (by decide)
theorem Qe {id n0 n1 sf:Int} {src dst:List UInt8} {site fr next start:Int} {told:List TBD} {wat:Bool} {p:bC} {w:bD} {m:TMD} (hs1:St src) (hs2:St dst) (h:jJ id n0 n1 sf src dst site fr next start told wat p w) (hR:eX m) (hz:SzT m) :
  ∃ r b p' w',F49 (p,m,())=some (r,b,p',())∧F54 (w,m,())=some (w',r,b,())∧jJ id n0 n1 sf src dst site fr next start told wat p' w':=by
 obtain⟨d0,d1,lk,s0,s1,e0,e1,lw,t0,t1,busy,won,seq,cut,want,wt,ended,cur,rfl,rfl,k0,k1,kl,m0,m1,hw,hsite,hzw,hss⟩:=h;have hl:=ZG hR;have hzr:yU m.2.2.2.2.2.2.2.2.2.2.2.1:=hz.2.2.2.2.1;clear hR hz;obtain⟨xk,rid,raft,job,cl,fr',en,rev,most,err,hint,⟨re,r2,r3,r4,its,rs,r7,⟨⟩⟩,bat,xi,dn,hd,xm,⟨⟩⟩:=m;have hl:its.length≤8:=hl;have i1:F84 (dst,src,its,())=_:=QT dst src its (by omega);have i2:F86 (dst,src,its,())=_:=PM dst src hs2 hs1 its (by omega) hzr.2;have hzN:SzW (false,fB,[],[],0,0,()):=⟨Ji,mX,mX⟩
 by_cases he:err=0
 case neg=>
  refine⟨(err,0,false,0,[],0,0,()),true,_,_,?_,?_,d0,d1,lk,s0,s1,e0,e1,lw,t0,t1,false,won,seq,cut,(false,fB,[],[],0,0,()),wt,ended,cur,rfl,rfl,k0,k1,kl,m0,m1,hw,hsite,hzN,Nat.zero_le _⟩
  ·unfold F49;simp only[decide_eq_false he,Bool.not_false,cond_true,Option.bind_some,Sum.elim_inl,decide_true]
  ·unfold F54;simp only[decide_eq_false he,Bool.not_false,cond_true,Option.bind_some,Sum.elim_inl]
 subst he;by_cases hre:re=11
 ·subst hre;refine⟨dX,false,_,_,?_,?_,d0,d1,lk,s0,s1,e0,e1,lw,t0,t1,busy,true,seq,cut,want,wt,ended,cur,rfl,rfl,k0,k1,kl,m0,m1,hw,hsite,hzw,hss⟩
  ·unfold F49;simp only[decide_true,Bool.not_true,cond_true,cond_false,Option.bind_some,Option.map_some,Sum.elim_inr]
  ·unfold F54;simp only[decide_true,Bool.not_true,cond_true,cond_false,Option.bind_some,Sum.elim_inr]
 by_cases hrs:rs=1
 ·subst hrs;refine⟨(re,r2,r3,r4,(lY (iOk dst src) (iTo dst src) its).1,1,r7,()),true,_,_,?_,?_,d0,d1,lk,s0,s1,e0,e1,lw,t0,t1,false,won,seq,cut,(false,fB,[],[],0,0,()),wt,ended,cur,rfl,rfl,k0,k1,kl,m0,m1,hw,hsite,hzN,Nat.zero_le _⟩
  ·unfold F49;simp only[decide_true,decide_eq_false hre,Bool.not_true,cond_true,cond_false,Option.bind_some,i1,Sum.elim_inl]
  ·unfold F54;simp only[decide_true,decide_eq_false hre,Bool.not_true,cond_true,cond_false,Option.bind_some,i2,Sum.elim_inl]
 ·refine⟨(re,r2,r3,r4,its,rs,r7,()),true,_,_,?_,?_,d0,d1,lk,s0,s1,e0,e1,lw,t0,t1,false,won,seq,cut,(false,fB,[],[],0,0,()),wt,ended,cur,rfl,rfl,k0,k1,kl,m0,m1,hw,hsite,hzN,Nat.zero_le _⟩
  ·unfold F49;simp only[decide_true,decide_eq_false hre,decide_eq_false hrs,Bool.not_true,cond_true,cond_false,Option.bind_some,Sum.elim_inl]
  ·unfold F54;simp only[decide_true,decide_eq_false hre,decide_eq_false hrs,Bool.not_true,cond_false,Option.bind_some,Sum.elim_inl]
theorem Iu {self pat k n:Int} {c:CD} {w:WD} (h:jG self pat k n c w):∃ c',F32 (c,())=some (c',())∧jG self pat k n c' (w.1,w.2.1,w.2.2.1,w.2.2.2.1,w.2.2.2.2.1,w.2.2.2.2.2.1,w.2.2.2.2.2.2.1,false,w.2.2.2.2.2.2.2.2):=by
 obtain⟨r,o,tgt,wt,wt',now,q,q',rfl,rfl,ht,-⟩:=h;exact⟨_,rfl,r,false,tgt,wt,wt',now,q,q',rfl,rfl,ht,fun h=>by cases h⟩
theorem ZB {id n0 n1 sf:Int} {src dst:List UInt8} {site fr next start:Int} {told:List TBD} {wat:Bool} {p:bC} {w:bD} (v:jo) (h:jJ id n0 n1 sf src dst site fr next start told wat p w) :
  ∃ p' w' site' fr' next',F51 (p,v,())=some (p',())∧F56 (w,v,())=some (w',())∧jJ id n0 n1 sf src dst site' fr' next' start told wat p' w'∧
   ((site'=site∧fr'=fr∧next'=next)∨(site=0∧v.1=3∧site'=1∧fr'=v.2.2.2.2.2.2.2.2.1∧(wat=false→next'=next)∧(wat=true→next'=dM start (dY next (wrap64 (v.2.2.2.2.2.2.2.2.1+1)))))):=by
 obtain⟨d0,d1,lk,s0,s1,e0,e1,lw,t0,t1,busy,won,seq,cut,want,wt,ended,cur,rfl,rfl,k0,k1,kl,m0,m1,hw,hsite,hzw,hss⟩:=h;obtain⟨ph,v2,v3,vs,vd,v6,v7,v8,vf,vc,⟨⟩⟩:=v;unfold F51 F56;rcases hsite with rfl|rfl
 case inr=>refine⟨_,_,1,fr,next,by simp only[decide_true,cond_true],by simp only[decide_true,cond_true],⟨d0,d1,lk,s0,s1,e0,e1,lw,t0,t1,busy,false,seq,cut,want,wt,ended,false,rfl,rfl,k0,k1,kl,m0,m1,hw,.inr rfl,hzw,hss⟩,.inl ⟨rfl,rfl,rfl⟩⟩
 have h01:decide ((0:Int)=1)=false:=rfl;by_cases hp:ph=3
 case neg=>refine⟨_,_,0,fr,next,by simp only[h01,decide_eq_false hp,Bool.not_false,decide_true,cond_true,cond_false],by simp only[h01,decide_eq_false hp,Bool.not_false,cond_true,cond_false],⟨d0,d1,lk,s0,s1,e0,e1,lw,t0,t1,busy,false,seq,cut,want,wt,ended,false,rfl,rfl,k0,k1,kl,m0,m1,hw,.inl rfl,hzw,hss⟩,.inl ⟨rfl,rfl,rfl⟩⟩
 by_cases h2:vs=src
 case neg=>refine⟨_,_,0,fr,next,by simp only[h01,decide_eq_true hp,decide_eq_false h2,Bool.not_true,Bool.not_false,decide_true,cond_true,cond_false],by simp only[h01,decide_eq_true hp,decide_eq_false h2,Bool.not_true,Bool.not_false,cond_true,cond_false],⟨d0,d1,lk,s0,s1,e0,e1,lw,t0,t1,busy,false,seq,cut,want,wt,ended,false,rfl,rfl,k0,k1,kl,m0,m1,hw,.inl rfl,hzw,hss⟩,.inl ⟨rfl,rfl,rfl⟩⟩
 by_cases h3:vd=dst
 case neg=>refine⟨_,_,0,fr,next,by simp only[h01,decide_eq_true hp,decide_eq_true h2,decide_eq_false h3,Bool.not_true,Bool.not_false,decide_true,cond_true,cond_false],by simp only[h01,decide_eq_true hp,decide_eq_true h2,decide_eq_false h3,Bool.not_true,Bool.not_false,cond_true,cond_false],⟨d0,d1,lk,s0,s1,e0,e1,lw,t0,t1,busy,false,seq,cut,want,wt,ended,false,rfl,rfl,k0,k1,kl,m0,m1,hw,.inl rfl,hzw,hss⟩,.inl ⟨rfl,rfl,rfl⟩⟩
 obtain⟨c',x1,x2⟩:=Iu k0;rcases hw with⟨rfl,rfl,h5,h6⟩|⟨rfl,rfl⟩
 ·exact⟨_,_,1,vf,next,by simp only[h01,decide_eq_true hp,decide_eq_true h2,decide_eq_true h3,Bool.not_true,decide_true,cond_true,cond_false,List.head?_cons,Option.bind_some,x1,List.isEmpty_nil],by simp only[h01,decide_eq_true hp,decide_eq_true h2,decide_eq_true h3,Bool.not_true,cond_false],⟨c',d1,lk,s0,s1,_,e1,lw,t0,t1,busy,false,seq,vc,want,[],ended,false,rfl,rfl,x2,k1,kl,m0,m1,.inl ⟨rfl,rfl,h5,h6⟩,.inr rfl,hzw,hss⟩,.inr ⟨rfl,hp,rfl,rfl,fun _=>rfl,fun h=>by cases h⟩⟩
 ·exact⟨_,_,1,vf,_,by simp only[h01,decide_eq_true hp,decide_eq_true h2,decide_eq_true h3,Bool.not_true,Bool.not_false,decide_true,cond_true,cond_false,List.head?_cons,List.getElem?_cons_zero,Option.bind_some,x1,List.isEmpty_cons],by simp only[h01,decide_eq_true hp,decide_eq_true h2,decide_eq_true h3,Bool.not_true,cond_true,cond_false],⟨c',d1,lk,s0,s1,_,e1,lw,t0,t1,busy,false,seq,vc,want,_,ended,false,rfl,rfl,x2,k1,kl,m0,m1,.inr ⟨rfl,rfl⟩,.inr rfl,hzw,hss⟩,.inr ⟨rfl,hp,rfl,rfl,(fun h=>by cases h),fun _=>rfl⟩⟩
noncomputable def iT (q src:List UInt8) (next:Int) (t:List TBD) (b:TBD):List TBD:=bif b.2.1.all (iOk q src) && decide (next≤b.1) then t++[(b.1,b.2.1.map (iTo q src),())] else t
def qf (k site fr next rev:Int):Int:=dM next (bif decide (k=0) then bif decide (site=1) then dY rev (wrap64 (fr+1)) else rev else rev)
theorem NT {id n0 n1 sf:Int} {src dst:List UInt8} {site fr next start:Int} {told:List TBD} {wat:Bool} {p:bC} {w:bD} {m:TMD} (k:Int) (hk:k=0∨k=1) (hs1:St src) (hs2:St dst) (h:jJ id n0 n1 sf src dst site fr next start told wat p w) (hR:eX m) (hz:SzT m) (hb:told.length≤1000000) :
  ∃ p' w' told' next',F50 (p,k,m,())=some (p',())∧F55 (w,k,m,())=some (w',())∧jJ id n0 n1 sf src dst site fr next' start told' wat p' w'∧
   ((told'=told∧next'=next)∨(wat=true∧m.2.2.2.2.2.2.2.2.2.1=0∧told'=m.2.2.2.2.2.2.2.2.2.2.2.2.1.foldl (iT (dS src dst k) src next) told∧next'=qf k site fr next m.2.2.2.2.2.2.2.1)):=by
 obtain⟨d0,d1,lk,s0,s1,e0,e1,lw,t0,t1,busy,won,seq,cut,want,wt,ended,cur,rfl,rfl,k0,k1,kl,m0,m1,hw,hsite,hzw,hss⟩:=h;obtain⟨hB,-⟩:=Pz hR;have hzb:∀ b∈m.2.2.2.2.2.2.2.2.2.2.2.2.1,mG b.2.1:=hz.2.2.2.2.2.1;clear hR hz;obtain⟨xk,rid,raft,job,cl,fr',en,rev,most,err,hint,rep,bat,xi,dn,hd,xm,⟨⟩⟩:=m;have hB:pF bat:=hB;have hzb:∀ b∈bat,mG b.2.1:=hzb;rcases hw with⟨rfl,rfl,rfl,rfl⟩|⟨rfl,rfl⟩
 ·refine⟨_,_,[],next,?_,?_,⟨d0,d1,lk,s0,s1,e0,e1,lw,t0,t1,busy,won,seq,cut,want,[],0,cur,rfl,rfl,k0,k1,kl,m0,m1,.inl ⟨rfl,rfl,rfl,rfl⟩,hsite,hzw,hss⟩,.inl ⟨rfl,rfl⟩⟩
  ·unfold F50;simp only[List.isEmpty_nil,cond_true,Bool.not_true,cond_false,decide_true]
  ·rfl
 by_cases he:err=0
 case neg=>
  by_cases h9:err=9
  ·subst h9;refine⟨_,_,told,next,?_,?_,⟨d0,d1,lk,s0,s1,e0,e1,lw,t0,t1,busy,won,seq,cut,want,[(start,told,9,())],9,cur,rfl,rfl,k0,k1,kl,m0,m1,.inr ⟨rfl,rfl⟩,hsite,hzw,hss⟩,.inl ⟨rfl,rfl⟩⟩
   ·rfl
   ·rfl
  ·refine⟨_,_,told,next,?_,?_,⟨d0,d1,lk,s0,s1,e0,e1,lw,t0,t1,busy,won,seq,cut,want,[(start,told,ended,())],ended,cur,rfl,rfl,k0,k1,kl,m0,m1,.inr ⟨rfl,rfl⟩,hsite,hzw,hss⟩,.inl ⟨rfl,rfl⟩⟩
   ·unfold F50;simp only[List.isEmpty_cons,cond_true,cond_false,decide_eq_false he,decide_eq_false h9,Bool.not_false,decide_true]
   ·unfold F55;simp only[cond_true,cond_false,decide_eq_false he,decide_eq_false h9,Bool.not_false,Bool.not_true,Option.bind_some,Sum.elim_inl]
 subst he;have hlen:bat.length≤64:=hB.2;have hcap:bT=34359738368:=rfl;have hit:∀ b∈bat,b.2.1.length≤1000000:=fun b hb=>by obtain⟨i,hi,rfl⟩:=List.mem_iff_getElem.1 hb;have:=(hB.1 i _ (List.getElem?_eq_getElem hi)).2.1.1;omega
 have hq:St (dS src dst k):=Cj hs1 hs2;have add_len:∀ (t:List TBD) b,(iT (dS src dst k) src next t b).length≤t.length+1:=fun t b=>by unfold iT;cases b.2.1.all (iOk (dS src dst k) src) && decide (next≤b.1)<;>simp
 have inv:∀ i (t:List TBD) b,t.length≤1000000+i→(iT (dS src dst k) src next t b).length≤1000000+(i+1):=fun i t b h=>by have:=add_len t b;omega
 have h09:decide ((0:Int)=9)=false:=rfl;refine⟨_,_,_,_,?_,?_,⟨d0,d1,lk,s0,s1,e0,e1,lw,t0,t1,busy,won,seq,cut,want,_,ended,cur || (decide (site=0) && decide (Int.ofNat bat.length=0)),rfl,rfl,k0,k1,kl,m0,m1,.inr ⟨rfl,rfl⟩,hsite,hzw,hss⟩,.inr ⟨rfl,rfl,rfl,rfl⟩⟩
 ·unfold F50;simp only[List.isEmpty_cons,cond_false,decide_true,Bool.not_true];refine Ii (mk:=fun i t=>((i:Int),([(start,t,ended,())],(1:Int)),())) (l:=bat) (g:=iT (dS src dst k) src next)
   (K:=fun t=>(((id,src,dst,(n0,n1,()),()),(site,busy,won,seq,qf k site fr next rev,(fr,cut,()),()),want,[d0],[d1],[lk],[s0],[s1],[(start,t,ended,())],cur || (decide (site=0) && decide (Int.ofNat bat.length=0)),()),()))
   (Inv:=fun i t=>t.length≤1000000+i) (by omega) ?_ ?_ (a:=told) (by omega)
  ·intro i t b hv ht;refine⟨?_,inv i t b ht⟩;have hi:i<bat.length:=(List.getElem?_eq_some_iff.1 hv).1;have hm:=List.mem_of_getElem? hv;have wk:wrap64 ((i:Int)+1)=((i+1:Nat):Int):=aP (by omega);have hit':F84 (dS src dst k,src,b.2)=_:=QT (dS src dst k) src b.2.1 (hit b hm);simp only[ax,hi,decide_true,cond_true,aI,hv,Option.bind_some,Dc,hit',wk];unfold iT lY;cases b.2.1.all (iOk (dS src dst k) src) with
   | false=>rfl
   | true=>
    simp only[cond_true,Bool.true_and];cases decide (next≤b.1) with
    | false=>rfl
    | true=>simp only[cond_true,List.head?_cons,List.getElem?_cons_zero,Option.bind_some,iP (show t.length + [(b.1,b.2.1.map (iTo (dS src dst k) src),())].length≤bT by simp only[List.length_cons,List.length_nil];omega)];rfl
  ·intro t ht;simp only[ax,Nat.lt_irrefl,decide_false,cond_false];unfold qf;rcases hk with rfl|rfl<;>rcases hsite with rfl|rfl<;>cases cur<;>rfl
 ·unfold F55;simp only[h09,decide_true,Bool.not_true,cond_false,Option.bind_some,Sum.elim_inl];refine Ii (mk:=fun i t=>((i:Int),t,())) (l:=bat) (g:=iT (dS src dst k) src next)
   (K:=fun t=>((id,src,dst,site,fr,cut,busy,won,seq,want,(e0,e1,()),lw,(t0,t1,()),true,start,qf k site fr next rev,t,ended,cur || (decide (site=0) && decide (Int.ofNat bat.length=0)),()),()))
   (Inv:=fun i t=>t.length≤1000000+i) (by omega) ?_ ?_ (a:=told) (by omega)
  ·intro i t b hv ht;refine⟨?_,inv i t b ht⟩;have hi:i<bat.length:=(List.getElem?_eq_some_iff.1 hv).1;have hm:=List.mem_of_getElem? hv;have wk:wrap64 ((i:Int)+1)=((i+1:Nat):Int):=aP (by omega);have hit':F86 (dS src dst k,src,b.2)=_:=PM (dS src dst k) src hq hs1 b.2.1 (hit b hm) (hzb b hm).2;simp only[ax,hi,decide_true,cond_true,aI,hv,Option.bind_some,C9 _ _ _ _ k hk,hit',wk];unfold iT lY;cases b.2.1.all (iOk (dS src dst k) src) with
   | false=>rfl
   | true=>
    simp only[cond_true,Bool.true_and];cases decide (next≤b.1) with
    | false=>rfl
    | true=>simp only[cond_true,Option.bind_some,iP (show([]:List TBD).length+t.length≤bT by simp only[List.length_nil];omega),List.nil_append,iP (show t.length + [(b.1,b.2.1.map (iTo (dS src dst k) src),())].length≤bT by simp only[List.length_cons,List.length_nil];omega)]
  ·intro t ht;simp only[ax,Nat.lt_irrefl,decide_false,cond_false];unfold qf;rcases hk with rfl|rfl<;>rcases hsite with rfl|rfl<;>cases cur<;>cases decide (Int.ofNat bat.length=0)<;>rfl
end Go.Proofs.YtlegpimppfabgaaGreat
