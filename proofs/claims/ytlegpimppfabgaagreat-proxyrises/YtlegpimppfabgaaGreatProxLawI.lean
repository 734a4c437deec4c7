/-
 Prox: the law of what rises.
-/
import Derived.Test.YtlegpimppfabgaaGreatProxLawH
namespace Go.Proofs.YtlegpimppfabgaaGreat
open Go.Sx Go Classical
set_option maxRecDepth 10000
theorem stE {x:eQ×Int×List jc×Unit} {W:bD} {P:bC} {told:List TBD} {ended:Int} {P':bC} (hl:told.length≤1000000) (h1:F22 (P,())=some (told,ended,P',())) (h2:told.Pairwise fun a b=>a.1<b.1) (h3:∀ t∈told,x.2.1≤t.1) :
  F3s x (mkT (x.2.2.1.length:Int) W P)=some (.inr (true,())):=by
 obtain⟨p1,p2,p3,p4,p5,p6,p7,p8,p9,p10,⟨⟩⟩:=P;unfold F3s;simp only[mkT,ax,Nat.lt_irrefl,decide_false,cond_false,kV,decide_true,cond_true,h1,Option.bind_some];refine zc9 ?_;refine QS (I:=fun k t=>t=((k:Int),())) (n:=told.length) (r:=(true,())) (by omega) ?_ ?_ rfl
 ·rintro k t hk rfl;right;obtain⟨v,hv⟩:∃ v,told[k]? = some v:=⟨_,List.getElem?_eq_getElem hk⟩
  have hm:=List.mem_of_getElem? hv;have wk:wrap64 ((k:Int)+1)=((k+1:Nat):Int):=aP (by omega);have c1:decide (v.1<x.2.1)=false:=decide_eq_false (by have:=h3 v hm;omega);refine⟨(((k+1:Nat):Int),()),?_,rfl⟩;simp only[ax,hk,decide_true,cond_true,BP told k hk,Option.bind_some,hv,c1,cond_false,wk];by_cases h0:k=0
  ·subst h0;rfl
  ·have d0:decide ((0:Int)<(k:Int))=true:=decide_eq_true (by omega);have wp:wrap64 ((k:Int)-1)=((k-1:Nat):Int):=by rw[dW (by omega) (by omega)];omega
   have hk1:k-1<told.length:=by omega
   obtain⟨w,hw⟩:∃ w,told[k-1]? = some w:=⟨_,List.getElem?_eq_getElem hk1⟩
   have hlt:w.1<v.1:=by rw[List.getElem?_eq_getElem hk] at hv;rw[List.getElem?_eq_getElem hk1] at hw;cases hv;cases hw;exact List.pairwise_iff_getElem.1 h2 (k-1) k hk1 hk (by omega)
   have c2:decide (v.1≤w.1)=false:=decide_eq_false (by omega);simp only[d0,cond_true,wp,BP told (k-1) hk1,Option.bind_some,hw,c2,cond_false]
 ·rintro t rfl;simp only[ax,Nat.lt_irrefl,decide_false,cond_false]
theorem zbi (x:(bH P3).den) (hx:gJ (bH P3) x) (hm:kC (bH P3) x):F3 x=some (true,()):=by
 obtain⟨⟨id,src,dst,⟨n0,n1,⟨⟩⟩,⟨⟩⟩,since,l,⟨⟩⟩:eQ×Int×List jc×Unit:=x;have hl:l.length≤140737488351232:=hx.2.2.1.1;have hs1:St src:=hx.1.2.1;have hs2:St dst:=hx.1.2.2.1;obtain⟨z,ez,hsm⟩:=fewP l (fun v hv=>⟨szT (hx.2.2.1.2 v hv).2.2.2.2.1,DC (hx.2.2.1.2 v hv).2.1.2.1,(hx.2.2.1.2 v hv).2.1.2.2.1,(hx.2.2.1.2 v hv).2.1.2.2.2.1⟩) (fun v hv=>Y2 (hm.2.2.1.2 v hv).2.2.2.2.1) 80 (by omega);unfold F3;simp only[zau,Option.bind_some,Bool.not_true,cond_false];refine aB ez ?_;cases z with
 | false=>rfl
 | true=>
 obtain⟨hlen,hsm⟩:=hsm rfl;simp only[Bool.not_true,cond_false,zbb id src dst n0 n1 hs1 hs2,Option.bind_some];by_cases hM:Aj id src dst n0 n1
 case neg=>rw[decide_eq_false hM];rfl
 rw[decide_eq_true hM];simp only[Bool.not_true,cond_false];by_cases g1:since<1
 ·rw[decide_eq_true g1];rfl
 by_cases g2:(1099511627776:Int)<since
 ·rw[decide_eq_false g1,decide_eq_true g2];rfl
 rw[decide_eq_false g1,decide_eq_false g2];simp only[cond_false];have hn0:=hM.2.2.1;have hn1:=hM.2.2.2;have c0:=Uu id 0 n0 hn0.1;have c1:=Uu id 1 n1 hn1.1;obtain⟨p',w',x1,x2,hR⟩:=Yu (since:=since) (by omega) (by omega) (show jJ id n0 n1 (wrap64 (8+id)) src dst 0 0 0 0 [] false _ _ from⟨_,_,_,_,_,_,_,_,_,_,false,false,0,0,noW,[],0,false,rfl,rfl,c0,c1,c1,c0,c1,.inl ⟨rfl,rfl,rfl,rfl⟩,.inl rfl,⟨Ji,mX,mX⟩,Nat.zero_le _⟩);refine aB (zb8 hM) ?_;simp only[cond_true,zaS,Option.bind_some,x2,decide_true];refine aB x1 ?_;simp only[decide_true,Bool.not_true,cond_false];have h0:Rise since 0 since []:=⟨List.Pairwise.nil,fun t h=>by simp at h,Int.le_refl _,by decide,fun t h=>by simp at h⟩
 show iter (F3s ((id,src,dst,(n0,n1,()),()),since,l,())) big (mkT ((0:Nat):Int) w' p')=_;refine QS (I:=fun k t=>∃ W P site fr next told,t=mkT (k:Int) W P∧jJ id n0 n1 (wrap64 (8+id)) src dst site fr next since told true P W∧Rise since fr next told∧told.length≤64*k) (n:=l.length) (r:=(true,())) (by omega) ?_ ?_ ⟨w',p',0,0,since,[],rfl,hR,h0,Nat.zero_le _⟩
 ·rintro k t hk ⟨W,P,site,fr,next,told,rfl,hR,hI,hT⟩;right;obtain⟨a,ha⟩:∃ a,l[k]? = some a:=⟨_,List.getElem?_eq_getElem hk⟩
  obtain⟨⟨zm,hB⟩,hF⟩:=hsm _ (List.mem_of_getElem? ha);cases d0:decide (aA a.1=aA (UInt8.ofNat 0)) with
  | true=>obtain⟨out,P',W',out',y1,y2,y3⟩:=Zq hn0 hn1 hs1 hs2 hR;exact⟨_,st0 _ k W W' P P' a ha (show l.length≤1000 by omega) d0 y1 y2,W',P',site,fr,next,told,rfl,y3,hI,by omega⟩
  | false=>
  cases d1:decide (aA a.1=aA (UInt8.ofNat 1)) with
  | true=>obtain⟨r,b,P',W',e,y1,y2,y3⟩:=Zg hs1 hs2 hF hR;exact⟨_,st1 _ k W W' P P' a ha (show l.length≤1000 by omega) d0 d1 y1 y2,W',P',site,fr,next,told,rfl,y3,hI,by omega⟩
  | false=>
  cases d4:decide (aA a.1=aA (UInt8.ofNat 4)) with
  | false=>exact⟨_,st2 _ k W P a ha (show l.length≤1000 by omega) d0 d1 d4,W,P,site,fr,next,told,rfl,hR,hI,by omega⟩
  | true=>
  obtain⟨hf,rid,y0⟩:=Zk W a;have hR':=hR;obtain⟨-,-,-,-,-,-,-,-,t0,t1,-,-,-,-,-,-,-,-,-,-,-,-,-,-,-,-,-,-,-⟩:=hR';have hB':Bnd (a.2.2.2.2.1.1,rid,a.2.2.2.2.1.2.2):=hB;have zm':SzT (a.2.2.2.2.1.1,rid,a.2.2.2.2.1.2.2):=zm;have hbl:a.2.2.2.2.1.2.2.2.2.2.2.2.2.2.2.2.2.1.length≤9000000000000000000:=by have:=(hx.2.2.1.2 a (List.mem_of_getElem? ha)).2.2.2.2.1.2.2.2.2.2.2.2.2.2.2.2.2.1.1;omega
  obtain⟨z,y1,hh⟩:∃ z,F18 ((a.2.2.2.2.1.1,rid,a.2.2.2.2.1.2.2),W,())=some (z,())∧(z=true→Dn (a.2.2.2.2.1.1,rid,a.2.2.2.2.1.2.2) site fr told W.2.2.2.2.2.2.2.2.2.2.2.2.1.1.2.2.2.2.2.2.2.1):=by obtain⟨d0,d1,lk,s0,s1,e0,e1,lw,t0,t1,busy,won,seq,cut,want,wt,ended,cur,rfl,rfl,-⟩:=hR;exact zac _ id src dst site fr cut busy won seq want (e0,e1,()) lw t0 t1 true since next told ended cur (by omega) hbl
  cases z with
  | false=>exact⟨_,st3 _ k W P a ha (show l.length≤1000 by omega) d0 d1 d4 y0 y1,W,P,site,fr,next,told,rfl,hR,hI,by omega⟩
  | true=>
  have hh:=hh rfl;obtain⟨r,b,P',W',site',fr',next',told',u1,u2,u3,u4⟩:=zae hf hn0 hn1 hs1 hs2 hR hB' zm' (by omega);refine⟨_,st4 _ k W W' P P' a ha (show l.length≤1000 by omega) d0 d1 d4 y0 y1 u1 u2,W',P',site',fr',next',told',rfl,u3,?_⟩;rcases u4 with⟨rfl,rfl,rfl,rfl⟩|⟨kk,-,v1,v2,v3,rfl,rfl,rfl,rfl⟩|⟨v1,v2,v3,rfl,rfl,rfl,-,v4⟩
  ·exact⟨hI,by omega⟩
  ·obtain⟨q1,q2⟩:=XH (q:=dS src dst kk) (src:=src) (k:=kk) hI v2 v3 hh v1;exact⟨q1,by omega⟩
  ·rw[v4 rfl];exact⟨ZF hI v1 v2 v3 hh,by omega⟩
 ·rintro t ⟨W,P,site,fr,next,told,rfl,hR,hI,hT⟩;obtain⟨d0,d1,lk,s0,s1,e0,e1,lw,t0,t1,busy,won,seq,cut,want,wt,ended,cur,rfl,rfl,-,-,-,-,-,hw,-⟩:=hR;rcases hw with⟨-,h,-⟩|⟨rfl,-⟩
  ·cases h
  exact stE (x:=((id,src,dst,(n0,n1,()),()),since,l,())) (told:=told) (ended:=ended) (by omega) (zcI _ _ _ _ _ _ _ _ _ (by omega) hI.few) hI.up fun t ht=>(hI.lo t ht).1
end Go.Proofs.YtlegpimppfabgaaGreat
