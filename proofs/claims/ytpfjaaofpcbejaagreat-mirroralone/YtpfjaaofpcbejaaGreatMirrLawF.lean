/-
 Mirr: a mirror has never more than one question open.
-/
import Derived.Test.YtpfjaaofpcbejaaGreatMirrLawE
namespace Go.Proofs.YtpfjaaofpcbejaaGreat
open Go.Sx Go Classical
set_option maxRecDepth 10000
theorem fewM (l:List vT) (hz:∀ v∈l,SzT v.2.2.2.1) (hM:∀ v∈l,v.2.2.2.1.2.2.2.2.2.2.2.2.2.2.2.2.2.2.2.1.2.2.1.length≤1800000000000) (hl:l.length≤9223372036854775800):∃ z,F5 (l,60,())=some (z,())∧(z=true→∀ v∈l,CB v.2.2.2.1):=by
 have key:∃ z,F5 (l,60,())=some z∧(z=(true,())∨z=(false,()))∧(z=(true,())→∀ k,k < l.length→∀ v,l[k]? = some v→CB v.2.2.2.1):=by
  unfold F5
  refine zg7 (T:=Int×Int×Unit) (R:=Bool×Unit) (n:=l.length) (rt:=(true,())) (rf:=(false,())) (t:=(0,0,())) (I:=fun k t=>∃ n,t=(n,(k:Int),())) (fun k=>∀ v,l[k]? = some v→CB v.2.2.2.1) (by simp) (by omega) ?_ ?_ ⟨0,rfl⟩
  ·rintro k t hk ⟨n,rfl⟩
   obtain⟨v,hv⟩:∃ v,l[k]? = some v:=⟨_,List.getElem?_eq_getElem hk⟩
   have hmem:=List.mem_of_getElem? hv
   obtain⟨b,e1,g1⟩:=zic v.2.2.2.1 (hz v hmem).1 (hM v hmem)
   have e1':F18 v.2.2.2=some (b,()):=e1
   have wk:wrap64 ((k:Int)+1)=((k+1:Nat):Int):=bF (by omega)
   simp only [aI,hk,decide_true,cond_true,aS,hv,Option.bind_some,e1',wk]
   cases decide ((60:Int)≤(k:Int)) with
   | true=>exact .inl rfl
   | false=>
    simp only [cond_false]
    generalize decide ((300:Int) < _)=d3
    cases d3 with
    | true=>exact .inl rfl
    | false=>
     cases b with
     | false=>exact .inl rfl
     | true=>
      refine .inr ⟨_,rfl,⟨_,rfl⟩,fun v' h=> ?_⟩
      obtain rfl:=Option.some.inj h
      obtain⟨s1,s2⟩:=g1 rfl
      have hzz:=hz _ hmem
      exact⟨hzz,hzz.1,by omega,by omega⟩
  ·rintro t ⟨n,rfl⟩
   simp only [aI,Nat.lt_irrefl,decide_false,cond_false]
 obtain⟨z,e,h,hq⟩:=key
 rcases h with rfl | rfl
 ·refine⟨true,e,fun _ v hv=> ?_⟩
  obtain⟨i,hi,rfl⟩:=List.mem_iff_getElem.1 hv
  exact hq rfl i hi _ (List.getElem?_eq_getElem hi)
 ·exact⟨false,e,fun h=>by cases h⟩
theorem zjb:gX [97,47]:=⟨by decide,NU (by decide) (by decide) (by decide)⟩
theorem zja:gX [98,47]:=⟨by decide,NU (by decide) (by decide) (by decide)⟩
theorem zeK:F4 ()=some (true,()):=by
 have h1:=OL (ep:=1) (s:=[97,47]) (d:=[98,47]) (n0:=1) (n1:=1) ⟨by decide,by decide,⟨zjb,zja,by decide,by decide⟩,by decide,by decide,by decide,by decide⟩
 have h2:=Nb 11 1 1 8 0 0 0 NoT sK Gl.1 ⟨by decide,by decide,zej _ (by unfold bJ;decide)⟩
 have h3:F9 (zk 1 [97,47] [98,47] 1 1,())=some ((11,wrap64 (wrap64 (4*1)+0),(sK.1,wrap64 (0+1),sK.2.2),()),true,((1,[97,47],[98,47],(1,1,()),()),0,[(11,0,1,8,0,0,0,false,NoT,())],[(11,1,1,8,wrap64 (0+1),0,0,true,(sK.1,wrap64 (0+1),sK.2.2),())],sK,false,gu,0,[],[],false,false,[],false,()),()):=by
  have u0:F22 ((11,0,1,8,0,0,0,false,NoT,()),())=some (false,(11,0,1,8,0,0,0,false,NoT,()),()):=rfl
  have u1:F22 ((11,1,1,8,0,0,0,false,NoT,()),())=some (false,(11,1,1,8,0,0,0,false,NoT,()),()):=rfl
  have b1:F24 (zk 1 [97,47] [98,47] 1 1,())=some (sK,1,zk 1 [97,47] [98,47] 1 1,()):=rfl
  have dq:decide ((7:Int)=0)=false:=rfl
  unfold F9
  simp only [List.head?_cons,Option.bind_some,u0,u1,cond_false,cond_true,b1,q1n,q1m,h2,Int.reduceEq,decide_true,decide_false,Bool.not_true]
 have e0:decide ((0:Int)=0)=true:=rfl
 unfold F4
 refine aU h1 ?_
 simp only [cond_true]
 refine aU h3 ?_
 rfl
theorem quo4 (a:Int):∃ q,qw IntKind.i64 a 4=some q:=⟨_,rfl⟩
theorem zhI {t:Int} (h0:0≤t) (h3:t < 3):qw IntKind.i64 (wrap64 (wrap64 (4*0)+t)) 4=some 0:=by
 have:t=0∨t=1∨t=2:=by omega
 rcases this with rfl | rfl | rfl <;> rfl
theorem zhH {t:Int} (h0:0≤t) (h3:t < 3):qw IntKind.i64 (wrap64 (wrap64 (4*1)+t)) 4=some 1:=by
 have:t=0∨t=1∨t=2:=by omega
 rcases this with rfl | rfl | rfl <;> rfl
theorem zch (W:fU) (kd:UInt8) (fr nn:Int) (m:TMD):∃ fr' rid',F11 (W,(kd,fr,nn,m,()),())=some ((kd,fr',nn,(m.1,rid',m.2.2),()),()):=by
 obtain⟨n,hn⟩:=DN
 unfold F11
 rw [hn]
 simp only [iter,l02,ix0,lZ,w01,cond_true,Option.bind_some]
 cases W.2.2.2.2.1.1.2.2.2.2.2.2.2.1 <;> simp only [cond_true,cond_false,Option.bind_some,Sum.elim_inl,l12,ix1,nP,nO,w11] <;>
  cases W.2.2.2.2.1.2.1.2.2.2.2.2.2.2.1 <;> simp only [cond_true,cond_false,Option.bind_some,Sum.elim_inl,Sum.elim_inr,l22] <;> exact⟨_,_,rfl⟩
def IdI (op:Int) (o0 o1:Bool) (r0 r1:Int):Prop:=(o0=false→o1=false→op=0)∧(o0=true→op=wrap64 (wrap64 (2*r0)+0))∧(o1=true→op=wrap64 (wrap64 (2*r1)+1))
abbrev RI:Type:=Int×Int×Int×List UInt8×List UInt8×Int×DU×TMD×Bool×aH×Int×Bool×Bool×List ae×Bool×List ae×Int×Bool×Bool×Bool×dO×Bool×dm
abbrev mkT (op k:Int) (W:fU) (M:dm):RI:=(op,k,W.1,W.2.1,W.2.2.1,W.2.2.2.1,W.2.2.2.2.1,W.2.2.2.2.2.1,W.2.2.2.2.2.2.1,W.2.2.2.2.2.2.2.1,W.2.2.2.2.2.2.2.2.1,W.2.2.2.2.2.2.2.2.2.1,W.2.2.2.2.2.2.2.2.2.2.1,W.2.2.2.2.2.2.2.2.2.2.2.1,W.2.2.2.2.2.2.2.2.2.2.2.2.1,W.2.2.2.2.2.2.2.2.2.2.2.2.2.1,W.2.2.2.2.2.2.2.2.2.2.2.2.2.2.1,W.2.2.2.2.2.2.2.2.2.2.2.2.2.2.2.1,W.2.2.2.2.2.2.2.2.2.2.2.2.2.2.2.2.1,W.2.2.2.2.2.2.2.2.2.2.2.2.2.2.2.2.2.1,W.2.2.2.2.2.2.2.2.2.2.2.2.2.2.2.2.2.2.1,W.2.2.2.2.2.2.2.2.2.2.2.2.2.2.2.2.2.2.2.1,M)
def RJ (ep:Int) (src dst:List UInt8) (n0 n1:Int) (k:Nat) (t:RI):Prop:=∃ op W M r0 r1 o0 o1,t=mkT op (k:Int) W M∧kQ ep src dst n0 n1 r0 r1 o0 o1 M W∧¬ (o0=true∧o1=true)∧IdI op o0 o1 r0 r1
theorem opens {ep n0 n1 r0 r1:Int} {src dst:List UInt8} {o0 o1:Bool} {M:dm} {W:fU} (h:kQ ep src dst n0 n1 r0 r1 o0 o1 M W):W.2.2.2.2.1.1.2.2.2.2.2.2.2.1=o0∧W.2.2.2.2.1.2.1.2.2.2.2.2.2.2.1=o1:=by
 obtain⟨c0,c1,w0,w1,asked,known,mv,pin,pg,tl,again,fen,fen',hand,over,has,dn,its,htl,tls,up,hh,hand',rfl,rfl,hc0,hc1,hp,ht,hv⟩:=h
 exact⟨(Bg hc0).2,(Bg hc1).2⟩
theorem zgT (x:(bM P3).den) (hx:gI (bM P3) x) (hm:jI (bM P3) x):F3 x=some (true,()):=by
 obtain⟨⟨ep,src,dst,⟨n0,n1,⟨⟩⟩,⟨⟩⟩,l,⟨⟩⟩:lw×List vT×Unit:=x
 have hl:l.length≤140737488351232:=hx.2.1.1
 have h1:St src:=hx.1.2.1
 have h2:St dst:=hx.1.2.2.1
 obtain⟨z,ez,hsm⟩:=fewM l (fun v hv=>szT (hx.2.1.2 v hv).2.2.2.1) (fun v hv=>zb2 (hm.2.1.2 v hv).2.2.2.1) (by omega)
 unfold F3
 simp only [zeK,Option.bind_some,Bool.not_true,cond_false,aT]
 refine aU ez ?_
 cases z with
 | false=>rfl
 | true=>
 have hsm:=hsm rfl
 simp only [Bool.not_true,cond_false,zgP ep src dst n0 n1 h1 h2,Option.bind_some]
 by_cases hM:zl ep src dst n0 n1
 case neg=>rw [decide_eq_false hM];rfl
 rw [decide_eq_true hM]
 simp only [Bool.not_true,cond_false]
 refine aU (OL hM) ?_
 simp only [cond_true,zgy,Option.bind_some]
 have hn0:1≤n0∧n0≤3:=⟨hM.2.2.2.1,hM.2.2.2.2.1⟩
 have hn1:1≤n1∧n1≤3:=⟨hM.2.2.2.2.2.1,hM.2.2.2.2.2.2⟩
 refine zgX (I:=RJ ep src dst n0 n1) (n:=l.length) (r:=(true,())) (by omega) ?_ ?_ ?_
 ·rintro k t hk ⟨op,W,M,r0,r1,o0,o1,rfl,hR,hx,hI⟩
  right
  obtain⟨⟨kd,fr,nn,m,⟨⟩⟩,hv⟩:∃ v,l[k]? = some v:=⟨_,List.getElem?_eq_getElem hk⟩
  obtain⟨zm,hB⟩:CB m:=hsm _ (List.mem_of_getElem? hv)
  have wk:wrap64 ((k:Int)+1)=((k+1:Nat):Int):=bF (by omega)
  obtain⟨w1,w2,w3,w4,w5,w6,w7,w8,w9,w10,w11',w12,w13,w14,w15,w16,w17,w18,w19,w20,⟨⟩⟩:=W
  simp only [aI,hk,decide_true,cond_true,aS,hv,Option.bind_some]
  generalize decide (aQ kd=aQ (UInt8.ofNat 0))=d0
  generalize decide (aQ kd=aQ (UInt8.ofNat 2))=d2
  refine Exists.elim (OY (fun o=>∃ op W M r0 r1 o0 o1,o=Sum.inl ((mkT op 0 W M).1,(mkT op 0 W M).2.2)∧kQ ep src dst n0 n1 r0 r1 o0 o1 M W∧¬ (o0=true∧o1=true)∧IdI op o0 o1 r0 r1) (Q:=fun o=>∃ t',o=Sum.inl t'∧RJ ep src dst n0 n1 (k+1) t') ?_ ?_) (fun b hb=>by
   obtain⟨hb,t',rfl,hu⟩:=hb
   exact⟨t',hb,hu⟩)
  ·cases d0 with
   | true=>
    obtain⟨p,ok,M',W',out,r0',r1',o0',o1',a1,a2,a3,a4⟩:=zcm hn0 hn1 h1 h2 hR hx
    obtain⟨v1,v2,v3,v4,v5,v6,v7,v8,v9,v10,v11,v12,v13,v14,v15,v16,v17,v18,v19,v20,⟨⟩⟩:=W'
    obtain⟨q,hq⟩:=quo4 p.2.1
    simp only [cond_true,a1,a2,Option.bind_some,hq]
    rcases a4 with ⟨rfl,rfl,rfl,rfl,rfl⟩ | ⟨rfl,rfl,rfl,⟨t,t0,t3,e1,e2⟩,e3,rfl⟩ | ⟨rfl,rfl,rfl,⟨t,t0,t3,e1,e2⟩,e3,rfl⟩
    ·simp only [cond_false,Option.bind_some,Sum.elim_inl]
     exact⟨_,rfl,op,_,M',r0',r1',o0',o1',rfl,a3,hx,hI⟩
    ·have hq0:q=0:=by rw [e1,zhI t0 t3] at hq;exact (Option.some.inj hq).symm
     subst hq0
     have hop:op=0∨op=wrap64 (wrap64 (2*r0')+0):=by
      cases o0 with
      | false=>exact .inl (hI.1 rfl rfl)
      | true=>rw [e3 rfl];exact .inr (hI.2.1 rfl)
     have fin:IdI (wrap64 (wrap64 (2*r0')+0)) true false r0' r1':=⟨fun h=>(by cases h),fun _=>rfl,fun h=>by cases h⟩
     simp only [cond_true,e2]
     by_cases h0:op=0
     ·simp only [decide_eq_true h0,Bool.not_true,cond_false]
      exact⟨_,rfl,_,_,M',r0',r1',true,false,rfl,a3,(fun h=>by cases h.2),fin⟩
     ·have hop:=hop.resolve_left h0
      simp only [decide_eq_false h0,Bool.not_false,cond_true,decide_eq_true hop.symm,Bool.not_true,cond_false]
      exact⟨_,rfl,_,_,M',r0',r1',true,false,rfl,a3,(fun h=>by cases h.2),fin⟩
    ·have hq0:q=1:=by rw [e1,zhH t0 t3] at hq;exact (Option.some.inj hq).symm
     subst hq0
     have hop:op=0∨op=wrap64 (wrap64 (2*r1')+1):=by
      cases o1 with
      | false=>exact .inl (hI.1 rfl rfl)
      | true=>rw [e3 rfl];exact .inr (hI.2.2 rfl)
     have fin:IdI (wrap64 (wrap64 (2*r1')+1)) false true r0' r1':=⟨fun _ h=>(by cases h),fun h=>(by cases h),fun _=>rfl⟩
     simp only [cond_true,q10,Bool.not_false,e2]
     by_cases h0:op=0
     ·simp only [decide_eq_true h0,Bool.not_true,cond_false]
      exact⟨_,rfl,_,_,M',r0',r1',false,true,rfl,a3,(fun h=>by cases h.1),fin⟩
     ·have hop:=hop.resolve_left h0
      simp only [decide_eq_false h0,Bool.not_false,cond_true,decide_eq_true hop.symm,Bool.not_true,cond_false]
      exact⟨_,rfl,_,_,M',r0',r1',false,true,rfl,a3,(fun h=>by cases h.1),fin⟩
   | false=>
    cases d2 with
    | false=>
     simp only [cond_false]
     exact⟨_,rfl,op,(w1,w2,w3,w4,w5,w6,w7,w8,w9,w10,w11',w12,w13,w14,w15,w16,w17,w18,w19,w20,()),M,r0,r1,o0,o1,rfl,hR,hx,hI⟩
    | true=>
     obtain⟨fr',rid',e1⟩:=zch (w1,w2,w3,w4,w5,w6,w7,w8,w9,w10,w11',w12,w13,w14,w15,w16,w17,w18,w19,w20,()) kd fr nn m
     have zm':SzT (m.1,rid',m.2.2):=zm
     have hB':Bnd (m.1,rid',m.2.2):=hB
     obtain⟨M',W',o0',o1',a1,a2,a3,a4,a5⟩:=zev (fr:=fr') hn0 hn1 hR zm' hB'
     obtain⟨x1,x2⟩:=opens a3
     obtain⟨v1,v2,v3,v4,v5,v6,v7,v8,v9,v10,v11,v12,v13,v14,v15,v16,v17,v18,v19,v20,⟨⟩⟩:=W'
     have x1:v5.1.2.2.2.2.2.2.2.1=o0':=x1
     have x2:v5.2.1.2.2.2.2.2.2.2.1=o1':=x2
     simp only [cond_false,cond_true,e1,Option.bind_some,zit,a1,a2,x1,x2]
     have hx':¬ (o0'=true∧o1'=true):=fun h=>hx ⟨a4 h.1,a5 h.2⟩
     cases o0' with
     | false=>
      cases o1' with
      | false=>
       simp only [Bool.not_false,cond_true]
       exact⟨_,rfl,0,_,M',r0,r1,false,false,rfl,a3,hx',⟨fun _ _=>rfl,fun h=>(by cases h),fun h=>by cases h⟩⟩
      | true=>
       simp only [Bool.not_false,Bool.not_true,cond_true,cond_false]
       exact⟨_,rfl,op,_,M',r0,r1,false,true,rfl,a3,hx',⟨fun _ h=>(by cases h),fun h=>(by cases h),fun _=>hI.2.2 (a5 rfl)⟩⟩
     | true=>
      cases o1' with
      | false=>
       simp only [Bool.not_true,cond_false]
       exact⟨_,rfl,op,_,M',r0,r1,true,false,rfl,a3,hx',⟨fun h=>(by cases h),fun _=>hI.2.1 (a4 rfl),fun h=>by cases h⟩⟩
      | true=>exact absurd ⟨rfl,rfl⟩ hx'
  ·rintro o ⟨op,W,M,r0,r1,o0,o1,rfl,hR,hx,hI⟩
   simp only [Sum.elim_inl,wk]
   exact⟨_,rfl,_,rfl,op,W,M,r0,r1,o0,o1,rfl,hR,hx,hI⟩
 ·rintro t ⟨op,W,M,r0,r1,o0,o1,rfl,hR,hx,hI⟩
  simp only [aI,Nat.lt_irrefl,decide_false,cond_false]
  rfl
 ·refine⟨0,(ep,src,dst,0,((11,0,n0,8,0,0,0,false,false,NoT,()),(11,1,n1,8,0,0,0,false,false,NoT,()),()),NoT,false,gu,0,false,false,[],false,[],0,false,false,false,eQ,false,()),zk ep src dst n0 n1,0,0,false,false,rfl,?_,(fun h=>by cases h.1),⟨fun _ _=>rfl,fun h=>(by cases h),fun h=>by cases h⟩⟩
  exact⟨_,_,_,_,NoT,false,gu,0,[],[],false,false,false,[],false,false,false,[],false,[],0,false,eQ,rfl,rfl,⟨0,0,0,false,NoT,NoT,rfl,rfl,by omega,fun h=>by cases h⟩,⟨0,0,0,false,NoT,NoT,rfl,rfl,by omega,fun h=>by cases h⟩,.inl ⟨rfl,rfl⟩,.inl ⟨rfl,rfl⟩,⟨gy,gy,gy⟩⟩
end Go.Proofs.YtpfjaaofpcbejaaGreat
