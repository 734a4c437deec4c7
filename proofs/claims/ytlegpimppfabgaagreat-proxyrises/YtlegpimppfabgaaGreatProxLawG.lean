/-
 Prox: how a proxy and the document's begin;what is begun,watched;few acts;answers;what may be said.
-/
import Derived.Test.YtlegpimppfabgaaGreatProxLawF
namespace Go.Proofs.YtlegpimppfabgaaGreat
open Go.Sx Go Classical
set_option maxRecDepth 10000
theorem Q3 {T R:Type} {step:T→Option (T⊕R)} {n:Nat} {I:Nat→T→Prop} (P:Nat→Prop) {rt rf:R} (hr:rf≠rt) (hn:n≤9223372036854775807)
  (h:∀ k t,k<n→I k t→step t=some (.inr rf)∨∃ t',step t=some (.inl t')∧I (k+1) t'∧P k) (hK:∀ t,I n t→step t=some (.inr rt)) {t:T} (h0:I 0 t) :
  ∃ z,iter step big t=some z∧(z=rt∨z=rf)∧(z=rt→∀ k,k<n→P k):=by
 have main:∀ d k t m,k+d=n→d<m→I k t→∃ z,iter step m t=some z∧(z=rt∨z=rf)∧(z=rt→∀ j,k≤j→j<n→P j):=by
  intro d;induction d with
  | zero=>
   intro k t m hk hm ht;cases m with
   | zero=>omega
   | succ m=>rw[Nat.add_zero] at hk;subst hk;exact⟨rt,by simp[iter,hK t ht],.inl rfl,fun _ j h1 h2=>by omega⟩
  | succ d ih=>
   intro k t m hk hm ht;cases m with
   | zero=>omega
   | succ m=>
    rcases h k t (by omega) ht with h1|⟨t',h1,h2,hp⟩
    ·exact⟨rf,by simp[iter,h1],.inr rfl,fun e=>absurd e hr⟩
    ·obtain⟨z,e,hz,hq⟩:=ih (k+1) t' m (by omega) (by omega) h2;refine⟨z,by simp[iter,h1,e],hz,fun e j h3 h4=> ?_⟩;by_cases hj:j=k
     ·rw[hj];exact hp
     ·exact hq e j (by omega) h4
 obtain⟨z,e,hz,hq⟩:=main n 0 t big (by omega) (by rw[ji];omega) h0;exact⟨z,e,hz,fun h k hk=>hq h k (Nat.zero_le _) hk⟩
theorem Xj (s p:List UInt8):F91 (s,p,())=some (begins s p,()):=by
 unfold F91;by_cases h:p.length≤s.length
 ·have e:decide (Int.ofNat p.length≤Int.ofNat s.length)=true:=decide_eq_true (by simpa using h);simp only[e,cond_true,xW h,Option.bind_some,begins]
 ·have e:decide (Int.ofNat p.length≤Int.ofNat s.length)=false:=decide_eq_false (by simpa using h);simp only[e,cond_false,Hw h]
def Dy (s d:List UInt8):Prop:=dP s∧dP d∧begins s d=false∧begins d s=false
def Aj (id:Int) (s d:List UInt8) (n0 n1:Int):Prop:=(0≤id∧id≤2)∧Dy s d∧(1≤n0∧n0≤3)∧1≤n1∧n1≤3
theorem apart_eq (s d:List UInt8) (hs:s.length≤140737488351232) (hd:d.length≤140737488351232):F66 (s,d,())=some (decide (Dy s d),()):=by
 unfold F66 Dy;simp only[xR s hs,xR d hd,Xj,Option.bind_some];by_cases h1:dP s<;>by_cases h2:dP d<;>cases h3:begins s d<;>cases h4:begins d s<;>simp[h1,h2]
theorem zbb (id:Int) (s d:List UInt8) (n0 n1:Int) (hs:St s) (hd:St d):F8 ((id,s,d,(n0,n1,()),()),0,())=some (decide (Aj id s d n0 n1),()):=by
 unfold F8 F29 Aj;simp only[apart_eq s d hs hd,Option.bind_some];by_cases h1:0≤id<;>by_cases h2:id≤2<;>by_cases h3:Dy s d<;>by_cases h4:1≤n0<;>by_cases h5:n0≤3<;>by_cases h6:1≤n1<;>by_cases h7:n1≤3<;>simp[h1,h2,h3,h4,h5,h6,h7]
theorem YI {id:Int} {s d:List UInt8} {n0 n1:Int} (h:Aj id s d n0 n1):F30 ((id,s,d,(n0,n1,()),()),())=some (true,()):=by
 obtain⟨⟨h1,h2⟩,⟨h3,h4,h5,h6⟩,-⟩:=h;unfold F30;simp only[yw,Bl,Option.bind_some,h1,h2,h3,h4,h5,h6,decide_true,cond_true,Bool.not_false]
abbrev nC (id k n:Int):CD:=(wrap64 (8+id),k,n,6,0,0,0,false,NoT,())
abbrev nW (id k n:Int):WD:=(wrap64 (8+id),k,n,6,0,0,0,false,false,NoT,())
abbrev noW:aT:=(false,fB,[],[],0,0,())
theorem zb8 {id:Int} {s d:List UInt8} {n0 n1:Int} (h:Aj id s d n0 n1):F9 ((id,s,d,(n0,n1,()),()),0,())=some ((true,(id,s,d,(n0,n1,()),()),(0,false,false,0,0,(0,0,()),()),noW,[nC id 0 n0],[nC id 1 n1],[nC id 1 n1],[nC id 0 n0],[nC id 1 n1],[],false,()),0,()):=by
 have hr:=YI h;obtain⟨hid,-,h0,h1⟩:=h;have e1:id=0∨id=1∨id=2:=by omega
 have e2:n0=1∨n0=2∨n0=3:=by omega
 have e3:n1=1∨n1=2∨n1=3:=by omega
 unfold F9;refine aB hr ?_;clear hr hid h0 h1;rcases e1 with rfl|rfl|rfl<;>rcases e2 with rfl|rfl|rfl<;>rcases e3 with rfl|rfl|rfl<;>kernel_rfl
theorem zaS (id:Int) (s d:List UInt8) (n0 n1:Int):F10 (id,s,d,(n0,n1,()),0,())=some ((id,s,d,0,0,0,false,false,0,noW,(nW id 0 n0,nW id 1 n1,()),nW id 1 n1,(nW id 0 n0,nW id 1 n1,()),false,0,0,[],0,false,()),()):=by
 obtain⟨n,hn⟩:=Vu;unfold F10;rw[hn];rfl
theorem Uu (id k n:Int) (hn:1≤n):jG (wrap64 (8+id)) 6 k n (nC id k n) (nW id k n):=⟨0,false,0,0,0,false,NoT,NoT,rfl,rfl,by omega,fun h=>by cases h⟩
theorem Yu {id n0 n1 sf:Int} {src dst:List UInt8} {site fr next start:Int} {told:List TBD} {wat:Bool} {p:bC} {w:bD} {since:Int} (h1:1≤since) (h2:since≤1099511627776) (h:jJ id n0 n1 sf src dst site fr next start told wat p w) :
  ∃ p' w',F12 (p,since,())=some (0,p',())∧F11 (w,since,())=some (w',true,())∧jJ id n0 n1 sf src dst site fr since since [] true p' w':=by
 obtain⟨d0,d1,lk,s0,s1,e0,e1,lw,t0,t1,busy,won,seq,cut,want,wt,ended,cur,rfl,rfl,k0,k1,kl,m0,m1,hw,hsite,hz,hss⟩:=h;obtain⟨c0,x0,y0⟩:=Iu m0;obtain⟨c1,x1,y1⟩:=Iu m1;have g1:decide (since<1)=false:=decide_eq_false (by omega);have g2:decide ((1099511627776:Int)<since)=false:=decide_eq_false (by omega);refine⟨_,_,?_,?_,d0,d1,lk,c0,c1,e0,e1,lw,_,_,busy,won,seq,cut,want,[(since,[],0,())],0,false,rfl,rfl,k0,k1,kl,y0,y1,.inr ⟨rfl,rfl⟩,hsite,hz,hss⟩
 ·unfold F12;simp only[g1,g2,cond_false,List.head?_cons,Option.bind_some,x0,x1]
 ·unfold F11;simp only[g1,g2,cond_false]
noncomputable def badR (w:aT):Bool:=bif decide (dZ w.2.2.1 w.2.2.2.1) then bif decide (w.2.2.2.2.1<0) then true else bif decide (1099511627776<w.2.2.2.2.1) then true else bif decide (w.2.2.2.2.2.1<0) then true else decide (8<w.2.2.2.2.2.1) else true
noncomputable def rY (busy won:Bool) (src dst:List UInt8) (w:aT):Int:=
 bif busy then 7 else bif w.1 && badR w then 1 else bif !(iQ src src w).2.1 then 1 else bif !(iQ src dst w).2.1 then 3 else bif won then 14 else 0
theorem zeG (id:Int) (src dst:List UInt8) (nn:dI) (site:Int) (busy won:Bool) (seq next:Int) (cnt:dI) (wt w:aT) (hw:SzW w) :
  F42 (((id,src,dst,nn,()),(site,busy,won,seq,next,cnt,()),wt,()),w,())=some (rY busy won src dst w,()):=by
 have a0:=Df id src dst nn (site,busy,won,seq,next,cnt,()) wt w 0 hw;have a1:=Df id src dst nn (site,busy,won,seq,next,cnt,()) wt w 1 hw;have k0:dS src dst 0=src:=rfl;have k1:dS src dst 1=dst:=rfl;rw[k0] at a0;rw[k1] at a1;unfold F42 rY;cases busy with
 | true=>rfl
 | false=>
  simp only[cond_false,a0,a1,Option.bind_some,qK];generalize (iQ src src w).2.1=h0;generalize (iQ src dst w).2.1=h1;obtain⟨rd,c,fr,en,rev,most,⟨⟩⟩:=w;cases rd with
  | false=>cases h0<;>cases h1<;>cases won<;>rfl
  | true=>
   unfold badR;simp only[cond_true,Bool.true_and];cases decide (dZ fr en) with
   | false=>rfl
   | true=>
    cases decide (rev<0) with
    | true=>rfl
    | false=>
     cases decide ((1099511627776:Int)<rev) with
     | true=>rfl
     | false=>
      cases decide (most<0) with
      | true=>rfl
      | false=>
       cases decide ((8:Int)<most) with
       | true=>rfl
       | false=>cases h0<;>cases h1<;>cases won<;>rfl
theorem zct (id:Int) (src dst:List UInt8) (site fr cut:Int) (busy won:Bool) (seq:Int) (want:aT) (D:cu) (lw:WD) (T:cu) (R:Bool×Int×Int×List TBD×Int×Bool×Unit) (w:aT) (hw:SzW w) (hs1:St src) (hs2:St dst) :
  F16 (wOf id src dst site fr cut busy won seq want D lw T R,w,())=some (if rY busy won src dst w=0 then wOf id src dst site fr cut true won (wrap64 (seq+1)) w D lw T R else wOf id src dst site fr cut busy won seq want D lw T R,rY busy won src dst w,()):=by
 have a0:=Jn id src dst (site,fr,cut,busy,won,seq,want,D,lw,T,R) w 0 (.inl rfl) hw hs1 hs2;have a1:=Jn id src dst (site,fr,cut,busy,won,seq,want,D,lw,T,R) w 1 (.inr rfl) hw hs1 hs2;have k0:dS src dst 0=src:=rfl;have k1:dS src dst 1=dst:=rfl;rw[k0] at a0;rw[k1] at a1;have hf:F46 (w.2.2.1,w.2.2.2.1,())=some (decide (dZ w.2.2.1 w.2.2.2.1),()):=qG _ _ hw.2.1 hw.2.2;unfold F16 rY;refine aB a0 ?_;refine aB a1 ?_;generalize iQ src src w=z0;generalize iQ src dst w=z1;obtain⟨z0,h0,⟨⟩⟩:=z0;obtain⟨z1,h1,⟨⟩⟩:=z1;cases busy with
 | true=>rfl
 | false=>
  obtain⟨rd,c,f',en,rev,most,⟨⟩⟩:=w;cases rd with
  | false=>cases h0<;>cases h1<;>cases won<;>rfl
  | true=>
   unfold badR;simp only[cond_true,cond_false,Bool.true_and,hf,Option.bind_some];cases decide (dZ f' en) with
   | false=>rfl
   | true=>
    cases decide (rev<0) with
    | true=>rfl
    | false=>
     cases decide ((1099511627776:Int)<rev) with
     | true=>rfl
     | false=>
      cases decide (most<0) with
      | true=>rfl
      | false=>
       cases decide ((8:Int)<most) with
       | true=>rfl
       | false=>cases h0<;>cases h1<;>cases won<;>rfl
def EL (w:aT):Prop:=SzW w∧zu w≤20∧w.2.1.2.2.2.2.2.2.2.1.length≤10∧w.2.1.2.2.2.2.2.2.2.2.1.length≤10∧w.2.1.2.2.2.2.2.2.2.2.2.1.length≤10
theorem Zg {id n0 n1 sf:Int} {src dst:List UInt8} {site fr next start:Int} {told:List TBD} {wat:Bool} {p:bC} {w:bD} {wn:aT} (hs1:St src) (hs2:St dst) (hf:EL wn) (h:jJ id n0 n1 sf src dst site fr next start told wat p w) :
  ∃ r b p' w' e,F15 (p,wn,())=some (r,b,p',())∧F16 (w,wn,())=some (w',e,())∧jJ id n0 n1 sf src dst site fr next start told wat p' w':=by
 obtain⟨d0,d1,lk,s0,s1,e0,e1,lw,t0,t1,busy,won,seq,cut,want,wt,ended,cur,rfl,rfl,k0,k1,kl,m0,m1,hw,hsite,hz,hss⟩:=h;obtain⟨hsw,hse,l1,l2,l3⟩:=hf;have hm:=zeG id src dst (n0,n1,()) site busy won seq next (fr,cut,()) want wn hsw
 have hr:=zct id src dst site fr cut busy won seq want (e0,e1,()) lw (t0,t1,()) (wat,start,next,told,ended,cur,()) wn hsw hs1 hs2;by_cases h0:rY busy won src dst wn=0
 case neg=>rw[if_neg h0] at hr;refine⟨(rY busy won src dst wn,0,false,0,[],0,0,()),true,_,_,_,?_,hr,d0,d1,lk,s0,s1,e0,e1,lw,t0,t1,busy,won,seq,cut,want,wt,ended,cur,rfl,rfl,k0,k1,kl,m0,m1,hw,hsite,hz,hss⟩;unfold F15;refine aB hm ?_;simp only[decide_eq_false h0,Bool.not_false,cond_true,decide_true]
 ·rw[if_pos h0] at hr;have hself:(iQ src src wn).1=wn:=by
   apply YU;unfold rY at h0;cases busy
   ·cases hb:wn.1 && badR wn
    ·rw[hb] at h0;cases hh:(iQ src src wn).2.1
     ·rw[hh] at h0;exact absurd (show(1:Int)=0 from h0) (by decide)
     ·rfl
    ·rw[hb] at h0;exact absurd (show(1:Int)=0 from h0) (by decide)
   ·exact absurd (show(7:Int)=0 from h0) (by decide)
  have hn:=Df id src dst (n0,n1,()) (site,busy,won,seq,next,(fr,cut,()),()) want wn 0 hsw;have k00:dS src dst 0=src:=rfl;rw[k00] at hn;have hcap:bT=34359738368:=rfl;refine⟨dX,false,_,_,_,?_,hr,d0,d1,lk,s0,s1,e0,e1,lw,t0,t1,true,won,wrap64 (seq+1),cut,wn,wt,ended,cur,rfl,rfl,k0,k1,kl,m0,m1,hw,hsite,hsw,hse⟩;unfold F15;refine aB hm ?_;rw[h0];simp only[decide_true,Bool.not_true,cond_false];refine aB hn ?_;rw[hself];refine aB (Gx _ (by omega)) ?_;refine aB (uZ _ (by omega)) ?_;refine aB (uZ _ (by omega)) ?_;simp only[decide_true,cond_true]
theorem fewP (l:List jc) (hz:∀ v∈l,SzT v.2.2.2.2.1∧SzW v.2.1) (hM:∀ v∈l,v.2.2.2.2.1.2.2.2.2.2.2.2.2.2.2.2.2.2.2.2.1.2.2.1.length≤1800000000000) (most:Nat) (hl:l.length≤9223372036854775800) :
  ∃ z,F7 (l,(most:Int),())=some (z,())∧(z=true→l.length≤most∧∀ v∈l,JX v.2.2.2.2.1∧EL v.2.1):=by
 have key:∃ z,F7 (l,(most:Int),())=some z∧(z=(true,())∨z=(false,()))∧(z=(true,())→∀ k,k<l.length→k<most∧∀ v,l[k]? = some v→JX v.2.2.2.2.1∧EL v.2.1):=by
  unfold F7;refine Q3 (T:=Int×Int×Unit) (R:=Bool×Unit) (n:=l.length) (rt:=(true,())) (rf:=(false,())) (t:=(0,0,())) (I:=fun k t=>∃ n,t=(n,(k:Int),())) (fun k=>k<most∧∀ v,l[k]? = some v→JX v.2.2.2.2.1∧EL v.2.1) (by simp) (by omega) ?_ ?_ ⟨0,rfl⟩
  ·rintro k t hk ⟨n,rfl⟩;obtain⟨v,hv⟩:∃ v,l[k]? = some v:=⟨_,List.getElem?_eq_getElem hk⟩
   have hmem:=List.mem_of_getElem? hv;obtain⟨b,e1,g1⟩:=zcl v.2.2.2.2.1 (hz v hmem).1.1 (hM v hmem);have e1':F27 v.2.2.2.2=some (b,()):=e1;obtain⟨c,e2,g2⟩:=Dv v.2.1.2.1 (hz v hmem).2.1.1;have wk:wrap64 ((k:Int)+1)=((k+1:Nat):Int):=aP (by omega);simp only[ax,hk,decide_true,cond_true,aI,hv,Option.bind_some,e1',e2,wk];cases hmo:decide ((most:Int)≤(k:Int)) with
   | true=>exact .inl rfl
   | false=>
    have hmo:=of_decide_eq_false hmo;simp only[cond_false];generalize decide ((300:Int)<_)=d3;cases d3 with
    | true=>exact .inl rfl
    | false=>
     cases b with
     | false=>exact .inl rfl
     | true=>
      cases c with
      | false=>exact .inl rfl
      | true=>
       simp only[cond_false,Bool.not_true];generalize decide ((300:Int)<_)=d4;cases d4 with
       | true=>exact .inl rfl
       | false=>refine .inr ⟨_,rfl,⟨_,rfl⟩,by omega,fun v' h=> ?_⟩;obtain rfl:=Option.some.inj h;obtain⟨s1,s2⟩:=g1 rfl;obtain⟨zz,zw⟩:=hz _ hmem;have ls:=zbu e2;exact⟨⟨zz,zz.1,by omega,by omega⟩,zw,g2 rfl,ls⟩
  ·rintro t ⟨n,rfl⟩;simp only[ax,Nat.lt_irrefl,decide_false,cond_false]
 obtain⟨z,e,h,hq⟩:=key;rcases h with rfl|rfl
 ·refine⟨true,e,fun _=>⟨?_,fun v hv=> ?_⟩⟩
  ·rcases Nat.lt_or_ge most l.length with h|h
   ·exact absurd (hq rfl most h).1 (Nat.lt_irrefl _)
   ·exact h
  ·obtain⟨i,hi,rfl⟩:=List.mem_iff_getElem.1 hv;exact(hq rfl i hi).2 _ (List.getElem?_eq_getElem hi)
 ·exact⟨false,e,fun h=>by cases h⟩
theorem w22:wrap64 (2-2)=0:=rfl
theorem w32:wrap64 (3-2)=1:=rfl
theorem yD {T R:Type} {I:T→Prop} {μ:T→Nat} {Q:T→R→Prop} {t x y:T} (b c:Bool) (hx:I x∧μ x<μ t∧∀ r,Q x r→Q t r) (hy:I y∧μ y<μ t∧∀ r,Q y r→Q t r) :
  ∃ t',(bif b then(bif c then some (.inl x) else some (.inl y)) else some (.inl y):Option (T⊕R))=some (.inl t')∧I t'∧μ t'<μ t∧∀ r,Q t' r→Q t r:=by
 cases b
 ·exact⟨_,rfl,hy⟩
 ·cases c
  ·exact⟨_,rfl,hy⟩
  ·exact⟨_,rfl,hx⟩
def IA (a:jc) (t:Int×Int×TMD×Unit):Prop:=∃ k f r,t=(k,f,(a.2.2.2.2.1.1,r,a.2.2.2.2.1.2.2),())∧(k=0∨k=1∨k=2∨k=3∨k=4∨k=5)
def μA (t:Int×Int×TMD×Unit):Nat:=5-t.1.toNat
def QA (a:jc) (y:jc×Unit):Prop:=∃ f r,y=((a.1,a.2.1,a.2.2.1,f,(a.2.2.2.2.1.1,r,a.2.2.2.2.1.2.2),()),())
theorem Zk (W:bD) (a:jc):∃ fr' rid',F17 (W,a,())=some ((a.1,a.2.1,a.2.2.1,fr',(a.2.2.2.2.1.1,rid',a.2.2.2.2.1.2.2),()),()):=by
 have h:=qL (step:=sN (W,a,())) (I:=IA a) (μ:=μA) (Q:=fun _ y=>QA a y) ?_ (n:=big) (t:=(0,a.2.2.2.1,(a.2.2.2.2.1.1,a.2.2.2.2.1.2.1,a.2.2.2.2.1.2.2),())) ⟨0,_,_,rfl,.inl rfl⟩ (by rw[ji];show 5-Int.toNat 0<_;decide)
 ·obtain⟨y,h1,f,r,rfl⟩:=h;exact⟨f,r,(zcC (W,a,())).trans h1⟩
 ·rintro t ⟨k,f,r,rfl,hk⟩;rcases hk with rfl|rfl|rfl|rfl|rfl|rfl
  case inr.inr.inr.inr.inr=>exact .inl ⟨_,rfl,f,r,rfl⟩
  case inl=>right;unfold sN;simp only[Int.reduceLT,decide_true,decide_false,cond_true,cond_false,w22,w32,ix0,ix1,rW,rV,rU,Option.bind_some,Sum.elim_inl,qP];exact yD (I:=IA a) (μ:=μA) (Q:=fun _ y=>QA a y) _ _ ⟨⟨1,_,_,rfl,by decide⟩,(by show 5-Int.toNat 1<5-Int.toNat 0;decide),fun y h=>h⟩ ⟨⟨1,_,_,rfl,by decide⟩,(by show 5-Int.toNat 1<5-Int.toNat 0;decide),fun y h=>h⟩
  case inr.inl=>right;unfold sN;simp only[Int.reduceLT,decide_true,decide_false,cond_true,cond_false,w22,w32,ix0,ix1,rW,rV,rU,Option.bind_some,Sum.elim_inl,qP];exact yD (I:=IA a) (μ:=μA) (Q:=fun _ y=>QA a y) _ _ ⟨⟨2,_,_,rfl,by decide⟩,(by show 5-Int.toNat 2<5-Int.toNat 1;decide),fun y h=>h⟩ ⟨⟨2,_,_,rfl,by decide⟩,(by show 5-Int.toNat 2<5-Int.toNat 1;decide),fun y h=>h⟩
  case inr.inr.inl=>right;unfold sN;simp only[Int.reduceLT,decide_true,decide_false,cond_true,cond_false,w22,w32,ix0,ix1,rW,rV,rU,Option.bind_some,Sum.elim_inl,qP];exact yD (I:=IA a) (μ:=μA) (Q:=fun _ y=>QA a y) _ _ ⟨⟨3,_,_,rfl,by decide⟩,(by show 5-Int.toNat 3<5-Int.toNat 2;decide),fun y h=>h⟩ ⟨⟨3,_,_,rfl,by decide⟩,(by show 5-Int.toNat 3<5-Int.toNat 2;decide),fun y h=>h⟩
  case inr.inr.inr.inl=>right;unfold sN;simp only[Int.reduceLT,decide_true,decide_false,cond_true,cond_false,w22,w32,ix0,ix1,rW,rV,rU,Option.bind_some,Sum.elim_inl,qP];exact yD (I:=IA a) (μ:=μA) (Q:=fun _ y=>QA a y) _ _ ⟨⟨4,_,_,rfl,by decide⟩,(by show 5-Int.toNat 4<5-Int.toNat 3;decide),fun y h=>h⟩ ⟨⟨4,_,_,rfl,by decide⟩,(by show 5-Int.toNat 4<5-Int.toNat 3;decide),fun y h=>h⟩
  case inr.inr.inr.inr.inl=>right;unfold sN;simp only[Int.reduceLT,decide_true,decide_false,cond_true,cond_false,w22,w32,ix0,ix1,rW,rV,rU,Option.bind_some,Sum.elim_inl,qP];exact yD (I:=IA a) (μ:=μA) (Q:=fun _ y=>QA a y) _ _ ⟨⟨5,_,_,rfl,by decide⟩,(by show 5-Int.toNat 5<5-Int.toNat 4;decide),fun y h=>h⟩ ⟨⟨5,_,_,rfl,by decide⟩,(by show 5-Int.toNat 5<5-Int.toNat 4;decide),fun y h=>h⟩
theorem zcn {X:Option (Bool×Unit)} {H:Prop} (h:∃ r,X=some r∧(r=(false,())∨H)):∃ z,X=some (z,())∧(z=true→H):=by
 obtain⟨⟨z,⟨⟩⟩,h1,h2⟩:=h;exact⟨z,h1,fun hz=>h2.resolve_left (by rw[hz];simp)⟩
def Dn (m:TMD) (site fr:Int) (told:List TBD) (o:Bool):Prop:=
 (m.1=12→m.2.2.2.2.2.2.2.2.2.2.2.2.2.2.2.2.1.1=3→site=0→∀ t∈told,t.1≤m.2.2.2.2.2.2.2.2.2.2.2.2.2.2.2.2.1.2.2.2.2.2.2.2.2.1)∧
 (m.1=9→site=1→o=true→∀ v,m.2.2.2.2.2.2.2.2.2.2.2.2.1[m.2.2.2.2.2.2.2.2.2.2.2.2.1.length-1]? = some v→v.1≤fr)∧
 (m.1=9→m.2.2.2.2.2.2.2.2.2.1=0→∀ v,m.2.2.2.2.2.2.2.2.2.2.2.2.1[m.2.2.2.2.2.2.2.2.2.2.2.2.1.length-1]? = some v→v.1<m.2.2.2.2.2.2.2.1)
theorem zac (m:TMD) (id:Int) (src dst:List UInt8) (site fr cut:Int) (busy won:Bool) (seq:Int) (want:aT) (D:cu) (lw t0 t1:WD) (wat:Bool) (start next:Int) (told:List TBD) (ended:Int) (cur:Bool) (hl:told.length≤1000000) (hb:m.2.2.2.2.2.2.2.2.2.2.2.2.1.length≤9000000000000000000) :
  ∃ z,F18 (m,(id,src,dst,site,fr,cut,busy,won,seq,want,D,lw,(t0,t1,()),wat,start,next,told,ended,cur,()),())=some (z,())∧(z=true→Dn m site fr told t0.2.2.2.2.2.2.2.1):=by
 obtain⟨k,rid,raft,job,cl,fr',en,rev,most,err,hint,rep,bat,xi,dn,hd,xm,⟨⟩⟩:=m;have hb:bat.length≤9000000000000000000:=hb;have last:0<bat.length→∃ v,idx bat (wrap64 (Int.ofNat bat.length-1))=some v∧bat[bat.length-1]? = some v:=fun h=>by
  have e:wrap64 (Int.ofNat bat.length-1)=((bat.length-1:Nat):Int):=by rw[dW (by simp;omega) (by simp;omega)];simp;omega
  rw[e,aI];exact⟨bat[bat.length-1],List.getElem?_eq_getElem (by omega),List.getElem?_eq_getElem (by omega)⟩
 have hP:decide ((0:Int)<Int.ofNat bat.length)=decide (0<bat.length):=ax bat 0;have hE:decide (Int.ofNat bat.length=0)=decide (bat.length=0):=by rw[decide_eq_decide];exact⟨fun h=>Int.ofNat.inj h,fun h=>by rw[h];rfl⟩
 have none_last:bat.length=0→∀ v,bat[bat.length-1]? = some v→False:=fun h v hv=>by rw[List.length_eq_zero_iff.1 h] at hv;simp at hv
 unfold F18;dsimp only;refine zcn ?_;refine Ju (fun o=>o=Sum.inr (false,())∨(o=Sum.inl ()∧(k=12→xm.1=3→site=0→∀ t∈told,t.1≤xm.2.2.2.2.2.2.2.2.1))) ?_ ?_
 ·by_cases h1:k=12
  case neg=>exact⟨_,by simp only[decide_eq_false h1,cond_false],.inr ⟨rfl,fun h=>absurd h h1⟩⟩
  by_cases h2:xm.1=3
  case neg=>exact⟨_,by simp only[decide_eq_true h1,decide_eq_false h2,cond_true,cond_false],.inr ⟨rfl,fun _ h=>absurd h h2⟩⟩
  by_cases h3:site=0
  case neg=>exact⟨_,by simp only[decide_eq_true h1,decide_eq_true h2,decide_eq_false h3,cond_true,cond_false],.inr ⟨rfl,fun _ _ h=>absurd h h3⟩⟩
  simp only[decide_eq_true h1,decide_eq_true h2,decide_eq_true h3,cond_true];obtain⟨z,e,hz,hq⟩:=Q3 (T:=Int×Unit) (R:=Unit⊕Bool×Unit) (n:=told.length) (rt:=Sum.inl ()) (rf:=Sum.inr (false,())) (t:=((0:Int),()))
   (step:=fun x_1=>bif decide (x_1.1<Int.ofNat (List.length told)) then Option.bind (idx told x_1.1) fun b=>bif decide (xm.2.2.2.2.2.2.2.2.1<b.1) then some (Sum.inr (Sum.inr (false,()))) else some (Sum.inl (wrap64 (x_1.1+1),())) else some (Sum.inr (Sum.inl ())))
   (I:=fun k t=>t=((k:Int),())) (fun k=>∀ v,told[k]? = some v→v.1≤xm.2.2.2.2.2.2.2.2.1) (by simp) (by omega)
   (by
    rintro i t hi rfl;obtain⟨v,hv⟩:∃ v,told[i]? = some v:=⟨_,List.getElem?_eq_getElem hi⟩
    have wk:wrap64 ((i:Int)+1)=((i+1:Nat):Int):=aP (by omega);simp only[ax,hi,decide_true,cond_true,aI,hv,Option.bind_some,wk];by_cases c:xm.2.2.2.2.2.2.2.2.1<v.1
    ·simp only[decide_eq_true c,cond_true];first|exact .inl rfl|exact .inl trivial
    ·simp only[decide_eq_false c,cond_false];exact .inr ⟨_,rfl,rfl,fun v' h=>by cases h;omega⟩)
   (by rintro t rfl;simp only[ax,Nat.lt_irrefl,decide_false,cond_false]) rfl
  refine⟨z,e,?_⟩;rcases hz with rfl|rfl
  ·refine .inr ⟨rfl,fun _ _ _ t ht=> ?_⟩;obtain⟨i,hi,rfl⟩:=List.mem_iff_getElem.1 ht;exact hq rfl i hi _ (List.getElem?_eq_getElem hi)
  ·exact .inl rfl
 ·rintro o (rfl|⟨rfl,c1⟩)
  ·exact⟨_,rfl,.inl rfl⟩
  simp only[Sum.elim_inl];refine Ju (fun o=>o=Sum.inr (false,())∨(o=Sum.inl ()∧(k=9→site=1→t0.2.2.2.2.2.2.2.1=true→∀ v,bat[bat.length-1]? = some v→v.1≤fr))) ?_ ?_
  ·by_cases h1:k=9
   case neg=>exact⟨_,by simp only[decide_eq_false h1,cond_false],.inr ⟨rfl,fun h=>absurd h h1⟩⟩
   by_cases h2:site=1
   case neg=>exact⟨_,by simp only[decide_eq_true h1,decide_eq_false h2,cond_true,cond_false],.inr ⟨rfl,fun _ h=>absurd h h2⟩⟩
   cases h3:t0.2.2.2.2.2.2.2.1 with
   | false=>exact⟨_,by simp only[decide_eq_true h1,decide_eq_true h2,cond_true,cond_false],.inr ⟨rfl,fun _ _ h=>by cases h⟩⟩
   | true=>
    by_cases h4:0<bat.length
    case neg=>exact⟨_,by simp only[decide_eq_true h1,decide_eq_true h2,hP,decide_eq_false h4,cond_true,cond_false],.inr ⟨rfl,fun _ _ _ v hv=>(none_last (by omega) v hv).elim⟩⟩
    obtain⟨v,hv1,hv2⟩:=last h4;by_cases h5:fr<v.1
    ·exact⟨_,by simp only[decide_eq_true h1,decide_eq_true h2,hP,decide_eq_true h4,cond_true,hv1,Option.bind_some,decide_eq_true h5],.inl rfl⟩
    ·exact⟨_,by simp only[decide_eq_true h1,decide_eq_true h2,hP,decide_eq_true h4,cond_true,cond_false,hv1,Option.bind_some,decide_eq_false h5],.inr ⟨rfl,fun _ _ _ w hw=>by rw[hv2] at hw;cases hw;omega⟩⟩
  ·rintro o (rfl|⟨rfl,c2⟩)
   ·exact⟨_,rfl,.inl rfl⟩
   simp only[Sum.elim_inl];by_cases h1:k=9
   case neg=>exact⟨(true,()),by simp only[decide_eq_false h1,Bool.not_false,cond_true],.inr ⟨c1,c2,fun h=>absurd h h1⟩⟩
   by_cases h2:err=0
   case neg=>exact⟨(true,()),by simp only[decide_eq_true h1,decide_eq_false h2,Bool.not_true,Bool.not_false,cond_true,cond_false],.inr ⟨c1,c2,fun _ h=>absurd h h2⟩⟩
   by_cases h4:bat.length=0
   ·exact⟨(true,()),by simp only[decide_eq_true h1,decide_eq_true h2,hE,decide_eq_true h4,Bool.not_true,cond_true,cond_false],.inr ⟨c1,c2,fun _ _ v hv=>(none_last h4 v hv).elim⟩⟩
   obtain⟨v,hv1,hv2⟩:=last (by omega);by_cases h5:v.1<rev
   ·exact⟨(true,()),by simp only[decide_eq_true h1,decide_eq_true h2,hE,decide_eq_false h4,Bool.not_true,cond_false,hv1,Option.bind_some,decide_eq_true h5],.inr ⟨c1,c2,fun _ _ w hw=>by rw[show w=v from Option.some.inj (hw.symm.trans hv2)];exact h5⟩⟩
   ·exact⟨(false,()),by simp only[decide_eq_true h1,decide_eq_true h2,hE,decide_eq_false h4,Bool.not_true,cond_false,hv1,Option.bind_some,decide_eq_false h5],.inl rfl⟩
theorem zbs {α:Type} (l:List α):∀ a:List α,l.foldl (fun a v=>a++[v]) a=a++l:=by
 induction l with
 | nil=>intro a;simp
 | cons v l ih=>intro a;simp[ih]
theorem zcI {start ended:Int} {told:List TBD} (cfg:eQ) (st:iw) (want:aT) (d0 d1 lk s0 s1:CD) (cur:Bool) (hl:told.length≤1000000) (hi':∀ t∈told,t.2.1.length≤1000000) :
  F22 (pOf cfg st want d0 d1 lk s0 s1 [(start,told,ended,())] cur,())=some (told,ended,pOf cfg st want d0 d1 lk s0 s1 [(start,told,ended,())] cur,()):=by
 have hcap:bT=34359738368:=rfl;have n10:decide (List.length [(start,told,ended,())]≤0)=false:=rfl;unfold F22;simp only[List.isEmpty_cons,cond_false,List.head?_cons,List.getElem?_cons_zero,Option.bind_some,n10];refine aB (a:=Sum.inl (told,([(start,told,ended,())],(1:Int)),())) ?_ rfl;refine(Ii (mk:=fun i (a:List TBD)=>(a,(i:Int),())) (l:=told) (g:=fun a v=>a++[v]) (K:=fun a=>Sum.inl (a,([(start,told,ended,())],(1:Int)),())) (Inv:=fun i a=>a.length=i) (by omega) ?_ ?_ (a:=[]) rfl).trans (by rw[zbs];rfl)
 ·intro i a v hv ha;have hi:i<told.length:=(List.getElem?_eq_some_iff.1 hv).1;have wk:wrap64 ((i:Int)+1)=((i+1:Nat):Int):=aP (by omega);have hc:F57 v.2=_:=xQ v.2.1 (by have:=hi' v (List.mem_of_getElem? hv);omega);refine⟨?_,by rw[List.length_append,ha];rfl⟩;simp only[ax,hi,decide_true,cond_true,BP told i hi,hv,Option.bind_some,hc,wk,iP (show a.length + [(v.1,v.2.1,())].length≤bT by simp only[List.length_cons,List.length_nil];omega)]
 ·intro a ha;simp only[ax,Nat.lt_irrefl,decide_false,cond_false];rfl
end Go.Proofs.YtlegpimppfabgaaGreat
