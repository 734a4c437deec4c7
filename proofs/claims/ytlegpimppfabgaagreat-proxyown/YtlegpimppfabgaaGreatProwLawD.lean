/-
 Plain laws of what lies below,as this seat reaches them (by a program of the bench: port.py).
-/
import Derived.Test.YtlegpimppfabgaaGreatProxLawF
import Derived.Test.YtlegpimppfabgaaGreatSxS
open Int (ofNat reduceLT toNat)
open List (getElem?_eq_getElem head?_cons length length_append length_cons length_nil mem_of_getElem?)
open Nat (le_trans lt_irrefl zero_le)
open Option (bind_some map map_some)
open Sum (elim_inl)
namespace Go.Proofs.YtlegpimppfabgaaGreat
open Go.Sx Go Classical
set_option maxRecDepth 10000
theorem zbS {T R:Type} {step:T→Option (T⊕R)} {n:Nat} {I:Nat→T→Prop} (P:Nat→Prop) {rt rf:R} (hr:rf≠rt) (hn:n≤9223372036854775807)
  (h:∀ k t,k<n→I k t→step t=some (.inr rf)∨∃ t',step t=some (.inl t')∧I (k+1) t'∧P k) (hK:∀ t,I n t→step t=some (.inr rt)) {t:T} (h0:I 0 t) :
  ∃ z,iter step big t=some z∧(z=rt∨z=rf)∧(z=rt→∀ k,k<n→P k):=by
 have main:∀ d k t m,k+d=n→d<m→I k t→∃ z,iter step m t=some z∧(z=rt∨z=rf)∧(z=rt→∀ j,k≤j→j<n→P j):=by
  intro d;induction d with
  | zero=>
   intro k t m hk hm ht;cases m with
   | zero=>omega
   | succ m=>rw[Nat.add_zero] at hk;subst hk;exact⟨rt,by simp[iter,hK t ht],.inl rfl,fun _ j h1 h2=>by omega⟩
  | succ d ih=>
   intro k t m hk hm ht;cases m with
   | zero=>omega
   | succ m=>
    rcases h k t (by omega) ht with h1|⟨t',h1,h2,hp⟩
    ·exact⟨rf,by simp[iter,h1],.inr rfl,fun e=>absurd e hr⟩
    ·obtain⟨z,e,hz,hq⟩:=ih (k+1) t' m (by omega) (by omega) h2;refine⟨z,by simp[iter,h1,e],hz,fun e j h3 h4=> ?_⟩;by_cases hj:j=k
     ·rw[hj];exact hp
     ·exact hq e j (by omega) h4
 obtain⟨z,e,hz,hq⟩:=main n 0 t big (by omega) (by rw[iT];omega) h0;exact⟨z,e,hz,fun h k hk=>hq h k (zero_le _) hk⟩
theorem XN (s p:List UInt8):F91 (s,p,())=some (begins s p,()):=by
 unfold F91;by_cases h:p.length≤s.length
 ·have e:decide (ofNat p.length≤ofNat s.length)=true:=decide_eq_true (by simpa using h);simp only[e,cond_true,xZ h,bind_some,begins]
 ·have e:decide (ofNat p.length≤ofNat s.length)=false:=decide_eq_false (by simpa using h);simp only[e,cond_false,Ij h]
def DX (s d:List UInt8):Prop:=dW s∧dW d∧begins s d=false∧begins d s=false
def AB (id:Int) (s d:List UInt8) (n0 n1:Int):Prop:=(0≤id∧id≤2)∧DX s d∧(1≤n0∧n0≤3)∧1≤n1∧n1≤3
theorem apart_eq (s d:List UInt8) (hs:s.length≤140737488351232) (hd:d.length≤140737488351232):F66 (s,d,())=some (decide (DX s d),()):=by
 unfold F66 DX;simp only[xX s hs,xX d hd,XN,bind_some];by_cases h1:dW s<;>by_cases h2:dW d<;>cases h3:begins s d<;>cases h4:begins d s<;>simp[h1,h2]
theorem zbz (id:Int) (s d:List UInt8) (n0 n1:Int) (hs:St s) (hd:St d):F8 ((id,s,d,(n0,n1,()),()),0,())=some (decide (AB id s d n0 n1),()):=by
 unfold F8 F29 AB;simp only[apart_eq s d hs hd,bind_some];by_cases h1:0≤id<;>by_cases h2:id≤2<;>by_cases h3:DX s d<;>by_cases h4:1≤n0<;>by_cases h5:n0≤3<;>by_cases h6:1≤n1<;>by_cases h7:n1≤3<;>simp[h1,h2,h3,h4,h5,h6,h7]
theorem Za {id:Int} {s d:List UInt8} {n0 n1:Int} (h:AB id s d n0 n1):F30 ((id,s,d,(n0,n1,()),()),())=some (true,()):=by
 obtain⟨⟨h1,h2⟩,⟨h3,h4,h5,h6⟩,-⟩:=h;unfold F30;simp only[yA,BG,bind_some,h1,h2,h3,h4,h5,h6,decide_true,cond_true,Bool.not_false]
abbrev nC (id k n:Int):CD:=(wrap64 (8+id),k,n,6,0,0,0,false,NoT,())
abbrev nW (id k n:Int):WD:=(wrap64 (8+id),k,n,6,0,0,0,false,false,NoT,())
abbrev noW:aI:=(false,fD,[],[],0,0,())
theorem zcy {id:Int} {s d:List UInt8} {n0 n1:Int} (h:AB id s d n0 n1):F9 ((id,s,d,(n0,n1,()),()),0,())=some ((true,(id,s,d,(n0,n1,()),()),(0,false,false,0,0,(0,0,()),()),noW,[nC id 0 n0],[nC id 1 n1],[nC id 1 n1],[nC id 0 n0],[nC id 1 n1],[],false,()),0,()):=by
 have hr:=Za h;obtain⟨hid,-,h0,h1⟩:=h;have e1:id=0∨id=1∨id=2:=by omega
 have e2:n0=1∨n0=2∨n0=3:=by omega
 have e3:n1=1∨n1=2∨n1=3:=by omega
 unfold F9;refine aF hr ?_;clear hr hid h0 h1;rcases e1 with rfl|rfl|rfl<;>rcases e2 with rfl|rfl|rfl<;>rcases e3 with rfl|rfl|rfl<;>kernel_rfl
theorem zbg (id:Int) (s d:List UInt8) (n0 n1:Int):F10 (id,s,d,(n0,n1,()),0,())=some ((id,s,d,0,0,0,false,false,0,noW,(nW id 0 n0,nW id 1 n1,()),nW id 1 n1,(nW id 0 n0,nW id 1 n1,()),false,0,0,[],0,false,()),()):=by
 obtain⟨n,hn⟩:=VX;unfold F10;rw[hn];rfl
theorem UY (id k n:Int) (hn:1≤n):jK (wrap64 (8+id)) 6 k n (nC id k n) (nW id k n):=⟨0,false,0,0,0,false,NoT,NoT,rfl,rfl,by omega,fun h=>by cases h⟩
theorem YV {id n0 n1 sf:Int} {src dst:List UInt8} {site fr next start:Int} {told:List TBD} {wat:Bool} {p:bD} {w:bG} {since:Int} (h1:1≤since) (h2:since≤1099511627776) (h:iZ id n0 n1 sf src dst site fr next start told wat p w) :
  ∃ p' w',F12 (p,since,())=some (0,p',())∧F11 (w,since,())=some (w',true,())∧iZ id n0 n1 sf src dst site fr since since [] true p' w':=by
 obtain⟨d0,d1,lk,s0,s1,e0,e1,lw,t0,t1,busy,won,seq,cut,want,wt,ended,cur,rfl,rfl,k0,k1,kl,m0,m1,hw,hsite,hz,hss⟩:=h;obtain⟨c0,x0,y0⟩:=IW m0;obtain⟨c1,x1,y1⟩:=IW m1;have g1:decide (since<1)=false:=decide_eq_false (by omega);have g2:decide ((1099511627776:Int)<since)=false:=decide_eq_false (by omega);refine⟨_,_,?_,?_,d0,d1,lk,c0,c1,e0,e1,lw,_,_,busy,won,seq,cut,want,[(since,[],0,())],0,false,rfl,rfl,k0,k1,kl,y0,y1,.inr ⟨rfl,rfl⟩,hsite,hz,hss⟩
 ·unfold F12;simp only[g1,g2,cond_false,head?_cons,bind_some,x0,x1]
 ·unfold F11;simp only[g1,g2,cond_false]
theorem ZP {p:bD} {w:bG} {since:Int} (h:¬ (1≤since∧since≤1099511627776)):F12 (p,since,())=some (1,p,())∧F11 (w,since,())=some (w,false,()):=by
 unfold F12 F11;by_cases h1:since<1
 ·simp only[decide_eq_true h1,cond_true,decide_true,and_self]
 ·have h2:(1099511627776:Int)<since:=by omega
  simp only[decide_eq_false h1,decide_eq_true h2,cond_true,cond_false,decide_true,and_self]
noncomputable def badR (w:aI):Bool:=bif decide (eG w.2.2.1 w.2.2.2.1) then bif decide (w.2.2.2.2.1<0) then true else bif decide (1099511627776<w.2.2.2.2.1) then true else bif decide (w.2.2.2.2.2.1<0) then true else decide (8<w.2.2.2.2.2.1) else true
noncomputable def sN (busy won:Bool) (src dst:List UInt8) (w:aI):Int:=
 bif busy then 7 else bif w.1 && badR w then 1 else bif !(iU src src w).2.1 then 1 else bif !(iU src dst w).2.1 then 3 else bif won then 14 else 0
theorem ze8 (id:Int) (src dst:List UInt8) (nn:dM) (site:Int) (busy won:Bool) (seq next:Int) (cnt:dM) (wt w:aI) (hw:SzW w) :
  F42 (((id,src,dst,nn,()),(site,busy,won,seq,next,cnt,()),wt,()),w,())=some (sN busy won src dst w,()):=by
 have a0:=Dx id src dst nn (site,busy,won,seq,next,cnt,()) wt w 0 hw;have a1:=Dx id src dst nn (site,busy,won,seq,next,cnt,()) wt w 1 hw;have k0:dZ src dst 0=src:=rfl;have k1:dZ src dst 1=dst:=rfl;rw[k0] at a0;rw[k1] at a1;unfold F42 sN;cases busy with
 | true=>rfl
 | false=>
  simp only[cond_false,a0,a1,bind_some,qV];generalize (iU src src w).2.1=h0;generalize (iU src dst w).2.1=h1;obtain⟨rd,c,fr,en,rev,most,⟨⟩⟩:=w;cases rd with
  | false=>cases h0<;>cases h1<;>cases won<;>rfl
  | true=>
   unfold badR;simp only[cond_true,Bool.true_and];cases decide (eG fr en) with
   | false=>rfl
   | true=>
    cases decide (rev<0) with
    | true=>rfl
    | false=>
     cases decide ((1099511627776:Int)<rev) with
     | true=>rfl
     | false=>
      cases decide (most<0) with
      | true=>rfl
      | false=>
       cases decide ((8:Int)<most) with
       | true=>rfl
       | false=>cases h0<;>cases h1<;>cases won<;>rfl
theorem zcU (id:Int) (src dst:List UInt8) (site fr cut:Int) (busy won:Bool) (seq:Int) (want:aI) (D:aW) (lw:WD) (T:aW) (R:Bool×Int×Int×List TBD×Int×Bool×Unit) (w:aI) (hw:SzW w) (hs1:St src) (hs2:St dst) :
  F16 (wOf id src dst site fr cut busy won seq want D lw T R,w,())=some (if sN busy won src dst w=0 then wOf id src dst site fr cut true won (wrap64 (seq+1)) w D lw T R else wOf id src dst site fr cut busy won seq want D lw T R,sN busy won src dst w,()):=by
 have a0:=JB id src dst (site,fr,cut,busy,won,seq,want,D,lw,T,R) w 0 (.inl rfl) hw hs1 hs2;have a1:=JB id src dst (site,fr,cut,busy,won,seq,want,D,lw,T,R) w 1 (.inr rfl) hw hs1 hs2;have k0:dZ src dst 0=src:=rfl;have k1:dZ src dst 1=dst:=rfl;rw[k0] at a0;rw[k1] at a1;have hf:F46 (w.2.2.1,w.2.2.2.1,())=some (decide (eG w.2.2.1 w.2.2.2.1),()):=qO _ _ hw.2.1 hw.2.2;unfold F16 sN;refine aF a0 ?_;refine aF a1 ?_;generalize iU src src w=z0;generalize iU src dst w=z1;obtain⟨z0,h0,⟨⟩⟩:=z0;obtain⟨z1,h1,⟨⟩⟩:=z1;cases busy with
 | true=>rfl
 | false=>
  obtain⟨rd,c,f',en,rev,most,⟨⟩⟩:=w;cases rd with
  | false=>cases h0<;>cases h1<;>cases won<;>rfl
  | true=>
   unfold badR;simp only[cond_true,cond_false,Bool.true_and,hf,bind_some];cases decide (eG f' en) with
   | false=>rfl
   | true=>
    cases decide (rev<0) with
    | true=>rfl
    | false=>
     cases decide ((1099511627776:Int)<rev) with
     | true=>rfl
     | false=>
      cases decide (most<0) with
      | true=>rfl
      | false=>
       cases decide ((8:Int)<most) with
       | true=>rfl
       | false=>cases h0<;>cases h1<;>cases won<;>rfl
def E8 (w:aI):Prop:=SzW w∧zI w≤20∧w.2.1.2.2.2.2.2.2.2.1.length≤10∧w.2.1.2.2.2.2.2.2.2.2.1.length≤10∧w.2.1.2.2.2.2.2.2.2.2.2.1.length≤10
theorem ZJ {id n0 n1 sf:Int} {src dst:List UInt8} {site fr next start:Int} {told:List TBD} {wat:Bool} {p:bD} {w:bG} {wn:aI} (hs1:St src) (hs2:St dst) (hf:E8 wn) (h:iZ id n0 n1 sf src dst site fr next start told wat p w) :
  ∃ r b p' w' e,F15 (p,wn,())=some (r,b,p',())∧F16 (w,wn,())=some (w',e,())∧iZ id n0 n1 sf src dst site fr next start told wat p' w':=by
 obtain⟨d0,d1,lk,s0,s1,e0,e1,lw,t0,t1,busy,won,seq,cut,want,wt,ended,cur,rfl,rfl,k0,k1,kl,m0,m1,hw,hsite,hz,hss⟩:=h;obtain⟨hsw,hse,l1,l2,l3⟩:=hf;have hm:=ze8 id src dst (n0,n1,()) site busy won seq next (fr,cut,()) want wn hsw
 have hr:=zcU id src dst site fr cut busy won seq want (e0,e1,()) lw (t0,t1,()) (wat,start,next,told,ended,cur,()) wn hsw hs1 hs2;by_cases h0:sN busy won src dst wn=0
 case neg=>rw[if_neg h0] at hr;refine⟨(sN busy won src dst wn,0,false,0,[],0,0,()),true,_,_,_,?_,hr,d0,d1,lk,s0,s1,e0,e1,lw,t0,t1,busy,won,seq,cut,want,wt,ended,cur,rfl,rfl,k0,k1,kl,m0,m1,hw,hsite,hz,hss⟩;unfold F15;refine aF hm ?_;simp only[decide_eq_false h0,Bool.not_false,cond_true,decide_true]
 ·rw[if_pos h0] at hr;have hself:(iU src src wn).1=wn:=by
   apply Zl;unfold sN at h0;cases busy
   ·cases hb:wn.1 && badR wn
    ·rw[hb] at h0;cases hh:(iU src src wn).2.1
     ·rw[hh] at h0;exact absurd (show(1:Int)=0 from h0) (by decide)
     ·rfl
    ·rw[hb] at h0;exact absurd (show(1:Int)=0 from h0) (by decide)
   ·exact absurd (show(7:Int)=0 from h0) (by decide)
  have hn:=Dx id src dst (n0,n1,()) (site,busy,won,seq,next,(fr,cut,()),()) want wn 0 hsw;have k00:dZ src dst 0=src:=rfl;rw[k00] at hn;have hcap:bI=34359738368:=rfl;refine⟨eF,false,_,_,_,?_,hr,d0,d1,lk,s0,s1,e0,e1,lw,t0,t1,true,won,wrap64 (seq+1),cut,wn,wt,ended,cur,rfl,rfl,k0,k1,kl,m0,m1,hw,hsite,hsw,hse⟩;unfold F15;refine aF hm ?_;rw[h0];simp only[decide_true,Bool.not_true,cond_false];refine aF hn ?_;rw[hself];refine aF (G5 _ (by omega)) ?_;refine aF (vw _ (by omega)) ?_;refine aF (vw _ (by omega)) ?_;simp only[decide_true,cond_true]
theorem w22:wrap64 (2-2)=0:=rfl
theorem w32:wrap64 (3-2)=1:=rfl
theorem yG {T R:Type} {I:T→Prop} {μ:T→Nat} {Q:T→R→Prop} {t x y:T} (b c:Bool) (hx:I x∧μ x<μ t∧∀ r,Q x r→Q t r) (hy:I y∧μ y<μ t∧∀ r,Q y r→Q t r) :
  ∃ t',(bif b then(bif c then some (.inl x) else some (.inl y)) else some (.inl y):Option (T⊕R))=some (.inl t')∧I t'∧μ t'<μ t∧∀ r,Q t' r→Q t r:=by
 cases b
 ·exact⟨_,rfl,hy⟩
 ·cases c
  ·exact⟨_,rfl,hy⟩
  ·exact⟨_,rfl,hx⟩
def IA (a:gV) (t:Int×Int×TMD×Unit):Prop:=∃ k f r,t=(k,f,(a.2.2.2.2.1.1,r,a.2.2.2.2.1.2.2),())∧(k=0∨k=1∨k=2∨k=3∨k=4∨k=5)
def μA (t:Int×Int×TMD×Unit):Nat:=5-t.1.toNat
def QA (a:gV) (y:gV×Unit):Prop:=∃ f r,y=((a.1,a.2.1,a.2.2.1,f,(a.2.2.2.2.1.1,r,a.2.2.2.2.1.2.2),()),())
theorem ZN (W:bG) (a:gV):∃ fr' rid',F17 (W,a,())=some ((a.1,a.2.1,a.2.2.1,fr',(a.2.2.2.2.1.1,rid',a.2.2.2.2.1.2.2),()),()):=by
 have h:=pW (step:=tu (W,a,())) (I:=IA a) (μ:=μA) (Q:=fun _ y=>QA a y) ?_ (n:=big) (t:=(0,a.2.2.2.1,(a.2.2.2.2.1.1,a.2.2.2.2.1.2.1,a.2.2.2.2.1.2.2),())) ⟨0,_,_,rfl,.inl rfl⟩ (by rw[iT];show 5-toNat 0<_;decide)
 ·obtain⟨y,h1,f,r,rfl⟩:=h;exact⟨f,r,(zc3 (W,a,())).trans h1⟩
 ·rintro t ⟨k,f,r,rfl,hk⟩;rcases hk with rfl|rfl|rfl|rfl|rfl|rfl
  case inr.inr.inr.inr.inr=>exact .inl ⟨_,rfl,f,r,rfl⟩
  case inl=>right;unfold tu;simp only[reduceLT,decide_true,decide_false,cond_true,cond_false,w22,w32,ix0,ix1,sJ,sH,sG,bind_some,elim_inl,qZ];exact yG (I:=IA a) (μ:=μA) (Q:=fun _ y=>QA a y) _ _ ⟨⟨1,_,_,rfl,by decide⟩,(by show 5-toNat 1<5-toNat 0;decide),fun y h=>h⟩ ⟨⟨1,_,_,rfl,by decide⟩,(by show 5-toNat 1<5-toNat 0;decide),fun y h=>h⟩
  case inr.inl=>right;unfold tu;simp only[reduceLT,decide_true,decide_false,cond_true,cond_false,w22,w32,ix0,ix1,sJ,sH,sG,bind_some,elim_inl,qZ];exact yG (I:=IA a) (μ:=μA) (Q:=fun _ y=>QA a y) _ _ ⟨⟨2,_,_,rfl,by decide⟩,(by show 5-toNat 2<5-toNat 1;decide),fun y h=>h⟩ ⟨⟨2,_,_,rfl,by decide⟩,(by show 5-toNat 2<5-toNat 1;decide),fun y h=>h⟩
  case inr.inr.inl=>right;unfold tu;simp only[reduceLT,decide_true,decide_false,cond_true,cond_false,w22,w32,ix0,ix1,sJ,sH,sG,bind_some,elim_inl,qZ];exact yG (I:=IA a) (μ:=μA) (Q:=fun _ y=>QA a y) _ _ ⟨⟨3,_,_,rfl,by decide⟩,(by show 5-toNat 3<5-toNat 2;decide),fun y h=>h⟩ ⟨⟨3,_,_,rfl,by decide⟩,(by show 5-toNat 3<5-toNat 2;decide),fun y h=>h⟩
  case inr.inr.inr.inl=>right;unfold tu;simp only[reduceLT,decide_true,decide_false,cond_true,cond_false,w22,w32,ix0,ix1,sJ,sH,sG,bind_some,elim_inl,qZ];exact yG (I:=IA a) (μ:=μA) (Q:=fun _ y=>QA a y) _ _ ⟨⟨4,_,_,rfl,by decide⟩,(by show 5-toNat 4<5-toNat 3;decide),fun y h=>h⟩ ⟨⟨4,_,_,rfl,by decide⟩,(by show 5-toNat 4<5-toNat 3;decide),fun y h=>h⟩
  case inr.inr.inr.inr.inl=>right;unfold tu;simp only[reduceLT,decide_true,decide_false,cond_true,cond_false,w22,w32,ix0,ix1,sJ,sH,sG,bind_some,elim_inl,qZ];exact yG (I:=IA a) (μ:=μA) (Q:=fun _ y=>QA a y) _ _ ⟨⟨5,_,_,rfl,by decide⟩,(by show 5-toNat 5<5-toNat 4;decide),fun y h=>h⟩ ⟨⟨5,_,_,rfl,by decide⟩,(by show 5-toNat 5<5-toNat 4;decide),fun y h=>h⟩
theorem zbQ {α:Type} (l:List α):∀ a:List α,l.foldl (fun a v=>a++[v]) a=a++l:=by
 induction l with
 | nil=>intro a;simp
 | cons v l ih=>intro a;simp[ih]
theorem KD {T A R:Type} {n:Nat} {step:T→Option (T⊕R)} (mk:Nat→A→T) (I:A→Prop) (Q:R→Prop) (hn:n<18446744073709551616) (h:∀ (i:Nat) (a:A),i<n→I a→∃ a',step (mk i a)=some (.inl (mk (i+1) a'))∧I a')
  (hK:∀ a,I a→∃ r,step (mk n a)=some (.inr r)∧Q r) (a:A) (ha:I a):∃ r,iter step big (mk 0 a)=some r∧Q r:=by
 have main:∀ d k m (a:A),k+d=n→d<m→I a→∃ r,iter step m (mk k a)=some r∧Q r:=by
  intro d;induction d with
  | zero=>
   intro k m a hk hm ha;obtain rfl:k=n:=by omega
   obtain⟨r,q1,q2⟩:=hK a ha;cases m with
   | zero=>omega
   | succ m=>exact⟨r,by simp only[iter,q1,bind_some,Sum.elim_inr],q2⟩
  | succ d ih=>
   intro k m a hk hm ha;obtain⟨a',q1,q2⟩:=h k a (by omega) ha;cases m with
   | zero=>omega
   | succ m=>obtain⟨r,p1,p2⟩:=ih (k+1) m a' (by omega) (by omega) q2;exact⟨r,by simp only[iter,q1,bind_some,elim_inl,p1],p2⟩
 exact main n 0 big a (by omega) (by rw[iT];exact hn) ha
theorem Ui {T A R:Type} {n:Nat} {step:T→Option (T⊕R)} (mk:Nat→A→T) (I:A→Prop) {r0:R} (hn:n<18446744073709551616) (h:∀ (i:Nat) (a:A),i<n→I a→∃ a',step (mk i a)=some (.inl (mk (i+1) a'))∧I a')
  (hK:∀ a,I a→step (mk n a)=some (.inr r0)) (a:A) (ha:I a):iter step big (mk 0 a)=some r0:=by
 obtain⟨r,h1,rfl⟩:=KD mk I (fun r=>r=r0) hn h (fun a ha=>⟨r0,hK a ha,rfl⟩) a ha;exact h1
def BL (n:Nat) (l:List TBD):Prop:=l.length=n∧∀ e∈l,e.2.1.length≤34359738368
theorem BL.set {n i:Nat} {l:List TBD} (h:BL n l) {z:TBD} (hz:z.2.1.length≤34359738368):BL n (l.set i z):=⟨by simp[h.1],fun e he=>(List.mem_or_eq_of_mem_set he).elim (h.2 e) fun e=>e▸hz⟩
theorem zcS {R:Type} (m:List TBD) (hm:m.length≤34359738368) (hi:∀ b∈m,b.2.1.length≤34359738368) (r0:R) :
  aO (Int×(List TBD×Int)×Unit) R (fun x=>bif decide (x.1<ofNat (length m)) then
   Option.bind (Option.bind (dB x.2.1.1 x.1) fun b=>Option.bind x.2.1.1[b]? fun(b_5:TBD)=>
    bif decide (toNat x.2.1.2≤b) then some (Sum.inl (ofNat (length b_5.2.1),0,(x.2.1.1,ofNat (toNat x.2.1.2)),()))
    else map Sum.inl (Option.bind x.2.1.1[b]? fun(b_6:TBD)=>some (ofNat (length b_5.2.1),0,(List.set x.2.1.1 b (b_6.1,b_5.2.1,b_6.2.2),ofNat (toNat x.2.1.2)),())))
   fun o=>Sum.elim (fun(x_2:Int×Int×(List TBD×Int)×Unit)=>aO (Int×(List TBD×Int)×Unit) (Int×(List TBD×Int)×Unit⊕R) (fun(x_3:Int×(List TBD×Int)×Unit)=>
     bif decide (x_3.1<x_2.1) then Option.bind (dB x_3.2.1.1 x.1) fun b=>Option.bind x_3.2.1.1[b]? fun(b_5:TBD)=>
      bif decide (toNat x_3.2.1.2≤b) then Option.bind (idx b_5.2.1 x_3.1) fun _z=>none
      else Option.bind (dB b_5.2.1 x_3.1) fun b_6=>Option.bind b_5.2.1[b_6]? fun(b_7:aT)=>map Sum.inl (Option.bind x_3.2.1.1[b]? fun(b_8:TBD)=>some (wrap64 (x_3.1+1),(List.set x_3.2.1.1 b (b_8.1,List.set b_5.2.1 b_6 ([99,104,97,110,103,101,100],b_7.2),b_8.2.2),ofNat (toNat x_3.2.1.2)),()))
     else some (Sum.inr (Sum.inl (wrap64 (x.1+1),(x_3.2.1.1,ofNat (toNat x_3.2.1.2)),())))) big (x_2.2.1,(x_2.2.2.1.1,ofNat (toNat x_2.2.2.1.2)),())) some o
   else some (Sum.inr r0)) big (0,(m,ofNat (length m)),())=some r0:=by
 refine Ui (n:=m.length) (fun(i:Nat) (a:List TBD)=>(((i:Int),(a,ofNat m.length),()):Int×(List TBD×Int)×Unit)) (BL m.length) (by omega) (fun i l hin hl=> ?_) (fun l hl=>Dk) m ⟨rfl,hi⟩;obtain⟨v,hv⟩:∃ v,l[i]? = some v:=⟨_,getElem?_eq_getElem (by rw[hl.1];exact hin)⟩
 have hle:decide (m.length≤i)=false:=decide_eq_false (by omega);have hset:l.set i (v.1,v.2.1,v.2.2)=l:=yI hv;have hvM:=hl.2 v (mem_of_getElem? hv);obtain⟨r,q1,l',rfl,q3⟩:=KD (R:=Int×(List TBD×Int)×Unit⊕R) (n:=v.2.1.length) (step:=fun(x_3:Int×(List TBD×Int)×Unit)=>
    bif decide (x_3.1<ofNat v.2.1.length) then Option.bind (dB x_3.2.1.1 (i:Int)) fun b=>Option.bind x_3.2.1.1[b]? fun(b_5:TBD)=>
     bif decide (toNat x_3.2.1.2≤b) then Option.bind (idx b_5.2.1 x_3.1) fun _z=>none
     else Option.bind (dB b_5.2.1 x_3.1) fun b_6=>Option.bind b_5.2.1[b_6]? fun(b_7:aT)=>map Sum.inl (Option.bind x_3.2.1.1[b]? fun(b_8:TBD)=>some (wrap64 (x_3.1+1),(List.set x_3.2.1.1 b (b_8.1,List.set b_5.2.1 b_6 ([99,104,97,110,103,101,100],b_7.2),b_8.2.2),ofNat (toNat x_3.2.1.2)),()))
    else some (Sum.inr (Sum.inl (wrap64 ((i:Int)+1),(x_3.2.1.1,ofNat (toNat x_3.2.1.2)),()))))
  (mk:=fun(j:Nat) (a:List TBD)=>(((j:Int),(a,ofNat m.length),()):Int×(List TBD×Int)×Unit)) (fun l=>BL m.length l∧∃ z,l[i]? = some z∧z.2.1.length=v.2.1.length)
  (fun r=>∃ l',r=.inl (((i+1:Nat):Int),(l',ofNat m.length),())∧BL m.length l') (by omega) (fun j l hj hl=>by
   obtain⟨hb,z,hz,hzl⟩:=hl;obtain⟨y,hy⟩:∃ y,z.2.1[j]? = some y:=⟨_,getElem?_eq_getElem (by omega)⟩
   refine⟨l.set i (z.1,z.2.1.set j ([99,104,97,110,103,101,100],y.2),z.2.2),(DD hj).trans ?_,hb.set (by simpa using by omega),_,by rw[List.getElem?_set_self (by rw[hb.1];exact hin)],by simp[hzl]⟩;simp only[lI (show i<l.length by rw[hb.1];exact hin),hz,bind_some,iF,hle,cond_false,lI (show j<z.2.1.length by omega),hy,map_some,aX (show j<9223372036854775807 by omega)]) (fun l hl=>⟨_,Dk,l,by rw[aX (show i<9223372036854775807 by omega)];rfl,hl.1⟩) l ⟨hl,v,hv,rfl⟩
 refine⟨l',(DD hin).trans ?_,q3⟩;simp only[lI (show i<l.length by rw[hl.1];exact hin),hv,bind_some,iF,hle,cond_false,map_some,elim_inl,hset];exact q1
theorem zcR {R:Type} (m:List TBD) (hm:m.length≤34359738368) (hi:∀ b∈m,b.2.1.length≤34359738368) (r0:R) :
  aO ((List TBD×Int)×Int×Unit) R (fun x_2=>bif decide (x_2.2.1<ofNat (length m)) then
   Option.bind (Option.bind (dB x_2.1.1 x_2.2.1) fun b=>Option.bind x_2.1.1[b]? fun(b_2:TBD)=>
    bif decide (toNat x_2.1.2≤b) then some (Sum.inl ((x_2.1.1,ofNat (toNat x_2.1.2)),ofNat (length b_2.2.1),0,()))
    else map Sum.inl (Option.bind x_2.1.1[b]? fun(b_3:TBD)=>some ((List.set x_2.1.1 b (b_3.1,b_2.2.1,b_3.2.2),ofNat (toNat x_2.1.2)),ofNat (length b_2.2.1),0,())))
   fun o=>Sum.elim (fun(y:(List TBD×Int)×Int×Int×Unit)=>aO ((List TBD×Int)×Int×Unit) ((List TBD×Int)×Int×Unit⊕R) (fun(x_3:(List TBD×Int)×Int×Unit)=>
     bif decide (x_3.2.1<y.2.1) then Option.bind (dB x_3.1.1 x_2.2.1) fun b=>Option.bind x_3.1.1[b]? fun(b_2:TBD)=>
      bif decide (toNat x_3.1.2≤b) then Option.bind (idx b_2.2.1 x_3.2.1) fun _z=>none
      else Option.bind (dB b_2.2.1 x_3.2.1) fun b_3=>Option.bind b_2.2.1[b_3]? fun(b_4:aT)=>map Sum.inl (Option.bind x_3.1.1[b]? fun(b_5:TBD)=>some ((List.set x_3.1.1 b (b_5.1,List.set b_2.2.1 b_3 ([99,104,97,110,103,101,100],b_4.2),b_5.2.2),ofNat (toNat x_3.1.2)),wrap64 (x_3.2.1+1),()))
     else some (Sum.inr (Sum.inl ((x_3.1.1,ofNat (toNat x_3.1.2)),wrap64 (x_2.2.1+1),())))) big ((y.1.1,ofNat (toNat y.1.2)),y.2.2)) some o
   else some (Sum.inr r0)) big ((m,ofNat (length m)),0,())=some r0:=by
 refine Ui (n:=m.length) (fun(i:Nat) (a:List TBD)=>(((a,ofNat m.length),(i:Int),()):(List TBD×Int)×Int×Unit)) (BL m.length) (by omega) (fun i l hin hl=> ?_) (fun l hl=>Dk) m ⟨rfl,hi⟩;obtain⟨v,hv⟩:∃ v,l[i]? = some v:=⟨_,getElem?_eq_getElem (by rw[hl.1];exact hin)⟩
 have hle:decide (m.length≤i)=false:=decide_eq_false (by omega);have hset:l.set i (v.1,v.2.1,v.2.2)=l:=yI hv;have hvM:=hl.2 v (mem_of_getElem? hv);obtain⟨r,q1,l',rfl,q3⟩:=KD (R:=(List TBD×Int)×Int×Unit⊕R) (n:=v.2.1.length) (step:=fun(x_3:(List TBD×Int)×Int×Unit)=>
    bif decide (x_3.2.1<ofNat v.2.1.length) then Option.bind (dB x_3.1.1 (i:Int)) fun b=>Option.bind x_3.1.1[b]? fun(b_2:TBD)=>
     bif decide (toNat x_3.1.2≤b) then Option.bind (idx b_2.2.1 x_3.2.1) fun _z=>none
     else Option.bind (dB b_2.2.1 x_3.2.1) fun b_3=>Option.bind b_2.2.1[b_3]? fun(b_4:aT)=>map Sum.inl (Option.bind x_3.1.1[b]? fun(b_5:TBD)=>some ((List.set x_3.1.1 b (b_5.1,List.set b_2.2.1 b_3 ([99,104,97,110,103,101,100],b_4.2),b_5.2.2),ofNat (toNat x_3.1.2)),wrap64 (x_3.2.1+1),()))
    else some (Sum.inr (Sum.inl ((x_3.1.1,ofNat (toNat x_3.1.2)),wrap64 ((i:Int)+1),()))))
  (mk:=fun(j:Nat) (a:List TBD)=>(((a,ofNat m.length),(j:Int),()):(List TBD×Int)×Int×Unit)) (fun l=>BL m.length l∧∃ z,l[i]? = some z∧z.2.1.length=v.2.1.length)
  (fun r=>∃ l',r=.inl ((l',ofNat m.length),((i+1:Nat):Int),())∧BL m.length l') (by omega) (fun j l hj hl=>by
   obtain⟨hb,z,hz,hzl⟩:=hl;obtain⟨y,hy⟩:∃ y,z.2.1[j]? = some y:=⟨_,getElem?_eq_getElem (by omega)⟩
   refine⟨l.set i (z.1,z.2.1.set j ([99,104,97,110,103,101,100],y.2),z.2.2),(DD hj).trans ?_,hb.set (by simpa using by omega),_,by rw[List.getElem?_set_self (by rw[hb.1];exact hin)],by simp[hzl]⟩;simp only[lI (show i<l.length by rw[hb.1];exact hin),hz,bind_some,iF,hle,cond_false,lI (show j<z.2.1.length by omega),hy,map_some,aX (show j<9223372036854775807 by omega)]) (fun l hl=>⟨_,Dk,l,by rw[aX (show i<9223372036854775807 by omega)];rfl,hl.1⟩) l ⟨hl,v,hv,rfl⟩
 refine⟨l',(DD hin).trans ?_,q3⟩;simp only[lI (show i<l.length by rw[hl.1];exact hin),hv,bind_some,iF,hle,cond_false,map_some,elim_inl,hset];exact q1
theorem PT {α R:Type} (l:List α) (hl:Sh l) {step:Int×Int×Unit→Option ((Int×Int×Unit)⊕R)} (Q:R→Prop) (P:α→Prop) (G:Nat→Int→Prop)
  (h:∀ (n:Int) (i:Nat) v,i<l.length→l[i]? = some v→G i n→(P v∧∃ m,step (n,(i:Int),())=some (.inl (m,((i+1:Nat):Int),()))∧G (i+1) m)∨∃ r,step (n,(i:Int),())=some (.inr r)∧Q r)
  (hK:(∀ v∈l,P v)→∀ n,G l.length n→∃ r,step (n,(l.length:Int),())=some (.inr r)∧Q r) (n:Int) (hn:G 0 n):∃ r,aO (Int×Int×Unit) R step big (n,0,())=some r∧Q r:=by
 unfold Sh at hl;refine pW (step:=step) (n:=big) (t:=(n,0,())) (I:=fun t=>∃ (m:Int) (i:Nat),t=(m,(i:Int),())∧i≤l.length∧G i m∧∀ j v,j<i→l[j]? = some v→P v) (μ:=fun t=>l.length-t.2.1.toNat) (Q:=fun _ r=>Q r) (fun t ht=> ?_) ⟨n,0,rfl,zero_le _,hn,fun j v hj=>by omega⟩ (by rw[iT];simp only[Int.toNat_zero];omega);obtain⟨m,i,rfl,hi,hG,hP⟩:=ht;by_cases hlt:i<l.length
 ·obtain⟨v,hv⟩:∃ v,l[i]? = some v:=⟨_,getElem?_eq_getElem hlt⟩
  rcases h m i v hlt hv hG with⟨hp,m',h1,h2⟩|⟨r,h1,h2⟩
  ·refine .inr ⟨_,h1,⟨m',i+1,rfl,hlt,h2,fun j w hj hw=> ?_⟩,?_,fun r hr=>hr⟩
   ·by_cases e:j=i
    ·subst e;rw[hv] at hw;cases hw;exact hp
    ·exact hP j w (by omega) hw
   ·show l.length-((i+1:Nat):Int).toNat<l.length-((i:Nat):Int).toNat;rw[Int.toNat_natCast,Int.toNat_natCast];omega
  ·exact .inl ⟨r,h1,h2⟩
 ·obtain rfl:i=l.length:=by omega
  obtain⟨r,h1,h2⟩:=hK (fun v hv=>by obtain⟨j,hj⟩:=List.getElem?_of_mem hv;exact hP j v (List.getElem?_eq_some_iff.1 hj).1 hj) m hG;exact .inl ⟨r,h1,h2⟩
theorem zcG {i:Nat} {R:Type} {X:Option ((Int×Int×Unit)⊕R)} (h:∃ r,X=some r∧∃ m:Int,r=Sum.inl (m,((i+1:Nat):Int),())):∃ m,X=some (.inl (m,((i+1:Nat):Int),()))∧True:=by
 obtain⟨r,h1,m,rfl⟩:=h;exact⟨m,h1,trivial⟩
def FewL (c:aQ):Prop:=c.2.2.2.2.2.2.2.1.length≤10∧c.2.2.2.2.2.2.2.2.1.length≤10∧c.2.2.2.2.2.2.2.2.2.1.length≤10∧c.2.2.2.2.2.2.2.2.2.2.2.2.2.2.1.length≤80∧(c.2.2.2.2.2.2.2.2.2.2.2.2.2.2.2.1.length≤20∧∀ s∈c.2.2.2.2.2.2.2.2.2.2.2.2.2.2.2.1,s.2.2.1.2.2.2.2.1.length≤12)∧c.2.2.2.2.2.2.2.2.2.2.2.2.2.2.2.2.1.length≤80
theorem DC (c:aQ) (hc:ShC c):∃ z,F28 (c,())=some (z,())∧(z=true→FewL c):=by
 obtain⟨k,a2,a3,a4,a5,a6,a7,a8,a9,a10,a11,a12,a13,a14,a15,a16,a17,⟨⟩⟩:=c;obtain⟨h8,h9,h10,h15,⟨h16,hs16⟩,h17⟩:=hc;simp only at h8 h9 h10 h15 h16 hs16 h17;unfold F28;simp only;by_cases c1:(10:Int)<ofNat a8.length
 ·exact⟨false,by simp only[c1,decide_true,cond_true],by simp⟩
 by_cases c2:(10:Int)<ofNat a9.length
 ·exact⟨false,by simp only[c1,c2,decide_true,decide_false,cond_true,cond_false],by simp⟩
 by_cases c3:(10:Int)<ofNat a10.length
 ·exact⟨false,by simp only[c1,c2,c3,decide_true,decide_false,cond_true,cond_false],by simp⟩
 by_cases c4:(80:Int)<ofNat a15.length
 ·exact⟨false,by simp only[c1,c2,c3,c4,decide_true,decide_false,cond_true,cond_false],by simp⟩
 by_cases c5:(20:Int)<ofNat a16.length
 ·exact⟨false,by simp only[c1,c2,c3,c4,c5,decide_true,decide_false,cond_true,cond_false],by simp⟩
 by_cases c6:(80:Int)<ofNat a17.length
 ·exact⟨false,by simp only[c1,c2,c3,c4,c5,c6,decide_true,decide_false,cond_true,cond_false],by simp⟩
 simp only[c1,c2,c3,c4,c5,c6,decide_false,cond_false];have ok:∀ {α:Type} {l:List α} {i:Nat},Sh l→i<l.length→wrap64 ((i:Int)+1)=((i+1:Nat):Int):=fun hl hi=>aX (by unfold Sh at hl;omega);refine UX (Q:=fun r=>r.1=true→∀ s∈a16,s.2.2.1.2.2.2.2.1.length≤12) (yH a15 h15 _ (fun n i v hi hv=>.inl ?_) (fun n=> ?_) _) (fun z hz hzt=>by simp only[Int.ofNat_eq_natCast] at c1 c2 c3 c4 c5 c6;exact⟨show a8.length≤10 by omega,show a9.length≤10 by omega,show a10.length≤10 by omega,show a15.length≤80 by omega,⟨show a16.length≤20 by omega,hz hzt⟩,show a17.length≤80 by omega⟩)
 ·simp only[aC,hi,decide_true,cond_true,aN,hv,bind_some,ok h15 hi];exact⟨_,rfl⟩
 simp only[aC,lt_irrefl,decide_false,cond_false];refine zk (PT a16 h16 _ (fun s=>s.2.2.1.2.2.2.2.1.length≤12) (fun _ _=>True) (fun n i v hi hv _=> ?_) (fun hall n _=> ?_) _ trivial)
 ·simp only[aC,hi,decide_true,cond_true,aN,hv,bind_some];by_cases d1:(12:Int)<ofNat v.2.2.1.2.2.2.2.1.length
  ·simp only[d1,decide_true,cond_true];exact .inr ⟨_,rfl,fun h=>by cases h⟩
  ·simp only[d1,decide_false,cond_false];have hv5:=hs16 v (mem_of_getElem? hv);have hd:v.2.2.1.2.2.2.2.1.length≤12:=by simp only[Int.ofNat_eq_natCast] at d1;omega
   refine .inl ⟨hd,zcG (yH v.2.2.1.2.2.2.2.1 hv5 _ (fun n j w hj hw=>.inl ?_) (fun n=> ?_) _)⟩
   ·simp only[aC,hj,decide_true,cond_true,aN,hw,bind_some,ok hv5 hj];exact⟨_,rfl⟩
   ·simp only[aC,lt_irrefl,decide_false,cond_false];exact⟨_,rfl,n,by rw[ok h16 hi]⟩
 simp only[aC,lt_irrefl,decide_false,cond_false];refine zk (yH a9 h9 _ (fun n i v hi hv=>.inl ?_) (fun n=> ?_) _)
 ·simp only[aC,hi,decide_true,cond_true,aN,hv,bind_some,ok h9 hi];exact⟨_,rfl⟩
 simp only[aC,lt_irrefl,decide_false,cond_false];refine zk (yH a10 h10 _ (fun n i v hi hv=>.inl ?_) (fun n=> ?_) _)
 ·simp only[aC,hi,decide_true,cond_true,aN,hv,bind_some,ok h10 hi];exact⟨_,rfl⟩
 simp only[aC,lt_irrefl,decide_false,cond_false];refine zk (yH a8 h8 _ (fun n i v hi hv=>.inl ?_) (fun n=> ?_) _)
 ·simp only[aC,hi,decide_true,cond_true,aN,hv,bind_some,ok h8 hi];exact⟨_,rfl⟩
 simp only[aC,lt_irrefl,decide_false,cond_false];exact⟨_,rfl,fun _=>hall⟩
theorem zbU (m:Msg) (hl:m.2.2.2.2.2.2.2.2.2.1.length≤9223372036854775806):∃ b,F65 (m,())=some (b,())∧(b=true→m.2.2.2.2.2.2.2.2.2.1.length≤6):=by
 unfold F65;obtain⟨b,h,hb⟩:=zdH m.2.2.2.2.2.2.2.2.2.1 6 hl;have h':F90 (m.2.2.2.2.2.2.2.2.2.1,6,())=some (b,()):=h;simp only[h',bind_some];cases b
 ·exact⟨_,rfl,fun h=>by cases h⟩
 ·exact⟨_,rfl,fun _=>hb rfl⟩
theorem zbT (m:TMD) (hm:ShT m) (hs:m.2.2.2.2.2.2.2.2.2.2.2.2.2.2.2.1.2.2.1.length≤1800000000000) (hd:(∀ e∈m.2.2.1.2.2.2.2.2.2.2.2.2.1,e.2.2.1.length≤140737488355000)∧m.2.2.1.2.2.2.2.2.2.2.2.2.2.1.2.2.1.length≤140737488355000) :
  ∃ z,F27 (m,())=some (z,())∧(z=true→lX m∧m.2.2.2.2.2.2.2.2.2.2.2.2.2.2.2.1.2.2.1.length≤20∧m.2.2.2.1.2.2.1.2.2.2.2.2.2.2.2.2.2.2.2.2.2.2.1.length≤20):=by
 obtain⟨h1,h2,h3,⟨h4,h4'⟩,h5,h6⟩:=hm;obtain⟨k,rid,raft,⟨j1,j2,j3,⟨⟩⟩,cl,fr,en,rev,most,err,hint,rep,bat,its,done,⟨d1,d2,d3,d4,⟨⟩⟩,mov,⟨⟩⟩:=m;dsimp only at hs h1 h2 h3 h4 h4' h5 h6 hd;have cB:bI=34359738368:=rfl;have z:∀ {α:Type},Sh ([]:List α):=fun{_}=>by simp[Sh]
 have zS:ShS []:=⟨z,fun s hs=>by simp at hs⟩
 have hI:∀ l:List aT,Sh l→∃ z,F28 ((0,[],[],[],0,0,0,[],[],[],0,0,0,false,l,[],[],()),())=some (z,())∧(z=true→l.length≤80):=fun l hl=>by obtain⟨z,hz,h⟩:=DC (0,[],[],[],0,0,0,[],[],[],0,0,0,false,l,[],[],()) ⟨z,z,z,hl,zS,z⟩;exact⟨z,hz,fun hh=>(h hh).2.2.2.1⟩
 unfold F27;refine UX (Q:=fun r=>r.1=true→lX (k,rid,raft,(j1,j2,j3,()),cl,fr,en,rev,most,err,hint,rep,bat,its,done,(d1,d2,d3,d4,()),mov,())∧d3.length≤20∧j3.2.2.2.2.2.2.2.2.2.2.2.2.2.2.2.1.length≤20) (PT bat h4 _ (fun b=>b.2.1.length≤80) (fun i n=>(i:Int)≤n∧n≤400) (fun n i v hi hv hG=> ?_) (fun hall n hG=> ?_) _ (by decide)) (fun z hz=>hz)
 ·have ok:wrap64 ((i:Int)+1)=((i+1:Nat):Int):=aX (by unfold Sh at h4;omega);obtain⟨q,hq,hq'⟩:=hI v.2.1 (h4' v (mem_of_getElem? hv));simp only[aC,hi,decide_true,cond_true,aN,hv,bind_some,ok,hq];by_cases c:(400:Int)<wrap64 (wrap64 (n+1)+ofNat v.2.1.length)
  ·rw[decide_eq_true c];exact .inr ⟨_,rfl,fun h=>by cases h⟩
  ·rw[decide_eq_false c];cases q with
   | true=>have:=hq' rfl;simp only[Int.ofNat_eq_natCast] at c ⊢;rw[eU (x:=n+1) (by omega) (by omega),eU (by omega) (by omega)] at c ⊢;exact .inl ⟨this,_,rfl,by omega,by omega⟩
   | false=>exact .inr ⟨_,rfl,fun h=>by cases h⟩
 ·simp only[aC,lt_irrefl,decide_false,cond_false];refine zk ?_;obtain⟨b1,e1,e1'⟩:=zbU raft h1;obtain⟨b2,e2,e2'⟩:=DC j3 h2;obtain⟨b3,e3,e3'⟩:=hI its h5;have ea:o9 [((0:Int),(0:Int),rep,())] d3=some ([(0,0,rep,())]++d3):=Tt (by simp only[length_cons,length_nil];omega);obtain⟨b4,e4,e4'⟩:=DC (0,[],[],[],0,0,0,[],[],[],0,0,0,false,[],[(0,0,rep,())]++d3,d4,()) ⟨z,z,z,z,⟨by simp[Sh];omega,fun s hs=>by
   rcases List.mem_append.1 hs with h|h
   ·rw[List.mem_singleton.1 h];exact h3
   ·exact h6.1.2 s h⟩,h6.2⟩
  simp only[e1,e2,e3,ea,e4,bind_some];cases b1 with
  | false=>exact⟨_,rfl,fun h=>by cases h⟩
  | true=>
   cases b2 with
   | false=>exact⟨_,rfl,fun h=>by cases h⟩
   | true=>
    cases b3 with
    | false=>exact⟨_,rfl,fun h=>by cases h⟩
    | true=>
     cases b4 with
     | false=>exact⟨_,rfl,fun h=>by cases h⟩
     | true=>
      refine⟨_,rfl,fun _=> ?_⟩;obtain⟨-,-,-,-,⟨g5,g5'⟩,g6⟩:=e4' rfl;obtain⟨f1,f2,f3,f4,⟨f5,f5'⟩,f6⟩:=e2' rfl;have g5:([(0,0,rep,())]++d3:List dh).length≤20:=g5;simp only[length_append,length_cons,length_nil] at g5;have g6:d4.length≤80:=g6;have i1:=e1' rfl;have i3:=e3' rfl;refine⟨⟨⟨show raft.2.2.2.2.2.2.2.2.2.1.length≤bI by omega,hd.1,hd.2⟩,⟨le_trans f1 (by omega),le_trans f2 (by omega),le_trans f3 (by omega),le_trans f4 (by omega),⟨le_trans f5 (by omega),fun s hs=>le_trans (f5' s hs) (by omega)⟩,le_trans f6 (by omega)⟩,?_,⟨show bat.length≤bI by omega,fun b hb'=>by have:=hall b hb';omega⟩,show its.length≤bI by omega,⟨⟨show d3.length≤2000000000000 by omega,fun s hs=> ?_⟩,show d4.length≤bI by omega⟩⟩,show d3.length≤20 by omega,f5⟩
      ·have:=g5' (0,0,rep,()) (by simp);show rep.2.2.2.2.1.length≤bI;have:rep.2.2.2.2.1.length≤12:=this;omega
      ·have:=g5' s (List.mem_append_right _ hs);show s.2.2.1.2.2.2.2.1.length≤bI;omega
theorem zfh (l:List gV) (hz:∀ v∈l,SzT v.2.2.2.2.1∧SzW v.2.1) (hM:∀ v∈l,v.2.2.2.2.1.2.2.2.2.2.2.2.2.2.2.2.2.2.2.2.1.2.2.1.length≤1800000000000)
  (hd:∀ v∈l,(∀ e∈v.2.2.2.2.1.2.2.1.2.2.2.2.2.2.2.2.2.1,e.2.2.1.length≤140737488355000)∧v.2.2.2.2.1.2.2.1.2.2.2.2.2.2.2.2.2.2.1.2.2.1.length≤140737488355000) (most:Nat) (hl:l.length≤9223372036854775800) :
  ∃ z,F7 (l,(most:Int),())=some (z,())∧(z=true→l.length≤most∧∀ v∈l,(Kv v.2.2.2.2.1∧E8 v.2.1)∧lX v.2.2.2.2.1):=by
 have key:∃ z,F7 (l,(most:Int),())=some z∧(z=(true,())∨z=(false,()))∧(z=(true,())→∀ k,k<l.length→k<most∧∀ v,l[k]? = some v→(Kv v.2.2.2.2.1∧E8 v.2.1)∧lX v.2.2.2.2.1):=by
  unfold F7;refine zbS (T:=Int×Int×Unit) (R:=Bool×Unit) (n:=l.length) (rt:=(true,())) (rf:=(false,())) (t:=(0,0,())) (I:=fun k t=>∃ n,t=(n,(k:Int),())) (fun k=>k<most∧∀ v,l[k]? = some v→(Kv v.2.2.2.2.1∧E8 v.2.1)∧lX v.2.2.2.2.1) (by simp) (by omega) ?_ ?_ ⟨0,rfl⟩
  ·rintro k t hk ⟨n,rfl⟩;obtain⟨v,hv⟩:∃ v,l[k]? = some v:=⟨_,getElem?_eq_getElem hk⟩
   have hmem:=mem_of_getElem? hv;obtain⟨b,e1,g1⟩:=zbT v.2.2.2.2.1 (hz v hmem).1.1 (hM v hmem) (hd v hmem);have e1':F27 v.2.2.2.2=some (b,()):=e1;obtain⟨c,e2,g2⟩:=DC v.2.1.2.1 (hz v hmem).2.1.1;have wk:wrap64 ((k:Int)+1)=((k+1:Nat):Int):=aX (by omega);simp only[aC,hk,decide_true,cond_true,aN,hv,bind_some,e1',e2,wk];cases hmo:decide ((most:Int)≤(k:Int)) with
   | true=>exact .inl rfl
   | false=>
    have hmo:=of_decide_eq_false hmo;simp only[cond_false];generalize decide ((300:Int)<_)=d3;cases d3 with
    | true=>exact .inl rfl
    | false=>
     cases b with
     | false=>exact .inl rfl
     | true=>
      cases c with
      | false=>exact .inl rfl
      | true=>
       simp only[cond_false,Bool.not_true];generalize decide ((300:Int)<_)=d4;cases d4 with
       | true=>exact .inl rfl
       | false=>refine .inr ⟨_,rfl,⟨_,rfl⟩,by omega,fun v' h=> ?_⟩;obtain rfl:=Option.some.inj h;obtain⟨s0,s1,s2⟩:=g1 rfl;obtain⟨zz,zw⟩:=hz _ hmem;obtain⟨l1,l2,l3,-,⟨l5,-⟩,-⟩:=g2 rfl;exact⟨⟨⟨zz,zz.1,by omega,by omega⟩,zw,l5,l1,l2,l3⟩,s0⟩
  ·rintro t ⟨n,rfl⟩;simp only[aC,lt_irrefl,decide_false,cond_false]
 obtain⟨z,e,h,hq⟩:=key;rcases h with rfl|rfl
 ·refine⟨true,e,fun _=>⟨?_,fun v hv=> ?_⟩⟩
  ·rcases Nat.lt_or_ge most l.length with h|h
   ·exact absurd (hq rfl most h).1 (lt_irrefl _)
   ·exact h
  ·obtain⟨i,hi,rfl⟩:=List.mem_iff_getElem.1 hv;exact(hq rfl i hi).2 _ (getElem?_eq_getElem hi)
 ·exact⟨false,e,fun h=>by cases h⟩
theorem TC {start ended:Int} {told:List TBD} (cfg:bV) (st:dL) (want:aI) (d0 d1 lk s0 s1:CD) (cur:Bool) (hl:told.length≤1000000) (hi':∀ t∈told,t.2.1.length≤1000000) :
  F22 (pOf cfg st want d0 d1 lk s0 s1 [(start,told,ended,())] cur,())=some (told,ended,pOf cfg st want d0 d1 lk s0 s1 [(start,told,ended,())] cur,()):=by
 have hcap:bI=34359738368:=rfl;have n10:decide (length [(start,told,ended,())]≤0)=false:=rfl;unfold F22;simp only[List.isEmpty_cons,cond_false,head?_cons,List.getElem?_cons_zero,bind_some,n10];refine aF (a:=Sum.inl ((told,ofNat told.length),([(start,told,ended,())],(1:Int)),())) ?_ (by simp only[elim_inl,head?_cons,List.getElem?_cons_zero,bind_some,iF,decide_true,cond_true];rfl);refine(IJ (mk:=fun i (a:List TBD)=>((a,ofNat a.length),(i:Int),())) (l:=told) (g:=fun a v=>a++[v]) (K:=fun a=>Sum.inl ((a,ofNat a.length),([(start,told,ended,())],(1:Int)),())) (Inv:=fun i a=>a.length=i) (by omega) ?_ ?_ (a:=[]) rfl).trans (by rw[zbQ];rfl)
 ·intro i a v hv ha;have hi:i<told.length:=(List.getElem?_eq_some_iff.1 hv).1;have wk:wrap64 ((i:Int)+1)=((i+1:Nat):Int):=aX (by omega);have hc:F57 v.2=_:=xW v.2.1 (by have:=hi' v (mem_of_getElem? hv);omega);refine⟨?_,by rw[length_append,ha];rfl⟩;simp only[aC,hi,decide_true,cond_true,Qz told i hi,hv,bind_some,hc,wk,iF,length_append,iR (show a.length + [(v.1,v.2.1,())].length≤bI by simp only[length_cons,length_nil];omega)];rfl
 ·intro a ha;simp only[aC,lt_irrefl,decide_false,cond_false,iF];rfl
def mF (l:List TBD):Prop:=∀ t∈l,t.2.1.length≤1000000
theorem JQ {q src:List UInt8} {next:Int}:∀ {bat told:List TBD},mF bat→mF told→mF (bat.foldl (lu q src next) told)∧(bat.foldl (lu q src next) told).length≤told.length+bat.length
 | [],told,_,h=>⟨h,Nat.le_refl _⟩
 | b::r,told,hb,h=>by
  rw[List.foldl_cons];have g:mF (lu q src next told b)∧(lu q src next told b).length≤told.length+1:=by
   unfold lu;cases b.2.1.all (iOk q src) && decide (next≤b.1) with
   | false=>exact⟨h,Nat.le_succ _⟩
   | true=>
    refine⟨fun t ht=> ?_,by simp⟩;rcases List.mem_append.1 ht with h'|h'
    ·exact h t h'
    ·obtain rfl:=List.mem_singleton.1 h';show(b.2.1.map (iTo q src)).length≤1000000;rw[List.length_map];exact hb b (by simp)
  obtain⟨q1,q2⟩:=JQ (q:=q) (src:=src) (next:=next) (bat:=r) (fun t ht=>hb t (List.mem_cons_of_mem _ ht)) g.1;exact⟨q1,by simp only[length_cons];omega⟩
theorem Tm {bat:List TBD} (h:pU bat):mF bat∧bat.length≤64:=by
 refine⟨fun b hb=> ?_,by have:=h.2;omega⟩;obtain⟨i,hi,rfl⟩:=List.mem_iff_getElem.1 hb;have:=(h.1 i _ (getElem?_eq_getElem hi)).2.1.1;omega
theorem za1 {id n0 n1 sf:Int} {src dst:List UInt8} {site fr next start:Int} {told:List TBD} {wat:Bool} {p:bD} {w:bG} (h:iZ id n0 n1 sf src dst site fr next start told wat p w) (hl:told.length≤1000000) (hi:mF told) :
  ∃ e,F22 (p,())=some (told,e,p,()):=by
 obtain⟨d0,d1,lk,s0,s1,e0,e1,lw,t0,t1,busy,won,seq,cut,want,wt,ended,cur,rfl,-,-,-,-,-,-,hw,-⟩:=h;rcases hw with⟨rfl,-,rfl,-⟩|⟨rfl,-⟩
 ·exact⟨0,rfl⟩
 ·exact⟨_,TC _ _ _ _ _ _ _ _ _ hl hi⟩
abbrev zfl:Type:=Int×Int×List UInt8×List UInt8×Int×Int×Int×Bool×Bool×Int×aI×aW×di×aW×Bool×Int×Int×List TBD×Int×Bool×bV×dL×aI×List ax×List ax×List ax×List ax×List ax×(List dJ×Int)×Bool×Unit
abbrev mkT (k:Int) (W:bG) (P:bD):zfl:=(k,W.1,W.2.1,W.2.2.1,W.2.2.2.1,W.2.2.2.2.1,W.2.2.2.2.2.1,W.2.2.2.2.2.2.1,W.2.2.2.2.2.2.2.1,W.2.2.2.2.2.2.2.2.1,W.2.2.2.2.2.2.2.2.2.1,W.2.2.2.2.2.2.2.2.2.2.1,W.2.2.2.2.2.2.2.2.2.2.2.1,W.2.2.2.2.2.2.2.2.2.2.2.2.1,W.2.2.2.2.2.2.2.2.2.2.2.2.2.1,W.2.2.2.2.2.2.2.2.2.2.2.2.2.2.1,W.2.2.2.2.2.2.2.2.2.2.2.2.2.2.2.1,W.2.2.2.2.2.2.2.2.2.2.2.2.2.2.2.2.1,W.2.2.2.2.2.2.2.2.2.2.2.2.2.2.2.2.2.1,W.2.2.2.2.2.2.2.2.2.2.2.2.2.2.2.2.2.2.1,
 P.1,P.2.1,P.2.2.1,P.2.2.2.1,P.2.2.2.2.1,P.2.2.2.2.2.1,P.2.2.2.2.2.2.1,P.2.2.2.2.2.2.2.1,(P.2.2.2.2.2.2.2.2.1,ofNat P.2.2.2.2.2.2.2.2.1.length),P.2.2.2.2.2.2.2.2.2.1,())
abbrev stT (W:bG) (P:bD):=(mkT 0 W P).2
section
variable (x:bV×List gV×Unit) (k:Nat) (W W':bG) (P P':bD) (a:gV)
theorem o0 (ha:decide (aB a.1=aB (UInt8.ofNat 0))=true) {out out':List PD} (h1:F13 (P,())=some (out,P',())) (h2:F14 (W,())=some (W',out',())):F5a x (mkT (k:Int) W P) a=some (.inl (stT W' P')):=by
 obtain⟨w1,w2,w3,w4,w5,w6,w7,w8,w9,w10,w11,w12,w13,w14,w15,w16,w17,w18,w19,⟨⟩⟩:=W;obtain⟨p1,p2,p3,p4,p5,p6,p7,p8,p9,p10,⟨⟩⟩:=P;unfold F5a;rw[ha,cond_true];simp only[mkT,iF,decide_true,cond_true,h1,h2,bind_some]
theorem o1 (ha:decide (aB a.1=aB (UInt8.ofNat 0))=false) (hb:decide (aB a.1=aB (UInt8.ofNat 1))=true) {r:dD} {b:Bool} {e:Int} (h1:F15 (P,a.2.1,())=some (r,b,P',())) (h2:F16 (W,a.2.1,())=some (W',e,())):F5a x (mkT (k:Int) W P) a=some (.inl (stT W' P')):=by
 obtain⟨w1,w2,w3,w4,w5,w6,w7,w8,w9,w10,w11,w12,w13,w14,w15,w16,w17,w18,w19,⟨⟩⟩:=W;obtain⟨p1,p2,p3,p4,p5,p6,p7,p8,p9,p10,⟨⟩⟩:=P;unfold F5a;rw[ha,cond_false,hb,cond_true];simp only[mkT,iF,decide_true,cond_true,h1,h2,bind_some]
theorem o2 (ha:decide (aB a.1=aB (UInt8.ofNat 0))=false) (hb:decide (aB a.1=aB (UInt8.ofNat 1))=false) (hc:decide (aB a.1=aB (UInt8.ofNat 2))=true) {b:Bool} {e:Int} (h1:F12 (P,a.2.2.1,())=some (e,P',())) (h2:F11 (W,a.2.2.1,())=some (W',b,())):F5a x (mkT (k:Int) W P) a=some (.inl (stT W' P')):=by
 obtain⟨w1,w2,w3,w4,w5,w6,w7,w8,w9,w10,w11,w12,w13,w14,w15,w16,w17,w18,w19,⟨⟩⟩:=W;obtain⟨p1,p2,p3,p4,p5,p6,p7,p8,p9,p10,⟨⟩⟩:=P;unfold F5a;rw[ha,cond_false,hb,cond_false,hc,cond_true];simp only[mkT,iF,decide_true,cond_true,h1,h2,bind_some]
theorem oN (ha:decide (aB a.1=aB (UInt8.ofNat 0))=false) (hb:decide (aB a.1=aB (UInt8.ofNat 1))=false) (hc:decide (aB a.1=aB (UInt8.ofNat 2))=false) (hd:decide (aB a.1=aB (UInt8.ofNat 4))=false):F5a x (mkT (k:Int) W P) a=some (.inl (stT W P)):=by
 unfold F5a;rw[ha,cond_false,hb,cond_false,hc,cond_false,hd,cond_false];rfl
theorem o4 (ha:decide (aB a.1=aB (UInt8.ofNat 0))=false) (hb:decide (aB a.1=aB (UInt8.ofNat 1))=false) (hc:decide (aB a.1=aB (UInt8.ofNat 2))=false) (hd:decide (aB a.1=aB (UInt8.ofNat 4))=true) {kd:UInt8} {wn:aI} {sn hf:Int} {m:TMD} {r r':dD} {b b':Bool}
  (hC:lX m) (h1:F17 (W,a,())=some ((kd,wn,sn,hf,m,()),()))
  (h3:F19 (P,hf,m,())=some (r,b,P',())) (h4:F21 (W,hf,m,())=some (W',r',b',())):F5a x (mkT (k:Int) W P) a=some (.inl (stT W' P')):=by
 obtain⟨w1,w2,w3,w4,w5,w6,w7,w8,w9,w10,w11,w12,w13,w14,w15,w16,w17,w18,w19,⟨⟩⟩:=W;obtain⟨p1,p2,p3,p4,p5,p6,p7,p8,p9,p10,⟨⟩⟩:=P;unfold F5a;rw[ha,cond_false,hb,cond_false,hc,cond_false,hd,cond_true];simp only[mkT,h1,bind_some,zc9,BV m hC,iF,decide_true,cond_true,zcd,h3,h4];exact zcS m.2.2.2.2.2.2.2.2.2.2.2.2.1 hC.2.2.2.1.1 hC.2.2.2.1.2 _
theorem b5 (hk:k<1000) {told:List TBD} {e:Int} (hT:F22 (P',())=some (told,e,P',())) (hl:told.length≤1000000) (hi:mF told):F5b x (mkT (k:Int) W P) (stT W' P')=some (.inl (mkT ((k+1:Nat):Int) W' P')):=by
 obtain⟨w1,w2,w3,w4,w5,w6,w7,w8,w9,w10,w11,w12,w13,w14,w15,w16,w17,w18,w19,⟨⟩⟩:=W';obtain⟨p1,p2,p3,p4,p5,p6,p7,p8,p9,p10,⟨⟩⟩:=P';have wk:wrap64 ((k:Int)+1)=((k+1:Nat):Int):=aX (by omega);unfold F5b;simp only[mkT,iF,decide_true,cond_true,hT,bind_some,wk];exact zcR told (le_trans hl (by decide)) (fun b hb=>le_trans (hi b hb) (by decide)) _
end
theorem e5 {x:bV×List gV×Unit} {k:Int} {id n0 n1 sf:Int} {src dst:List UInt8} {site fr next start:Int} {told:List TBD} {wat:Bool} {P:bD} {W:bG} (h:iZ id n0 n1 sf src dst site fr next start told wat P W) (hl:told.length≤1000000) (hi:mF told) :
  F5e x (mkT k W P)=some (.inr (true,())):=by
 obtain⟨d0,d1,lk,s0,s1,e0,e1,lw,t0,t1,busy,won,seq,cut,want,wt,ended,cur,rfl,rfl,-,-,-,-,-,hw,-⟩:=h;have hs:F25 (told,told,())=some (true,()):=by rw[N9 told told ⟨by unfold Sh;omega,fun b hb=>by have:=hi b hb;unfold Sh;omega⟩];simp[dec']
 have hT:F22 (pOf (id,src,dst,(n0,n1,()),()) (site,busy,won,seq,next,(fr,cut,()),()) want d0 d1 lk s0 s1 wt cur,())=some (told,ended,pOf (id,src,dst,(n0,n1,()),()) (site,busy,won,seq,next,(fr,cut,()),()) want d0 d1 lk s0 s1 wt cur,()):=by
  rcases hw with⟨rfl,-,rfl,rfl⟩|⟨rfl,-⟩
  ·rfl
  ·exact TC _ _ _ _ _ _ _ _ _ hl hi
 unfold F5e;simp only[mkT,iF,decide_true,cond_true,hT,bind_some,hs];refine zdz ?_;unfold F23 F26;simp only[decide_true,cond_true,bind_some,beq_self_eq_true,Bool.and_true,Bool.and_self]
theorem st5 {x:bV×List gV×Unit} {k:Nat} {W W':bG} {P P':bD} {a:gV} {told:List TBD} {e:Int} (hk:x.2.1[k]? = some a) (hl:x.2.1.length≤1000) (h1:F5a x (mkT (k:Int) W P) a=some (.inl (stT W' P')))
  (hT:F22 (P',())=some (told,e,P',())) (hl':told.length≤1000000) (hi:mF told):F5s x (mkT (k:Int) W P)=some (.inl (mkT ((k+1:Nat):Int) W' P')):=by
 have hi':k<x.2.1.length:=(List.getElem?_eq_some_iff.1 hk).1;unfold F5s;simp only[aC,hi',decide_true,cond_true,aN,hk,bind_some,h1,elim_inl];exact b5 x k W W' P P' (by omega) hT hl' hi
theorem zcE (x:(bK P5).den) (hx:gU (bK P5) x) (hm:kG (bK P5) x):F5 x=some (true,()):=by
 obtain⟨⟨id,src,dst,⟨n0,n1,⟨⟩⟩,⟨⟩⟩,l,⟨⟩⟩:bV×List gV×Unit:=x;have hl:l.length≤140737488351232:=hx.2.1.1;have hs1:St src:=hx.1.2.1;have hs2:St dst:=hx.1.2.2.1;obtain⟨z,ez,hsm⟩:=zfh l (fun v hv=>⟨szT (hx.2.1.2 v hv).2.2.2.2.1,DZ (hx.2.1.2 v hv).2.1.2.1,(hx.2.1.2 v hv).2.1.2.2.1,(hx.2.1.2 v hv).2.1.2.2.2.1⟩) (fun v hv=>Zu (hm.2.1.2 v hv).2.2.2.2.1)
  (fun v hv=>⟨fun e he=>le_trans ((hx.2.1.2 v hv).2.2.2.2.1.2.2.1.2.2.2.2.2.2.2.2.2.1.2 e he).2.2.1.1 (by decide),le_trans (hx.2.1.2 v hv).2.2.2.2.1.2.2.1.2.2.2.2.2.2.2.2.2.2.1.2.2.1.1 (by decide)⟩) 60 (by omega)
 unfold F5;simp only[zaR,bind_some,Bool.not_true,cond_false];refine aF ez ?_;cases z with
 | false=>rfl
 | true=>
 obtain⟨hlen,hsm⟩:=hsm rfl;simp only[Bool.not_true,cond_false,zbz id src dst n0 n1 hs1 hs2,bind_some];by_cases hM:AB id src dst n0 n1
 case neg=>rw[decide_eq_false hM];rfl
 rw[decide_eq_true hM];simp only[Bool.not_true,cond_false];have hn0:=hM.2.2.1;have hn1:=hM.2.2.2;have c0:=UY id 0 n0 hn0.1;have c1:=UY id 1 n1 hn1.1;refine aF (zcy hM) ?_;simp only[cond_true,zbg,bind_some];show iter (F5s ((id,src,dst,(n0,n1,()),()),l,())) big (mkT ((0:Nat):Int) (id,src,dst,0,0,0,false,false,0,noW,(nW id 0 n0,nW id 1 n1,()),nW id 1 n1,(nW id 0 n0,nW id 1 n1,()),false,0,0,[],0,false,())
  ((id,src,dst,(n0,n1,()),()),(0,false,false,0,0,(0,0,()),()),noW,[nC id 0 n0],[nC id 1 n1],[nC id 1 n1],[nC id 0 n0],[nC id 1 n1],[],false,()))=_
 refine zbJ (I:=fun k t=>∃ W P site fr next start told wat,t=mkT (k:Int) W P∧iZ id n0 n1 (wrap64 (8+id)) src dst site fr next start told wat P W∧mF told∧told.length≤64*k) (n:=l.length) (r:=(true,())) (by omega) ?_ ?_
  ⟨_,_,0,0,0,0,[],false,rfl,⟨_,_,_,_,_,_,_,_,_,_,false,false,0,0,noW,[],0,false,rfl,rfl,c0,c1,c1,c0,c1,.inl ⟨rfl,rfl,rfl,rfl⟩,.inl rfl,⟨Jv,ny,ny⟩,zero_le _⟩,fun t h=>by simp at h,zero_le _⟩
 ·rintro k t hk ⟨W,P,site,fr,next,start,told,wat,rfl,hR,hI,hT⟩;right;obtain⟨a,ha⟩:∃ a,l[k]? = some a:=⟨_,getElem?_eq_getElem hk⟩
  obtain⟨⟨⟨zm,hB⟩,hF⟩,hC⟩:=hsm _ (mem_of_getElem? ha);have fin:∀ {W':bG} {P':bD} {site' fr' next' start':Int} {told':List TBD} {wat':Bool},F5a ((id,src,dst,(n0,n1,()),()),l,()) (mkT (k:Int) W P) a=some (.inl (stT W' P'))→iZ id n0 n1 (wrap64 (8+id)) src dst site' fr' next' start' told' wat' P' W'→mF told'→told'.length≤64*(k+1)→
    ∃ t',F5s ((id,src,dst,(n0,n1,()),()),l,()) (mkT (k:Int) W P)=some (.inl t')∧∃ W P site fr next start told wat,t'=mkT ((k+1:Nat):Int) W P∧iZ id n0 n1 (wrap64 (8+id)) src dst site fr next start told wat P W∧mF told∧told.length≤64*(k+1):=by
   intro W' P' site' fr' next' start' told' wat' h1 h2 h3 h4
   obtain⟨e,he⟩:=za1 h2 (by omega) h3;exact⟨_,st5 (x:=((id,src,dst,(n0,n1,()),()),l,())) ha (show l.length≤1000 by omega) h1 he (by omega) h3,W',P',site',fr',next',start',told',wat',rfl,h2,h3,h4⟩
  cases d0:decide (aB a.1=aB (UInt8.ofNat 0)) with
  | true=>obtain⟨out,P',W',out',y1,y2,y3⟩:=ZV hn0 hn1 hs1 hs2 hR;exact fin (o0 _ k W W' P P' a d0 y1 y2) y3 hI (by omega)
  | false=>
  cases d1:decide (aB a.1=aB (UInt8.ofNat 1)) with
  | true=>obtain⟨r,b,P',W',e,y1,y2,y3⟩:=ZJ hs1 hs2 hF hR;exact fin (o1 _ k W W' P P' a d0 d1 y1 y2) y3 hI (by omega)
  | false=>
  cases d2:decide (aB a.1=aB (UInt8.ofNat 2)) with
  | true=>
   by_cases hs:1≤a.2.2.1∧a.2.2.1≤1099511627776
   ·obtain⟨P',W',y1,y2,y3⟩:=YV hs.1 hs.2 hR;exact fin (o2 _ k W W' P P' a d0 d1 d2 y1 y2) y3 (fun t h=>by simp at h) (zero_le _)
   ·obtain⟨y1,y2⟩:=ZP (p:=P) (w:=W) hs;exact fin (o2 _ k W W P P a d0 d1 d2 y1 y2) hR hI (by omega)
  | false=>
  cases d4:decide (aB a.1=aB (UInt8.ofNat 4)) with
  | false=>exact fin (oN _ k W P a d0 d1 d2 d4) hR hI (by omega)
  | true=>
  obtain⟨hf,rid,y0⟩:=ZN W a;have hB':Bnd (a.2.2.2.2.1.1,rid,a.2.2.2.2.1.2.2):=hB;have zm':SzT (a.2.2.2.2.1.1,rid,a.2.2.2.2.1.2.2):=zm;have hC':lX (a.2.2.2.2.1.1,rid,a.2.2.2.2.1.2.2):=hC;obtain⟨r,b,P',W',site',fr',next',told',u1,u2,u3,u4⟩:=zaF hf hn0 hn1 hs1 hs2 hR hB' zm' (by omega);refine fin (o4 _ k W W' P P' a d0 d1 d2 d4 hC' y0 u1 u2) u3 ?_ ?_
  all_goals rcases u4 with⟨-,-,-,rfl⟩|⟨kk,-,-,v2,-,-,-,rfl,-⟩|⟨-,-,-,-,-,rfl,-⟩
  all_goals first|exact hI|omega|skip
  ·exact(JQ (Tm (IB v2).1).1 hI).1
  ·have h1:=(Tm (IB v2).1)
   have h2:=(JQ (q:=dZ src dst kk) (src:=src) (next:=next) h1.1 hI).2;omega
 ·rintro t ⟨W,P,site,fr,next,start,told,wat,rfl,hR,hI,hT⟩;unfold F5s;simp only[aC,lt_irrefl,decide_false,cond_false];exact e5 hR (by omega) hI
end Go.Proofs.YtlegpimppfabgaaGreat
