/-
 Plain laws of what lies below,as this seat reaches them (by a program of the bench: port.py).
-/
import Derived.Test.YtlegpimppfabgaaGreatCallLawB
import Derived.Test.YtlegpimppfabgaaGreatSxS
namespace Go.Proofs.YtlegpimppfabgaaGreat
open Go.Sx Go Classical
set_option maxRecDepth 10000
theorem zcS (self site n pat rid tgt wt:Int) (now:Bool) (c m:TMD) (hz:SzT m) (h:¬ (2≤m.1∧m.1≤7∧eX (m.1,wrap64 (rid+1),m.2.2))):F73 ((self,site,n,pat,rid,tgt,wt,false,now,c,()),m,())=some ((self,site,n,pat,rid,tgt,wt,false,now,c,()),NoP,1,()):=by
 have hr:=yg (m.1,wrap64 (rid+1),m.2.2) hz;unfold F73;by_cases h2:m.1<2
 ·simp only[cond_false,h2,decide_true,cond_true]
 by_cases h7:7<m.1
 ·simp only[cond_false,h2,h7,decide_true,decide_false,cond_true]
 rw[dA fun hR=>h ⟨by omega,by omega,hR⟩] at hr;simp only[cond_false,h2,h7,decide_false];refine aB hr ?_;rfl
theorem zb0 (self site n pat rid tgt wt:Int) (now:Bool) (c m:TMD) (hz:SzT m) (h:2≤m.1∧m.1≤7∧eX (m.1,wrap64 (rid+1),m.2.2)):F73 ((self,site,n,pat,rid,tgt,wt,false,now,c,()),m,()) =
  some ((self,site,n,pat,wrap64 (rid+1),tgt,0,true,false,(m.1,wrap64 (rid+1),m.2.2),()),(self,wrap64 (wrap64 (4*site)+tgt),(m.1,wrap64 (rid+1),m.2.2),()),0,()):=by
 have hr:=yg (m.1,wrap64 (rid+1),m.2.2) hz;rw[bK h.2.2] at hr;have h2:¬ m.1<2:=by omega
 have h7:¬ 7<m.1:=by omega
 unfold F73;simp only[cond_false,h2,h7,decide_false];refine aB hr ?_;rfl
theorem ZK (self site n pat rid tgt wt:Int) (c:TMD) (h:wrap64 (wt+1)<pat):F72 ((self,site,n,pat,rid,tgt,wt,true,false,c,()),())=some ((self,site,n,pat,rid,tgt,wrap64 (wt+1),true,false,c,()),[],()):=by
 unfold F72;simp only[Bool.not_true,Bool.not_false,cond_false,cond_true,decide_eq_true h,Option.bind_some,Sum.elim_inr]
theorem ZL (self site n pat rid tgt wt:Int) (c:TMD) (hn:1≤n∧n≤3) (ht:0≤tgt∧tgt<n) (h:¬ wrap64 (wt+1)<pat):F72 ((self,site,n,pat,rid,tgt,wt,true,false,c,()),()) =
  some ((self,site,n,pat,rid,(tgt+1) % n,0,true,false,c,()),[(self,wrap64 (wrap64 (4*site)+(tgt+1) % n),c,())],()):=by
 have hr:=BX (n:=n) ht.1 (by omega) hn.1;unfold F72;simp only[Bool.not_true,Bool.not_false,cond_false,cond_true,decide_eq_false h,Option.bind_some,Sum.elim_inl,hr];rfl
theorem zaO (self site n pat rid tgt wt:Int) (c:TMD):F72 ((self,site,n,pat,rid,tgt,wt,true,true,c,()),()) =
  some ((self,site,n,pat,rid,tgt,0,true,false,c,()),[(self,wrap64 (wrap64 (4*site)+tgt),c,())],()):=rfl
theorem ZN (self site n pat rid tgt wt fr:Int) (now:Bool) (c m:TMD):F53 ((self,site,n,pat,rid,tgt,wt,false,now,c,()),fr,m,())=some ((self,site,n,pat,rid,tgt,wt,false,now,c,()),false,()):=rfl
theorem zbY (self site n pat rid tgt wt fr:Int) (now:Bool) (c m:TMD) (hs:0≤site∧site≤1) (hn:1≤n∧n≤3) (hz:SzT m) (h:¬ uF site n rid c.1 fr m):F53 ((self,site,n,pat,rid,tgt,wt,true,now,c,()),fr,m,())=some ((self,site,n,pat,rid,tgt,wt,true,now,c,()),false,()):=by
 have w1:wrap64 (4*site)=4*site:=dW (by omega) (by omega);have w2:wrap64 (4*site+n)=4*site+n:=dW (by omega) (by omega);unfold F53;simp only[Bool.not_true,cond_false,w1,w2];by_cases h1:fr<4*site
 ·simp only[h1,decide_true,cond_true]
 by_cases h2:4*site+n≤fr
 ·simp only[h1,h2,decide_true,decide_false,cond_true,cond_false]
 have hr:=yg m hz;simp only[h1,h2,decide_false,cond_false];refine aB hr ?_;by_cases h5:eX m
 case neg=>rw[dA h5];rfl
 simp only[bK h5,Bool.not_true,cond_false,qP,Option.bind_some];by_cases h3:m.2.1=rid
 case neg=>simp only[h3,decide_false,Bool.not_false,cond_true]
 by_cases h4:m.1=iq c.1
 case neg=>simp only[h3,h4,decide_true,decide_false,Bool.not_true,Bool.not_false,cond_true,cond_false]
 exact absurd ⟨by omega,by omega,h3,h4,h5⟩ h
theorem ZO (self site n pat rid tgt wt fr:Int) (now:Bool) (c m:TMD) (hs:0≤site∧site≤1) (hn:1≤n∧n≤3) (ht:0≤tgt∧tgt<n) (hz:SzT m) (h:uF site n rid c.1 fr m) (h8:m.1=8) (h14:m.2.2.2.2.2.2.2.2.2.1=14) :
  F53 ((self,site,n,pat,rid,tgt,wt,true,now,c,()),fr,m,())=some ((self,site,n,pat,rid,uw n tgt m.2.2.2.2.2.2.2.2.2.2.1,wt,true,true,c,()),false,()):=by
 have w1:wrap64 (4*site)=4*site:=dW (by omega) (by omega);have w2:wrap64 (4*site+n)=4*site+n:=dW (by omega) (by omega);obtain⟨h1,h2,h3,h4,h5⟩:=h;have h1:¬ fr<4*site:=by omega
 have h2:¬ 4*site+n≤fr:=by omega
 have hr:=yg m hz;rw[bK h5] at hr;have hrem:=BX (n:=n) ht.1 (by omega) hn.1;have d4:decide (m.1=iq c.1)=true:=decide_eq_true h4;have d8:decide (m.1=8)=true:=decide_eq_true h8;have d14:decide (m.2.2.2.2.2.2.2.2.2.1=14)=true:=decide_eq_true h14;have d3:decide (m.2.1=rid)=true:=decide_eq_true h3;unfold F53;simp only[Bool.not_true,cond_false,w1,w2,h1,h2,decide_false];refine aB hr ?_;simp only[d3,qP,Option.bind_some,d4,d8,d14,Bool.not_true,cond_true,cond_false,hrem];unfold uw;generalize m.2.2.2.2.2.2.2.2.2.2.1=q;by_cases k1:0≤q
 ·by_cases k2:q<n
  ·simp only[k1,k2,decide_true,cond_true,Option.bind_some,Sum.elim_inl,and_self,if_true]
  ·simp only[k1,k2,decide_true,decide_false,cond_true,cond_false,Option.bind_some,Sum.elim_inl,and_false,if_false]
 ·simp only[k1,decide_false,cond_false,Option.bind_some,Sum.elim_inl,false_and,if_false]
theorem zaV (self site n pat rid tgt wt fr:Int) (now:Bool) (c m:TMD) (hs:0≤site∧site≤1) (hn:1≤n∧n≤3) (hz:SzT m) (h:uF site n rid c.1 fr m) (h8:¬ (m.1=8∧m.2.2.2.2.2.2.2.2.2.1=14)) :
  F53 ((self,site,n,pat,rid,tgt,wt,true,now,c,()),fr,m,())=some ((self,site,n,pat,rid,tgt,wt,false,now,c,()),true,()):=by
 have w1:wrap64 (4*site)=4*site:=dW (by omega) (by omega);have w2:wrap64 (4*site+n)=4*site+n:=dW (by omega) (by omega);obtain⟨h1,h2,h3,h4,h5⟩:=h;have h1:¬ fr<4*site:=by omega
 have h2:¬ 4*site+n≤fr:=by omega
 have hr:=yg m hz;rw[bK h5] at hr;have d4:decide (m.1=iq c.1)=true:=decide_eq_true h4;have d3:decide (m.2.1=rid)=true:=decide_eq_true h3;unfold F53;simp only[Bool.not_true,cond_false,w1,w2,h1,h2,decide_false];refine aB hr ?_;simp only[d3,qP,Option.bind_some,d4,Bool.not_true,cond_false];by_cases k1:m.1=8
 ·have k2:¬ m.2.2.2.2.2.2.2.2.2.1=14:=fun e=>h8 ⟨k1,e⟩;simp only[decide_eq_true k1,k2,decide_false,cond_true,cond_false]
 ·simp only[k1,decide_false,cond_false]
theorem Ju {α β:Type} {A:Option α} {f:α→Option β} (P:α→Prop) {Q:β→Prop} (h:∃ a,A=some a∧P a) (h2:∀ a,P a→∃ b,f a=some b∧Q b):∃ b,Option.bind A f=some b∧Q b:=by
 obtain⟨a,h,hp⟩:=h;obtain⟨b,hb,hq⟩:=h2 a hp;exact⟨b,by rw[h];exact hb,hq⟩
theorem za4 {n tgt q:Int} (hn:1≤n):0≤uw n tgt q∧uw n tgt q<n:=by
 unfold uw;by_cases h:0≤q∧q<n
 ·rw[if_pos h];exact h
 ·rw[if_neg h];exact⟨Int.emod_nonneg _ (by omega),Int.emod_lt_of_pos _ (by omega)⟩
def JX (m:TMD):Prop:=SzT m∧Bnd m
end Go.Proofs.YtlegpimppfabgaaGreat
