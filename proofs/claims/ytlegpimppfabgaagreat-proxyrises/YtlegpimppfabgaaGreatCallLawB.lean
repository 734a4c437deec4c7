/-
 Plain laws of what lies below,as this seat reaches them (by a program of the bench: port.py).
-/
import Derived.Test.YtlegpimppfabgaaGreatCallLawA
import Derived.Test.YtlegpimppfabgaaGreatSxS
namespace Go.Proofs.YtlegpimppfabgaaGreat
open Go.Sx Go Classical
set_option maxRecDepth 10000
theorem BX {t n:Int} (ht:0≤t) (h:t≤1000) (hn:1≤n):nI (wrap64 (t+1)) n=some ((t+1) % n):=by
 have e:wrap64 (t+1)=t+1:=dW (by omega) (by omega);unfold nI;rw[e,decide_eq_false (by omega),Int.tmod_eq_emod_of_nonneg (by omega)];rfl
theorem zaE (self site n pat rid tgt wt:Int) (m:TMD) (h:wrap64 (wt+1)<pat):F71 ((self,site,n,pat,rid,tgt,wt,true,m,()),())=some (NoP,false,(self,site,n,pat,rid,tgt,wrap64 (wt+1),true,m,()),()):=by
 unfold F71;simp only[Bool.not_true,cond_false,decide_eq_true h,cond_true]
theorem zaF (self site n pat rid tgt wt:Int) (m:TMD) (hn:1≤n∧n≤3) (ht:0≤tgt∧tgt<n) (h:wrap64 (wt+1)=pat) (hc:xO m):F71 ((self,site,n,pat,rid,tgt,wt,true,m,()),())=some ((self,wrap64 (wrap64 (4*site)+(tgt+1) % n),m,()),true,(self,site,n,pat,rid,(tgt+1) % n,0,true,m,()),()):=by
 have hr:=BX (n:=n) ht.1 (by omega) hn.1;unfold F71;simp only[Bool.not_true,cond_false,h,Int.lt_irrefl,decide_false,decide_true,cond_true,hr,Option.bind_some];exact aB (Ic _ _ _ _ _ _ _ _ _ hc) rfl
theorem Zr (self site n pat rid tgt wt:Int) (m:TMD) (h:pat<wrap64 (wt+1)) (hc:xO m):F71 ((self,site,n,pat,rid,tgt,wt,true,m,()),())=some ((self,wrap64 (wrap64 (4*site)+tgt),m,()),true,(self,site,n,pat,rid,tgt,0,true,m,()),()):=by
 have h1:¬ wrap64 (wt+1)<pat:=by omega
 have h2:¬ wrap64 (wt+1)=pat:=by omega
 unfold F71;simp only[Bool.not_true,cond_false,h1,h2,decide_false];exact aB (Ic _ _ _ _ _ _ _ _ _ hc) rfl
def uF (site n rid kind from':Int) (m:TMD):Prop:=4*site≤from'∧from'<4*site+n∧m.2.1=rid∧m.1=iq kind∧eX m
theorem zbn (self site n pat rid tgt wt fr:Int) (c m:TMD):F48 ((self,site,n,pat,rid,tgt,wt,false,c,()),fr,m,())=some (NoT,false,(self,site,n,pat,rid,tgt,wt,false,c,()),()):=rfl
theorem zdf (self site n pat rid tgt wt fr:Int) (c m:TMD) (hs:0≤site∧site≤1) (hn:1≤n∧n≤3) (hm:ShT m) (h:¬ uF site n rid c.1 fr m):F48 ((self,site,n,pat,rid,tgt,wt,true,c,()),fr,m,())=some (NoT,false,(self,site,n,pat,rid,tgt,wt,true,c,()),()):=by
 have w1:wrap64 (4*site)=4*site:=dW (by omega) (by omega);have w2:wrap64 (4*site+n)=4*site+n:=dW (by omega) (by omega);unfold F48;simp only[Bool.not_true,cond_false,w1,w2];by_cases h1:fr<4*site
 ·simp only[h1,decide_true,cond_true]
 by_cases h2:4*site+n≤fr
 ·simp only[h1,h2,decide_true,decide_false,cond_true,cond_false]
 by_cases h3:m.2.1=rid
 case neg=>simp only[h1,h2,h3,decide_true,decide_false,cond_true,cond_false,Bool.not_false]
 by_cases h4:m.1=iq c.1
 case neg=>simp only[h1,h2,h3,uj,Option.bind_some,h4,decide_true,decide_false,cond_true,cond_false,Bool.not_false,Bool.not_true]
 have h5:¬ eX m:=fun hR=>h ⟨by omega,by omega,h3,h4,hR⟩;have hr:=yu m hm;rw[dA h5] at hr;simp only[h1,h2,h3,uj,Option.bind_some,h4,decide_true,decide_false,cond_true,cond_false,Bool.not_true];refine aB hr ?_;rfl
def uw (n tgt hint:Int):Int:=if 0≤hint∧hint<n then hint else(tgt+1) % n
theorem zbo (self site n pat rid tgt wt fr:Int) (c m:TMD) (hs:0≤site∧site≤1) (hn:1≤n∧n≤3) (ht:0≤tgt∧tgt<n) (hm:ShT m) (h:uF site n rid c.1 fr m) (h8:m.1=8) (h14:m.2.2.2.2.2.2.2.2.2.1=14):F48 ((self,site,n,pat,rid,tgt,wt,true,c,()),fr,m,())=some (NoT,false,(self,site,n,pat,rid,uw n tgt m.2.2.2.2.2.2.2.2.2.2.1,pat,true,c,()),()):=by
 have w1:wrap64 (4*site)=4*site:=dW (by omega) (by omega);have w2:wrap64 (4*site+n)=4*site+n:=dW (by omega) (by omega);obtain⟨h1,h2,h3,h4,h5⟩:=h;have h1:¬ fr<4*site:=by omega
 have h2:¬ 4*site+n≤fr:=by omega
 have hr:=yu m hm;rw[bK h5] at hr;have hrem:=BX (n:=n) ht.1 (by omega) hn.1;have h4':8=iq c.1:=h8.symm.trans h4;unfold F48;simp only[Bool.not_true,cond_false,w1,w2,h1,h2,h3,uj,Option.bind_some,h4,decide_true,decide_false];refine aB hr ?_;simp only[←h4',h14,decide_true,cond_true,Bool.not_true,cond_false,hrem,Option.bind_some];unfold uw;generalize m.2.2.2.2.2.2.2.2.2.2.1=q;by_cases k1:0≤q
 ·by_cases k2:q<n
  ·simp only[k1,k2,decide_true,cond_true,Option.bind_some,Sum.elim_inl,and_self,if_true]
  ·simp only[k1,k2,decide_true,decide_false,cond_true,cond_false,Option.bind_some,Sum.elim_inl,and_false,if_false]
 ·simp only[k1,decide_false,cond_false,Option.bind_some,Sum.elim_inl,false_and,if_false]
theorem zcf (self site n pat rid tgt wt fr:Int) (c m:TMD) (hs:0≤site∧site≤1) (hn:1≤n∧n≤3) (hm:Bnd m) (h:uF site n rid c.1 fr m) (h8:¬ (m.1=8∧m.2.2.2.2.2.2.2.2.2.1=14)):F48 ((self,site,n,pat,rid,tgt,wt,true,c,()),fr,m,())=some (m,true,(self,site,n,pat,rid,tgt,wt,false,c,()),()):=by
 have w1:wrap64 (4*site)=4*site:=dW (by omega) (by omega);have w2:wrap64 (4*site+n)=4*site+n:=dW (by omega) (by omega);obtain⟨h1,h2,h3,h4,h5⟩:=h;have h1:¬ fr<4*site:=by omega
 have h2:¬ 4*site+n≤fr:=by omega
 have hr:=yu m hm.1;rw[bK h5] at hr;have hcl:=IE m (Ib hm.1 h5 hm.2.1 hm.2.2);unfold F48;simp only[Bool.not_true,cond_false,w1,w2,h1,h2,h3,uj,Option.bind_some,decide_true,decide_false];have d4:decide (m.1=iq c.1)=true:=decide_eq_true h4;simp only[d4,Bool.not_true,cond_false];refine aB hr ?_;simp only[Bool.not_true,cond_false];by_cases k1:m.1=8
 ·have k2:¬ m.2.2.2.2.2.2.2.2.2.1=14:=fun e=>h8 ⟨k1,e⟩;rw[decide_eq_true k1];simp only[k2,decide_false,cond_true,cond_false];exact aB hcl rfl
 ·simp only[k1,decide_false,cond_false];exact aB hcl rfl
theorem QS {T R:Type} {step:T→Option (T⊕R)} {n:Nat} {I:Nat→T→Prop} {r:R} (hn:n≤9223372036854775807) (h:∀ k t,k<n→I k t→step t=some (.inr r)∨∃ t',step t=some (.inl t')∧I (k+1) t') (hK:∀ t,I n t→step t=some (.inr r)) {t:T} (h0:I 0 t):iter step big t=some r:=by
 have main:∀ d k t m,k+d=n→d<m→I k t→iter step m t=some r:=by
  intro d;induction d with
  | zero=>
   intro k t m hk hm ht;cases m with
   | zero=>omega
   | succ m=>rw[Nat.add_zero] at hk;subst hk;simp[iter,hK t ht]
  | succ d ih=>
   intro k t m hk hm ht;cases m with
   | zero=>omega
   | succ m=>
    rcases h k t (by omega) ht with h1|⟨t',h1,h2⟩
    ·simp[iter,h1]
    ·simp only[iter,h1,Option.bind_some,Sum.elim_inl];exact ih (k+1) t' m (by omega) (by omega) h2
 exact main n 0 t big (by omega) (by rw[ji];omega) h0
theorem zc9 {R T:Type} {X:Option R} {r:R} (h:X=some r):(Option.map Sum.inr X:Option (T⊕R))=some (Sum.inr r):=by rw[h];rfl
theorem ans_of {k:Int} (h:2≤k∧k≤7):iq k=8∨iq k=9∨iq k=10∨iq k=11∨iq k=12:=by
 have hk:k=2∨k=3∨k=4∨k=5∨k=6∨k=7:=by omega
 rcases hk with e|e|e|e|e|e<;>(subst e;decide)
end Go.Proofs.YtlegpimppfabgaaGreat
