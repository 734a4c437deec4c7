/-
 Plain laws of what lies below,as this seat reaches them (by a program of the bench: port.py).
-/
import Derived.Test.YtpfjaaofpcbejaaGreatTalkLawE
import Derived.Test.YtpfjaaofpcbejaaGreatSxS
namespace Go.Proofs.YtpfjaaofpcbejaaGreat
open Go.Sx Go Classical
set_option maxRecDepth 10000
abbrev CD:Type:=Int×Int×Int×Int×Int×Int×Int×Bool×TMD×Unit
abbrev PD:Type:=Int×Int×TMD×Unit
abbrev NoP:PD:=(0,0,NoT,())
def D7 (self site n pat rid:Int):Prop:=8≤self∧self≤15∧0≤site∧site≤1∧1≤n∧n≤3∧1≤pat∧pat≤100∧0≤rid∧rid≤549755813888
theorem OJ {self site n pat rid:Int} (h:D7 self site n pat rid):F21 (self,site,n,pat,rid,())=some ((true,self,site,n,pat,rid,0,0,false,NoT,()),0,()):=by
 unfold D7 at h
 have f:∀ {p:Prop} [Decidable p],¬ p→decide p=false:=fun h=>decide_eq_false h
 unfold F21
 simp only [f (show ¬ self < 8 by omega),f (show ¬ (15:Int) < self by omega),f (show ¬ site < 0 by omega),f (show ¬ (1:Int) < site by omega),f (show ¬ n < 1 by omega),f (show ¬ (3:Int) < n by omega),f (show ¬ pat < 1 by omega),f (show ¬ (100:Int) < pat by omega),f (show ¬ rid < 0 by omega),f (show ¬ (549755813888:Int) < rid by omega),cond_false]
def gK (k:Int):Int:=if k=2∨k=3 then 8 else if k=4 then 9 else if k=5 then 10 else if k=6 then 11 else if k=7 then 12 else 0
theorem rU (k:Int):F47 (k,())=some (gK k,()):=by
 by_cases h:2≤k∧k≤7
 ·have hk:k=2∨k=3∨k=4∨k=5∨k=6∨k=7:=by omega
  rcases hk with e | e | e | e | e | e <;> (subst e;rfl)
 ·have f:∀ n:Int,2≤n→n≤7→decide (k=n)=false:=fun n h1 h2=>decide_eq_false (by omega)
  have e:gK k=0:=by unfold gK;rw [if_neg (by omega),if_neg (by omega),if_neg (by omega),if_neg (by omega),if_neg (by omega)]
  unfold F47
  simp only [e,f 2 (by omega) (by omega),f 3 (by omega) (by omega),f 4 (by omega) (by omega),f 5 (by omega) (by omega),f 6 (by omega) (by omega),f 7 (by omega) (by omega),cond_false]
theorem zi5 {k:Int}:gK k=0↔¬ (2≤k∧k≤7):=by
 by_cases h:2≤k∧k≤7
 ·have hk:k=2∨k=3∨k=4∨k=5∨k=6∨k=7:=by omega
  rcases hk with e | e | e | e | e | e <;> (subst e;decide)
 ·have e:gK k=0:=by unfold gK;rw [if_neg (by omega),if_neg (by omega),if_neg (by omega),if_neg (by omega),if_neg (by omega)]
  exact⟨fun _=>h,fun _=>e⟩
theorem Gz (k:Int):F55 (k,())=some (gK k,()):=by
 obtain⟨z,h1,h2⟩:=zbe k
 rw [rU k] at h1
 rw [h2,←h1]
theorem Fj (self site n pat rid tgt wt:Int) (o:Bool) (m:TMD) (h:tV m):F42 ((self,site,n,pat,rid,tgt,wt,o,m,()),())=some ((self,wrap64 (wrap64 (4*site)+tgt),m,()),(self,site,n,pat,rid,tgt,wt,o,m,()),()):=by
 unfold F42
 exact aU (FP m h) rfl
def Bnd (m:TMD):Prop:=ShT m∧m.2.2.2.1.2.2.1.2.2.2.2.2.2.2.2.2.2.2.2.2.2.2.1.length≤2000000000000∧m.2.2.2.2.2.2.2.2.2.2.2.2.2.2.2.1.2.2.1.length≤2000000000000
theorem zhh (self site n pat rid tgt wt:Int) (c m:TMD) (hm:Bnd m) (h:¬ (2≤m.1∧m.1≤7∧iw (m.1,wrap64 (rid+1),m.2.2))):F25 ((self,site,n,pat,rid,tgt,wt,false,c,()),m,())=some (NoP,1,(self,site,n,pat,rid,tgt,wt,false,c,()),()):=by
 have hr:=xE (m.1,wrap64 (rid+1),m.2.2) hm.1
 unfold F25
 simp only [cond_false,rU,Option.bind_some,hr]
 by_cases h2:gK m.1=0
 ·simp only [h2,decide_true,cond_true]
 ·have hn:¬ iw (m.1,wrap64 (rid+1),m.2.2):=fun hR=>by
   have:=fun h=>h2 (zi5.2 h)
   by_cases hk:2≤m.1∧m.1≤7
   ·exact h ⟨hk.1,hk.2,hR⟩
   ·exact this hk
  simp only [h2,decide_false,cond_false,dK hn,Bool.not_false,cond_true]
theorem Nb (self site n pat rid tgt wt:Int) (c m:TMD) (hm:Bnd m) (h:2≤m.1∧m.1≤7∧iw (m.1,wrap64 (rid+1),m.2.2)):F25 ((self,site,n,pat,rid,tgt,wt,false,c,()),m,()) =
  some ((self,wrap64 (wrap64 (4*site)+tgt),(m.1,wrap64 (rid+1),m.2.2),()),0,(self,site,n,pat,wrap64 (rid+1),tgt,0,true,(m.1,wrap64 (rid+1),m.2.2),()),()):=by
 have hr:=xE (m.1,wrap64 (rid+1),m.2.2) hm.1
 have hc:=Bf (m:=(m.1,wrap64 (rid+1),m.2.2)) hm.1 h.2.2 hm.2.1 hm.2.2
 have hcl:=FP _ hc
 have h2:¬ gK m.1=0:=fun e=>zi5.1 e ⟨h.1,h.2.1⟩
 unfold F25
 simp only [cond_false,rU,Option.bind_some,hr,h2,decide_false,dL h.2.2,Bool.not_true]
 refine aU hcl ?_
 exact aU (Fj _ _ _ _ _ _ _ _ _ hc) rfl
theorem zej (r:Int) (h:bJ r):iw (7,r,iU,jc,0,[],[],0,0,0,0,iR,[],[],false,eQ,gu,()):=⟨⟨by show (1:Int)≤7;decide,by show (7:Int)≤12;decide⟩,rfl,by unfold yL nJ;simp [h]⟩
end Go.Proofs.YtpfjaaofpcbejaaGreat
