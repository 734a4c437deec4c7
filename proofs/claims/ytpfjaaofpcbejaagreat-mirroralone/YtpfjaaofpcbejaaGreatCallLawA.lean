/-
 Plain laws of what lies below,as this seat reaches them (by a program of the bench: port.py).
-/
import Derived.Test.YtpfjaaofpcbejaaGreatTalkLawE
import Derived.Test.YtpfjaaofpcbejaaGreatSxS
namespace Go.Proofs.YtpfjaaofpcbejaaGreat
open Go.Sx Go Classical
set_option maxRecDepth 10000
abbrev CD:Type:=Int×Int×Int×Int×Int×Int×Int×Bool×TMD×Unit
abbrev PD:Type:=Int×Int×TMD×Unit
abbrev NoP:PD:=(0,0,NoT,())
def MayC (self site n pat rid:Int):Prop:=8≤self∧self≤15∧0≤site∧site≤1∧1≤n∧n≤3∧1≤pat∧pat≤100∧0≤rid∧rid≤549755813888
theorem zpM {self site n pat rid:Int} (h:MayC self site n pat rid):F21 (self,site,n,pat,rid,())=some ((true,self,site,n,pat,rid,0,0,false,NoT,()),0,()):=by
 unfold MayC at h
 have f:∀ {p:Prop} [Decidable p],¬ p→decide p=false:=fun h=>decide_eq_false h
 unfold F21
 simp only [f (show ¬ self < 8 by omega),f (show ¬ (15:Int) < self by omega),f (show ¬ site < 0 by omega),f (show ¬ (1:Int) < site by omega),f (show ¬ n < 1 by omega),f (show ¬ (3:Int) < n by omega),f (show ¬ pat < 1 by omega),f (show ¬ (100:Int) < pat by omega),f (show ¬ rid < 0 by omega),f (show ¬ (549755813888:Int) < rid by omega),cond_false]
def ansT (k:Int):Int:=if k=2∨k=3 then 8 else if k=4 then 9 else if k=5 then 10 else if k=6 then 11 else if k=7 then 12 else 0
theorem zg0 (k:Int):F47 (k,())=some (ansT k,()):=by
 by_cases h:2≤k∧k≤7
 ·have hk:k=2∨k=3∨k=4∨k=5∨k=6∨k=7:=by omega
  rcases hk with e | e | e | e | e | e <;> (subst e;rfl)
 ·have f:∀ n:Int,2≤n→n≤7→decide (k=n)=false:=fun n h1 h2=>decide_eq_false (by omega)
  have e:ansT k=0:=by unfold ansT;rw [if_neg (by omega),if_neg (by omega),if_neg (by omega),if_neg (by omega),if_neg (by omega)]
  unfold F47
  simp only [e,f 2 (by omega) (by omega),f 3 (by omega) (by omega),f 4 (by omega) (by omega),f 5 (by omega) (by omega),f 6 (by omega) (by omega),f 7 (by omega) (by omega),cond_false]
theorem zyl {k:Int}:ansT k=0↔¬ (2≤k∧k≤7):=by
 by_cases h:2≤k∧k≤7
 ·have hk:k=2∨k=3∨k=4∨k=5∨k=6∨k=7:=by omega
  rcases hk with e | e | e | e | e | e <;> (subst e;decide)
 ·have e:ansT k=0:=by unfold ansT;rw [if_neg (by omega),if_neg (by omega),if_neg (by omega),if_neg (by omega),if_neg (by omega)]
  exact⟨fun _=>h,fun _=>e⟩
theorem zku (k:Int):F55 (k,())=some (ansT k,()):=by
 obtain⟨z,h1,h2⟩:=zk6 k
 rw [zg0 k] at h1
 rw [h2,←h1]
theorem zgo (self site n pat rid tgt wt:Int) (o:Bool) (m:TMD) (h:CapT m):F42 ((self,site,n,pat,rid,tgt,wt,o,m,()),())=some ((self,wrap64 (wrap64 (4*site)+tgt),m,()),(self,site,n,pat,rid,tgt,wt,o,m,()),()):=by
 unfold F42
 exact zar (zgQ m h) rfl
def Bnd (m:TMD):Prop:=ShT m∧m.2.2.2.1.2.2.1.2.2.2.2.2.2.2.2.2.2.2.2.2.2.2.1.length≤2000000000000∧m.2.2.2.2.2.2.2.2.2.2.2.2.2.2.2.1.2.2.1.length≤2000000000000
theorem ztS (self site n pat rid tgt wt:Int) (c m:TMD) (hm:Bnd m) (h:¬ (2≤m.1∧m.1≤7∧zb3 (m.1,wrap64 (rid+1),m.2.2))):F25 ((self,site,n,pat,rid,tgt,wt,false,c,()),m,())=some (NoP,1,(self,site,n,pat,rid,tgt,wt,false,c,()),()):=by
 have hr:=zdO (m.1,wrap64 (rid+1),m.2.2) hm.1
 unfold F25
 simp only [cond_false,zg0,Option.bind_some,hr]
 by_cases h2:ansT m.1=0
 ·simp only [h2,decide_true,cond_true]
 ·have hn:¬ zb3 (m.1,wrap64 (rid+1),m.2.2):=fun hR=>by
   have:=fun h=>h2 (zyl.2 h)
   by_cases hk:2≤m.1∧m.1≤7
   ·exact h ⟨hk.1,hk.2,hR⟩
   ·exact this hk
  simp only [h2,decide_false,cond_false,zaE hn,Bool.not_false,cond_true]
theorem zj0 (self site n pat rid tgt wt:Int) (c m:TMD) (hm:Bnd m) (h:2≤m.1∧m.1≤7∧zb3 (m.1,wrap64 (rid+1),m.2.2)):F25 ((self,site,n,pat,rid,tgt,wt,false,c,()),m,()) =
  some ((self,wrap64 (wrap64 (4*site)+tgt),(m.1,wrap64 (rid+1),m.2.2),()),0,(self,site,n,pat,wrap64 (rid+1),tgt,0,true,(m.1,wrap64 (rid+1),m.2.2),()),()):=by
 have hr:=zdO (m.1,wrap64 (rid+1),m.2.2) hm.1
 have hc:=zeK (m:=(m.1,wrap64 (rid+1),m.2.2)) hm.1 h.2.2 hm.2.1 hm.2.2
 have hcl:=zgQ _ hc
 have h2:¬ ansT m.1=0:=fun e=>zyl.1 e ⟨h.1,h.2.1⟩
 unfold F25
 simp only [cond_false,zg0,Option.bind_some,hr,h2,decide_false,zaN h.2.2,Bool.not_true]
 refine zar hcl ?_
 exact zar (zgo _ _ _ _ _ _ _ _ _ hc) rfl
theorem zpS (r:Int) (h:za7 r):zb3 (7,r,zd2,zef,0,[],[],0,0,0,0,zbH,[],[],false,zbq,zbM,()):=⟨⟨by show (1:Int)≤7;decide,by show (7:Int)≤12;decide⟩,rfl,by unfold zqY zhk;simp [h]⟩
end Go.Proofs.YtpfjaaofpcbejaaGreat
