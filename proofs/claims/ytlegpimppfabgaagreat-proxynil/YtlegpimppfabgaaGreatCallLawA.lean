/-
 Plain laws of what lies below,as this seat reaches them (by a program of the bench: port.py).
-/
import Derived.Test.YtlegpimppfabgaaGreatRemcLawC
import Derived.Test.YtlegpimppfabgaaGreatSxS
namespace Go.Proofs.YtlegpimppfabgaaGreat
open Go.Sx Go Classical
set_option maxRecDepth 10000
abbrev CD:Type:=Int×Int×Int×Int×Int×Int×Int×Bool×TMD×Unit
abbrev PD:Type:=Int×Int×TMD×Unit
def qN (k:Int):Int:=if k=2∨k=3 then 8 else if k=4 then 9 else if k=5 then 10 else if k=6 then 11 else if k=7 then 12 else 0
theorem zeT (k:Int):F82 (k,())=some (qN k,()):=by
 by_cases h:2≤k∧k≤7
 ·have hk:k=2∨k=3∨k=4∨k=5∨k=6∨k=7:=by omega
  rcases hk with e | e | e | e | e | e <;> (subst e;rfl)
 ·have f:∀ n:Int,2≤n→n≤7→decide (k=n)=false:=fun n h1 h2=>decide_eq_false (by omega)
  have e:qN k=0:=by unfold qN;rw [if_neg (by omega),if_neg (by omega),if_neg (by omega),if_neg (by omega),if_neg (by omega)]
  unfold F82
  simp only [e,f 2 (by omega) (by omega),f 3 (by omega) (by omega),f 4 (by omega) (by omega),f 5 (by omega) (by omega),f 6 (by omega) (by omega),f 7 (by omega) (by omega),cond_false]
theorem zeV {k:Int}:qN k=0↔¬ (2≤k∧k≤7):=by
 by_cases h:2≤k∧k≤7
 ·have hk:k=2∨k=3∨k=4∨k=5∨k=6∨k=7:=by omega
  rcases hk with e | e | e | e | e | e <;> (subst e;decide)
 ·have e:qN k=0:=by unfold qN;rw [if_neg (by omega),if_neg (by omega),if_neg (by omega),if_neg (by omega),if_neg (by omega)]
  exact⟨fun _=>h,fun _=>e⟩
theorem zbl (self site n pat rid tgt wt:Int) (o:Bool) (m:TMD) (h:Hy m):F94 ((self,site,n,pat,rid,tgt,wt,o,m,()),())=some ((self,wrap64 (wrap64 (4*site)+tgt),m,()),(self,site,n,pat,rid,tgt,wt,o,m,()),()):=by
 unfold F94
 exact aS (Kv m h) rfl
def Bnd (m:TMD):Prop:=ShT m∧m.2.2.2.1.2.2.1.2.2.2.2.2.2.2.2.2.2.2.2.2.2.2.1.length≤2000000000000∧m.2.2.2.2.2.2.2.2.2.2.2.2.2.2.2.1.2.2.1.length≤2000000000000
theorem zbP (self site n pat rid tgt wt:Int) (c m:TMD) (hm:Bnd m) (h:2≤m.1∧m.1≤7∧sW (m.1,wrap64 (rid+1),m.2.2)):F70 ((self,site,n,pat,rid,tgt,wt,false,c,()),m,()) =
  some ((self,wrap64 (wrap64 (4*site)+tgt),(m.1,wrap64 (rid+1),m.2.2),()),0,(self,site,n,pat,wrap64 (rid+1),tgt,0,true,(m.1,wrap64 (rid+1),m.2.2),()),()):=by
 have hr:=ZI (m.1,wrap64 (rid+1),m.2.2) hm.1
 have hc:=ZU (m:=(m.1,wrap64 (rid+1),m.2.2)) hm.1 h.2.2 hm.2.1 hm.2.2
 have hcl:=Kv _ hc
 have h2:¬ qN m.1=0:=fun e=>zeV.1 e ⟨h.1,h.2.1⟩
 unfold F70
 simp only [cond_false,zeT,Option.bind_some,hr,h2,decide_false,dV h.2.2,Bool.not_true]
 refine aS hcl ?_
 exact aS (zbl _ _ _ _ _ _ _ _ _ hc) rfl
end Go.Proofs.YtlegpimppfabgaaGreat
