/-
 Plain laws of what lies below,as this seat reaches them (by a program of the bench: port.py).
-/
import Derived.Test.YtlegpimppfabgaaGreatRemcLawC
import Derived.Test.YtlegpimppfabgaaGreatSxS
namespace Go.Proofs.YtlegpimppfabgaaGreat
open Go.Sx Go Classical
set_option maxRecDepth 10000
abbrev CD:Type:=Int×Int×Int×Int×Int×Int×Int×Bool×TMD×Unit
abbrev PD:Type:=Int×Int×TMD×Unit
abbrev NoP:PD:=(0,0,NoT,())
def iq (k:Int):Int:=if k=2∨k=3 then 8 else if k=4 then 9 else if k=5 then 10 else if k=6 then 11 else if k=7 then 12 else 0
theorem uj (k:Int):F82 (k,())=some (iq k,()):=by
 by_cases h:2≤k∧k≤7
 ·have hk:k=2∨k=3∨k=4∨k=5∨k=6∨k=7:=by omega
  rcases hk with e|e|e|e|e|e<;>(subst e;rfl)
 ·have f:∀ n:Int,2≤n→n≤7→decide (k=n)=false:=fun n h1 h2=>decide_eq_false (by omega);have e:iq k=0:=by unfold iq;rw[if_neg (by omega),if_neg (by omega),if_neg (by omega),if_neg (by omega),if_neg (by omega)]
  unfold F82;simp only[e,f 2 (by omega) (by omega),f 3 (by omega) (by omega),f 4 (by omega) (by omega),f 5 (by omega) (by omega),f 6 (by omega) (by omega),f 7 (by omega) (by omega),cond_false]
theorem zdq {k:Int}:iq k=0↔¬ (2≤k∧k≤7):=by
 by_cases h:2≤k∧k≤7
 ·have hk:k=2∨k=3∨k=4∨k=5∨k=6∨k=7:=by omega
  rcases hk with e|e|e|e|e|e<;>(subst e;decide)
 ·have e:iq k=0:=by unfold iq;rw[if_neg (by omega),if_neg (by omega),if_neg (by omega),if_neg (by omega),if_neg (by omega)]
  exact⟨fun _=>h,fun _=>e⟩
theorem qP (k:Int):F47 (k,())=some (iq k,()):=by
 obtain⟨z,h1,h2⟩:=Yn k;rw[uj k] at h1;rw[h2,←h1]
theorem Ic (self site n pat rid tgt wt:Int) (o:Bool) (m:TMD) (h:xO m):F94 ((self,site,n,pat,rid,tgt,wt,o,m,()),())=some ((self,wrap64 (wrap64 (4*site)+tgt),m,()),(self,site,n,pat,rid,tgt,wt,o,m,()),()):=by
 unfold F94;exact aB (IE m h) rfl
def Bnd (m:TMD):Prop:=ShT m∧m.2.2.2.1.2.2.1.2.2.2.2.2.2.2.2.2.2.2.2.2.2.2.1.length≤2000000000000∧m.2.2.2.2.2.2.2.2.2.2.2.2.2.2.2.1.2.2.1.length≤2000000000000
theorem zbG (self site n pat rid tgt wt:Int) (c m:TMD) (hm:Bnd m) (h:¬ (2≤m.1∧m.1≤7∧eX (m.1,wrap64 (rid+1),m.2.2))):F70 ((self,site,n,pat,rid,tgt,wt,false,c,()),m,())=some (NoP,1,(self,site,n,pat,rid,tgt,wt,false,c,()),()):=by
 have hr:=yu (m.1,wrap64 (rid+1),m.2.2) hm.1;unfold F70;simp only[cond_false,uj,Option.bind_some,hr];by_cases h2:iq m.1=0
 ·simp only[h2,decide_true,cond_true]
 ·have hn:¬ eX (m.1,wrap64 (rid+1),m.2.2):=fun hR=>by
   have:=fun h=>h2 (zdq.2 h);by_cases hk:2≤m.1∧m.1≤7
   ·exact h ⟨hk.1,hk.2,hR⟩
   ·exact this hk
  simp only[h2,decide_false,cond_false,dA hn,Bool.not_false,cond_true]
theorem Qj (self site n pat rid tgt wt:Int) (c m:TMD) (hm:Bnd m) (h:2≤m.1∧m.1≤7∧eX (m.1,wrap64 (rid+1),m.2.2)):F70 ((self,site,n,pat,rid,tgt,wt,false,c,()),m,()) =
  some ((self,wrap64 (wrap64 (4*site)+tgt),(m.1,wrap64 (rid+1),m.2.2),()),0,(self,site,n,pat,wrap64 (rid+1),tgt,0,true,(m.1,wrap64 (rid+1),m.2.2),()),()):=by
 have hr:=yu (m.1,wrap64 (rid+1),m.2.2) hm.1;have hc:=Ib (m:=(m.1,wrap64 (rid+1),m.2.2)) hm.1 h.2.2 hm.2.1 hm.2.2;have hcl:=IE _ hc;have h2:¬ iq m.1=0:=fun e=>zdq.1 e ⟨h.1,h.2.1⟩;unfold F70;simp only[cond_false,uj,Option.bind_some,hr,h2,decide_false,bK h.2.2,Bool.not_true];refine aB hcl ?_;exact aB (Ic _ _ _ _ _ _ _ _ _ hc) rfl
end Go.Proofs.YtlegpimppfabgaaGreat
