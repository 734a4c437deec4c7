/-
 Prox: a proxy's caller and the document's,side by side (MirrLawB,of any number and patience).
-/
import Derived.Test.YtlegpimppfabgaaGreatProxLawA
namespace Go.Proofs.YtlegpimppfabgaaGreat
open Go.Sx Go Classical
set_option maxRecDepth 10000
abbrev WD:Type:=Int×Int×Int×Int×Int×Int×Int×Bool×Bool×TMD×Unit
def qp (self pat k n r:Int) (o:Bool) (c:CD) (w:WD):Prop:=∃ tgt wt wt' now q q',c=(self,k,n,pat,r,tgt,wt,o,q,())∧w=(self,k,n,pat,r,tgt,wt',o,now,q',())∧(0≤tgt∧tgt<n)∧
 (o=true→q=q'∧ShT q∧xO q∧q.2.1=r∧(now=true→wt=pat)∧(now=false→wt=wt'∧0≤wt∧wt<pat))
theorem PW {self pat k n r:Int} {o:Bool} {c:CD} {w:WD} (h:qp self pat k n r o c w):F69 (c,())=some (o,c,())∧w.2.2.2.2.2.2.2.1=o:=by
 obtain⟨tgt,wt,wt',now,q,q',rfl,rfl,-⟩:=h;exact⟨rfl,rfl⟩
def ToC (k:Int) (p:PD) (r:Int):Prop:=∃ t,0≤t∧t<3∧p.2.1=wrap64 (wrap64 (4*k)+t)∧p.2.2.1.2.1=r
theorem Zp {self pat k n r:Int} {c:CD} {w:WD} (hpat:1≤pat∧pat≤100) (hn:1≤n∧n≤3) (h:qp self pat k n r true c w):∃ p ok c' w' out,F71 (c,())=some (p,ok,c',())∧F72 (w,())=some (w',out,())∧qp self pat k n r true c' w'∧(ok=true→ToC k p r)∧out.length≤1:=by
 obtain⟨tgt,wt,wt',now,q,q',rfl,rfl,ht,hI⟩:=h;obtain⟨rfl,h1,h2,hr,h3,h4⟩:=hI rfl;cases now with
 | true=>obtain rfl:=h3 rfl;have a1:=Zr self k n wt r tgt wt q (by rw[dW (by omega) (by omega)];omega) h2;have a2:=zaO self k n wt r tgt wt' q;exact⟨_,_,_,_,_,a1,a2,⟨tgt,0,0,false,q,q,rfl,rfl,ht,fun _=>⟨rfl,h1,h2,hr,(fun h=>by cases h),fun _=>⟨rfl,by omega,by omega⟩⟩⟩,fun _=>⟨tgt,ht.1,by omega,rfl,hr⟩,Nat.le_refl _⟩
 | false=>
  obtain⟨rfl,h5,h6⟩:=h4 rfl;have w1:wrap64 (wt+1)=wt+1:=dW (by omega) (by omega);by_cases h7:wt+1<pat
  ·have a1:=zaE self k n pat r tgt wt q (by rw[w1];exact h7);have a2:=ZK self k n pat r tgt wt q (by rw[w1];exact h7);exact⟨_,_,_,_,_,a1,a2,⟨tgt,wrap64 (wt+1),wrap64 (wt+1),false,q,q,rfl,rfl,ht,fun _=>⟨rfl,h1,h2,hr,(fun h=>by cases h),fun _=>⟨rfl,by rw[w1];omega,by rw[w1];omega⟩⟩⟩,(fun h=>by cases h),Nat.zero_le _⟩
  ·have a1:=zaF self k n pat r tgt wt q hn ht (by rw[w1];omega) h2;have a2:=ZL self k n pat r tgt wt q hn ht (by rw[w1];exact h7);have t1:0≤(tgt+1) % n:=Int.emod_nonneg _ (by omega);have t2:(tgt+1) % n<n:=Int.emod_lt_of_pos _ (by omega);exact⟨_,_,_,_,_,a1,a2,⟨(tgt+1) % n,0,0,false,q,q,rfl,rfl,⟨t1,t2⟩,fun _=>⟨rfl,h1,h2,hr,(fun h=>by cases h),fun _=>⟨rfl,by omega,by omega⟩⟩⟩,fun _=>⟨(tgt+1) % n,t1,by omega,rfl,hr⟩,Nat.le_refl _⟩
theorem zbF {self pat k n r:Int} {c:CD} {w:WD} {m:TMD} (hpat:1≤pat∧pat≤100) (hn:1≤n∧n≤3) (h:qp self pat k n r false c w) (hB:Bnd m) (zm:SzT m) :
  (∃ p c' w',F70 (c,m,())=some (p,0,c',())∧F73 (w,m,())=some (w',p,0,())∧qp self pat k n (wrap64 (r+1)) true c' w'∧ToC k p (wrap64 (r+1)))∨
  (F70 (c,m,())=some (NoP,1,c,())∧F73 (w,m,())=some (w,NoP,1,())):=by
 obtain⟨tgt,wt,wt',now,q,q',rfl,rfl,ht,-⟩:=h;by_cases h:2≤m.1∧m.1≤7∧eX (m.1,wrap64 (r+1),m.2.2)
 ·have a1:=Qj self k n pat r tgt wt q m hB h;have a2:=zb0 self k n pat r tgt wt' now q' m zm h;have sM:ShT (m.1,wrap64 (r+1),m.2.2):=zm.1;have cM:=Ib (m:=(m.1,wrap64 (r+1),m.2.2)) zm.1 h.2.2 hB.2.1 hB.2.2;exact .inl ⟨_,_,_,a1,a2,⟨tgt,0,0,false,_,_,rfl,rfl,ht,fun _=>⟨rfl,sM,cM,rfl,(fun h=>by cases h),fun _=>⟨rfl,by omega,by omega⟩⟩⟩,⟨tgt,ht.1,by omega,rfl,rfl⟩⟩
 ·have a1:=zbG self k n pat r tgt wt q m hB h;have a2:=zcS self k n pat r tgt wt' now q' m zm h;exact .inr ⟨a1,a2⟩
theorem zad {self pat k n r fr:Int} {o:Bool} {c:CD} {w:WD} {m:TMD} (hs:0≤k∧k≤1) (hn:1≤n∧n≤3) (h:qp self pat k n r o c w) (hB:Bnd m) (zm:SzT m) :
  (∃ c' w',F48 (c,fr,m,())=some (NoT,false,c',())∧F53 (w,fr,m,())=some (w',false,())∧qp self pat k n r o c' w')∨
  (o=true∧eX m∧8≤m.1∧∃ c' w',F48 (c,fr,m,())=some (m,true,c',())∧F53 (w,fr,m,())=some (w',true,())∧qp self pat k n r false c' w'):=by
 obtain⟨tgt,wt,wt',now,q,q',rfl,rfl,ht,hI⟩:=h;cases o with
 | false=>exact .inl ⟨_,_,zbn self k n pat r tgt wt fr q m,ZN self k n pat r tgt wt' fr now q' m,⟨tgt,wt,wt',now,q,q',rfl,rfl,ht,fun h=>by cases h⟩⟩
 | true=>
  obtain⟨rfl,h1,h2,hr,h3,h4⟩:=hI rfl;by_cases hH:uF k n r q.1 fr m
  ·by_cases h8:m.1=8∧m.2.2.2.2.2.2.2.2.2.1=14
   ·have a1:=zbo self k n pat r tgt wt fr q m hs hn ht zm.1 hH h8.1 h8.2;have a2:=ZO self k n pat r tgt wt' fr now q m hs hn ht zm hH h8.1 h8.2;exact .inl ⟨_,_,a1,a2,⟨_,pat,wt',true,q,q,rfl,rfl,za4 hn.1,fun _=>⟨rfl,h1,h2,hr,fun _=>rfl,fun h=>by cases h⟩⟩⟩
   ·have a1:=zcf self k n pat r tgt wt fr q m hs hn hB hH h8;have a2:=zaV self k n pat r tgt wt' fr now q m hs hn zm hH h8;refine .inr ⟨rfl,hH.2.2.2.2,?_,_,_,a1,a2,⟨tgt,wt,wt',now,q,q,rfl,rfl,ht,fun h=>by cases h⟩⟩;have e:=hH.2.2.2.1;have e1:=hH.2.2.2.2.1.1;by_cases hk:2≤q.1∧q.1≤7
    ·rcases ans_of hk with h|h|h|h|h<;>omega
    ·have:=zdq.2 hk;omega
  ·have a1:=zdf self k n pat r tgt wt fr q m hs hn zm.1 hH;have a2:=zbY self k n pat r tgt wt' fr now q m hs hn zm hH;exact .inl ⟨_,_,a1,a2,⟨tgt,wt,wt',now,q,q,rfl,rfl,ht,hI⟩⟩
end Go.Proofs.YtlegpimppfabgaaGreat
