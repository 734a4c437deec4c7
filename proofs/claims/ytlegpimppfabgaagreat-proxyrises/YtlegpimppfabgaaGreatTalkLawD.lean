/-
 Plain laws of what lies below,as this seat reaches them (by a program of the bench: port.py).
-/
import Derived.Test.YtlegpimppfabgaaGreatTalkLawC
import Derived.Test.YtlegpimppfabgaaGreatSxS
namespace Go.Proofs.YtlegpimppfabgaaGreat
open Go.Sx Go Classical
set_option maxRecDepth 10000
abbrev NoT:TMD:=(0,0,jW,gI,0,[],[],0,0,0,0,dX,[],[],false,gZ,jT,())
theorem zcl (m:TMD) (hm:ShT m) (hs:m.2.2.2.2.2.2.2.2.2.2.2.2.2.2.2.1.2.2.1.length≤1800000000000):∃ z,F27 (m,())=some (z,())∧(z=true→m.2.2.2.2.2.2.2.2.2.2.2.2.2.2.2.1.2.2.1.length≤20∧m.2.2.2.1.2.2.1.2.2.2.2.2.2.2.2.2.2.2.2.2.2.2.1.length≤20):=by
 obtain⟨h1,h2,h3,⟨h4,h4'⟩,h5,h6⟩:=hm;obtain⟨k,rid,raft,⟨j1,j2,j3,⟨⟩⟩,cl,fr,en,rev,most,err,hint,rep,bat,its,done,⟨d1,d2,d3,d4,⟨⟩⟩,mov,⟨⟩⟩:=m;dsimp only at hs h1 h2 h3 h4 h4' h5 h6;have z:∀ {α:Type},Sh ([]:List α):=fun{_}=>by simp[Sh]
 have zS:ShS []:=⟨z,fun s hs=>by simp at hs⟩
 have hI:∀ l:List aX,Sh l→∃ z,F28 ((0,[],[],[],0,0,0,[],[],[],0,0,0,false,l,[],[],()),())=some (z,()):=fun l hl=>by obtain⟨z,hz,-⟩:=Dv (0,[],[],[],0,0,0,[],[],[],0,0,0,false,l,[],[],()) ⟨z,z,z,hl,zS,z⟩;exact⟨z,hz⟩
 unfold F27;refine Ut (Q:=fun r=>r.1=true→d3.length≤20∧j3.2.2.2.2.2.2.2.2.2.2.2.2.2.2.2.1.length≤20) (tJ bat h4 _ (fun n i v hi hv=> ?_) (fun n=> ?_) _) (fun z hz=>hz)
 ·have ok:wrap64 ((i:Int)+1)=((i+1:Nat):Int):=aP (by unfold Sh at h4;omega);obtain⟨q,hq⟩:=hI v.2.1 (h4' v (List.mem_of_getElem? hv));simp only[ax,hi,decide_true,cond_true,aI,hv,Option.bind_some,ok,hq];by_cases c:(400:Int)<wrap64 (wrap64 (n+1)+Int.ofNat v.2.1.length)
  ·rw[decide_eq_true c];exact .inr ⟨_,rfl,fun h=>by cases h⟩
  ·rw[decide_eq_false c];cases q with
   | true=>exact .inl ⟨_,rfl⟩
   | false=>exact .inr ⟨_,rfl,fun h=>by cases h⟩
 ·simp only[ax,Nat.lt_irrefl,decide_false,cond_false];refine y8 ?_;obtain⟨b1,e1⟩:=zcm raft h1;obtain⟨b2,e2,e2'⟩:=Dv j3 h2;obtain⟨b3,e3⟩:=hI its h5;have ea:oZ [((0:Int),(0:Int),rep,())] d3=some ([(0,0,rep,())]++d3):=Su (by simp only[List.length_cons,List.length_nil];omega);obtain⟨b4,e4,e4'⟩:=Dv (0,[],[],[],0,0,0,[],[],[],0,0,0,false,[],[(0,0,rep,())]++d3,d4,()) ⟨z,z,z,z,⟨by simp[Sh];omega,fun s hs=>by
   rcases List.mem_append.1 hs with h|h
   ·rw[List.mem_singleton.1 h];exact h3
   ·exact h6.1.2 s h⟩,h6.2⟩
  simp only[e1,e2,e3,ea,e4,Option.bind_some];cases b1 with
  | false=>exact⟨_,rfl,fun h=>by cases h⟩
  | true=>
   cases b2 with
   | false=>exact⟨_,rfl,fun h=>by cases h⟩
   | true=>
    cases b3 with
    | false=>exact⟨_,rfl,fun h=>by cases h⟩
    | true=>
     cases b4 with
     | false=>exact⟨_,rfl,fun h=>by cases h⟩
     | true=>refine⟨_,rfl,fun _=>⟨?_,e2' rfl⟩⟩;have:=e4' rfl;simp only[List.length_append,List.length_cons,List.length_nil] at this;omega
theorem Yn (k:Int):∃ z,F82 (k,())=some (z,())∧F47 (k,())=some (z,()):=by
 by_cases h:0≤k∧k≤12
 ·have hk:k=0∨k=1∨k=2∨k=3∨k=4∨k=5∨k=6∨k=7∨k=8∨k=9∨k=10∨k=11∨k=12:=by omega
  rcases hk with e|e|e|e|e|e|e|e|e|e|e|e|e<;>(subst e;exact⟨_,rfl,rfl⟩)
 ·have f:∀ n:Int,0≤n→n≤12→decide (k=n)=false:=fun n h1 h2=>decide_eq_false (by omega);refine⟨0,?_,?_⟩
  ·unfold F82;simp only[f 2 (by omega) (by omega),f 3 (by omega) (by omega),f 4 (by omega) (by omega),f 5 (by omega) (by omega),f 6 (by omega) (by omega),f 7 (by omega) (by omega),cond_false]
  ·have hm:dM 0 (dY k 12)=0∨dM 0 (dY k 12)=12:=by
    unfold dM dY;by_cases h1:k<0
    ·have a1:decide ((12:Int)<k)=false:=decide_eq_false (by omega);have a2:decide ((0:Int)<k)=false:=decide_eq_false (by omega);simp only[a1,cond_false,a2,true_or]
    ·have a1:decide ((12:Int)<k)=true:=decide_eq_true (by omega);simp only[a1,cond_true];exact .inr (by decide)
   unfold F47;rcases hm with hm|hm<;>(simp only[hm];rfl)
theorem szT {m:TMD} (h:gJ TM m):SzT m:=by
 obtain⟨k,rid,raft,⟨j1,j2,j3,⟨⟩⟩,cl,fr,en,rev,most,err,hint,rep,bat,its,done,hand,mov,⟨⟩⟩:=m;obtain⟨-,-,f3,⟨-,-,f4,-⟩,-,f6,f7,-,-,-,-,f12,f13,f14,-,f16,f17,-⟩:=h;have hC:=DC f4;have hH:=zcN f16;have hR:=Jh f12;have hI:∀ {l:List aX},gJ (.slice T70) l→mG l:=fun h=>⟨kQ h.1,fun x hx=>(h.2 x hx).1⟩
 exact⟨⟨kQ f3.2.2.2.2.2.2.2.2.2.1.1,hC.1,hR.1,⟨kQ f13.1,fun b hb=>(hI (f13.2 b hb).2.1).1⟩,(hI f14).1,hH.2⟩,hC,f6,f7,hR,fun b hb=>hI (f13.2 b hb).2.1,hI f14,hH.1,zcM f17⟩
theorem Y2 {m:TMD} (h:kC TM m):m.2.2.2.2.2.2.2.2.2.2.2.2.2.2.2.1.2.2.1.length≤1800000000000:=zah h.2.2.2.2.2.2.2.2.2.2.2.2.2.2.2.1
theorem zcJ (m:TMD):F20 (m,())=some (m,()):=rfl
end Go.Proofs.YtlegpimppfabgaaGreat
