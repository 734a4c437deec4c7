/-
 Plain laws of what lies below,as this seat reaches them (by a program of the bench: port.py).
-/
import Derived.Test.YtlegpimppfabgaaGreatTalkLawC
import Derived.Test.YtlegpimppfabgaaGreatSxS
namespace Go.Proofs.YtlegpimppfabgaaGreat
open Go.Sx Go Classical
set_option maxRecDepth 10000
abbrev NoT:TMD:=(0,0,jo,jJ,0,[],[],0,0,0,0,iF,[],[],false,gy,jG,())
theorem zd1 (m:TMD) (hm:ShT m) (hs:m.2.2.2.2.2.2.2.2.2.2.2.2.2.2.2.1.2.2.1.length≤1800000000000):∃ z,F27 (m,())=some (z,())∧(z=true→m.2.2.2.2.2.2.2.2.2.2.2.2.2.2.2.1.2.2.1.length≤20∧m.2.2.2.1.2.2.1.2.2.2.2.2.2.2.2.2.2.2.2.2.2.2.1.length≤20):=by
 obtain⟨h1,h2,h3,⟨h4,h4'⟩,h5,h6⟩:=hm
 obtain⟨k,rid,raft,⟨j1,j2,j3,⟨⟩⟩,cl,fr,en,rev,most,err,hint,rep,bat,its,done,⟨d1,d2,d3,d4,⟨⟩⟩,mov,⟨⟩⟩:=m
 dsimp only at hs h1 h2 h3 h4 h4' h5 h6
 have z:∀ {α:Type},Sh ([]:List α):=fun {_}=>by simp [Sh]
 have zS:ShS []:=⟨z,fun s hs=>by simp at hs⟩
 have hI:∀ l:List af,Sh l→∃ z,F28 ((0,[],[],[],0,0,0,[],[],[],0,0,0,false,l,[],[],()),())=some (z,()):=fun l hl=>by
  obtain⟨z,hz,-⟩:=zU (0,[],[],[],0,0,0,[],[],[],0,0,0,false,l,[],[],()) ⟨z,z,z,hl,zS,z⟩
  exact⟨z,hz⟩
 unfold F27
 refine Ol (Q:=fun r=>r.1=true→d3.length≤20∧j3.2.2.2.2.2.2.2.2.2.2.2.2.2.2.2.1.length≤20) (pM bat h4 _ (fun n i v hi hv=> ?_) (fun n=> ?_) _) (fun z hz=>hz)
 ·have ok:wrap64 ((i:Int)+1)=((i+1:Nat):Int):=bY (by unfold Sh at h4;omega)
  obtain⟨q,hq⟩:=hI v.2.1 (h4' v (List.mem_of_getElem? hv))
  simp only [aO,hi,decide_true,cond_true,aZ,hv,Option.bind_some,ok,hq]
  by_cases c:(400:Int) < wrap64 (wrap64 (n+1)+Int.ofNat v.2.1.length)
  ·rw [decide_eq_true c]
   exact .inr ⟨_,rfl,fun h=>by cases h⟩
  ·rw [decide_eq_false c]
   cases q with
   | true=>exact .inl ⟨_,rfl⟩
   | false=>exact .inr ⟨_,rfl,fun h=>by cases h⟩
 ·simp only [aO,Nat.lt_irrefl,decide_false,cond_false]
  refine wJ ?_
  obtain⟨b1,e1⟩:=zd2 raft h1
  obtain⟨b2,e2,e2'⟩:=zU j3 h2
  obtain⟨b3,e3⟩:=hI its h5
  have ea:mr [((0:Int),(0:Int),rep,())] d3=some ([(0,0,rep,())]++d3):=MN (by simp only [List.length_cons,List.length_nil];omega)
  obtain⟨b4,e4,e4'⟩:=zU (0,[],[],[],0,0,0,[],[],[],0,0,0,false,[],[(0,0,rep,())]++d3,d4,()) ⟨z,z,z,z,⟨by simp [Sh];omega,fun s hs=>by
   rcases List.mem_append.1 hs with h | h
   ·rw [List.mem_singleton.1 h];exact h3
   ·exact h6.1.2 s h⟩,h6.2⟩
  simp only [e1,e2,e3,ea,e4,Option.bind_some]
  cases b1 with
  | false=>exact⟨_,rfl,fun h=>by cases h⟩
  | true=>
   cases b2 with
   | false=>exact⟨_,rfl,fun h=>by cases h⟩
   | true=>
    cases b3 with
    | false=>exact⟨_,rfl,fun h=>by cases h⟩
    | true=>
     cases b4 with
     | false=>exact⟨_,rfl,fun h=>by cases h⟩
     | true=>
      refine⟨_,rfl,fun _=>⟨?_,e2' rfl⟩⟩
      have:=e4' rfl
      simp only [List.length_append,List.length_cons,List.length_nil] at this
      omega
theorem szT {m:TMD} (h:fE TM m):SzT m:=by
 obtain⟨k,rid,raft,⟨j1,j2,j3,⟨⟩⟩,cl,fr,en,rev,most,err,hint,rep,bat,its,done,hand,mov,⟨⟩⟩:=m
 obtain⟨-,-,f3,⟨-,-,f4,-⟩,-,f6,f7,-,-,-,-,f12,f13,f14,-,f16,f17,-⟩:=h
 have hC:=NJ f4
 have hH:=zel f16
 have hR:=Es f12
 have hI:∀ {l:List af},fE (.slice T70) l→zN l:=fun h=>⟨jk h.1,fun x hx=>(h.2 x hx).1⟩
 exact⟨⟨jk f3.2.2.2.2.2.2.2.2.2.1.1,hC.1,hR.1,⟨jk f13.1,fun b hb=>(hI (f13.2 b hb).2.1).1⟩,(hI f14).1,hH.2⟩,hC,f6,f7,hR,fun b hb=>hI (f13.2 b hb).2.1,hI f14,hH.1,zek f17⟩
theorem Zm {m:TMD} (h:iY TM m):m.2.2.2.2.2.2.2.2.2.2.2.2.2.2.2.1.2.2.1.length≤1800000000000:=zbB h.2.2.2.2.2.2.2.2.2.2.2.2.2.2.2.1
end Go.Proofs.YtlegpimppfabgaaGreat
