/-
 Plain laws of what lies below,as this seat reaches them (by a program of the bench: port.py).
-/
import Derived.Test.YteebpcpkhojfkaaGreatCmdLawI
import Derived.Test.YteebpcpkhojfkaaGreatSxS
namespace Go.Proofs.YteebpcpkhojfkaaGreat
open Go.Sx Go Classical
set_option maxRecDepth 10000
noncomputable def jV (r:dG):dG:=bif dec' (iH r) then r else gY
theorem JC {r:dG} (h:iH r):jV r=r:=by unfold jV;rw[bP h];rfl
theorem zF {x:aO} (h:iK x):qC x:=⟨.inr h.1,.inr h.2⟩
theorem PE (r:dG):(∀ x∈(jV r).2.2.2.2.1,qC x)∧(jV r).2.2.2.2.1.length≤8:=by
 unfold jV;by_cases h:iH r
 ·rw[bP h];obtain⟨-,-,-,-,-,-,-,h1,h2⟩:=h;exact⟨fun x hx=>zF (h2 x hx),h1⟩
 ·rw[bU h];exact⟨fun x hx=>by simp[gY] at hx,by simp[gY]⟩
theorem QY (a1 a2:Int) (a3:Bool) (a4:Int) (a5:List aO) (a6 a7:Int):qG (a1,a2,a3,a4,a5,a6,a7,())=bG a1++ak a2++je a3++ak a4++lI a5++bG a6++ak a7:=by
 simp only[qG,aF,dQ,List.append_nil,List.append_assoc]
theorem Qd (r:dG):(qG r).length=27+(lI r.2.2.2.2.1).length:=by
 obtain⟨a1,a2,a3,a4,a5,a6,a7,⟨⟩⟩:=r;rw[QY];simp only[List.length_append,kJ,bu,fK];omega
theorem Dy (r:dG):(qG (jV r)).length≤2000:=by
 obtain⟨h1,h2⟩:=PE r;have h3:=wL (jV r).2.2.2.2.1;rw[uF h1] at h3;rw[Qd];omega
theorem OO (r:dG) (hr:zX r):F57 (r,())=some (qG (jV r),()):=by
 unfold F57;have e:(Option.bind (F40 (r,())) fun b=>bif !b.fst then some (Sum.inl (0,0,false,0,[],0,0,())) else some (Sum.inl r):Option (dG⊕aA))=some (Sum.inl (jV r)):=by rw[IZ r hr];unfold jV;cases dec' (iH r)<;>rfl
 have hn:=PE r;have hs:∀ x∈(jV r).2.2.2.2.1,St x.1:=by
  unfold jV;by_cases h:iH r
  ·rw[bP h];exact hr.2
  ·rw[bU h];exact fun x hx=>by simp[gY] at hx
 have h:=Dy r;rw[Qd] at h;simp only[e,Option.bind_some,Sum.elim_inl];generalize jV r=w at *;obtain⟨a1,a2,a3,a4,a5,a6,a7,⟨⟩⟩:=w;have hi:jl a5=lI a5:=uF hn.1;have hn2:a5.length≤8:=hn.2;simp only at h;rw[←hi] at h;simp only[ja [a2] (by simp),ja [a4] (by simp),ja [a7] (by simp),zA,OT a5 (show Sh a5 by unfold Sh;omega) hs (by unfold Big;omega),Option.bind_some];rw[lF _ (by simp[Sh]) (by simp only[List.flatMap_cons,List.flatMap_nil,List.length_append,bu,fK,List.length_nil,List.length_cons,id];unfold Big;omega)];rw[hi,QY];simp only[Option.bind_some,List.flatMap_cons,List.flatMap_nil,List.append_nil,id,List.append_assoc,bG,vJ]
noncomputable abbrev qF (s:aW):List UInt8:=ak s.1++ak s.2.1++qG (jV s.2.2.1)
noncomputable def nO (l:List aW):List UInt8:=countB l.length++l.flatMap qF
abbrev uP (l:dm):List UInt8:=ak l.1++ak l.2.1++ak l.2.2.1
theorem Qu (l:List dm):nG l=countB l.length++l.flatMap uP:=by
 unfold nG iO;congr 1
theorem QP (l:List aW):(nO l).length≤4+l.length*2016:=by
 unfold nO;have:=qm (l:=l) (e:=qF) (n:=2016) (fun s _=>by have:=Dy s.2.2.1;unfold qF;simp only[List.length_append,bu];omega);rw[List.length_append,kG];omega
theorem PH (l:List dm):(nG l).length≤4+l.length*24:=by
 rw[Qu,List.length_append,kG];have:=qm (l:=l) (e:=uP) (n:=24) (fun s _=>by unfold uP;simp only[List.length_append,bu];omega);omega
theorem DU {l:List aW} (h:∀ s∈l,iH s.2.2.1):nO l=sK l:=by
 unfold nO sK iO;congr 1;exact Iz fun x hx=>by simp only[qF,aF,dQ,List.append_nil,List.append_assoc,JC (h x hx)]
theorem OI (s:List aW) (l:List dm) (hs:Am s) (hl:Sh l) (h:(nO s).length+(nG l).length≤Big):CE (s,l,())=some (nO s++nG l,()):=by
 rw[Qu] at h ⊢;unfold nO at *;rw[List.length_append,List.length_append] at h;unfold CE;simp only[uD,Option.bind_some];refine oL s hs.1 qF (countB s.length) (fun i d=>(d,(i:Int),())) (by omega) (fun i v d hi hv hd=> ?_) ?_
 ·have hi':i<9223372036854775807:=by have:=hs.1;unfold Sh at this;omega
  have hr:=hs.2 v (List.mem_of_getElem? hv);obtain⟨v1,v2,v3,⟨⟩⟩:=v;have hp:=OO v3 hr;simp only[qF,List.length_append,bu] at hd;have hj:=lF [d,[v1,v2].flatMap ak,qG (jV v3)] (by simp[Sh]) (by simp only[List.flatMap_cons,List.flatMap_nil,List.length_append,bu,List.length_nil,id];omega);simp only[aB,hi,decide_true,cond_true,aP,hv,Option.bind_some,ja [v1,v2] (by simp),hp,hj,aT hi'];simp only[qF,List.append_assoc,List.flatMap_cons,List.flatMap_nil,List.append_nil,id]
 ·simp only[aB,Nat.lt_irrefl,decide_false,cond_false];generalize hd:countB s.length++List.flatMap qF s=d;have hdl:d.length=(countB s.length).length+(List.flatMap qF s).length:=by rw[←hd,List.length_append]
  refine(congrArg (Option.map Sum.inr) (?_:_=some (d++(countB l.length++l.flatMap uP),()))).trans rfl;have hj:=lF [d,countB l.length] (by simp[Sh]) (by simp only[List.flatMap_cons,List.flatMap_nil,List.length_append,List.length_nil,id];omega);simp only[hj,Option.bind_some];refine oL l hl uP ([d,countB l.length].flatMap id) (fun i d=>(d,(i:Int),())) (by simp only[List.flatMap_cons,List.flatMap_nil,List.length_append,List.length_nil,id];omega) (fun i v d hi hv hd=> ?_) ?_
  ·have hi':i<9223372036854775807:=by unfold Sh at hl;omega
   obtain⟨v1,v2,v3,⟨⟩⟩:=v;simp only[uP,List.length_append,bu] at hd;have hj:=lF [d,[v1,v2,v3].flatMap ak] (by simp[Sh]) (by simp only[List.flatMap_cons,List.flatMap_nil,List.length_append,bu,List.length_nil,id];omega);simp only[aB,hi,decide_true,cond_true,aP,hv,Option.bind_some,ja [v1,v2,v3] (by simp),hj,aT hi'];simp only[uP,List.append_assoc,List.flatMap_cons,List.flatMap_nil,List.append_nil,id]
  ·simp only[aB,Nat.lt_irrefl,decide_false,cond_false,List.flatMap_cons,List.flatMap_nil,List.append_nil,id,List.append_assoc]
end Go.Proofs.YteebpcpkhojfkaaGreat
