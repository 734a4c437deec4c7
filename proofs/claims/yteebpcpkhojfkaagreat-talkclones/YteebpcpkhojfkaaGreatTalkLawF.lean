/-
 Plain laws of what lies below,as this seat reaches them (by a program of the bench: port.py).
-/
import Derived.Test.YteebpcpkhojfkaaGreatTalkLawE
import Derived.Test.YteebpcpkhojfkaaGreatSxS
namespace Go.Proofs.YteebpcpkhojfkaaGreat
open Go.Sx Go Classical
set_option maxRecDepth 10000
theorem OH (l:List aO) (hl:Sh l) (hs:∀ x∈l,St x.1) (h:(jl l).length≤Big):F59 (l,())=some (jl l,()):=by
 unfold jl at *;rw[List.length_append] at h;unfold F59;simp only[uD,Option.bind_some];refine oL l hl (fun x=>lQ (iE x)) (countB l.length) (fun i d=>(d,(i:Int),())) (by omega) (fun i v d hi hv hd=> ?_) ?_
 ·have hi':i<9223372036854775807:=by unfold Sh at hl;omega
  simp only[aB,hi,decide_true,cond_true,aP,hv,Option.bind_some,O6 v (hs v (List.mem_of_getElem? hv)),mM (show d.length+(lQ (iE v)).length≤140737488355000 from hd),aT hi']
 ·simp only[aB,Nat.lt_irrefl,decide_false,cond_false]
theorem kH (l:List (List UInt8)) (hl:Sh l) (h:(l.flatMap id).length≤Big):F53 (l,())=some (l.flatMap id,()):=lF l hl h
abbrev xA:TBD→List UInt8:=aF ak (aF lI dQ)
abbrev xk:List TBD→List UInt8:=iO xA
noncomputable def Ej (h:dD):List UInt8:=bif dec' (h=dX) then je false else je true++AL h
noncomputable def AU (m:TMD):List UInt8:=
 if m.1=2 then aZ (pR m.2.2.2.1)
 else if m.1=3 then ak m.2.2.2.2.1++aZ m.2.2.2.2.2.1++aZ m.2.2.2.2.2.2.1++(ak m.2.2.2.2.2.2.2.1++ak m.2.2.2.2.2.2.2.2.1)
 else if m.1=4 then ak m.2.2.2.2.1++aZ m.2.2.2.2.2.1++aZ m.2.2.2.2.2.2.1++ak m.2.2.2.2.2.2.2.1
 else if m.1=5 then aZ m.2.2.2.2.2.1++aZ m.2.2.2.2.2.2.1++ak m.2.2.2.2.2.2.2.1
 else if m.1=6 then ak m.2.2.2.2.2.2.2.1
 else if m.1=8 then ak m.2.2.2.2.2.2.2.2.2.1++ak m.2.2.2.2.2.2.2.2.2.2.1++qG m.2.2.2.2.2.2.2.2.2.2.2.1
 else if m.1=9 then ak m.2.2.2.2.2.2.2.2.2.1++ak m.2.2.2.2.2.2.2.1++xk m.2.2.2.2.2.2.2.2.2.2.2.2.1
 else if m.1=10 then ak m.2.2.2.2.2.2.2.2.2.1++je m.2.2.2.2.2.2.2.2.2.2.2.2.2.2.1++lI m.2.2.2.2.2.2.2.2.2.2.2.2.2.1
 else if m.1=11 then ak m.2.2.2.2.2.2.2.2.2.1++Ej m.2.2.2.2.2.2.2.2.2.2.2.2.2.2.2.1
 else if m.1=12 then ak m.2.2.2.2.2.2.2.1++moveB m.2.2.2.2.2.2.2.2.2.2.2.2.2.2.2.2.1
 else[]
noncomputable def V6 (m:TMD):List UInt8:=bG m.1++(if m.1=1 then Bd m.2.2.1 else ak m.2.1++AU m)
theorem PT {l:List TBD} (h:rQ l):∀ b∈l,jl b.2.1=lI b.2.1∧b.2.1.length≤48:=fun b hb=>by
 obtain⟨i,hi,rfl⟩:=List.mem_iff_getElem.1 hb;have:=(h.1 i _ (List.getElem?_eq_getElem hi)).2.1;exact⟨uF fun x hx=>zF (this.2 x hx),by have:=this.1;omega⟩
theorem QE (b:TBD):xA b=ak b.1++lI b.2.1:=by
 simp only[xA,aF,dQ,List.append_nil]
theorem zaG (h:dD) (hh:h=dX∨lL h) (hs:h.2.2.1.length≤60000):(Ej h).length≤200000010:=by
 unfold Ej;by_cases c:h=dX
 ·rw[bP c];simp only[cond_true,fK];omega
 ·rw[bU c];have:=I7 h hs;rw[SX (hh.resolve_left c)] at this;simp only[cond_false,List.length_append,fK];omega
theorem ZW {l:List TBD} (h:rQ l):(xk l).length≤4+l.length*9700:=by
 have:=qm (l:=l) (e:=xA) (n:=9700) (fun b hb=>by obtain⟨h1,h2⟩:=PT h b hb;have h3:=wL b.2.1;rw[QE,List.length_append,bu,←h1];omega);unfold xk iO;rw[List.length_append,kG];omega
theorem zbY {m:TMD} (hR:mQ m) (hs:m.2.2.2.1.2.2.1.2.2.2.2.2.2.2.2.2.2.2.2.2.2.2.1.length≤60000) (hh:m.2.2.2.2.2.2.2.2.2.2.2.2.2.2.2.1.2.2.1.length≤60000):(AU m).length≤300000000:=by
 obtain⟨hk,hp,hK⟩:=hR;obtain⟨k,rid,raft,job,cl,fr,en,rev,most,err,hint,rep,bat,its,done,hand,mov,⟨⟩⟩:=m;dsimp only at hs hh;rcases qy hk.1 hk.2 with e|e|e|e|e|e|e|e|e|e|e|e<;>(dsimp only at e;subst e) <;>
  (unfold vN mZ at hK;simp only[Int.reduceEq,false_and,true_and,false_or,or_false] at hK;unfold AU;simp only[Int.reduceEq,if_true,if_false,List.length_append,bu,dZ,fK,List.length_nil])
 ·omega
 ·have hr:=QV hK.2.1 (show job.2.2.1.2.2.2.2.2.2.2.2.2.2.2.2.2.2.2.1.length≤60000 from hs);obtain⟨j1,j2,j3,⟨⟩⟩:=job;rw[JY];simp only[List.length_append,bu];have hr:(vW j3).length≤200000000:=hr;omega
 ·have h1:=(zo hK.2.2.2.1).len;have h2:=wS hK.2.2.2.1;omega
 ·have h1:=(zo hK.2.2.2.1).len;have h2:=wS hK.2.2.2.1;omega
 ·have h1:=hK.2.1.2.len;have h2:=Eh hK.2.2.1;omega
 ·omega
 ·omega
 ·have:=Dy rep;rw[JC hK.2.2.2.2.2] at this;omega
 ·have:=ZW hK.2.2.2.2.2;have:=hK.2.2.2.2.2.2;omega
 ·have h1:=wL its;rw[uF fun x hx=>zF (hK.2.2.2.2 x hx)] at h1;have:=hK.2.2.2.1;omega
 ·have:=zaG hand hK.2.2.2 hh;omega
 ·have:=I5 mov;rw[SS hK.2.2] at this;omega
end Go.Proofs.YteebpcpkhojfkaaGreat
