/-
 Plain laws of what lies below,as this seat reaches them (by a program of the bench: port.py).
-/
import Derived.Test.YteebpcpkhojfkaaGreatTalkLawF
import Derived.Test.YteebpcpkhojfkaaGreatSxS
namespace Go.Proofs.YteebpcpkhojfkaaGreat
open Go.Sx Go Classical
set_option maxRecDepth 10000
theorem zdJ {x:dJ} (h:nV x):St x.2.2.2.2.1:=by
 rcases h.2.2.2 with h|h
 ·rw[h.2.2.1];simp
 ·exact Nat.le_trans h.2.2 (by omega)
theorem zbH {j:ji} (hz:yj j.2.2.1) (h:vO j) (hs:j.2.2.1.2.2.2.2.2.2.2.2.2.2.2.2.2.2.2.1.length≤60000):F46 (j,())=some (pR j,())∧(pR j).length≤200000016:=by
 have hl:=QV h.1 hs;have hJ:(pR j).length≤200000016:=by obtain⟨n,m,c,⟨⟩⟩:=j;rw[JY];simp only[List.length_append,bu];have hl:(vW c).length≤200000000:=hl;omega
 exact⟨bytes_eq j hz (Nat.le_trans (QU h.1) (by omega)) (fun x hx=>zdJ ((Ij h.1).1 x hx)) (Hz h.1) (by unfold Big;omega),hJ⟩
theorem zco:([UInt8.ofNat 1]:List UInt8)=bG 1:=rfl
theorem za6 (m:TMD) (hz:SzT m) (fh:fF T55 m.2.2.2.2.2.2.2.2.2.2.2.2.2.2.2.1) (hR:mQ m) (hs:m.2.2.2.1.2.2.1.2.2.2.2.2.2.2.2.2.2.2.2.2.2.2.1.length≤60000) (hh:m.2.2.2.2.2.2.2.2.2.2.2.2.2.2.2.1.2.2.1.length≤60000):F14 (m,())=some (V6 m,()):=by
 have hbl:=zbY hR hs hh;obtain⟨⟨z2,-,z3,⟨z4,z4'⟩,z5,z6⟩,zc,zf,ze,zr,zb,zi,zh,zm⟩:=hz;obtain⟨hk,hp,hK⟩:=hR;obtain⟨k,rid,raft,job,cl,fr,en,rev,most,err,hint,rep,bat,its,done,hand,mov,⟨⟩⟩:=m;dsimp only at hs hh z2 z3 z4 z4' z5 z6 zc zf ze zr zb zi zh zm fh;have nn:∀ (l:List Int),l.length≤1000→F55 (l,())=some (l.flatMap ak,()):=ja;rcases qy hk.1 hk.2 with e|e|e|e|e|e|e|e|e|e|e|e<;>(dsimp only at e;subst e) <;>
  (unfold vN mZ at hK;simp only[Int.reduceEq,false_and,true_and,false_or,or_false] at hK;unfold AU at hbl;unfold V6 AU;simp only[Int.reduceEq,if_true,if_false,List.length_append,bu,dZ,fK,List.length_nil] at hbl ⊢;unfold F14;simp only[Int.reduceEq,decide_true,decide_false,cond_true,cond_false])
 ·obtain⟨hO,hS⟩:=H5 z2 hK;have hl:=Td hO hS;simp only[zaR raft z2 hK,Option.bind_some];rw[kH _ (by simp[Sh]) (by simp only[List.flatMap_cons,List.flatMap_nil,List.length_append,List.length_nil,List.length_cons,id];unfold Big;omega)];simp only[Option.bind_some,List.flatMap_cons,List.flatMap_nil,List.append_nil,id,zco]
 all_goals
  simp(disch:=simp) only[nn,Option.bind_some,List.flatMap_cons,List.flatMap_nil,List.append_nil];rw[kH _ (by simp[Sh]) (by simp only[List.flatMap_cons,List.flatMap_nil,List.length_append,List.length_nil,List.length_cons,bu,id];unfold Big;omega)];simp only[Option.bind_some,iY fr zf,iY en ze,List.flatMap_cons,List.flatMap_nil,List.append_nil,id]
 ·obtain⟨j1,j2⟩:=zbH zc hK.2 hs;simp only[j1,Option.bind_some];rw[show F56 (pR job,())=some (aZ (pR job),()) from iY _ (by omega)];simp only[Option.bind_some];rw[kH _ (by simp[Sh]) (by simp only[List.flatMap_cons,List.flatMap_nil,List.length_append,List.length_nil,List.length_cons,bu,dZ,id];unfold Big;omega)];simp only[Option.bind_some,List.flatMap_cons,List.flatMap_nil,List.append_nil,id,List.append_assoc];rfl
 ·have q1:=(zo hK.2.2.2.1).len;have q2:=wS hK.2.2.2.1;rw[kH _ (by simp[Sh]) (by simp only[List.flatMap_cons,List.flatMap_nil,List.length_append,List.length_nil,List.length_cons,bu,dZ,fK,id];unfold Big;omega)];simp only[Option.bind_some,List.flatMap_cons,List.flatMap_nil,List.append_nil,id,List.append_assoc];rfl
 ·have q1:=(zo hK.2.2.2.1).len;have q2:=wS hK.2.2.2.1;rw[kH _ (by simp[Sh]) (by simp only[List.flatMap_cons,List.flatMap_nil,List.length_append,List.length_nil,List.length_cons,bu,dZ,fK,id];unfold Big;omega)];simp only[Option.bind_some,List.flatMap_cons,List.flatMap_nil,List.append_nil,id,List.append_assoc];rfl
 ·have q1:=hK.2.1.2.len;have q2:=Eh hK.2.2.1;rw[kH _ (by simp[Sh]) (by simp only[List.flatMap_cons,List.flatMap_nil,List.length_append,List.length_nil,List.length_cons,bu,dZ,fK,id];unfold Big;omega)];simp only[Option.bind_some,List.flatMap_cons,List.flatMap_nil,List.append_nil,id,List.append_assoc];rfl
 ·rw[kH _ (by simp[Sh]) (by simp only[List.flatMap_cons,List.flatMap_nil,List.length_append,List.length_nil,List.length_cons,bu,id];unfold Big;omega)];simp only[Option.bind_some,List.flatMap_cons,List.flatMap_nil,List.append_nil,id,List.append_assoc];rfl
 ·rfl
 ·have hn:=JC hK.2.2.2.2.2;have hl:=Dy rep;refine aK (OO rep zr) ?_;rw[hn] at hl ⊢;rw[kH _ (by simp[Sh]) (by simp only[List.flatMap_cons,List.flatMap_nil,List.length_append,List.length_nil,List.length_cons,bu,dZ,fK,id];unfold Big;omega)];simp only[Option.bind_some,List.flatMap_cons,List.flatMap_nil,List.append_nil,id,List.append_assoc];rfl
 ·have hb:=hK.2.2.2.2.2;have hbl2:(xk bat).length=(countB bat.length).length+(bat.flatMap xA).length:=by unfold xk iO;rw[List.length_append]
  simp only[uD,Option.bind_some];rw[kH _ (by simp[Sh]) (by simp only[List.flatMap_cons,List.flatMap_nil,List.length_append,List.length_nil,List.length_cons,bu,kG,id];unfold Big;omega)];simp only[Option.bind_some,List.flatMap_cons,List.flatMap_nil,List.append_nil,id];refine oL bat z4 xA _ (fun i d=>(d,(i:Int),())) (by simp only[List.length_append,List.length_cons,List.length_nil,bu,kG];rw[kG] at hbl2;unfold Big;omega) (fun i v d hi hv hd=> ?_) ?_
  ·have hi':i<9223372036854775807:=by unfold Sh at z4;omega
   have hm:=List.mem_of_getElem? hv;obtain⟨g1,g2⟩:=PT hb v hm;have g3:=wL v.2.1;rw[QE,←g1] at hd ⊢;simp only[List.length_append,bu] at hd;have hb1:F59 v.2=some (jl v.2.1,()):=OH v.2.1 (z4' v hm) (zb v hm).2 (by omega);simp only[aB,hi,decide_true,cond_true,aP,hv,Option.bind_some,hb1,nn [v.1] (by simp)];rw[kH _ (by simp[Sh]) (by simp only[List.flatMap_cons,List.flatMap_nil,List.length_append,List.length_nil,bu,id];omega)];simp only[Option.bind_some,List.flatMap_cons,List.flatMap_nil,List.append_nil,id,aT hi']
  ·simp only[aB,Nat.lt_irrefl,decide_false,cond_false,xk,iO,List.append_assoc];rfl
 ·have hi:=uF fun x hx=>zF (hK.2.2.2.2 x hx);have hl:=wL its;have hm:=hK.2.2.2.1;simp only[zA,Option.bind_some,OH its z5 zi.2 (by unfold Big;omega)];rw[hi] at hl ⊢;rw[kH _ (by simp[Sh]) (by simp only[List.flatMap_cons,List.flatMap_nil,List.length_append,List.length_nil,List.length_cons,bu,dZ,fK,id];unfold Big;omega)];simp only[Option.bind_some,List.flatMap_cons,List.flatMap_nil,List.append_nil,id,List.append_assoc];rfl
 ·unfold Ej;simp only[SI hand z6,Option.bind_some];by_cases c:hand=dX
  ·rw[bP c];simp only[cond_true];rw[kH _ (by simp[Sh]) (by simp only[List.flatMap_cons,List.flatMap_nil,List.length_append,List.length_nil,List.length_cons,bu,dZ,fK,id];unfold Big;omega)];simp only[Option.bind_some,List.flatMap_cons,List.flatMap_nil,List.append_nil,id,List.append_assoc];rfl
  ·rw[bU c];have hn:=SX (hK.2.2.2.resolve_left c);have hl:=I7 hand hh;simp only[cond_false];refine aK (Zm hand fh hh) ?_;rw[hn] at hl ⊢;rw[kH _ (by simp[Sh]) (by simp only[List.flatMap_cons,List.flatMap_nil,List.length_append,List.length_nil,List.length_cons,bu,dZ,fK,id];unfold Big;omega)];simp only[Option.bind_some,List.flatMap_cons,List.flatMap_nil,List.append_nil,id,List.append_assoc];rfl
 ·have hn:=SS hK.2.2;have hl:=I5 mov;refine aK (Zk mov zm) ?_;rw[hn] at hl ⊢;rw[kH _ (by simp[Sh]) (by simp only[List.flatMap_cons,List.flatMap_nil,List.length_append,List.length_nil,List.length_cons,bu,dZ,fK,id];unfold Big;omega)];simp only[Option.bind_some,List.flatMap_cons,List.flatMap_nil,List.append_nil,id,List.append_assoc];rfl
end Go.Proofs.YteebpcpkhojfkaaGreat
