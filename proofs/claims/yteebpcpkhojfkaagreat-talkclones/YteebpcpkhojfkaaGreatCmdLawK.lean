/-
 Plain laws of what lies below,as this seat reaches them (by a program of the bench: port.py).
-/
import Derived.Test.YteebpcpkhojfkaaGreatCmdLawJ
import Derived.Test.YteebpcpkhojfkaaGreatSxS
namespace Go.Proofs.YteebpcpkhojfkaaGreat
open Go.Sx Go Classical
set_option maxRecDepth 10000
noncomputable def sV (r:eX):eX:=bif dec' (qK r) then r else jc
theorem SS {r:eX} (h:qK r):sV r=r:=by unfold sV;rw[bP h];rfl
theorem Ti (a1 a2 a3:Int) (a4 a5:List UInt8) (a6:Int) (a7:List UInt8) (a8 a9 a10:Int):moveB (a1,a2,a3,a4,a5,a6,a7,a8,a9,a10,())=bG a1++ak a2++ak a3++aZ a4++aZ a5++ak a6++aZ a7++ak a8++ak a9++ak a10:=by
 simp only[moveB,aF,dQ,List.append_nil,List.append_assoc]
theorem Ro (m:eX):(moveB m).length=61+m.2.2.2.1.length+m.2.2.2.2.1.length+m.2.2.2.2.2.2.1.length:=by
 obtain⟨a1,a2,a3,a4,a5,a6,a7,a8,a9,a10,⟨⟩⟩:=m;rw[Ti];simp only[List.length_append,kJ,bu,dZ];omega
theorem Ux {s:List UInt8} (h:s=[]∨lT s):s.length≤8:=by
 rcases h with h|h
 ·rw[h];simp
 ·exact h.1
theorem Eh {s:List UInt8} (h:s=[]∨IsKey s):s.length≤32:=by
 rcases h with h|h
 ·rw[h];simp
 ·exact h.len
theorem I5 (m:eX):(moveB (sV m)).length≤200:=by
 rw[Ro];unfold sV;by_cases h:qK m
 ·rw[bP h];obtain⟨-,-,-,-,h4,h5,-,h7,-⟩:=h;have:=Ux h4;have:=Ux h5;have:=Eh h7;simp only[cond_true];omega
 ·rw[bU h];simp[jc]
theorem Zk (m:eX) (hm:Ez m):F62 (m,())=some (moveB (sV m),()):=by
 unfold F62;have e:(Option.bind (F45 (m,())) fun b=>bif !b.fst then some (Sum.inl (0,0,0,[],[],0,[],0,0,0,())) else some (Sum.inl m):Option (eX⊕aA))=some (Sum.inl (sV m)):=by rw[SK m hm];unfold sV;cases dec' (qK m)<;>rfl
 simp only[e,Option.bind_some,Sum.elim_inl];have h:=I5 m;rw[Ro] at h;generalize sV m=w at *;obtain⟨a1,a2,a3,a4,a5,a6,a7,a8,a9,a10,⟨⟩⟩:=w;simp only at h;simp only[ja [a2,a3] (by simp),ja [a6] (by simp),ja [a8,a9,a10] (by simp),iY a4 (by omega),iY a5 (by omega),iY a7 (by omega),Option.bind_some];rw[lF _ (by simp[Sh]) (by simp only[List.flatMap_cons,List.flatMap_nil,List.length_append,bu,dZ,List.length_nil,List.length_cons,id];unfold Big;omega)];rw[Ti];simp only[Option.bind_some,List.flatMap_cons,List.flatMap_nil,List.append_nil,id,List.append_assoc,bG,vJ]
noncomputable def jd (r:dD):dD:=bif dec' (lL r) then r else dX
theorem SX {r:dD} (h:lL r):jd r=r:=by unfold jd;rw[bP h];rfl
theorem Qq (r:dD):∀ s∈(jd r).2.2.1,iH s.2.2.1:=by
 unfold jd;by_cases h:lL r
 ·rw[bP h];intro s hs;obtain⟨i,hi⟩:=List.mem_iff_getElem?.1 hs;exact(h.2.2.1 i s hi).2.2.2.1
 ·rw[bU h];exact fun x hx=>by simp[dX] at hx
theorem TF (a1 a2:Int) (a3:List aW) (a4:List dm):AL (a1,a2,a3,a4,())=ak a1++ak a2++sK a3++nG a4:=by
 simp only[AL,aF,dQ,List.append_nil,List.append_assoc]
theorem I7 (h:dD) (hs:h.2.2.1.length≤60000):(AL (jd h)).length≤200000000:=by
 have e:=Qq h;have h1:=QP (jd h).2.2.1;have h2:=PH (jd h).2.2.2.1;rw[DU e] at h1;have h3:(jd h).2.2.1.length≤60000∧(jd h).2.2.2.1.length≤64:=by
  unfold jd;by_cases c:lL h
  ·rw[bP c];exact⟨hs,c.2.2.2.2⟩
  ·rw[bU c];simp[dX]
 generalize jd h=w at *;obtain⟨a1,a2,a3,a4,⟨⟩⟩:=w;rw[TF];simp only[List.length_append,bu] at *;omega
theorem Zm (m:dD) (hm:fF T55 m) (hs:m.2.2.1.length≤60000):F61 (m,())=some (AL (jd m),()):=by
 unfold F61;have e:(Option.bind (F44 (m,())) fun b=>bif !b.fst then some (Sum.inl (0,0,[],[],())) else some (Sum.inl m):Option (dD⊕aA))=some (Sum.inl (jd m)):=by rw[SL m (Es hm).1];unfold jd;cases dec' (lL m)<;>rfl
 have es:=Qq m;have hl:=I7 m hs;have hz:EC (jd m):=by
  unfold jd;by_cases c:lL m
  ·rw[bP c];exact(Es hm).1
  ·rw[bU c];exact(Es zbN).1
 simp only[e,Option.bind_some,Sum.elim_inl];generalize jd m=w at *;obtain⟨a1,a2,a3,a4,⟨⟩⟩:=w;have es':nO a3=sK a3:=DU es;rw[TF,←es'] at hl ⊢;simp only[List.length_append,bu] at hl;simp only[ja [a1,a2] (by simp),OI a3 a4 hz.1 hz.2 (by unfold Big;omega),Option.bind_some];rw[lF _ (by simp[Sh]) (by simp only[List.flatMap_cons,List.flatMap_nil,List.length_append,bu,List.length_nil,id];unfold Big;omega)];simp only[Option.bind_some,List.flatMap_cons,List.flatMap_nil,List.append_nil,id,List.append_assoc]
theorem TZ (v1:List UInt8) (v2 v3 v4:Int) (v5:List UInt8):nS (v1,v2,v3,v4,v5,())=aZ v1++bG v2++bG v3++ak v4++aZ v5:=by
 simp only[nS,aF,dQ,List.append_nil,List.append_assoc]
theorem UB (v1:Int) (v2 v3 v4:List UInt8) (v5:Int):vS (v1,v2,v3,v4,v5,())=bG v1++aZ v2++aZ v3++aZ v4++ak v5:=by
 simp only[vS,aF,dQ,List.append_nil,List.append_assoc]
theorem PD (l:List aV) (hl:Sh l) (hs:∀ o∈l,vZ o) (h:(lg l).length≤Big):CO (l,())=some (lg l,()):=by
 unfold lg iO at *;rw[List.length_append] at h;unfold CO;simp only[uD,Option.bind_some];refine oL l hl vS (countB l.length) (fun i d=>(d,(i:Int),())) (by omega) (fun i v d hi hv hd=> ?_) ?_
 ·have hi':i<9223372036854775807:=by unfold Sh at hl;omega
  obtain⟨s1,s2,s3⟩:=hs v (List.mem_of_getElem? hv);obtain⟨v1,v2,v3,v4,v5,⟨⟩⟩:=v;rw[UB] at hd ⊢;simp only[List.length_append,bu,dZ,kJ] at hd;have hj:=lF [d,bG v1,aZ v2,aZ v3,aZ v4,[v5].flatMap ak] (by simp[Sh]) (by simp only[List.flatMap_cons,List.flatMap_nil,List.length_append,bu,dZ,kJ,List.length_nil,id];omega);simp only[aB,hi,decide_true,cond_true,aP,hv,Option.bind_some,ja [v5] (by simp),iY v2 s1,iY v3 s2,iY v4 s3,aT hi'];refine aK hj ?_;simp only[List.append_assoc,List.flatMap_cons,List.flatMap_nil,List.append_nil,id]
 ·simp only[aB,Nat.lt_irrefl,decide_false,cond_false]
end Go.Proofs.YteebpcpkhojfkaaGreat
