/-
 Plain laws of what lies below,as this seat reaches them (by a program of the bench: port.py).
-/
import Derived.Test.YteebpcpkhojfkaaGreatCmdLawH
import Derived.Test.YteebpcpkhojfkaaGreatSxS
namespace Go.Proofs.YteebpcpkhojfkaaGreat
open Go.Sx Go Classical
set_option maxRecDepth 10000
theorem lF (l:List (List UInt8)) (hl:Sh l) (h:(l.flatMap id).length≤Big):kE (l,())=some (l.flatMap id,()):=by
 unfold kE;refine oL l hl id [] (fun i d=>(d,(i:Int),())) (by simpa using h) (fun i v d hi hv hd=> ?_) ?_
 ·have hi':i<9223372036854775807:=by unfold Sh at hl;omega
  simp only[aB,hi,decide_true,cond_true,aP,hv,Option.bind_some,mM (show d.length+v.length≤140737488355000 from hd),aT hi',id]
 ·simp only[aB,Nat.lt_irrefl,decide_false,cond_false,List.nil_append]
theorem ja (l:List Int) (hl:l.length≤1000):F55 (l,())=some (l.flatMap ak,()):=by
 have hm:=qm (l:=l) (e:=ak) (n:=8) (fun v _=>by rw[bu];omega);unfold F55;refine oL l (by unfold Sh;omega) ak [] (fun i d=>(d,(i:Int),())) (by simp only[List.length_nil];unfold Big;omega) (fun i v d hi hv hd=> ?_) ?_
 ·have hn:kD (v,())=some (ak v,()):=Dj v;simp only[aB,hi,decide_true,cond_true,aP,hv,Option.bind_some,hn,mM (show d.length+(ak v).length≤140737488355000 from hd),aT (show i<9223372036854775807 by omega)]
 ·simp only[aB,Nat.lt_irrefl,decide_false,cond_false,List.nil_append]
noncomputable def o7 (v:gW):gW:=bif dec' (dU v) then v else NoV
theorem zby (v:gW):(bif dec' (uV v) then v else NoV)=o7 v:=by
 unfold o7;by_cases h:dU v
 ·rw[bP h,bP (p:=uV v) (.inr h)]
 ·by_cases h2:v=NoV
  ·rw[bU h,bP (p:=uV v) (.inl h2),h2];rfl
  ·rw[bU h,bU (p:=uV v) (fun h3=>h3.elim h2 h)]
theorem SQ {v:gW} (h:uV v):o7 v=v:=by rw[←zby,bP h];rfl
theorem za2 {v:gW} (h:dU v):v.2.2.2.2.1.length≤40:=by
 obtain⟨a1,a2,a3,a4,a5,a6,a7,⟨⟩⟩:=v;unfold dU at h;simp only at h ⊢;grind
theorem zx (v:gW):(vP v).length=45+v.2.2.2.2.1.length:=by
 simp only[vP,aF,List.length_append,bu,dZ,fK,dQ,List.length_nil];omega
theorem Rl (v:gW):(vP (o7 v)).length≤100:=by
 rw[zx];unfold o7;by_cases h:dU v
 ·rw[bP h];have:=za2 h;simp only[cond_true];omega
 ·rw[bU h];simp[NoV]
theorem Zx (v:gW):BP (v,())=some (vP (o7 v),()):=by
 unfold BP;have e:(Option.bind (jI (v,())) fun b=>bif !b.fst then some (Sum.inl (0,0,0,0,[],0,false,())) else some (Sum.inl v):Option (gW⊕aA))=some (Sum.inl (o7 v)):=by
  rw[xu];unfold o7;by_cases h:dU v
  ·rw[decide_eq_true h,bP h];rfl
  ·rw[decide_eq_false h,bU h];rfl
 have hl:=Rl v;rw[zx] at hl;simp only[e,Option.bind_some,Sum.elim_inl];generalize o7 v=w at *;have hf:F60 w.2.2.2.2.2.2=_:=zA w.2.2.2.2.2.2.1;simp only[ja [w.1,w.2.1,w.2.2.1,w.2.2.2.1] (by simp),ja [w.2.2.2.2.2.1] (by simp),iY w.2.2.2.2.1 (by omega),hf,Option.bind_some];rw[lF _ (by simp[Sh]) (by simp only[List.flatMap_cons,List.flatMap_nil,List.length_append,bu,dZ,fK,List.length_nil,id];unfold Big;omega)];simp only[Option.bind_some,vP,aF,dQ,List.flatMap_cons,List.flatMap_nil,List.append_assoc,List.append_nil,id]
noncomputable def iE (x:aO):aO:=bif dec' (qC x) then x else Vm
theorem zcu {x:aO} (h:qC x):iE x=x:=by unfold iE;rw[bP h];rfl
theorem TD (x:aO):lQ x=aZ x.1++vP x.2.1:=by
 simp only[lQ,aF,dQ,List.append_nil]
theorem Rx (x:aO):(lQ x).length=49+x.1.length+x.2.1.2.2.2.2.1.length:=by
 rw[TD,List.length_append,dZ,zx];omega
theorem Qp (x:aO):o7 (iE x).2.1=(iE x).2.1:=by
 unfold iE;by_cases h:qC x
 ·rw[bP h];exact SQ h.2
 ·rw[bU h];exact SQ (.inl rfl)
theorem Rn (x:aO):(lQ (iE x)).length≤200:=by
 have h1:=Rl (iE x).2.1;rw[Qp,zx] at h1;rw[Rx];have h2:(iE x).1.length≤32:=by
  unfold iE;by_cases h:qC x
  ·rw[bP h];rcases h.1 with h|h
   ·simp only[cond_true,h,List.length_nil];omega
   ·exact h.len
  ·rw[bU h];simp[Vm]
 omega
theorem O6 (x:aO) (hx:St x.1):CB (x,())=some (lQ (iE x),()):=by
 have hv:=Qp x;have hl:=Rn x;rw[Rx] at hl;unfold CB;obtain⟨k,v,⟨⟩⟩:=x;have hk:St k:=hx;have hz:(decide (v.fst=0) && (decide (v.snd.fst=0) && (decide (v.snd.snd.fst=0) && (decide (v.snd.snd.snd.fst=0) && (decide (v.snd.snd.snd.snd.fst=[]) && (decide (v.snd.snd.snd.snd.snd.fst=0) && (v.snd.snd.snd.snd.snd.snd.fst == false && true)))))))=dec' (v=NoV):=by
  by_cases h:v=NoV
  ·rw[bP h,h];rfl
  ·rw[bU h,Bool.eq_false_iff];intro h2;apply h;obtain⟨a1,a2,a3,a4,a5,a6,a7,⟨⟩⟩:=v;simp only[Bool.and_eq_true,decide_eq_true_eq,beq_iff_eq,and_true] at h2;simp only[Prod.mk.injEq];grind
 have hr:jI (v,())=_:=xu v;have e:(bif !decide (k=[]) then Option.bind (F39 (k,())) fun b=>bif !b.fst then some (Sum.inl ([],(0,0,0,0,[],0,false,()),())) else bif !dec' (v=NoV) then Option.bind (jI (v,())) fun b=>bif !b.fst then some (Sum.inl ([],(0,0,0,0,[],0,false,()),())) else some (Sum.inl (k,v,())) else some (Sum.inl (k,v,())) else bif !dec' (v=NoV) then Option.bind (jI (v,())) fun b=>bif !b.fst then some (Sum.inl ([],(0,0,0,0,[],0,false,()),())) else some (Sum.inl (k,v,())) else some (Sum.inl (k,v,())):Option (aO⊕aA))=some (Sum.inl (iE (k,v,()))):=by simp only[jM k hk,hr,Option.bind_some];unfold iE qC uV;by_cases c1:k=[]<;>by_cases c2:IsKey k<;>by_cases c3:v=NoV<;>by_cases c4:dU v<;>simp[c1,c2,c3,c4]<;>grind
 simp only[hz,e,Option.bind_some,Sum.elim_inl];generalize iE (k,v,())=w at *;have hw:BP w.2=_:=Zx w.2.1;simp only[iY w.1 (by omega),hw,hv,Option.bind_some];rw[lF _ (by simp[Sh]) (by simp only[List.flatMap_cons,List.flatMap_nil,List.length_append,dZ,zx,List.length_nil,id];unfold Big;omega)];simp only[Option.bind_some,TD,List.flatMap_cons,List.flatMap_nil,List.append_nil,id]
noncomputable def jl (l:List aO):List UInt8:=countB l.length++l.flatMap fun x=>lQ (iE x)
theorem OT (l:List aO) (hl:Sh l) (hs:∀ x∈l,St x.1) (h:(jl l).length≤Big):CJ (l,())=some (jl l,()):=by
 unfold jl at *;rw[List.length_append] at h;unfold CJ;simp only[uD,Option.bind_some];refine oL l hl (fun x=>lQ (iE x)) (countB l.length) (fun i d=>(d,(i:Int),())) (by omega) (fun i v d hi hv hd=> ?_) ?_
 ·have hi':i<9223372036854775807:=by unfold Sh at hl;omega
  simp only[aB,hi,decide_true,cond_true,aP,hv,Option.bind_some,O6 v (hs v (List.mem_of_getElem? hv)),mM (show d.length+(lQ (iE v)).length≤140737488355000 from hd),aT hi']
 ·simp only[aB,Nat.lt_irrefl,decide_false,cond_false]
theorem uF {l:List aO} (h:∀ x∈l,qC x):jl l=lI l:=by
 unfold jl lI iO;congr 1;exact Iz fun x hx=>congrArg lQ (zcu (h x hx))
theorem wL (l:List aO):(jl l).length≤4+l.length*200:=by
 unfold jl;have:=qm (l:=l) (e:=fun x=>lQ (iE x)) (n:=200) (fun x _=>Rn x);rw[List.length_append,kG];omega
end Go.Proofs.YteebpcpkhojfkaaGreat
