/-
 Plain laws of what lies below,as this seat reaches them (by a program of the bench: port.py).
-/
import Derived.Test.YtlegpimppfabgaaGreatRemcLawA
import Derived.Test.YtlegpimppfabgaaGreatSxS
namespace Go.Proofs.YtlegpimppfabgaaGreat
open Go.Sx Go Classical
set_option maxRecDepth 10000
noncomputable def dU (p q:List UInt8) (c:aJ):aJ×Bool×Unit:=
 bif dec' (gq c∧c.1≤7) then
  bif decide (c.1≤2) then bif (dC p q c.2.1 c.2.2.1).2.2.1 then((c.1,(dC p q c.2.1 c.2.2.1).1,(dC p q c.2.1 c.2.2.1).2.1,c.2.2.2),true,()) else(fB,false,())
  else bif decide (c.1=3) then
   bif c.2.2.2.2.2.2.2.1.all (cOk p q) then bif c.2.2.2.2.2.2.2.2.1.all (oOk p q) then bif c.2.2.2.2.2.2.2.2.2.1.all (oOk p q) then
    ((c.1,c.2.1,c.2.2.1,c.2.2.2.1,c.2.2.2.2.1,c.2.2.2.2.2.1,c.2.2.2.2.2.2.1,c.2.2.2.2.2.2.2.1.map (cTo p q),c.2.2.2.2.2.2.2.2.1.map (oTo p q),c.2.2.2.2.2.2.2.2.2.1.map (oTo p q),c.2.2.2.2.2.2.2.2.2.2),true,())
   else(fB,false,()) else(fB,false,()) else(fB,false,())
  else(c,true,())
 else(fB,false,())
theorem OH {k:Int} {c:aJ} (h:gq c) (e:c.1=3):pW c.2.2.2.2.2.2.2.1∧jV c.2.2.2.2.2.2.2.2.1∧jV c.2.2.2.2.2.2.2.2.2.1:=by
 have hK:=h.2;unfold iD at hK;rw[e] at hK;simp only[Int.reduceEq,false_and,true_and,false_or,or_false,and_false,or_self] at hK;exact hK
theorem X6 {p q:List UInt8} {c:aJ} (h:gq c) (hk:c.1=1∨c.1=2) {k' e':List UInt8} (hM:Moves p q c.2.1 c.2.2.1 k' e'):gq (c.1,k',e',c.2.2.2):=by
 obtain⟨hB,hK⟩:=h;have hR:=hM.2.2.2.1;have hE:=fun he=>Q4 hM.1 hM.2.2.2.2.2 he;obtain⟨k,a2,a3,r⟩:=c;dsimp only at *;rcases hk with e|e<;>subst e
 ·refine⟨?_,?_⟩
  ·unfold lX at *;simp only[Int.reduceEq,false_or,or_false,true_or,true_and] at hB ⊢;exact⟨hE hB.1,hB.2⟩
  ·unfold iD at *;simp only[Int.reduceEq,false_and,true_and,false_or,or_false,and_false,or_self] at hK ⊢;exact⟨hR.1,hK.2⟩
 ·refine⟨?_,?_⟩
  ·unfold lX at *;simp only[Int.reduceEq,false_or,or_false,true_or,true_and] at hB ⊢;exact hB
  ·unfold iD at *;simp only[Int.reduceEq,false_and,true_and,false_or,or_false,and_false,or_self] at hK ⊢;exact hR
theorem ZZ {p q:List UInt8} {c:aJ} (h:gq c) (hk:c.1=3) (h1:c.2.2.2.2.2.2.2.1.all (cOk p q)=true) (h2:c.2.2.2.2.2.2.2.2.1.all (oOk p q)=true) (h3:c.2.2.2.2.2.2.2.2.2.1.all (oOk p q)=true) :
  gq (c.1,c.2.1,c.2.2.1,c.2.2.2.1,c.2.2.2.2.1,c.2.2.2.2.2.1,c.2.2.2.2.2.2.1,c.2.2.2.2.2.2.2.1.map (cTo p q),c.2.2.2.2.2.2.2.2.1.map (oTo p q),c.2.2.2.2.2.2.2.2.2.1.map (oTo p q),c.2.2.2.2.2.2.2.2.2.2):=by
 obtain⟨t1,t2,t3⟩:=OH (k:=0) h hk;obtain⟨hB,hK⟩:=h;have u1:=Za h1 t1;have u2:=PV h2 t2;have u3:=PV h3 t3;obtain⟨k,a2,a3,a4,a5,a6,a7,a8,a9,a10,r⟩:=c;dsimp only at *;subst hk;refine⟨?_,?_⟩
 ·unfold lX at *;simp only[Int.reduceEq,false_or,or_false,true_or,true_and] at hB ⊢;exact hB
 ·unfold iD;simp only[Int.reduceEq,false_and,true_and,false_or,or_false,and_false,or_self];exact⟨u1,u2,u3⟩
theorem Rk {c:aJ} (h:gq c) (hk:c.1=3):c.2.2.2.2.2.2.2.1.length≤4∧c.2.2.2.2.2.2.2.2.1.length≤4∧c.2.2.2.2.2.2.2.2.2.1.length≤4:=by
 obtain⟨t1,t2,t3⟩:=OH (k:=0) h hk;exact⟨t1.2,t2.2,t3.2⟩
theorem wo {α:Type} (f:α→α) {l:List α} (h:Sh l):Sh (l.map f):=by unfold Sh;rw[List.length_map];exact h
theorem yz {α:Type} {ok:α→Bool} {to:α→α} {l:List α} (h:l.all ok=false):lY ok to l=([],false,()):=by unfold lY;rw[h];rfl
theorem pz {α:Type} {ok:α→Bool} {to:α→α} {l:List α} (h:l.all ok=true):lY ok to l=(l.map to,true,()):=by unfold lY;rw[h];rfl
theorem JQ (p q:List UInt8) (c:aJ) (hc:ShC c):F79 (p,q,c,())=some (dU p q c):=by
 have hr:=right_eq c hc;unfold F79 dU;by_cases hR:gq c
 case neg=>rw[dA hR] at hr;rw[dA fun h=>hR h.1];refine aB hr ?_;rfl
 rw[bK hR] at hr;refine aB hr ?_;simp only[Bool.not_true,cond_false];by_cases h8:8≤c.1
 ·rw[dA fun h=>by have:=h.2;omega,decide_eq_true h8];rfl
 rw[bK ⟨hR,by omega⟩,decide_eq_false h8];simp only[cond_true,cond_false];have hmv:c.1=1∨c.1=2→∀ k' e',Moves p q c.2.1 c.2.2.1 k' e'→sS ((c.1,k',e',c.2.2.2),())=some (true,()):=fun hk k' e' hM=>by have:=right_eq (c.1,k',e',c.2.2.2) hc;rw[bK (X6 hR hk hM)] at this;exact this
 have hkk:=GZ hR;by_cases h12:c.1≤2
 ·have hk:c.1=1∨c.1=2:=by omega
  have d3:decide (c.1=3)=false:=decide_eq_false (by omega);rw[decide_eq_true h12];simp only[cond_true,d3,cond_false];have key:∀ {X:Option ((Bool×List UInt8×List UInt8×List dm×List aK×List aK×Unit)⊕(aJ×Bool×Unit))},X=(Option.bind (F78 (p,q,c.2.1,c.2.2.1,())) fun b=>some (Sum.inl (b.2.2.1,b.1,b.2.1,c.2.2.2.2.2.2.2.1,c.2.2.2.2.2.2.2.2.1,c.2.2.2.2.2.2.2.2.2.1,())))→
    X=some (Sum.inl ((dC p q c.2.1 c.2.2.1).2.2.1,(dC p q c.2.1 c.2.2.1).1,(dC p q c.2.1 c.2.2.1).2.1,c.2.2.2.2.2.2.2.1,c.2.2.2.2.2.2.2.2.1,c.2.2.2.2.2.2.2.2.2.1,())):=fun e=>by
   rw[e,Gl];rfl
  refine aB (key (by
   rcases hk with e|e
   ·rw[decide_eq_true e];rfl
   ·rw[decide_eq_false (by omega:¬ c.1=1),decide_eq_true e];rfl)) ?_
  simp only[Sum.elim_inl];rcases Bq p q c.2.1 c.2.2.1 with e|⟨k',e',hM,e⟩
  ·rw[e];rfl
  ·rw[e];simp only[Bool.not_true,cond_false,cond_true];refine aB (hmv hk k' e' hM) ?_;rfl
 ·rw[decide_eq_false h12];have d1:decide (c.1=1)=false:=decide_eq_false (by omega);have d2:decide (c.1=2)=false:=decide_eq_false (by omega);simp only[cond_false,d1,d2];by_cases h3:c.1=3
  ·obtain⟨l1,l2,l3⟩:=Rk hR h3;rw[decide_eq_true h3];simp only[cond_true,zcr p q _ l1,SL p q _ l2,SL p q _ l3,Option.bind_some];cases a1:c.2.2.2.2.2.2.2.1.all (cOk p q) with
   | false=>simp only[yz a1,cond_false,Option.bind_some,Sum.elim_inl,Bool.not_false,cond_true]
   | true=>
    cases a2:c.2.2.2.2.2.2.2.2.1.all (oOk p q) with
    | false=>simp only[pz a1,yz a2,cond_true,cond_false,Option.bind_some,Sum.elim_inl,Bool.not_false]
    | true=>
     cases a3:c.2.2.2.2.2.2.2.2.2.1.all (oOk p q) with
     | false=>simp only[pz a1,pz a2,yz a3,cond_true,cond_false,Option.bind_some,Sum.elim_inl,Bool.not_false]
     | true=>simp only[pz a1,pz a2,pz a3,cond_true,cond_false,Option.bind_some,Sum.elim_inl,Bool.not_true];have hm:=right_eq _ (show ShC (c.1,c.2.1,c.2.2.1,c.2.2.2.1,c.2.2.2.2.1,c.2.2.2.2.2.1,c.2.2.2.2.2.2.1,c.2.2.2.2.2.2.2.1.map (cTo p q),c.2.2.2.2.2.2.2.2.1.map (oTo p q),c.2.2.2.2.2.2.2.2.2.1.map (oTo p q),c.2.2.2.2.2.2.2.2.2.2) from⟨wo _ hc.1,wo _ hc.2.1,wo _ hc.2.2.1,hc.2.2.2⟩);rw[bK (ZZ hR h3 a1 a2 a3)] at hm;refine aB hm ?_;rfl
  ·rw[decide_eq_false h3];simp only[cond_false,Option.bind_some,Sum.elim_inl,Bool.not_true];refine aB (show sS (c,())=some (true,()) from hr) ?_;rfl
theorem zbZ (p q:List UInt8) (hp:St p) (hq:St q) (c:aJ) (hz:ng c):F75 (p,q,c,())=some (dU p q c):=by
 have hr:=PI c hz;unfold F75 dU;by_cases hR:gq c
 case neg=>rw[dA hR] at hr;rw[dA fun h=>hR h.1];refine aB hr ?_;rfl
 rw[bK hR] at hr;refine aB hr ?_;simp only[Bool.not_true,cond_false];by_cases h8:7<c.1
 ·rw[dA fun h=>by have:=h.2;omega,decide_eq_true h8];rfl
 rw[bK ⟨hR,by omega⟩,decide_eq_false h8];simp only[cond_true,cond_false];have hkk:=GZ hR;obtain⟨-,-,z2,z3,zc,z9,z10,-⟩:=hz;by_cases h4:4≤c.1
 ·rw[decide_eq_true h4,decide_eq_false (by omega:¬ c.1≤2),decide_eq_false (by omega:¬ c.1=3)];rfl
 rw[decide_eq_false h4];by_cases h3:c.1=3
 ·obtain⟨l1,l2,l3⟩:=Rk hR h3;rw[decide_eq_true h3,decide_eq_false (by omega:¬ c.1≤2)];simp only[Bool.not_true,cond_false,cond_true];refine(vI (T:=List dm×Int×aJ) (R:=aJ×Bool×Unit) c.2.2.2.2.2.2.2.1 (by omega) (cOk p q) (cTo p q) (fun d i=>(d,(i:Int),fB))
   (fun d=>bif c.2.2.2.2.2.2.2.2.1.all (oOk p q) then bif c.2.2.2.2.2.2.2.2.2.1.all (oOk p q) then((c.1,c.2.1,c.2.2.1,c.2.2.2.1,c.2.2.2.2.1,c.2.2.2.2.2.1,c.2.2.2.2.2.2.1,d,c.2.2.2.2.2.2.2.2.1.map (oTo p q),c.2.2.2.2.2.2.2.2.2.1.map (oTo p q),c.2.2.2.2.2.2.2.2.2.2),true,()) else(fB,false,()) else(fB,false,())) (fB,false,()) (fun i v d hd hv=> ?_) (fun d hd=> ?_)).trans ?_
  ·have hi:=(List.getElem?_eq_some_iff.1 hv).1;have zv:=zc v (List.mem_of_getElem? hv);simp only[ax,hi,decide_true,cond_true,aI,hv,Option.bind_some,Gf p q v.1 hp hq zv,Dk hd (by omega),aP (show i<9223372036854775807 by omega),cOk,cTo];cases (dL p q v.1).2.1<;>rfl
  ·simp only[ax,Nat.lt_irrefl,decide_false,cond_false,Rz p q hp hq _ l2 z9,Rz p q hp hq _ l3 z10,Option.bind_some];refine congrArg (Option.map Sum.inr) (?_:_=some (bif c.2.2.2.2.2.2.2.2.1.all (oOk p q) then bif c.2.2.2.2.2.2.2.2.2.1.all (oOk p q) then((c.1,c.2.1,c.2.2.1,c.2.2.2.1,c.2.2.2.2.1,c.2.2.2.2.2.1,c.2.2.2.2.2.2.1,d,c.2.2.2.2.2.2.2.2.1.map (oTo p q),c.2.2.2.2.2.2.2.2.2.1.map (oTo p q),c.2.2.2.2.2.2.2.2.2.2),true,()) else(fB,false,()) else(fB,false,())));cases a2:c.2.2.2.2.2.2.2.2.1.all (oOk p q) with
   | false=>simp only[yz a2,cond_false,Bool.not_false,cond_true]
   | true=>
    cases a3:c.2.2.2.2.2.2.2.2.2.1.all (oOk p q) with
    | false=>simp only[pz a2,yz a3,cond_true,cond_false,Bool.not_false,Bool.not_true]
    | true=>simp only[pz a2,pz a3,cond_true,cond_false,Bool.not_true]
  ·rfl
 ·rw[decide_eq_false h3,decide_eq_true (by omega:c.1≤2)];simp only[Bool.not_false,cond_true,cond_false];refine aB (F5 p q c.2.1 c.2.2.1 hp hq z2 z3) ?_;cases (dC p q c.2.1 c.2.2.1).2.2.1<;>rfl
end Go.Proofs.YtlegpimppfabgaaGreat
