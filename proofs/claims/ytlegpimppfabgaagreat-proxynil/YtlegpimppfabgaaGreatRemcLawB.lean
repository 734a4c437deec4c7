/-
 Plain laws of what lies below,as this seat reaches them (by a program of the bench: port.py).
-/
import Derived.Test.YtlegpimppfabgaaGreatRemcLawA
import Derived.Test.YtlegpimppfabgaaGreatSxS
namespace Go.Proofs.YtlegpimppfabgaaGreat
open Go.Sx Go Classical
set_option maxRecDepth 10000
noncomputable def Ai (p q:List UInt8) (c:bi):bi×Bool×Unit:=
 bif dec' (gU c∧c.1≤7) then
  bif decide (c.1≤2) then bif (fK p q c.2.1 c.2.2.1).2.2.1 then ((c.1,(fK p q c.2.1 c.2.2.1).1,(fK p q c.2.1 c.2.2.1).2.1,c.2.2.2),true,()) else (oH,false,())
  else bif decide (c.1=3) then
   bif c.2.2.2.2.2.2.2.1.all (cOk p q) then bif c.2.2.2.2.2.2.2.2.1.all (oOk p q) then bif c.2.2.2.2.2.2.2.2.2.1.all (oOk p q) then
    ((c.1,c.2.1,c.2.2.1,c.2.2.2.1,c.2.2.2.2.1,c.2.2.2.2.2.1,c.2.2.2.2.2.2.1,c.2.2.2.2.2.2.2.1.map (cTo p q),c.2.2.2.2.2.2.2.2.1.map (oTo p q),c.2.2.2.2.2.2.2.2.2.1.map (oTo p q),c.2.2.2.2.2.2.2.2.2.2),true,())
   else (oH,false,()) else (oH,false,()) else (oH,false,())
  else (c,true,())
 else (oH,false,())
theorem Ji {k:Int} {c:bi} (h:gU c) (e:c.1=3):qm c.2.2.2.2.2.2.2.1∧jI c.2.2.2.2.2.2.2.2.1∧jI c.2.2.2.2.2.2.2.2.2.1:=by
 have hK:=h.2
 unfold gV at hK
 rw [e] at hK
 simp only [Int.reduceEq,false_and,true_and,false_or,or_false,and_false,or_self] at hK
 exact hK
theorem Yh {p q:List UInt8} {c:bi} (h:gU c) (hk:c.1=1∨c.1=2) {k' e':List UInt8} (hM:Moves p q c.2.1 c.2.2.1 k' e'):gU (c.1,k',e',c.2.2.2):=by
 obtain⟨hB,hK⟩:=h
 have hR:=hM.2.2.2.1
 have hE:=fun he=>Lu hM.1 hM.2.2.2.2.2 he
 obtain⟨k,a2,a3,r⟩:=c
 dsimp only at *
 rcases hk with e | e <;> subst e
 ·refine⟨?_,?_⟩
  ·unfold ng at *
   simp only [Int.reduceEq,false_or,or_false,true_or,true_and] at hB ⊢
   exact⟨hE hB.1,hB.2⟩
  ·unfold gV at *
   simp only [Int.reduceEq,false_and,true_and,false_or,or_false,and_false,or_self] at hK ⊢
   exact⟨hR.1,hK.2⟩
 ·refine⟨?_,?_⟩
  ·unfold ng at *
   simp only [Int.reduceEq,false_or,or_false,true_or,true_and] at hB ⊢
   exact hB
  ·unfold gV at *
   simp only [Int.reduceEq,false_and,true_and,false_or,or_false,and_false,or_self] at hK ⊢
   exact hR
theorem zbq {p q:List UInt8} {c:bi} (h:gU c) (hk:c.1=3) (h1:c.2.2.2.2.2.2.2.1.all (cOk p q)=true) (h2:c.2.2.2.2.2.2.2.2.1.all (oOk p q)=true) (h3:c.2.2.2.2.2.2.2.2.2.1.all (oOk p q)=true) :
  gU (c.1,c.2.1,c.2.2.1,c.2.2.2.1,c.2.2.2.2.1,c.2.2.2.2.2.1,c.2.2.2.2.2.2.1,c.2.2.2.2.2.2.2.1.map (cTo p q),c.2.2.2.2.2.2.2.2.1.map (oTo p q),c.2.2.2.2.2.2.2.2.2.1.map (oTo p q),c.2.2.2.2.2.2.2.2.2.2):=by
 obtain⟨t1,t2,t3⟩:=Ji (k:=0) h hk
 obtain⟨hB,hK⟩:=h
 have u1:=Zu h1 t1
 have u2:=J3 h2 t2
 have u3:=J3 h3 t3
 obtain⟨k,a2,a3,a4,a5,a6,a7,a8,a9,a10,r⟩:=c
 dsimp only at *
 subst hk
 refine⟨?_,?_⟩
 ·unfold ng at *
  simp only [Int.reduceEq,false_or,or_false,true_or,true_and] at hB ⊢
  exact hB
 ·unfold gV
  simp only [Int.reduceEq,false_and,true_and,false_or,or_false,and_false,or_self]
  exact⟨u1,u2,u3⟩
theorem zdz {c:bi} (h:gU c) (hk:c.1=3):c.2.2.2.2.2.2.2.1.length≤4∧c.2.2.2.2.2.2.2.2.1.length≤4∧c.2.2.2.2.2.2.2.2.2.1.length≤4:=by
 obtain⟨t1,t2,t3⟩:=Ji (k:=0) h hk
 exact⟨t1.2,t2.2,t3.2⟩
theorem ER {α:Type} (f:α→α) {l:List α} (h:Sh l):Sh (l.map f):=by unfold Sh;rw [List.length_map];exact h
theorem Dw {α:Type} {ok:α→Bool} {to:α→α} {l:List α} (h:l.all ok=false):tH ok to l=([],false,()):=by unfold tH;rw [h];rfl
theorem rG {α:Type} {ok:α→Bool} {to:α→α} {l:List α} (h:l.all ok=true):tH ok to l=(l.map to,true,()):=by unfold tH;rw [h];rfl
theorem Ny (p q:List UInt8) (c:bi) (hc:ShC c):F79 (p,q,c,())=some (Ai p q c):=by
 have hr:=right_eq c hc
 unfold F79 Ai
 by_cases hR:gU c
 case neg=>
  rw [dU hR] at hr
  rw [dU fun h=>hR h.1]
  refine aS hr ?_
  rfl
 rw [dV hR] at hr
 refine aS hr ?_
 simp only [Bool.not_true,cond_false]
 by_cases h8:8≤c.1
 ·rw [dU fun h=>by have:=h.2;omega,decide_eq_true h8]
  rfl
 rw [dV ⟨hR,by omega⟩,decide_eq_false h8]
 simp only [cond_true,cond_false]
 have hmv:c.1=1∨c.1=2→∀ k' e',Moves p q c.2.1 c.2.2.1 k' e'→nP ((c.1,k',e',c.2.2.2),())=some (true,()):=fun hk k' e' hM=>by
  have:=right_eq (c.1,k',e',c.2.2.2) hc
  rw [dV (Yh hR hk hM)] at this
  exact this
 have hkk:=YO hR
 by_cases h12:c.1≤2
 ·have hk:c.1=1∨c.1=2:=by omega
  have d3:decide (c.1=3)=false:=decide_eq_false (by omega)
  rw [decide_eq_true h12]
  simp only [cond_true,d3,cond_false]
  have key:∀ {X:Option ((Bool×List UInt8×List UInt8×List aN×List au×List au×Unit)⊕(bi×Bool×Unit))},X=(Option.bind (F78 (p,q,c.2.1,c.2.2.1,())) fun b=>some (Sum.inl (b.2.2.1,b.1,b.2.1,c.2.2.2.2.2.2.2.1,c.2.2.2.2.2.2.2.2.1,c.2.2.2.2.2.2.2.2.2.1,())))→
    X=some (Sum.inl ((fK p q c.2.1 c.2.2.1).2.2.1,(fK p q c.2.1 c.2.2.1).1,(fK p q c.2.1 c.2.2.1).2.1,c.2.2.2.2.2.2.2.1,c.2.2.2.2.2.2.2.2.1,c.2.2.2.2.2.2.2.2.2.1,())):=fun e=>by
   rw [e,Ib];rfl
  refine aS (key (by
   rcases hk with e | e
   ·rw [decide_eq_true e];rfl
   ·rw [decide_eq_false (by omega:¬ c.1=1),decide_eq_true e];rfl)) ?_
  simp only [Sum.elim_inl]
  rcases H7 p q c.2.1 c.2.2.1 with e | ⟨k',e',hM,e⟩
  ·rw [e];rfl
  ·rw [e]
   simp only [Bool.not_true,cond_false,cond_true]
   refine aS (hmv hk k' e' hM) ?_
   rfl
 ·rw [decide_eq_false h12]
  have d1:decide (c.1=1)=false:=decide_eq_false (by omega)
  have d2:decide (c.1=2)=false:=decide_eq_false (by omega)
  simp only [cond_false,d1,d2]
  by_cases h3:c.1=3
  ·obtain⟨l1,l2,l3⟩:=zdz hR h3
   rw [decide_eq_true h3]
   simp only [cond_true,zd6 p q _ l1,Nb p q _ l2,Nb p q _ l3,Option.bind_some]
   cases a1:c.2.2.2.2.2.2.2.1.all (cOk p q) with
   | false=>
    simp only [Dw a1,cond_false,Option.bind_some,Sum.elim_inl,Bool.not_false,cond_true]
   | true=>
    cases a2:c.2.2.2.2.2.2.2.2.1.all (oOk p q) with
    | false=>simp only [rG a1,Dw a2,cond_true,cond_false,Option.bind_some,Sum.elim_inl,Bool.not_false]
    | true=>
     cases a3:c.2.2.2.2.2.2.2.2.2.1.all (oOk p q) with
     | false=>simp only [rG a1,rG a2,Dw a3,cond_true,cond_false,Option.bind_some,Sum.elim_inl,Bool.not_false]
     | true=>
      simp only [rG a1,rG a2,rG a3,cond_true,cond_false,Option.bind_some,Sum.elim_inl,Bool.not_true]
      have hm:=right_eq _ (show ShC (c.1,c.2.1,c.2.2.1,c.2.2.2.1,c.2.2.2.2.1,c.2.2.2.2.2.1,c.2.2.2.2.2.2.1,c.2.2.2.2.2.2.2.1.map (cTo p q),c.2.2.2.2.2.2.2.2.1.map (oTo p q),c.2.2.2.2.2.2.2.2.2.1.map (oTo p q),c.2.2.2.2.2.2.2.2.2.2) from ⟨ER _ hc.1,ER _ hc.2.1,ER _ hc.2.2.1,hc.2.2.2⟩)
      rw [dV (zbq hR h3 a1 a2 a3)] at hm
      refine aS hm ?_
      rfl
  ·rw [decide_eq_false h3]
   simp only [cond_false,Option.bind_some,Sum.elim_inl,Bool.not_true]
   refine aS (show nP (c,())=some (true,()) from hr) ?_
   rfl
end Go.Proofs.YtlegpimppfabgaaGreat
