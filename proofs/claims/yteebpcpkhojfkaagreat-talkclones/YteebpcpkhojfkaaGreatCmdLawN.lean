/-
 Plain laws of what lies below,as this seat reaches them (by a program of the bench: port.py).
-/
import Derived.Test.YteebpcpkhojfkaaGreatCmdLawM
import Derived.Test.YteebpcpkhojfkaaGreatSxS
namespace Go.Proofs.YteebpcpkhojfkaaGreat
open Go.Sx Go Classical
set_option maxRecDepth 10000
theorem uH {α R:Type} (l:List α) (hl:Sh l) {step:Int×Int×Unit→Option ((Int×Int×Unit)⊕R)} (Q:R→Prop)
  (h:∀ (n:Int) (i:Nat) v,i<l.length→l[i]? = some v→(∃ m,step (n,(i:Int),())=some (.inl (m,((i+1:Nat):Int),())))∨∃ r,step (n,(i:Int),())=some (.inr r)∧Q r)
  (hK:∀ n,∃ r,step (n,(l.length:Int),())=some (.inr r)∧Q r) (n:Int):∃ r,aC (Int×Int×Unit) R step big (n,0,())=some r∧Q r:=by
 unfold Sh at hl;refine rU (step:=step) (n:=big) (t:=(n,0,())) (I:=fun t=>∃ (m:Int) (i:Nat),t=(m,(i:Int),())∧i≤l.length) (μ:=fun t=>l.length-t.2.1.toNat) (Q:=fun _ r=>Q r) (fun t ht=> ?_) ⟨n,0,rfl,Nat.zero_le _⟩ (by rw[jv];simp only[Int.toNat_zero];omega);obtain⟨m,i,rfl,hi⟩:=ht;by_cases hlt:i<l.length
 ·rcases h m i _ hlt (List.getElem?_eq_getElem hlt) with⟨m',h1⟩|⟨r,h1,h2⟩
  ·refine .inr ⟨_,h1,⟨m',i+1,rfl,hlt⟩,?_,fun r h=>h⟩;simp only[Int.toNat_natCast];omega
  ·exact .inl ⟨r,h1,h2⟩
 ·have:i=l.length:=by omega
  subst this;obtain⟨r,h1,h2⟩:=hK m;exact .inl ⟨r,h1,h2⟩
theorem Wh {X:Option (Bool×Unit)} {Q:Bool×Unit→Prop} {P:Bool→Prop} (h:∃ r,X=some r∧Q r) (h2:∀ z,Q (z,())→P z):∃ z,X=some (z,())∧P z:=by
 obtain⟨⟨z,⟨⟩⟩,h1,h3⟩:=h;exact⟨z,h1,h2 z h3⟩
theorem Af {R T:Type} {X:Option R} {Q:R→Prop} (h:∃ r,X=some r∧Q r):∃ r,(Option.map Sum.inr X:Option (T⊕R))=some (Sum.inr r)∧Q r:=by
 obtain⟨r,h1,h3⟩:=h;exact⟨r,by rw[h1];rfl,h3⟩
theorem zel {i:Nat} {X:Option ((Int×Int×Unit)⊕(Bool×Unit))} (h:∃ r,X=some r∧∃ m:Int,r=Sum.inl (m,((i+1:Nat):Int),())):(∃ m,X=some (.inl (m,((i+1:Nat):Int),())))∨∃ r,X=some (.inr r)∧True:=by
 obtain⟨r,h1,m,rfl⟩:=h;exact .inl ⟨m,h1⟩
theorem KI (c:bn) (hc:ShC c):∃ z,F23 (c,())=some (z,())∧(z=true→c.2.2.2.2.2.2.2.2.2.2.2.2.2.2.2.1.length≤20):=by
 obtain⟨k,a2,a3,a4,a5,a6,a7,a8,a9,a10,a11,a12,a13,a14,a15,a16,a17,⟨⟩⟩:=c;obtain⟨h8,h9,h10,h15,⟨h16,hs16⟩,h17⟩:=hc;simp only at h8 h9 h10 h15 h16 hs16 h17;unfold F23;simp only;by_cases c1:(10:Int)<Int.ofNat a8.length
 ·exact⟨false,by simp only[c1,decide_true,cond_true],by simp⟩
 by_cases c2:(10:Int)<Int.ofNat a9.length
 ·exact⟨false,by simp only[c1,c2,decide_true,decide_false,cond_true,cond_false],by simp⟩
 by_cases c3:(10:Int)<Int.ofNat a10.length
 ·exact⟨false,by simp only[c1,c2,c3,decide_true,decide_false,cond_true,cond_false],by simp⟩
 by_cases c4:(80:Int)<Int.ofNat a15.length
 ·exact⟨false,by simp only[c1,c2,c3,c4,decide_true,decide_false,cond_true,cond_false],by simp⟩
 by_cases c5:(20:Int)<Int.ofNat a16.length
 ·exact⟨false,by simp only[c1,c2,c3,c4,c5,decide_true,decide_false,cond_true,cond_false],by simp⟩
 by_cases c6:(80:Int)<Int.ofNat a17.length
 ·exact⟨false,by simp only[c1,c2,c3,c4,c5,c6,decide_true,decide_false,cond_true,cond_false],by simp⟩
 simp only[c1,c2,c3,c4,c5,c6,decide_false,cond_false];have ok:∀ {α:Type} {l:List α} {i:Nat},Sh l→i<l.length→wrap64 ((i:Int)+1)=((i+1:Nat):Int):=fun hl hi=>aT (by unfold Sh at hl;omega);refine Wh (Q:=fun _=>True) (uH a15 h15 _ (fun n i v hi hv=>.inl ?_) (fun n=> ?_) _) (fun z _ _=>by simp at c5;show a16.length≤20;omega)
 ·simp only[aB,hi,decide_true,cond_true,aP,hv,Option.bind_some,ok h15 hi];exact⟨_,rfl⟩
 simp only[aB,Nat.lt_irrefl,decide_false,cond_false];refine Af (uH a16 h16 _ (fun n i v hi hv=> ?_) (fun n=> ?_) _)
 ·simp only[aB,hi,decide_true,cond_true,aP,hv,Option.bind_some];by_cases d1:(12:Int)<Int.ofNat v.2.2.1.2.2.2.2.1.length
  ·simp only[d1,decide_true,cond_true];exact .inr ⟨_,rfl,trivial⟩
  ·simp only[d1,decide_false,cond_false];have hv5:=hs16 v (List.mem_of_getElem? hv);refine zel (uH v.2.2.1.2.2.2.2.1 hv5 _ (fun n j w hj hw=>.inl ?_) (fun n=> ?_) _)
   ·simp only[aB,hj,decide_true,cond_true,aP,hw,Option.bind_some,ok hv5 hj];exact⟨_,rfl⟩
   ·simp only[aB,Nat.lt_irrefl,decide_false,cond_false];exact⟨_,rfl,n,by rw[ok h16 hi]⟩
 simp only[aB,Nat.lt_irrefl,decide_false,cond_false];refine Af (uH a9 h9 _ (fun n i v hi hv=>.inl ?_) (fun n=> ?_) _)
 ·simp only[aB,hi,decide_true,cond_true,aP,hv,Option.bind_some,ok h9 hi];exact⟨_,rfl⟩
 simp only[aB,Nat.lt_irrefl,decide_false,cond_false];refine Af (uH a10 h10 _ (fun n i v hi hv=>.inl ?_) (fun n=> ?_) _)
 ·simp only[aB,hi,decide_true,cond_true,aP,hv,Option.bind_some,ok h10 hi];exact⟨_,rfl⟩
 simp only[aB,Nat.lt_irrefl,decide_false,cond_false];refine Af (uH a8 h8 _ (fun n i v hi hv=>.inl ?_) (fun n=> ?_) _)
 ·simp only[aB,hi,decide_true,cond_true,aP,hv,Option.bind_some,ok h8 hi];exact⟨_,rfl⟩
 simp only[aB,Nat.lt_irrefl,decide_false,cond_false];exact⟨_,rfl,trivial⟩
end Go.Proofs.YteebpcpkhojfkaaGreat
