/-
 Talk: a message by itself is like the one that it was made of,which stays as it is.
-/
import Derived.Test.YteebpcpkhojfkaaGreatTalcLawL
namespace Go.Proofs.YteebpcpkhojfkaaGreat
open Go.Sx Go Classical
set_option maxRecDepth 10000
theorem zbF (x:(bQ P6).den) (hx:fF (bQ P6) x) (hm:kC (bQ P6) x):F6 x=some (true,()):=by
 obtain⟨m,⟨⟩⟩:TMD×Unit:=x;have hf:fF TM m:=hx.1;have zm:=szT hf;obtain⟨f1,e1,g1⟩:=zdE m zm.1 (zaE hm.1);unfold F6;simp only[zb0,Option.bind_some,Bool.not_true,cond_false];refine aK e1 ?_;cases f1 with
 | false=>rfl
 | true=>
  obtain⟨s1,s2⟩:=g1 rfl;have hs:m.2.2.2.1.2.2.1.2.2.2.2.2.2.2.2.2.2.2.2.2.2.2.1.length≤60000:=by omega
  have hh:m.2.2.2.2.2.2.2.2.2.2.2.2.2.2.2.1.2.2.1.length≤60000:=by omega
  have hr:=zan m zm;simp only[Bool.not_true,cond_false];refine aK hr ?_;by_cases hR:mQ m
  case neg=>rw[bU hR];rfl
  rw[bP hR];simp only[Bool.not_true,cond_false];have hb:=za6 m zm hf.2.2.2.2.2.2.2.2.2.2.2.2.2.2.2.1 hR hs hh;refine aK hb ?_;simp only[zdS,Option.bind_some];have hcap:=zbl zm.1 hR (by omega) (by omega);refine aK (zaQ m hcap) ?_;have hS:=Q5 m m zm.1;rw[bP rfl] at hS;refine aK hS ?_;simp only[Bool.not_true,cond_false,decide_true,cond_true];obtain⟨⟨c1,c2,c3⟩,⟨d1,d2,d3,d4,⟨d5,d5'⟩,d6⟩,e2,⟨e3,e3'⟩,e4,⟨e5,e5'⟩,e6⟩:=hcap;refine aK (zcb (LH m,()) c1 c2 c3 d2 d4 d5 d5' e2 e3 e3' e6) ?_;refine aK hb ?_;simp only[decide_true]
end Go.Proofs.YteebpcpkhojfkaaGreat
