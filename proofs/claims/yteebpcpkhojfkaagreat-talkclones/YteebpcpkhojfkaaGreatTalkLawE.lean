/-
 Plain laws of what lies below,as this seat reaches them (by a program of the bench: port.py).
-/
import Derived.Test.YteebpcpkhojfkaaGreatTalkLawD
import Derived.Test.YteebpcpkhojfkaaGreatSxS
namespace Go.Proofs.YteebpcpkhojfkaaGreat
open Go.Sx Go Classical
set_option maxRecDepth 10000
theorem rM {α:Type} (l:List α) {X:Option (List α×Unit)} (hX:X=some (l,())):(bif List.isEmpty l then pz (List α×Unit) (some ([],())) X else X)=some (l,()):=by
 subst hX;cases l with
 | nil=>exact RU _
 | cons v l=>rfl
theorem DT {α:Type} {l:List α} {i:Nat} {v:α} (h:l[i]? = some v):l.set i v=l:=by
 apply List.ext_getElem?;intro j;have hi:i<l.length:=(List.getElem?_eq_some_iff.1 h).1;by_cases e:i=j
 ·subst e;rw[List.getElem?_set_self hi,h]
 ·rw[List.getElem?_set_ne e]
theorem Zr (l:List bF) (h:l.length≤bZ):GK (l,())=some (l,()):=by
 unfold GK;exact rM l (aK (xB (by simpa using h)) rfl)
theorem OX (l:List UInt8) (h:l.length≤140737488355000):wE (l,())=some (l,()):=by
 unfold wE;exact rM l (aK (mM (by simpa using h)) rfl)
theorem CU (l:List aO) (h:l.length≤bZ):F84 (l,())=some (l,()):=by
 unfold F84;exact rM l (aK (xB (by simpa using h)) rfl)
theorem Za (l:List aW) (h:l.length≤2000000000000):GH (l,())=some (l,()):=by
 unfold GH;exact rM l (aK (UL (by simpa using h)) rfl)
theorem OL (l:List dm) (h:l.length≤bZ):F87 (l,())=some (l,()):=by
 unfold F87;exact rM l (aK (xB (by simpa using h)) rfl)
theorem Zt (l:List dJ) (h:l.length≤bZ):GI (l,())=some (l,()):=by
 unfold GI;exact rM l (aK (xB (by simpa using h)) rfl)
theorem PQ (l:List aV) (h:l.length≤bZ):Cb (l,())=some (l,()):=by
 unfold Cb;exact rM l (aK (xB (by simpa using h)) rfl)
theorem YV (l:List TBD) (h:l.length≤bZ):F85 (l,())=some (l,()):=by
 unfold F85;exact rM l (aK (xB (by simpa using h)) rfl)
def YT (m:Msg):Prop:=m.2.2.2.2.2.2.2.2.2.1.length≤bZ∧(∀ e∈m.2.2.2.2.2.2.2.2.2.1,e.2.2.1.length≤140737488355000)∧m.2.2.2.2.2.2.2.2.2.2.1.2.2.1.length≤140737488355000
theorem J6:bZ≤9223372036854775806:=by decide
def yS (r:dG):Prop:=r.2.2.2.2.1.length≤bZ
def OD (l:List aW):Prop:=l.length≤2000000000000∧∀ s∈l,yS s.2.2.1
def YU (c:bn):Prop:=c.2.2.2.2.2.2.2.1.length≤bZ∧c.2.2.2.2.2.2.2.2.1.length≤bZ∧c.2.2.2.2.2.2.2.2.2.1.length≤bZ∧c.2.2.2.2.2.2.2.2.2.2.2.2.2.2.1.length≤bZ∧OD c.2.2.2.2.2.2.2.2.2.2.2.2.2.2.2.1∧c.2.2.2.2.2.2.2.2.2.2.2.2.2.2.2.2.1.length≤bZ
def YS (m:TMD):Prop:=YT m.2.2.1∧YU m.2.2.2.1.2.2.1∧yS m.2.2.2.2.2.2.2.2.2.2.2.1∧(m.2.2.2.2.2.2.2.2.2.2.2.2.1.length≤bZ∧∀ b∈m.2.2.2.2.2.2.2.2.2.2.2.2.1,b.2.1.length≤bZ)∧m.2.2.2.2.2.2.2.2.2.2.2.2.2.1.length≤bZ∧(OD m.2.2.2.2.2.2.2.2.2.2.2.2.2.2.2.1.2.2.1∧m.2.2.2.2.2.2.2.2.2.2.2.2.2.2.2.1.2.2.2.1.length≤bZ)
theorem zaB (m:TMD) (hk:1≤m.1∧m.1≤12) (h:kW m=m):(m.1≠1→m.2.2.1=jB)∧(m.1≠2→m.2.2.2.1=jC)∧(m.1≠8→m.2.2.2.2.2.2.2.2.2.2.2.1=gY)∧(m.1≠9→m.2.2.2.2.2.2.2.2.2.2.2.2.1=[])∧(m.1≠10→m.2.2.2.2.2.2.2.2.2.2.2.2.2.1=[])∧(m.1≠11→m.2.2.2.2.2.2.2.2.2.2.2.2.2.2.2.1=dX):=by
 obtain⟨k,r⟩:=m;rcases qy hk.1 hk.2 with e|e|e|e|e|e|e|e|e|e|e|e<;>(dsimp only at e;subst e)
 all_goals
  refine⟨?_,?_,?_,?_,?_,?_⟩
  ·first|exact fun hn=>absurd rfl hn|exact fun _=>(congrArg (fun m:TMD=>m.2.2.1) h).symm
  ·first|exact fun hn=>absurd rfl hn|exact fun _=>(congrArg (fun m:TMD=>m.2.2.2.1) h).symm
  ·first|exact fun hn=>absurd rfl hn|exact fun _=>(congrArg (fun m:TMD=>m.2.2.2.2.2.2.2.2.2.2.2.1) h).symm
  ·first|exact fun hn=>absurd rfl hn|exact fun _=>(congrArg (fun m:TMD=>m.2.2.2.2.2.2.2.2.2.2.2.2.1) h).symm
  ·first|exact fun hn=>absurd rfl hn|exact fun _=>(congrArg (fun m:TMD=>m.2.2.2.2.2.2.2.2.2.2.2.2.2.1) h).symm
  ·first|exact fun hn=>absurd rfl hn|exact fun _=>(congrArg (fun m:TMD=>m.2.2.2.2.2.2.2.2.2.2.2.2.2.2.2.1) h).symm
theorem zbl {m:TMD} (hm:ShT m) (h:mQ m) (hs:m.2.2.2.1.2.2.1.2.2.2.2.2.2.2.2.2.2.2.2.2.2.2.1.length≤2000000000000) (hh:m.2.2.2.2.2.2.2.2.2.2.2.2.2.2.2.1.2.2.1.length≤2000000000000):YS m:=by
 obtain⟨hk,hp,hK⟩:=h;obtain⟨p1,p2,p3,p4,p5,p6⟩:=zaB m hk hp;have cB:bZ=34359738368:=rfl;have z:∀ {α:Type},([]:List α).length≤bZ:=fun{_}=>by simp
 unfold vN at hK;refine⟨?_,?_,?_,?_,?_,?_⟩
 ·by_cases e:m.1=1
  ·have hR:qZ m.2.2.1=true:=by unfold mZ at hK;grind
   obtain⟨hO,hS⟩:=H5 hm.1 hR;have hrun:=Dh hO.2.2.2.2.2.2.2.2;have h4:=hO.2.2.2.2.2.2.2.1;refine⟨by rw[cB];simp only[Int.ofNat_eq_natCast] at h4;omega,fun e he=>by have:=(hrun e he).2.2;omega,?_⟩;by_cases e7:m.2.2.1.1=7
   ·have:=Ih (hS e7);omega
   ·rw[(Pv hO).2 e7];simp
  ·rw[p1 e];exact⟨z,fun e he=>by simp at he,by simp⟩
 ·by_cases e:m.1=2
  ·have hJ:vO m.2.2.2.1:=by unfold mZ at hK;grind
   have hC:=hJ.1;have c1:=(Ij hC).2;have c2:=(Dx hC).1.2;have c3:=(Dx hC).2.2;have c4:=(HY hC).2;have c5:=(Di hC).1;have c6:=(Di hC).2.2;refine⟨by rw[cB];omega,by rw[cB];omega,by rw[cB];omega,by rw[cB];omega,⟨hs,fun s hs=> ?_⟩,by rw[cB];omega⟩;have:=(Ii c5 s hs).2.2.2.2.2.2.2.1;unfold yS;rw[cB];omega
  ·rw[p2 e];exact⟨z,z,z,z,⟨by simp,fun s hs=>by simp at hs⟩,z⟩
 ·by_cases e:m.1=8
  ·have hJ:iH m.2.2.2.2.2.2.2.2.2.2.2.1:=by unfold mZ at hK;grind
   have:=hJ.2.2.2.2.2.2.2.1;unfold yS;rw[cB];omega
  ·rw[p3 e];exact z
 ·by_cases e:m.1=9
  ·have hB:rQ m.2.2.2.2.2.2.2.2.2.2.2.2.1:=by unfold mZ at hK;grind
   refine⟨by have:=hB.2;rw[cB];omega,fun b hb=> ?_⟩;obtain⟨i,hi,rfl⟩:=List.mem_iff_getElem.1 hb;have:=(hB.1 i _ (List.getElem?_eq_getElem hi)).2.1.1;rw[cB];omega
  ·rw[p4 e];exact⟨z,fun b hb=>by simp at hb⟩
 ·by_cases e:m.1=10
  ·have hB:qE m.2.2.2.2.2.2.2.2.2.2.2.2.2.1 8:=by unfold mZ at hK;grind
   have:=hB.1;rw[cB];omega
  ·rw[p5 e];exact z
 ·by_cases e:m.1=11
  ·have hB:m.2.2.2.2.2.2.2.2.2.2.2.2.2.2.2.1=dX∨lL m.2.2.2.2.2.2.2.2.2.2.2.2.2.2.2.1:=by unfold mZ at hK;grind
   rcases hB with e|hB
   ·rw[e];exact⟨⟨by simp,fun s hs=>by simp at hs⟩,z⟩
   ·refine⟨⟨hh,fun s hs=> ?_⟩,by have:=hB.2.2.2.2;rw[cB];omega⟩;have:=(Ii hB.2.2.1 s hs).2.2.2.2.2.2.2.1;unfold yS;rw[cB];omega
  ·rw[p6 e];exact⟨⟨by simp,fun s hs=>by simp at hs⟩,z⟩
end Go.Proofs.YteebpcpkhojfkaaGreat
