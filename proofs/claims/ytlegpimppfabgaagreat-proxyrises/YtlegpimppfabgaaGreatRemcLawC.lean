/-
 Plain laws of what lies below,as this seat reaches them (by a program of the bench: port.py).
-/
import Derived.Test.YtlegpimppfabgaaGreatRemcLawB
import Derived.Test.YtlegpimppfabgaaGreatSxS
namespace Go.Proofs.YtlegpimppfabgaaGreat
open Go.Sx Go Classical
set_option maxRecDepth 10000
theorem zaJ {p q:List UInt8} {c:aJ} (hc:ShC c):ShC (dU p q c).1:=by
 have hN:ShC fB:=by refine⟨?_,?_,?_,?_,⟨?_,fun s hs=>by simp at hs⟩,?_⟩<;>simp[Sh]
 unfold dU;cases dec' (gq c∧c.1≤7) with
 | false=>exact hN
 | true=>
  simp only[cond_true];cases decide (c.1≤2) with
  | true=>
   simp only[cond_true];cases (dC p q c.2.1 c.2.2.1).2.2.1 with
   | true=>exact hc
   | false=>exact hN
  | false=>
   simp only[cond_false];cases decide (c.1=3) with
   | false=>exact hc
   | true=>
    simp only[cond_true];cases c.2.2.2.2.2.2.2.1.all (cOk p q) with
    | false=>exact hN
    | true=>
     cases c.2.2.2.2.2.2.2.2.1.all (oOk p q) with
     | false=>exact hN
     | true=>
      cases c.2.2.2.2.2.2.2.2.2.1.all (oOk p q) with
      | false=>exact hN
      | true=>exact⟨wo _ hc.1,wo _ hc.2.1,wo _ hc.2.2.1,hc.2.2.2⟩
theorem GG {p q k e:List UInt8} (hq:St q) (hk:St k) (he:St e):St (dC p q k e).1∧St (dC p q k e).2.1:=by
 rcases Bq p q k e with h|⟨k',e',hM,h⟩
 ·rw[h];exact⟨by simp,by simp⟩
 ·rw[h];have h1:=hM.2.2.2.1.1.len;have h2:=hM.2.2.2.1.len;exact⟨by show k'.length≤_;omega,by show e'.length≤_;omega⟩
theorem zaH {p q:List UInt8} (hq:St q) {c:aJ} (hz:ng c):ng (dU p q c).1:=by
 have hN:ng fB:=DC (by simp[gJ,IntKind.min,IntKind.max,IntKind.bits,IntKind.signed]);have hs:=zaJ (p:=p) (q:=q) hz.1;by_cases hR:gq c∧c.1≤7
 case neg=>
  have e:dU p q c=(fB,false,()):=by unfold dU;rw[dA hR];rfl
  rw[e];exact hN
 have hkk:=GZ hR.1;obtain⟨z1,⟨n1,n2,n3,n4⟩,z2,z3,zc,z9,z10,zr⟩:=hz;obtain⟨s1,s2,s3⟩:=GG (p:=p) hq z2 z3 |>.imp id (fun h=>(⟨h,trivial⟩:_∧True));by_cases h2:c.1≤2
 ·have e:dU p q c=bif (dC p q c.2.1 c.2.2.1).2.2.1 then((c.1,(dC p q c.2.1 c.2.2.1).1,(dC p q c.2.1 c.2.2.1).2.1,c.2.2.2),true,()) else(fB,false,()):=by
   unfold dU;rw[bK hR,decide_eq_true h2];rfl
  rw[e];cases (dC p q c.2.1 c.2.2.1).2.2.1 with
  | false=>exact hN
  | true=>exact⟨z1,⟨n1,n2,n3,n4⟩,s1,s2,zc,z9,z10,zr⟩
 ·by_cases h3:c.1=3
  ·cases a1:c.2.2.2.2.2.2.2.1.all (cOk p q) with
   | false=>
    have e:dU p q c=(fB,false,()):=by unfold dU;rw[bK hR,decide_eq_false h2,decide_eq_true h3,a1];rfl
    rw[e];exact hN
   | true=>
    cases a2:c.2.2.2.2.2.2.2.2.1.all (oOk p q) with
    | false=>
     have e:dU p q c=(fB,false,()):=by unfold dU;rw[bK hR,decide_eq_false h2,decide_eq_true h3,a1,a2];rfl
     rw[e];exact hN
    | true=>
     cases a3:c.2.2.2.2.2.2.2.2.2.1.all (oOk p q) with
     | false=>
      have e:dU p q c=(fB,false,()):=by unfold dU;rw[bK hR,decide_eq_false h2,decide_eq_true h3,a1,a2,a3];rfl
      rw[e];exact hN
     | true=>
      have e:dU p q c=((c.1,c.2.1,c.2.2.1,c.2.2.2.1,c.2.2.2.2.1,c.2.2.2.2.2.1,c.2.2.2.2.2.2.1,c.2.2.2.2.2.2.2.1.map (cTo p q),c.2.2.2.2.2.2.2.2.1.map (oTo p q),c.2.2.2.2.2.2.2.2.2.1.map (oTo p q),c.2.2.2.2.2.2.2.2.2.2),true,()):=by unfold dU;rw[bK hR,decide_eq_false h2,decide_eq_true h3,a1,a2,a3];rfl
      rw[e] at hs ⊢;have op:∀ {l:List aK},(∀ o∈l,qy o)→∀ o∈l.map (oTo p q),qy o:=fun hl o ho=>by obtain⟨o0,ho0,rfl⟩:=List.mem_map.1 ho;obtain⟨w1,w2,w3⟩:=hl o0 ho0;obtain⟨v1,v2⟩:=GG (p:=p) hq w1 w2;exact⟨v1,v2,w3⟩
      refine⟨hs,⟨by simpa using n1,by simpa using n2,by simpa using n3,n4⟩,z2,z3,fun x hx=> ?_,op z9,op z10,zr⟩;obtain⟨x0,hx0,rfl⟩:=List.mem_map.1 hx;unfold cTo;rcases GL p q x0.1 with e|⟨r,g1,g2,g3,g4,g5,e⟩
      ·rw[e];simp
      ·rw[e];have:=g5.len;show(q++r).length≤_;omega
  ·have e:dU p q c=(c,true,()):=by unfold dU;rw[bK hR,decide_eq_false h2,decide_eq_false h3];rfl
   rw[e];exact⟨z1,⟨n1,n2,n3,n4⟩,z2,z3,zc,z9,z10,zr⟩
end Go.Proofs.YtlegpimppfabgaaGreat
