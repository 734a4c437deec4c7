/-
 Plain laws of what lies below,as this seat reaches them (by a program of the bench: port.py).
-/
import Derived.Test.YteebpcpkhojfkaaGreatCmdLawL
import Derived.Test.YteebpcpkhojfkaaGreatSxS
namespace Go.Proofs.YteebpcpkhojfkaaGreat
open Go.Sx Go Classical
set_option maxRecDepth 10000
theorem JR {s:List UInt8} (h:lT s):IsKey s:=h.2
theorem zo {a b:List UInt8} (h:lH a b):IsKey a:=h.1
theorem wS {a b:List UInt8} (h:lH a b):b.length≤32:=by
 rcases h.2 with h|h
 ·rw[h];simp
 ·exact h.1.2.1
theorem zbj {c:bn} (h:kT c):c.2.1.length≤32:=by
 have h0:c.2.1=[]→c.2.1.length≤32:=fun e=>by rw[e];simp
 have h1:IsKey c.2.1→c.2.1.length≤32:=fun e=>e.len;obtain⟨hb,hk⟩:=h;have hb:=hb.1;unfold iJ uU at hk;rcases hb with hb|hb|hb|hb|hb|hb
 ·simp only[hb] at hk;simp at hk;exact h1 hk.1
 ·simp only[hb] at hk;simp at hk;exact h1 (zo hk)
 ·simp only[hb] at hk;simp at hk;exact h1 (JR hk.2)
 ·simp only[hb] at hk;simp at hk;exact h1 (JR hk.2.2.2.1)
 ·simp only[hb] at hk;simp at hk;exact hk.2.2.1.elim h0 h1
 ·exact h0 hb
theorem zbk {c:bn} (h:kT c):c.2.2.1.length≤32:=by
 obtain⟨hb,hk⟩:=h;have hb:=hb.2.1;have h0:c.2.2.1=[]→c.2.2.1.length≤32:=fun e=>by rw[e];simp
 have h1:IsKey c.2.2.1→c.2.2.1.length≤32:=fun e=>e.len;have h2:= @JR c.2.2.1;have h3:= @wS c.2.1 c.2.2.1;unfold iJ uU at hk;rcases hb with hb|hb|hb|hb
 ·exact h3 (by simp only[hb] at hk;simpa using hk)
 ·simp only[hb] at hk;exact h1 (h2 (by simp at hk;exact hk.2.2.2.2))
 ·simp only[hb] at hk;simp at hk;exact hk.2.2.2.1.elim h0 h1
 ·exact h0 hb
theorem QU {c:bn} (h:kT c):c.2.2.2.1.length≤40:=by
 obtain⟨hb,hk⟩:=h;rcases hb.2.2.1 with hb|hb
 ·unfold iJ at hk;simp only[hb] at hk;simp at hk;exact hk.2.1
 ·rw[hb];simp
theorem Ij {c:bn} (h:kT c):uY c.2.2.2.2.2.2.2.1:=by
 obtain⟨hb,hk⟩:=h;rcases hb.2.2.2.2.2.2.1 with hb|hb
 ·unfold iJ at hk;simp only[hb] at hk;simp at hk;exact hk.1
 ·rw[hb.1];exact⟨fun x hx=>by simp at hx,by simp⟩
theorem U1:mY []:=⟨fun i v hv=>by simp at hv,by simp⟩
theorem Dx {c:bn} (h:kT c):mY c.2.2.2.2.2.2.2.2.1∧mY c.2.2.2.2.2.2.2.2.2.1:=by
 obtain⟨hb,hk⟩:=h;rcases hb.2.2.2.2.2.2.1 with hb|hb
 ·unfold iJ at hk;simp only[hb] at hk;simp at hk;exact hk.2
 ·rw[hb.2.1,hb.2.2];exact⟨U1,U1⟩
theorem HY {c:bn} (h:kT c):(∀ x∈c.2.2.2.2.2.2.2.2.2.2.2.2.2.2.1,iK x)∧c.2.2.2.2.2.2.2.2.2.2.2.2.2.2.1.length≤64:=by
 obtain⟨hb,hk⟩:=h;rcases hb.2.2.2.2.2.2.2.2.2.2.2.1 with hb|hb|hb
 ·unfold iJ at hk;simp only[hb] at hk;simp at hk;obtain⟨-,-,-,-,h1,h2⟩:=hk;refine⟨fun x hx=> ?_,by omega⟩;obtain⟨i,hi⟩:=List.mem_iff_getElem?.1 hx;exact⟨(h2 i x hi).1,(h2 i x hi).2.1⟩
 ·unfold iJ at hk;simp only[hb] at hk;simp at hk;obtain⟨-,-,-,-,-,h1,h2⟩:=hk;refine⟨fun x hx=> ?_,h1⟩;obtain⟨i,hi⟩:=List.mem_iff_getElem?.1 hx;exact⟨(h2 i x hi).1,(h2 i x hi).2.1⟩
 ·rw[hb];exact⟨fun x hx=>by simp at hx,by simp⟩
theorem Di {c:bn} (h:kT c):qJ c.2.2.2.2.2.2.2.2.2.2.2.2.2.2.2.1 15∧xm c.2.2.2.2.2.2.2.2.2.2.2.2.2.2.2.2.1:=by
 obtain⟨hb,hk⟩:=h;rcases hb.2.2.2.2.2.2.2.2.2.2.2.2 with hb|hb
 ·unfold iJ at hk;simp only[hb] at hk;simp at hk;exact hk.2.2.2
 ·rw[hb.1,hb.2];exact⟨fun i v hv=>by simp at hv,fun i v hv=>by simp at hv,by simp⟩
theorem Ii {l:List aW} {m:Int} (h:qJ l m):∀ s∈l,iH s.2.2.1:=fun s hs=>by
 obtain⟨i,hi⟩:=List.mem_iff_getElem?.1 hs;exact(h i s hi).2.2.2.1
theorem Hz {c:bn} (h:kT c):Plain c:=⟨fun x hx=>zF ((HY h).1 x hx),Ii (Di h).1⟩
theorem zcY {x:dJ} (h:nV x):(nS x).length≤100:=by
 obtain⟨h1,-,-,h4⟩:=h;have hk:=h1.len;obtain⟨v1,v2,v3,v4,v5,⟨⟩⟩:=x;have h5:v5.length≤40:=by
  rcases h4 with h4|h4
  ·have:v5=[]:=h4.2.2.1;rw[this];simp
  ·exact h4.2.2
 rw[TZ];simp only[List.length_append,kJ,dZ,bu] at *;omega
theorem zdq {o:aV} (hk:jH o):(vS o).length≤200:=by
 have h1:=Eh (.inr (DZ hk).2);have h2:=wS (DZ hk).1;have h3:o.2.2.2.1.length≤40:=by
  rcases hk with hk|hk
  ·exact hk.2.2.2.1
  ·rw[hk.2.1];simp
 obtain⟨v1,v2,v3,v4,v5,⟨⟩⟩:=o;rw[UB];simp only[List.length_append,kJ,dZ,bu] at *;omega
theorem zcX {l:List dJ} (h:uY l):(qR l).length≤404:=by
 have e:(qR l).length=4+(l.flatMap nS).length:=by unfold qR iO;rw[List.length_append,kG]
 have h2:=qm (l:=l) (e:=nS) (n:=100) fun x hx=>zcY (h.1 x hx);have h3:=h.2;omega
theorem UA {l:List aV} (h:mY l):(lg l).length≤804:=by
 have e:(lg l).length=4+(l.flatMap vS).length:=by unfold lg iO;rw[List.length_append,kG]
 have h2:=qm (l:=l) (e:=vS) (n:=200) fun o ho=>by obtain⟨i,hi⟩:=List.mem_iff_getElem?.1 ho;exact zdq (h.1 i o hi).1
 have h3:=h.2;omega
theorem QV {c:bn} (h:kT c) (hs:c.2.2.2.2.2.2.2.2.2.2.2.2.2.2.2.1.length≤60000):(vW c).length≤200000000:=by
 have k2:=zbj h;have k3:=zbk h;have k4:=QU h;have k8:=zcX (Ij h);have k9:=UA (Dx h).1;have k10:=UA (Dx h).2;have k15:=wL c.2.2.2.2.2.2.2.2.2.2.2.2.2.2.1;have k15l:=(HY h).2;have k16:=QP c.2.2.2.2.2.2.2.2.2.2.2.2.2.2.2.1;have k17:=PH c.2.2.2.2.2.2.2.2.2.2.2.2.2.2.2.2.1;have k17l:=(Di h).2.2;rw[uF (Hz h).1] at k15;rw[DU (Hz h).2] at k16;obtain⟨k,a2,a3,a4,a5,a6,a7,a8,a9,a10,a11,a12,a13,a14,a15,a16,a17,⟨⟩⟩:=c;rw[UH];simp only[List.length_append,kJ,dZ,bu,fK] at *;omega
theorem lV:ShC WN:=by
 refine⟨?_,?_,?_,?_,⟨?_,fun s hs=>by simp at hs⟩,?_⟩<;>simp[Sh]
end Go.Proofs.YteebpcpkhojfkaaGreat
