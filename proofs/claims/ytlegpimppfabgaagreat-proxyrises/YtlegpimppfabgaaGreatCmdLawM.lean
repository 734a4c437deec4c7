/-
 Plain laws of what lies below,as this seat reaches them (by a program of the bench: port.py).
-/
import Derived.Test.YtlegpimppfabgaaGreatCmdLawL
import Derived.Test.YtlegpimppfabgaaGreatSxS
namespace Go.Proofs.YtlegpimppfabgaaGreat
open Go.Sx Go Classical
set_option maxRecDepth 10000
theorem GZ {c:aJ} (h:gq c):1≤c.1∧c.1≤16:=by
 have hk:=h.2;unfold iD at hk;omega
theorem YH {c:aJ} (h:gq c):pW c.2.2.2.2.2.2.2.1:=by
 obtain⟨hb,hk⟩:=h;rcases hb.2.2.2.2.2.2.1 with hb|hb
 ·unfold iD at hk;simp only[hb] at hk;simp at hk;exact hk.1
 ·rw[hb.1];exact⟨fun x hx=>by simp at hx,by simp⟩
theorem SQ:jV []:=⟨fun i v hv=>by simp at hv,by simp⟩
theorem Py {c:aJ} (h:gq c):jV c.2.2.2.2.2.2.2.2.1∧jV c.2.2.2.2.2.2.2.2.2.1:=by
 obtain⟨hb,hk⟩:=h;rcases hb.2.2.2.2.2.2.1 with hb|hb
 ·unfold iD at hk;simp only[hb] at hk;simp at hk;exact hk.2
 ·rw[hb.2.1,hb.2.2];exact⟨SQ,SQ⟩
theorem XY {c:aJ} (h:gq c):(∀ x∈c.2.2.2.2.2.2.2.2.2.2.2.2.2.2.1,jk x)∧c.2.2.2.2.2.2.2.2.2.2.2.2.2.2.1.length≤64:=by
 obtain⟨hb,hk⟩:=h;rcases hb.2.2.2.2.2.2.2.2.2.2.2.1 with hb|hb|hb
 ·unfold iD at hk;simp only[hb] at hk;simp at hk;obtain⟨-,-,-,-,h1,h2⟩:=hk;refine⟨fun x hx=> ?_,by omega⟩;obtain⟨i,hi⟩:=List.mem_iff_getElem?.1 hx;exact⟨(h2 i x hi).1,(h2 i x hi).2.1⟩
 ·unfold iD at hk;simp only[hb] at hk;simp at hk;obtain⟨-,-,-,-,-,h1,h2⟩:=hk;refine⟨fun x hx=> ?_,h1⟩;obtain⟨i,hi⟩:=List.mem_iff_getElem?.1 hx;exact⟨(h2 i x hi).1,(h2 i x hi).2.1⟩
 ·rw[hb];exact⟨fun x hx=>by simp at hx,by simp⟩
theorem OI {c:aJ} (h:gq c):pV c.2.2.2.2.2.2.2.2.2.2.2.2.2.2.2.1 15∧vN c.2.2.2.2.2.2.2.2.2.2.2.2.2.2.2.2.1:=by
 obtain⟨hb,hk⟩:=h;rcases hb.2.2.2.2.2.2.2.2.2.2.2.2 with hb|hb
 ·unfold iD at hk;simp only[hb] at hk;simp at hk;exact hk.2.2.2
 ·rw[hb.1,hb.2];exact⟨fun i v hv=>by simp at hv,fun i v hv=>by simp at hv,by simp⟩
theorem OC {l:List dw} {m:Int} (h:pV l m):∀ s∈l,mJ s.2.2.1:=fun s hs=>by
 obtain⟨i,hi⟩:=List.mem_iff_getElem?.1 hs;exact(h i s hi).2.2.2.1
theorem nH:ShC fB:=by
 refine⟨?_,?_,?_,?_,⟨?_,fun s hs=>by simp at hs⟩,?_⟩<;>simp[Sh]
end Go.Proofs.YtlegpimppfabgaaGreat
