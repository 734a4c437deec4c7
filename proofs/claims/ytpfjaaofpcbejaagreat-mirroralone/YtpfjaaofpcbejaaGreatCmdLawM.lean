/-
 Plain laws of what lies below,as this seat reaches them (by a program of the bench: port.py).
-/
import Derived.Test.YtpfjaaofpcbejaaGreatCmdLawL
import Derived.Test.YtpfjaaofpcbejaaGreatSxS
namespace Go.Proofs.YtpfjaaofpcbejaaGreat
open Go.Sx Go Classical
set_option maxRecDepth 10000
theorem zbu {c:bH} (h:oM c):uT c.2.2.2.2.2.2.2.1:=by
 obtain⟨hb,hk⟩:=h
 rcases hb.2.2.2.2.2.2.1 with hb | hb
 ·unfold jA at hk
  simp only [hb] at hk
  simp at hk
  exact hk.1
 ·rw [hb.1];exact⟨fun x hx=>by simp at hx,by simp⟩
theorem Pn:lU []:=⟨fun i v hv=>by simp at hv,by simp⟩
theorem LX {c:bH} (h:oM c):lU c.2.2.2.2.2.2.2.2.1∧lU c.2.2.2.2.2.2.2.2.2.1:=by
 obtain⟨hb,hk⟩:=h
 rcases hb.2.2.2.2.2.2.1 with hb | hb
 ·unfold jA at hk
  simp only [hb] at hk
  simp at hk
  exact hk.2
 ·rw [hb.2.1,hb.2.2];exact⟨Pn,Pn⟩
theorem zaQ {c:bH} (h:oM c):(∀ x∈c.2.2.2.2.2.2.2.2.2.2.2.2.2.2.1,iT x)∧c.2.2.2.2.2.2.2.2.2.2.2.2.2.2.1.length≤64:=by
 obtain⟨hb,hk⟩:=h
 rcases hb.2.2.2.2.2.2.2.2.2.2.2.1 with hb | hb | hb
 ·unfold jA at hk
  simp only [hb] at hk
  simp at hk
  obtain⟨-,-,-,-,h1,h2⟩:=hk
  refine⟨fun x hx=> ?_,by omega⟩
  obtain⟨i,hi⟩:=List.mem_iff_getElem?.1 hx
  exact⟨(h2 i x hi).1,(h2 i x hi).2.1⟩
 ·unfold jA at hk
  simp only [hb] at hk
  simp at hk
  obtain⟨-,-,-,-,-,h1,h2⟩:=hk
  refine⟨fun x hx=> ?_,h1⟩
  obtain⟨i,hi⟩:=List.mem_iff_getElem?.1 hx
  exact⟨(h2 i x hi).1,(h2 i x hi).2.1⟩
 ·rw [hb];exact⟨fun x hx=>by simp at hx,by simp⟩
theorem KN {c:bH} (h:oM c):oL c.2.2.2.2.2.2.2.2.2.2.2.2.2.2.2.1 15∧uz c.2.2.2.2.2.2.2.2.2.2.2.2.2.2.2.2.1:=by
 obtain⟨hb,hk⟩:=h
 rcases hb.2.2.2.2.2.2.2.2.2.2.2.2 with hb | hb
 ·unfold jA at hk
  simp only [hb] at hk
  simp at hk
  exact hk.2.2.2
 ·rw [hb.1,hb.2]
  exact⟨fun i v hv=>by simp at hv,fun i v hv=>by simp at hv,by simp⟩
theorem KH {l:List dJ} {m:Int} (h:oL l m):∀ s∈l,lH s.2.2.1:=fun s hs=>by
 obtain⟨i,hi⟩:=List.mem_iff_getElem?.1 hs
 exact (h i s hi).2.2.2.1
theorem lW:ShC Iz:=by
 refine⟨?_,?_,?_,?_,⟨?_,fun s hs=>by simp at hs⟩,?_⟩ <;> simp [Sh]
end Go.Proofs.YtpfjaaofpcbejaaGreat
