/-
 Plain laws of what lies below,as this seat reaches them (by a program of the bench: port.py).
-/
import Derived.Test.YtpfjaaofpcbejaaGreatTalkLawD
import Derived.Test.YtpfjaaofpcbejaaGreatSxS
namespace Go.Proofs.YtpfjaaofpcbejaaGreat
open Go.Sx Go Classical
set_option maxRecDepth 10000
theorem pO {α:Type} (l:List α) {X:Option (List α×Unit)} (hX:X=some (l,())):(bif List.isEmpty l then oV (List α×Unit) (some ([],())) X else X)=some (l,()):=by
 subst hX
 cases l with
 | nil=>exact zeI _
 | cons v l=>rfl
theorem FX {α:Type} {l:List α} {i:Nat} {v:α} (h:l[i]? = some v):l.set i v=l:=by
 apply List.ext_getElem?
 intro j
 have hi:i < l.length:=(List.getElem?_eq_some_iff.1 h).1
 by_cases e:i=j
 ·subst e
  rw [List.getElem?_set_self hi,h]
 ·rw [List.getElem?_set_ne e]
theorem zaI (l:List az) (h:l.length≤dG):Am (l,())=some (l,()):=by
 unfold Am
 exact pO l (aU (oG (by simpa using h)) rfl)
theorem JG (l:List UInt8) (h:l.length≤140737488355000):tK (l,())=some (l,()):=by
 unfold tK
 exact pO l (aU (zik (by simpa using h)) rfl)
theorem AA (l:List ae) (h:l.length≤dG):F73 (l,())=some (l,()):=by
 unfold F73
 exact pO l (aU (oG (by simpa using h)) rfl)
theorem zat (l:List dJ) (h:l.length≤2000000000000):Aj (l,())=some (l,()):=by
 unfold Aj
 exact pO l (aU (O3 (by simpa using h)) rfl)
theorem JA (l:List ay) (h:l.length≤dG):F76 (l,())=some (l,()):=by
 unfold F76
 exact pO l (aU (oG (by simpa using h)) rfl)
theorem zaJ (l:List aN) (h:l.length≤dG):Ak (l,())=some (l,()):=by
 unfold Ak
 exact pO l (aU (oG (by simpa using h)) rfl)
theorem Kv (l:List ax) (h:l.length≤dG):wV (l,())=some (l,()):=by
 unfold wV
 exact pO l (aU (oG (by simpa using h)) rfl)
theorem zae (l:List TBD) (h:l.length≤dG):F74 (l,())=some (l,()):=by
 unfold F74
 exact pO l (aU (oG (by simpa using h)) rfl)
def CapR (m:Msg):Prop:=m.2.2.2.2.2.2.2.2.2.1.length≤dG∧(∀ e∈m.2.2.2.2.2.2.2.2.2.1,e.2.2.1.length≤140737488355000)∧m.2.2.2.2.2.2.2.2.2.2.1.2.2.1.length≤140737488355000
theorem OX:dG≤9223372036854775806:=by decide
theorem zaH (m:Msg) (h:CapR m):F70 (m,())=some (m,()):=by
 obtain⟨a1,a2,a3,a4,a5,a6,a7,a8,a9,l,⟨s1,s2,s3,⟨⟩⟩,⟨⟩⟩:=m
 obtain⟨h1,h2,h3⟩:=h
 have h1:l.length≤dG:=h1
 have hb:=OX
 unfold F70
 refine aU (zaI l h1) ?_
 refine EO (mk:=fun i=>((i:Int),l,())) (n:=l.length) (by omega) (fun i hi=> ?_) ?_
 ·obtain⟨v,hv⟩:∃ v,l[i]? = some v:=⟨_,List.getElem?_eq_getElem hi⟩
  have hc:=JG v.2.2.1 (h2 v (List.mem_of_getElem? hv))
  have hset:l.set i (v.1,v.2.1,v.2.2.1,v.2.2.2)=l:=FX hv
  simp only [aI,hi,decide_true,cond_true,rq hi,hv,Option.bind_some]
  refine aU hc ?_
  simp only [rq hi,hv,Option.bind_some,hset,bF (show i < 9223372036854775807 by omega)]
 ·simp only [aI,Nat.lt_irrefl,decide_false,cond_false]
  have hc:tK (s3,())=some (s3,()):=JG s3 h3
  exact (congrArg (Option.map Sum.inr) (aU hc rfl)).trans rfl
def wX (r:fM):Prop:=r.2.2.2.2.1.length≤dG
theorem JF (r:fM) (h:wX r):F72 (r,())=some (r,()):=by
 obtain⟨a1,a2,a3,a4,a5,a6,a7,⟨⟩⟩:=r
 unfold F72
 exact aU (AA a5 h) rfl
def Jw (l:List dJ):Prop:=l.length≤2000000000000∧∀ s∈l,wX s.2.2.1
theorem JR (l:List dJ) (h:Jw l):F75 (l,())=some (l,()):=by
 unfold F75
 have h1:=h.1
 refine aU (zat l h.1) ?_
 refine EO (mk:=fun i=>(l,(i:Int),())) (n:=l.length) (by omega) (fun i hi=> ?_) ?_
 ·obtain⟨v,hv⟩:∃ v,l[i]? = some v:=⟨_,List.getElem?_eq_getElem hi⟩
  have hc:=JF v.2.2.1 (h.2 v (List.mem_of_getElem? hv))
  have hset:l.set i (v.1,v.2.1,v.2.2.1,v.2.2.2)=l:=FX hv
  simp only [aI,hi,decide_true,cond_true,rq hi,hv,Option.bind_some]
  refine aU hc ?_
  simp only [rq hi,hv,Option.bind_some,hset,bF (show i < 9223372036854775807 by omega)]
 ·simp only [aI,Nat.lt_irrefl,decide_false,cond_false]
def CapC (c:bH):Prop:=c.2.2.2.2.2.2.2.1.length≤dG∧c.2.2.2.2.2.2.2.2.1.length≤dG∧c.2.2.2.2.2.2.2.2.2.1.length≤dG∧c.2.2.2.2.2.2.2.2.2.2.2.2.2.2.1.length≤dG∧Jw c.2.2.2.2.2.2.2.2.2.2.2.2.2.2.2.1∧c.2.2.2.2.2.2.2.2.2.2.2.2.2.2.2.2.1.length≤dG
theorem za9 (c:bH) (h:CapC c):F71 (c,())=some (c,()):=by
 obtain⟨k,a2,a3,a4,a5,a6,a7,a8,a9,a10,a11,a12,a13,a14,a15,a16,a17,⟨⟩⟩:=c
 obtain⟨h1,h2,h3,h4,h5,h6⟩:=h
 unfold F71
 exact aU (zaJ a8 h1) (aU (Kv a9 h2) (aU (Kv a10 h3) (aU (AA a15 h4) (aU (JR a16 h5) (aU (JA a17 h6) rfl)))))
def tV (m:TMD):Prop:=CapR m.2.2.1∧CapC m.2.2.2.1.2.2.1∧wX m.2.2.2.2.2.2.2.2.2.2.2.1∧(m.2.2.2.2.2.2.2.2.2.2.2.2.1.length≤dG∧∀ b∈m.2.2.2.2.2.2.2.2.2.2.2.2.1,b.2.1.length≤dG)∧m.2.2.2.2.2.2.2.2.2.2.2.2.2.1.length≤dG∧(Jw m.2.2.2.2.2.2.2.2.2.2.2.2.2.2.2.1.2.2.1∧m.2.2.2.2.2.2.2.2.2.2.2.2.2.2.2.1.2.2.2.1.length≤dG)
theorem FP (m:TMD) (h:tV m):F49 (m,())=some (m,()):=by
 obtain⟨k,rid,raft,⟨j1,j2,j3,⟨⟩⟩,cl,fr,en,rev,most,err,hint,rep,bat,its,done,⟨d1,d2,d3,d4,⟨⟩⟩,mov,⟨⟩⟩:=m
 obtain⟨h1,h2,h3,⟨h4,h4'⟩,h5,h6,h7⟩:=h
 have h4:bat.length≤dG:=h4
 have hb:=OX
 unfold F49
 refine aU (zaH raft h1) (aU (za9 j3 h2) (aU (JF rep h3) (aU (AA its h5) (aU (zae bat h4) ?_))))
 refine EO (mk:=fun i=>((i:Int),bat,())) (n:=bat.length) (by omega) (fun i hi=> ?_) ?_
 ·obtain⟨v,hv⟩:∃ v,bat[i]? = some v:=⟨_,List.getElem?_eq_getElem hi⟩
  have hc:=AA v.2.1 (h4' v (List.mem_of_getElem? hv))
  have hset:bat.set i (v.1,v.2.1,v.2.2)=bat:=FX hv
  simp only [aI,hi,decide_true,cond_true,rq hi,hv,Option.bind_some]
  refine aU hc ?_
  simp only [rq hi,hv,Option.bind_some,hset,bF (show i < 9223372036854775807 by omega)]
 ·simp only [aI,Nat.lt_irrefl,decide_false,cond_false]
  exact (congrArg (Option.map Sum.inr) (aU (JR d3 h6) (aU (JA d4 h7) rfl))).trans rfl
theorem zbZ (m:TMD) (hk:1≤m.1∧m.1≤12) (h:jT m=m):(m.1≠1→m.2.2.1=iU)∧(m.1≠2→m.2.2.2.1=jc)∧(m.1≠8→m.2.2.2.2.2.2.2.2.2.2.2.1=iR)∧(m.1≠9→m.2.2.2.2.2.2.2.2.2.2.2.2.1=[])∧(m.1≠10→m.2.2.2.2.2.2.2.2.2.2.2.2.2.1=[])∧(m.1≠11→m.2.2.2.2.2.2.2.2.2.2.2.2.2.2.2.1=eQ):=by
 obtain⟨k,r⟩:=m
 rcases rE hk.1 hk.2 with e | e | e | e | e | e | e | e | e | e | e | e <;> (dsimp only at e;subst e)
 all_goals
  refine⟨?_,?_,?_,?_,?_,?_⟩
  ·first | exact fun hn=>absurd rfl hn | exact fun _=>(congrArg (fun m:TMD=>m.2.2.1) h).symm
  ·first | exact fun hn=>absurd rfl hn | exact fun _=>(congrArg (fun m:TMD=>m.2.2.2.1) h).symm
  ·first | exact fun hn=>absurd rfl hn | exact fun _=>(congrArg (fun m:TMD=>m.2.2.2.2.2.2.2.2.2.2.2.1) h).symm
  ·first | exact fun hn=>absurd rfl hn | exact fun _=>(congrArg (fun m:TMD=>m.2.2.2.2.2.2.2.2.2.2.2.2.1) h).symm
  ·first | exact fun hn=>absurd rfl hn | exact fun _=>(congrArg (fun m:TMD=>m.2.2.2.2.2.2.2.2.2.2.2.2.2.1) h).symm
  ·first | exact fun hn=>absurd rfl hn | exact fun _=>(congrArg (fun m:TMD=>m.2.2.2.2.2.2.2.2.2.2.2.2.2.2.2.1) h).symm
theorem Bf {m:TMD} (hm:ShT m) (h:iw m) (hs:m.2.2.2.1.2.2.1.2.2.2.2.2.2.2.2.2.2.2.2.2.2.2.1.length≤2000000000000) (hh:m.2.2.2.2.2.2.2.2.2.2.2.2.2.2.2.1.2.2.1.length≤2000000000000):tV m:=by
 obtain⟨hk,hp,hK⟩:=h
 obtain⟨p1,p2,p3,p4,p5,p6⟩:=zbZ m hk hp
 have cB:dG=34359738368:=rfl
 have z:∀ {α:Type},([]:List α).length≤dG:=fun {_}=>by simp
 unfold yL at hK
 refine⟨?_,?_,?_,?_,?_,?_⟩
 ·by_cases e:m.1=1
  ·have hR:qB m.2.2.1=true:=by unfold nJ at hK;grind
   obtain⟨hO,hS⟩:=zaR hm.1 hR
   have hrun:=KL hO.2.2.2.2.2.2.2.2
   have h4:=hO.2.2.2.2.2.2.2.1
   refine⟨by rw [cB];simp only [Int.ofNat_eq_natCast] at h4;omega,fun e he=>by have:=(hrun e he).2.2;omega,?_⟩
   by_cases e7:m.2.2.1.1=7
   ·have:=zbn (hS e7);omega
   ·rw [(zaP hO).2 e7];simp
  ·rw [p1 e];exact⟨z,fun e he=>by simp at he,by simp⟩
 ·by_cases e:m.1=2
  ·have hJ:vF m.2.2.2.1:=by unfold nJ at hK;grind
   have hC:=hJ.1
   have c1:=(zbu hC).2
   have c2:=(LX hC).1.2
   have c3:=(LX hC).2.2
   have c4:=(zaQ hC).2
   have c5:=(KN hC).1
   have c6:=(KN hC).2.2
   refine⟨by rw [cB];omega,by rw [cB];omega,by rw [cB];omega,by rw [cB];omega,⟨hs,fun s hs=> ?_⟩,by rw [cB];omega⟩
   have:=(KH c5 s hs).2.2.2.2.2.2.2.1
   unfold wX;rw [cB];omega
  ·rw [p2 e];exact⟨z,z,z,z,⟨by simp,fun s hs=>by simp at hs⟩,z⟩
 ·by_cases e:m.1=8
  ·have hJ:lH m.2.2.2.2.2.2.2.2.2.2.2.1:=by unfold nJ at hK;grind
   have:=hJ.2.2.2.2.2.2.2.1
   unfold wX;rw [cB];omega
  ·rw [p3 e];exact z
 ·by_cases e:m.1=9
  ·have hB:ul m.2.2.2.2.2.2.2.2.2.2.2.2.1:=by unfold nJ at hK;grind
   refine⟨by have:=hB.2;rw [cB];omega,fun b hb=> ?_⟩
   obtain⟨i,hi,rfl⟩:=List.mem_iff_getElem.1 hb
   have:=(hB.1 i _ (List.getElem?_eq_getElem hi)).2.1.1
   rw [cB];omega
  ·rw [p4 e];exact⟨z,fun b hb=>by simp at hb⟩
 ·by_cases e:m.1=10
  ·have hB:oH m.2.2.2.2.2.2.2.2.2.2.2.2.2.1 8:=by unfold nJ at hK;grind
   have:=hB.1
   rw [cB];omega
  ·rw [p5 e];exact z
 ·by_cases e:m.1=11
  ·have hB:m.2.2.2.2.2.2.2.2.2.2.2.2.2.2.2.1=eQ∨uS m.2.2.2.2.2.2.2.2.2.2.2.2.2.2.2.1:=by unfold nJ at hK;grind
   rcases hB with e | hB
   ·rw [e];exact⟨⟨by simp,fun s hs=>by simp at hs⟩,z⟩
   ·refine⟨⟨hh,fun s hs=> ?_⟩,by have:=hB.2.2.2.2;rw [cB];omega⟩
    have:=(KH hB.2.2.1 s hs).2.2.2.2.2.2.2.1
    unfold wX;rw [cB];omega
  ·rw [p6 e];exact⟨⟨by simp,fun s hs=>by simp at hs⟩,z⟩
end Go.Proofs.YtpfjaaofpcbejaaGreat
