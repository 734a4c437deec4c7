/-
 Plain laws of what lies below,as this seat reaches them (by a program of the bench: port.py).
-/
import Derived.Test.YtlegpimppfabgaaGreatTalkLawD
import Derived.Test.YtlegpimppfabgaaGreatSxS
namespace Go.Proofs.YtlegpimppfabgaaGreat
open Go.Sx Go Classical
set_option maxRecDepth 10000
theorem nT {α:Type} (l:List α) {X:Option (List α×Unit)} (hX:X=some (l,())):(bif List.isEmpty l then nH (List α×Unit) (some ([],())) X else X)=some (l,()):=by
 subst hX
 cases l with
 | nil=>exact zbM _
 | cons v l=>rfl
theorem DZ {α:Type} {l:List α} {i:Nat} {v:α} (h:l[i]? = some v):l.set i v=l:=by
 apply List.ext_getElem?
 intro j
 have hi:i < l.length:=(List.getElem?_eq_some_iff.1 h).1
 by_cases e:i=j
 ·subst e
  rw [List.getElem?_set_self hi,h]
 ·rw [List.getElem?_set_ne e]
theorem X5 (l:List aC) (h:l.length≤di):F87 (l,())=some (l,()):=by
 unfold F87
 exact nT l (aS (lN (by simpa using h)) rfl)
theorem Ie (l:List UInt8) (h:l.length≤140737488355000):F88 (l,())=some (l,()):=by
 unfold F88
 exact nT l (aS (zd9 (by simpa using h)) rfl)
theorem yH (l:List af) (h:l.length≤di):F57 (l,())=some (l,()):=by
 unfold F57
 exact nT l (aS (lN (by simpa using h)) rfl)
theorem XO (l:List dJ) (h:l.length≤2000000000000):F89 (l,())=some (l,()):=by
 unfold F89
 exact nT l (aS (MN (by simpa using h)) rfl)
theorem H6 (l:List aG) (h:l.length≤di):F63 (l,())=some (l,()):=by
 unfold F63
 exact nT l (aS (lN (by simpa using h)) rfl)
theorem Ir (l:List aN) (h:l.length≤di):F44 (l,())=some (l,()):=by
 unfold F44
 exact nT l (aS (lN (by simpa using h)) rfl)
theorem yO (l:List au) (h:l.length≤di):F45 (l,())=some (l,()):=by
 unfold F45
 exact nT l (aS (lN (by simpa using h)) rfl)
theorem XA (l:List TBD) (h:l.length≤di):F61 (l,())=some (l,()):=by
 unfold F61
 exact nT l (aS (lN (by simpa using h)) rfl)
def Xx (m:Msg):Prop:=m.2.2.2.2.2.2.2.2.2.1.length≤di∧(∀ e∈m.2.2.2.2.2.2.2.2.2.1,e.2.2.1.length≤140737488355000)∧m.2.2.2.2.2.2.2.2.2.2.1.2.2.1.length≤140737488355000
theorem MI:di≤9223372036854775806:=by decide
theorem X4 (m:Msg) (h:Xx m):F58 (m,())=some (m,()):=by
 obtain⟨a1,a2,a3,a4,a5,a6,a7,a8,a9,l,⟨s1,s2,s3,⟨⟩⟩,⟨⟩⟩:=m
 obtain⟨h1,h2,h3⟩:=h
 have h1:l.length≤di:=h1
 have hb:=MI
 unfold F58
 refine aS (X5 l h1) ?_
 refine CS (mk:=fun i=>((i:Int),l,())) (n:=l.length) (by omega) (fun i hi=> ?_) ?_
 ·obtain⟨v,hv⟩:∃ v,l[i]? = some v:=⟨_,List.getElem?_eq_getElem hi⟩
  have hc:=Ie v.2.2.1 (h2 v (List.mem_of_getElem? hv))
  have hset:l.set i (v.1,v.2.1,v.2.2.1,v.2.2.2)=l:=DZ hv
  simp only [aO,hi,decide_true,cond_true,pW hi,hv,Option.bind_some]
  refine aS hc ?_
  simp only [pW hi,hv,Option.bind_some,hset,bY (show i < 9223372036854775807 by omega)]
 ·simp only [aO,Nat.lt_irrefl,decide_false,cond_false]
  have hc:F88 (s3,())=some (s3,()):=Ie s3 h3
  exact (congrArg (Option.map Sum.inr) (aS hc rfl)).trans rfl
def vg (r:fG):Prop:=r.2.2.2.2.1.length≤di
theorem Ic (r:fG) (h:vg r):F60 (r,())=some (r,()):=by
 obtain⟨a1,a2,a3,a4,a5,a6,a7,⟨⟩⟩:=r
 unfold F60
 exact aS (yH a5 h) rfl
def Hz (l:List dJ):Prop:=l.length≤2000000000000∧∀ s∈l,vg s.2.2.1
theorem Iq (l:List dJ) (h:Hz l):F62 (l,())=some (l,()):=by
 unfold F62
 have h1:=h.1
 refine aS (XO l h.1) ?_
 refine CS (mk:=fun i=>(l,(i:Int),())) (n:=l.length) (by omega) (fun i hi=> ?_) ?_
 ·obtain⟨v,hv⟩:∃ v,l[i]? = some v:=⟨_,List.getElem?_eq_getElem hi⟩
  have hc:=Ic v.2.2.1 (h.2 v (List.mem_of_getElem? hv))
  have hset:l.set i (v.1,v.2.1,v.2.2.1,v.2.2.2)=l:=DZ hv
  simp only [aO,hi,decide_true,cond_true,pW hi,hv,Option.bind_some]
  refine aS hc ?_
  simp only [pW hi,hv,Option.bind_some,hset,bY (show i < 9223372036854775807 by omega)]
 ·simp only [aO,Nat.lt_irrefl,decide_false,cond_false]
def Xy (c:bi):Prop:=c.2.2.2.2.2.2.2.1.length≤di∧c.2.2.2.2.2.2.2.2.1.length≤di∧c.2.2.2.2.2.2.2.2.2.1.length≤di∧c.2.2.2.2.2.2.2.2.2.2.2.2.2.2.1.length≤di∧Hz c.2.2.2.2.2.2.2.2.2.2.2.2.2.2.2.1∧c.2.2.2.2.2.2.2.2.2.2.2.2.2.2.2.2.1.length≤di
theorem Yw (c:bi) (h:Xy c):F59 (c,())=some (c,()):=by
 obtain⟨k,a2,a3,a4,a5,a6,a7,a8,a9,a10,a11,a12,a13,a14,a15,a16,a17,⟨⟩⟩:=c
 obtain⟨h1,h2,h3,h4,h5,h6⟩:=h
 unfold F59
 exact aS (Ir a8 h1) (aS (yO a9 h2) (aS (yO a10 h3) (aS (yH a15 h4) (aS (Iq a16 h5) (aS (H6 a17 h6) rfl)))))
def Hy (m:TMD):Prop:=Xx m.2.2.1∧Xy m.2.2.2.1.2.2.1∧vg m.2.2.2.2.2.2.2.2.2.2.2.1∧(m.2.2.2.2.2.2.2.2.2.2.2.2.1.length≤di∧∀ b∈m.2.2.2.2.2.2.2.2.2.2.2.2.1,b.2.1.length≤di)∧m.2.2.2.2.2.2.2.2.2.2.2.2.2.1.length≤di∧(Hz m.2.2.2.2.2.2.2.2.2.2.2.2.2.2.2.1.2.2.1∧m.2.2.2.2.2.2.2.2.2.2.2.2.2.2.2.1.2.2.2.1.length≤di)
theorem Kv (m:TMD) (h:Hy m):F24 (m,())=some (m,()):=by
 obtain⟨k,rid,raft,⟨j1,j2,j3,⟨⟩⟩,cl,fr,en,rev,most,err,hint,rep,bat,its,done,⟨d1,d2,d3,d4,⟨⟩⟩,mov,⟨⟩⟩:=m
 obtain⟨h1,h2,h3,⟨h4,h4'⟩,h5,h6,h7⟩:=h
 have h4:bat.length≤di:=h4
 have hb:=MI
 unfold F24
 refine aS (X4 raft h1) (aS (Yw j3 h2) (aS (Ic rep h3) (aS (yH its h5) (aS (XA bat h4) ?_))))
 refine CS (mk:=fun i=>((i:Int),bat,())) (n:=bat.length) (by omega) (fun i hi=> ?_) ?_
 ·obtain⟨v,hv⟩:∃ v,bat[i]? = some v:=⟨_,List.getElem?_eq_getElem hi⟩
  have hc:=yH v.2.1 (h4' v (List.mem_of_getElem? hv))
  have hset:bat.set i (v.1,v.2.1,v.2.2)=bat:=DZ hv
  simp only [aO,hi,decide_true,cond_true,pW hi,hv,Option.bind_some]
  refine aS hc ?_
  simp only [pW hi,hv,Option.bind_some,hset,bY (show i < 9223372036854775807 by omega)]
 ·simp only [aO,Nat.lt_irrefl,decide_false,cond_false]
  exact (congrArg (Option.map Sum.inr) (aS (Iq d3 h6) (aS (H6 d4 h7) rfl))).trans rfl
theorem Zj (m:TMD) (hk:1≤m.1∧m.1≤12) (h:nC m=m):(m.1≠1→m.2.2.1=jo)∧(m.1≠2→m.2.2.2.1=jJ)∧(m.1≠8→m.2.2.2.2.2.2.2.2.2.2.2.1=iF)∧(m.1≠9→m.2.2.2.2.2.2.2.2.2.2.2.2.1=[])∧(m.1≠10→m.2.2.2.2.2.2.2.2.2.2.2.2.2.1=[])∧(m.1≠11→m.2.2.2.2.2.2.2.2.2.2.2.2.2.2.2.1=gy):=by
 obtain⟨k,r⟩:=m
 rcases zG hk.1 hk.2 with e | e | e | e | e | e | e | e | e | e | e | e <;> (dsimp only at e;subst e)
 all_goals
  refine⟨?_,?_,?_,?_,?_,?_⟩
  ·first | exact fun hn=>absurd rfl hn | exact fun _=>(congrArg (fun m:TMD=>m.2.2.1) h).symm
  ·first | exact fun hn=>absurd rfl hn | exact fun _=>(congrArg (fun m:TMD=>m.2.2.2.1) h).symm
  ·first | exact fun hn=>absurd rfl hn | exact fun _=>(congrArg (fun m:TMD=>m.2.2.2.2.2.2.2.2.2.2.2.1) h).symm
  ·first | exact fun hn=>absurd rfl hn | exact fun _=>(congrArg (fun m:TMD=>m.2.2.2.2.2.2.2.2.2.2.2.2.1) h).symm
  ·first | exact fun hn=>absurd rfl hn | exact fun _=>(congrArg (fun m:TMD=>m.2.2.2.2.2.2.2.2.2.2.2.2.2.1) h).symm
  ·first | exact fun hn=>absurd rfl hn | exact fun _=>(congrArg (fun m:TMD=>m.2.2.2.2.2.2.2.2.2.2.2.2.2.2.2.1) h).symm
theorem ZU {m:TMD} (hm:ShT m) (h:sW m) (hs:m.2.2.2.1.2.2.1.2.2.2.2.2.2.2.2.2.2.2.2.2.2.2.1.length≤2000000000000) (hh:m.2.2.2.2.2.2.2.2.2.2.2.2.2.2.2.1.2.2.1.length≤2000000000000):Hy m:=by
 obtain⟨hk,hp,hK⟩:=h
 obtain⟨p1,p2,p3,p4,p5,p6⟩:=Zj m hk hp
 have cB:di=34359738368:=rfl
 have z:∀ {α:Type},([]:List α).length≤di:=fun {_}=>by simp
 unfold Gm at hK
 refine⟨?_,?_,?_,?_,?_,?_⟩
 ·by_cases e:m.1=1
  ·have hR:qI m.2.2.1=true:=by unfold oJ at hK;grind
   obtain⟨hO,hS⟩:=Yd hm.1 hR
   have hrun:=Jh hO.2.2.2.2.2.2.2.2
   have h4:=hO.2.2.2.2.2.2.2.1
   refine⟨by rw [cB];simp only [Int.ofNat_eq_natCast] at h4;omega,fun e he=>by have:=(hrun e he).2.2;omega,?_⟩
   by_cases e7:m.2.2.1.1=7
   ·have:=YH (hS e7);omega
   ·rw [(Yb hO).2 e7];simp
  ·rw [p1 e];exact⟨z,fun e he=>by simp at he,by simp⟩
 ·by_cases e:m.1=2
  ·have hJ:xe m.2.2.2.1:=by unfold oJ at hK;grind
   have hC:=hJ.1
   have c1:=(YP hC).2
   have c2:=(JO hC).1.2
   have c3:=(JO hC).2.2
   have c4:=(Yc hC).2
   have c5:=(Jj hC).1
   have c6:=(Jj hC).2.2
   refine⟨by rw [cB];omega,by rw [cB];omega,by rw [cB];omega,by rw [cB];omega,⟨hs,fun s hs=> ?_⟩,by rw [cB];omega⟩
   have:=(Je c5 s hs).2.2.2.2.2.2.2.1
   unfold vg;rw [cB];omega
  ·rw [p2 e];exact⟨z,z,z,z,⟨by simp,fun s hs=>by simp at hs⟩,z⟩
 ·by_cases e:m.1=8
  ·have hJ:nX m.2.2.2.2.2.2.2.2.2.2.2.1:=by unfold oJ at hK;grind
   have:=hJ.2.2.2.2.2.2.2.1
   unfold vg;rw [cB];omega
  ·rw [p3 e];exact z
 ·by_cases e:m.1=9
  ·have hB:y8 m.2.2.2.2.2.2.2.2.2.2.2.2.1:=by unfold oJ at hK;grind
   refine⟨by have:=hB.2;rw [cB];omega,fun b hb=> ?_⟩
   obtain⟨i,hi,rfl⟩:=List.mem_iff_getElem.1 hb
   have:=(hB.1 i _ (List.getElem?_eq_getElem hi)).2.1.1
   rw [cB];omega
  ·rw [p4 e];exact⟨z,fun b hb=>by simp at hb⟩
 ·by_cases e:m.1=10
  ·have hB:sG m.2.2.2.2.2.2.2.2.2.2.2.2.2.1 8:=by unfold oJ at hK;grind
   have:=hB.1
   rw [cB];omega
  ·rw [p5 e];exact z
 ·by_cases e:m.1=11
  ·have hB:m.2.2.2.2.2.2.2.2.2.2.2.2.2.2.2.1=gy∨zX m.2.2.2.2.2.2.2.2.2.2.2.2.2.2.2.1:=by unfold oJ at hK;grind
   rcases hB with e | hB
   ·rw [e];exact⟨⟨by simp,fun s hs=>by simp at hs⟩,z⟩
   ·refine⟨⟨hh,fun s hs=> ?_⟩,by have:=hB.2.2.2.2;rw [cB];omega⟩
    have:=(Je hB.2.2.1 s hs).2.2.2.2.2.2.2.1
    unfold vg;rw [cB];omega
  ·rw [p6 e];exact⟨⟨by simp,fun s hs=>by simp at hs⟩,z⟩
end Go.Proofs.YtlegpimppfabgaaGreat
