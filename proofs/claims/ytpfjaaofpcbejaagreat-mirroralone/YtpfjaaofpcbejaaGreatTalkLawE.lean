/-
 Plain laws of what lies below,as this seat reaches them (by a program of the bench: port.py).
-/
import Derived.Test.YtpfjaaofpcbejaaGreatTalkLawD
import Derived.Test.YtpfjaaofpcbejaaGreatSxS
namespace Go.Proofs.YtpfjaaofpcbejaaGreat
open Go.Sx Go Classical
set_option maxRecDepth 10000
theorem zbV {α:Type} (l:List α) {X:Option (List α×Unit)} (hX:X=some (l,())):(bif List.isEmpty l then ziF (List α×Unit) (some ([],())) X else X)=some (l,()):=by
 subst hX
 cases l with
 | nil=>exact zqw _
 | cons v l=>rfl
theorem zh8 {α:Type} {l:List α} {i:Nat} {v:α} (h:l[i]? = some v):l.set i v=l:=by
 apply List.ext_getElem?
 intro j
 have hi:i < l.length:=(List.getElem?_eq_some_iff.1 h).1
 by_cases e:i=j
 ·subst e
  rw [List.getElem?_set_self hi,h]
 ·rw [List.getElem?_set_ne e]
theorem zjR (l:List T25D) (h:l.length≤capB):F110 (l,())=some (l,()):=by
 unfold F110
 exact zbV l (zar (zdD (by simpa using h)) rfl)
theorem zeY (l:List UInt8) (h:l.length≤140737488355000):F111 (l,())=some (l,()):=by
 unfold F111
 exact zbV l (zar (zvR (by simpa using h)) rfl)
theorem zcq (l:List T70D) (h:l.length≤capB):F73 (l,())=some (l,()):=by
 unfold F73
 exact zbV l (zar (zdD (by simpa using h)) rfl)
theorem ziA (l:List T94D) (h:l.length≤2000000000000):F114 (l,())=some (l,()):=by
 unfold F114
 exact zbV l (zar (zqD (by simpa using h)) rfl)
theorem zek (l:List zai) (h:l.length≤capB):F76 (l,())=some (l,()):=by
 unfold F76
 exact zbV l (zar (zdD (by simpa using h)) rfl)
theorem zjS (l:List T96D) (h:l.length≤capB):F112 (l,())=some (l,()):=by
 unfold F112
 exact zbV l (zar (zdD (by simpa using h)) rfl)
theorem zgR (l:List T48D) (h:l.length≤capB):F113 (l,())=some (l,()):=by
 unfold F113
 exact zbV l (zar (zdD (by simpa using h)) rfl)
theorem zgS (l:List TBD) (h:l.length≤capB):F74 (l,())=some (l,()):=by
 unfold F74
 exact zbV l (zar (zdD (by simpa using h)) rfl)
def CapR (m:Msg):Prop:=m.2.2.2.2.2.2.2.2.2.1.length≤capB∧(∀ e∈m.2.2.2.2.2.2.2.2.2.1,e.2.2.1.length≤140737488355000)∧m.2.2.2.2.2.2.2.2.2.2.1.2.2.1.length≤140737488355000
theorem zqs:capB≤9223372036854775806:=by decide
theorem zjQ (m:Msg) (h:CapR m):F70 (m,())=some (m,()):=by
 obtain⟨a1,a2,a3,a4,a5,a6,a7,a8,a9,l,⟨s1,s2,s3,⟨⟩⟩,⟨⟩⟩:=m
 obtain⟨h1,h2,h3⟩:=h
 have h1:l.length≤capB:=h1
 have hb:=zqs
 unfold F70
 refine zar (zjR l h1) ?_
 refine zfk (mk:=fun i=>((i:Int),l,())) (n:=l.length) (by omega) (fun i hi=> ?_) ?_
 ·obtain⟨v,hv⟩:∃ v,l[i]? = some v:=⟨_,List.getElem?_eq_getElem hi⟩
  have hc:=zeY v.2.2.1 (h2 v (List.mem_of_getElem? hv))
  have hset:l.set i (v.1,v.2.1,v.2.2.1,v.2.2.2)=l:=zh8 hv
  simp only [zao,hi,decide_true,cond_true,zdt hi,hv,Option.bind_some]
  refine zar hc ?_
  simp only [zdt hi,hv,Option.bind_some,hset,zak (show i < 9223372036854775807 by omega)]
 ·simp only [zao,Nat.lt_irrefl,decide_false,cond_false]
  have hc:F111 (s3,())=some (s3,()):=zeY s3 h3
  exact (congrArg (Option.map Sum.inr) (zar hc rfl)).trans rfl
def CapY (r:T51D):Prop:=r.2.2.2.2.1.length≤capB
theorem zeX (r:T51D) (h:CapY r):F72 (r,())=some (r,()):=by
 obtain⟨a1,a2,a3,a4,a5,a6,a7,⟨⟩⟩:=r
 unfold F72
 exact zar (zcq a5 h) rfl
def CapS (l:List T94D):Prop:=l.length≤2000000000000∧∀ s∈l,CapY s.2.2.1
theorem zfE (l:List T94D) (h:CapS l):F75 (l,())=some (l,()):=by
 unfold F75
 have h1:=h.1
 refine zar (ziA l h.1) ?_
 refine zfk (mk:=fun i=>(l,(i:Int),())) (n:=l.length) (by omega) (fun i hi=> ?_) ?_
 ·obtain⟨v,hv⟩:∃ v,l[i]? = some v:=⟨_,List.getElem?_eq_getElem hi⟩
  have hc:=zeX v.2.2.1 (h.2 v (List.mem_of_getElem? hv))
  have hset:l.set i (v.1,v.2.1,v.2.2.1,v.2.2.2)=l:=zh8 hv
  simp only [zao,hi,decide_true,cond_true,zdt hi,hv,Option.bind_some]
  refine zar hc ?_
  simp only [zdt hi,hv,Option.bind_some,hset,zak (show i < 9223372036854775807 by omega)]
 ·simp only [zao,Nat.lt_irrefl,decide_false,cond_false]
def CapC (c:T28D):Prop:=c.2.2.2.2.2.2.2.1.length≤capB∧c.2.2.2.2.2.2.2.2.1.length≤capB∧c.2.2.2.2.2.2.2.2.2.1.length≤capB∧c.2.2.2.2.2.2.2.2.2.2.2.2.2.2.1.length≤capB∧CapS c.2.2.2.2.2.2.2.2.2.2.2.2.2.2.2.1∧c.2.2.2.2.2.2.2.2.2.2.2.2.2.2.2.2.1.length≤capB
theorem zkX (c:T28D) (h:CapC c):F71 (c,())=some (c,()):=by
 obtain⟨k,a2,a3,a4,a5,a6,a7,a8,a9,a10,a11,a12,a13,a14,a15,a16,a17,⟨⟩⟩:=c
 obtain⟨h1,h2,h3,h4,h5,h6⟩:=h
 unfold F71
 exact zar (zjS a8 h1) (zar (zgR a9 h2) (zar (zgR a10 h3) (zar (zcq a15 h4) (zar (zfE a16 h5) (zar (zek a17 h6) rfl)))))
def CapT (m:TMD):Prop:=CapR m.2.2.1∧CapC m.2.2.2.1.2.2.1∧CapY m.2.2.2.2.2.2.2.2.2.2.2.1∧(m.2.2.2.2.2.2.2.2.2.2.2.2.1.length≤capB∧∀ b∈m.2.2.2.2.2.2.2.2.2.2.2.2.1,b.2.1.length≤capB)∧m.2.2.2.2.2.2.2.2.2.2.2.2.2.1.length≤capB∧(CapS m.2.2.2.2.2.2.2.2.2.2.2.2.2.2.2.1.2.2.1∧m.2.2.2.2.2.2.2.2.2.2.2.2.2.2.2.1.2.2.2.1.length≤capB)
theorem zgQ (m:TMD) (h:CapT m):F49 (m,())=some (m,()):=by
 obtain⟨k,rid,raft,⟨j1,j2,j3,⟨⟩⟩,cl,fr,en,rev,most,err,hint,rep,bat,its,done,⟨d1,d2,d3,d4,⟨⟩⟩,mov,⟨⟩⟩:=m
 obtain⟨h1,h2,h3,⟨h4,h4'⟩,h5,h6,h7⟩:=h
 have h4:bat.length≤capB:=h4
 have hb:=zqs
 unfold F49
 refine zar (zjQ raft h1) (zar (zkX j3 h2) (zar (zeX rep h3) (zar (zcq its h5) (zar (zgS bat h4) ?_))))
 refine zfk (mk:=fun i=>((i:Int),bat,())) (n:=bat.length) (by omega) (fun i hi=> ?_) ?_
 ·obtain⟨v,hv⟩:∃ v,bat[i]? = some v:=⟨_,List.getElem?_eq_getElem hi⟩
  have hc:=zcq v.2.1 (h4' v (List.mem_of_getElem? hv))
  have hset:bat.set i (v.1,v.2.1,v.2.2)=bat:=zh8 hv
  simp only [zao,hi,decide_true,cond_true,zdt hi,hv,Option.bind_some]
  refine zar hc ?_
  simp only [zdt hi,hv,Option.bind_some,hset,zak (show i < 9223372036854775807 by omega)]
 ·simp only [zao,Nat.lt_irrefl,decide_false,cond_false]
  exact (congrArg (Option.map Sum.inr) (zar (zfE d3 h6) (zar (zek d4 h7) rfl))).trans rfl
theorem zmS (m:TMD) (hk:1≤m.1∧m.1≤12) (h:zeQ m=m):(m.1≠1→m.2.2.1=zd2)∧(m.1≠2→m.2.2.2.1=zef)∧(m.1≠8→m.2.2.2.2.2.2.2.2.2.2.2.1=zbH)∧(m.1≠9→m.2.2.2.2.2.2.2.2.2.2.2.2.1=[])∧(m.1≠10→m.2.2.2.2.2.2.2.2.2.2.2.2.2.1=[])∧(m.1≠11→m.2.2.2.2.2.2.2.2.2.2.2.2.2.2.2.1=zbq):=by
 obtain⟨k,r⟩:=m
 rcases zet hk.1 hk.2 with e | e | e | e | e | e | e | e | e | e | e | e <;> (dsimp only at e;subst e)
 all_goals
  refine⟨?_,?_,?_,?_,?_,?_⟩
  ·first | exact fun hn=>absurd rfl hn | exact fun _=>(congrArg (fun m:TMD=>m.2.2.1) h).symm
  ·first | exact fun hn=>absurd rfl hn | exact fun _=>(congrArg (fun m:TMD=>m.2.2.2.1) h).symm
  ·first | exact fun hn=>absurd rfl hn | exact fun _=>(congrArg (fun m:TMD=>m.2.2.2.2.2.2.2.2.2.2.2.1) h).symm
  ·first | exact fun hn=>absurd rfl hn | exact fun _=>(congrArg (fun m:TMD=>m.2.2.2.2.2.2.2.2.2.2.2.2.1) h).symm
  ·first | exact fun hn=>absurd rfl hn | exact fun _=>(congrArg (fun m:TMD=>m.2.2.2.2.2.2.2.2.2.2.2.2.2.1) h).symm
  ·first | exact fun hn=>absurd rfl hn | exact fun _=>(congrArg (fun m:TMD=>m.2.2.2.2.2.2.2.2.2.2.2.2.2.2.2.1) h).symm
theorem zeK {m:TMD} (hm:ShT m) (h:zb3 m) (hs:m.2.2.2.1.2.2.1.2.2.2.2.2.2.2.2.2.2.2.2.2.2.2.1.length≤2000000000000) (hh:m.2.2.2.2.2.2.2.2.2.2.2.2.2.2.2.1.2.2.1.length≤2000000000000):CapT m:=by
 obtain⟨hk,hp,hK⟩:=h
 obtain⟨p1,p2,p3,p4,p5,p6⟩:=zmS m hk hp
 have cB:capB=34359738368:=rfl
 have z:∀ {α:Type},([]:List α).length≤capB:=fun {_}=>by simp
 unfold zqY at hK
 refine⟨?_,?_,?_,?_,?_,?_⟩
 ·by_cases e:m.1=1
  ·have hR:mayM m.2.2.1=true:=by unfold zhk at hK;grind
   obtain⟨hO,hS⟩:=zko hm.1 hR
   have hrun:=zhz hO.2.2.2.2.2.2.2.2
   have h4:=hO.2.2.2.2.2.2.2.1
   refine⟨by rw [cB];simp only [Int.ofNat_eq_natCast] at h4;omega,fun e he=>by have:=(hrun e he).2.2;omega,?_⟩
   by_cases e7:m.2.2.1.1=7
   ·have:=zmc (hS e7);omega
   ·rw [(zkm hO).2 e7];simp
  ·rw [p1 e];exact⟨z,fun e he=>by simp at he,by simp⟩
 ·by_cases e:m.1=2
  ·have hJ:zni m.2.2.2.1:=by unfold zhk at hK;grind
   have hC:=hJ.1
   have c1:=(zmj hC).2
   have c2:=(zi8 hC).1.2
   have c3:=(zi8 hC).2.2
   have c4:=(zkn hC).2
   have c5:=(zhA hC).1
   have c6:=(zhA hC).2.2
   refine⟨by rw [cB];omega,by rw [cB];omega,by rw [cB];omega,by rw [cB];omega,⟨hs,fun s hs=> ?_⟩,by rw [cB];omega⟩
   have:=(zhw c5 s hs).2.2.2.2.2.2.2.1
   unfold CapY;rw [cB];omega
  ·rw [p2 e];exact⟨z,z,z,z,⟨by simp,fun s hs=>by simp at hs⟩,z⟩
 ·by_cases e:m.1=8
  ·have hJ:zcI m.2.2.2.2.2.2.2.2.2.2.2.1:=by unfold zhk at hK;grind
   have:=hJ.2.2.2.2.2.2.2.1
   unfold CapY;rw [cB];omega
  ·rw [p3 e];exact z
 ·by_cases e:m.1=9
  ·have hB:zdi m.2.2.2.2.2.2.2.2.2.2.2.2.1:=by unfold zhk at hK;grind
   refine⟨by have:=hB.2;rw [cB];omega,fun b hb=> ?_⟩
   obtain⟨i,hi,rfl⟩:=List.mem_iff_getElem.1 hb
   have:=(hB.1 i _ (List.getElem?_eq_getElem hi)).2.1.1
   rw [cB];omega
  ·rw [p4 e];exact⟨z,fun b hb=>by simp at hb⟩
 ·by_cases e:m.1=10
  ·have hB:zdG m.2.2.2.2.2.2.2.2.2.2.2.2.2.1 8:=by unfold zhk at hK;grind
   have:=hB.1
   rw [cB];omega
  ·rw [p5 e];exact z
 ·by_cases e:m.1=11
  ·have hB:m.2.2.2.2.2.2.2.2.2.2.2.2.2.2.2.1=zbq∨zhZ m.2.2.2.2.2.2.2.2.2.2.2.2.2.2.2.1:=by unfold zhk at hK;grind
   rcases hB with e | hB
   ·rw [e];exact⟨⟨by simp,fun s hs=>by simp at hs⟩,z⟩
   ·refine⟨⟨hh,fun s hs=> ?_⟩,by have:=hB.2.2.2.2;rw [cB];omega⟩
    have:=(zhw hB.2.2.1 s hs).2.2.2.2.2.2.2.1
    unfold CapY;rw [cB];omega
  ·rw [p6 e];exact⟨⟨by simp,fun s hs=>by simp at hs⟩,z⟩
end Go.Proofs.YtpfjaaofpcbejaaGreat
