/-
 Plain laws of what lies below,as this seat reaches them (by a program of the bench: port.py).
-/
import Derived.Test.YtpfjaaofpcbejaaGreatTalkLawD
import Derived.Test.YtpfjaaofpcbejaaGreatSxS
namespace Go.Proofs.YtpfjaaofpcbejaaGreat
open Go.Sx Go Classical
set_option maxRecDepth 10000
theorem clone_list {α:Type} (l:List α) {X:Option (List α×Unit)} (hX:X=some (l,())):(bif List.isEmpty l then bothE (List α×Unit) (some ([],())) X else X)=some (l,()):=by
 subst hX
 cases l with
 | nil=>exact both_same _
 | cons v l=>rfl
theorem set_same {α:Type} {l:List α} {i:Nat} {v:α} (h:l[i]? = some v):l.set i v=l:=by
 apply List.ext_getElem?
 intro j
 have hi:i < l.length:=(List.getElem?_eq_some_iff.1 h).1
 by_cases e:i=j
 ·subst e
  rw [List.getElem?_set_self hi,h]
 ·rw [List.getElem?_set_ne e]
theorem cloneEnts_eq (l:List T25D) (h:l.length≤capB):F110 (l,())=some (l,()):=by
 unfold F110
 exact clone_list l (bind_of (appO_eq (by simpa using h)) rfl)
theorem cloneBytes_eq (l:List UInt8) (h:l.length≤140737488355000):F111 (l,())=some (l,()):=by
 unfold F111
 exact clone_list l (bind_of (appU_eq (by simpa using h)) rfl)
theorem cloneItems_eq (l:List T70D) (h:l.length≤capB):F73 (l,())=some (l,()):=by
 unfold F73
 exact clone_list l (bind_of (appO_eq (by simpa using h)) rfl)
theorem cloneSess0_eq (l:List T94D) (h:l.length≤2000000000000):F114 (l,())=some (l,()):=by
 unfold F114
 exact clone_list l (bind_of (appM_eq (by simpa using h)) rfl)
theorem cloneLeases_eq (l:List T113D) (h:l.length≤capB):F76 (l,())=some (l,()):=by
 unfold F76
 exact clone_list l (bind_of (appO_eq (by simpa using h)) rfl)
theorem cloneCmps_eq (l:List T96D) (h:l.length≤capB):F112 (l,())=some (l,()):=by
 unfold F112
 exact clone_list l (bind_of (appO_eq (by simpa using h)) rfl)
theorem cloneOps_eq (l:List T48D) (h:l.length≤capB):F113 (l,())=some (l,()):=by
 unfold F113
 exact clone_list l (bind_of (appO_eq (by simpa using h)) rfl)
theorem cloneBatches_eq (l:List TBD) (h:l.length≤capB):F74 (l,())=some (l,()):=by
 unfold F74
 exact clone_list l (bind_of (appO_eq (by simpa using h)) rfl)
def CapR (m:Msg):Prop:=m.2.2.2.2.2.2.2.2.2.1.length≤capB∧(∀ e∈m.2.2.2.2.2.2.2.2.2.1,e.2.2.1.length≤140737488355000)∧m.2.2.2.2.2.2.2.2.2.2.1.2.2.1.length≤140737488355000
theorem capB_lt:capB≤9223372036854775806:=by decide
theorem cloneRaft_eq (m:Msg) (h:CapR m):F70 (m,())=some (m,()):=by
 obtain⟨a1,a2,a3,a4,a5,a6,a7,a8,a9,l,⟨s1,s2,s3,⟨⟩⟩,⟨⟩⟩:=m
 obtain⟨h1,h2,h3⟩:=h
 have h1:l.length≤capB:=h1
 have hb:=capB_lt
 unfold F70
 refine bind_of (cloneEnts_eq l h1) ?_
 refine iter_count (mk:=fun i=>((i:Int),l,())) (n:=l.length) (by omega) (fun i hi=> ?_) ?_
 ·obtain⟨v,hv⟩:∃ v,l[i]? = some v:=⟨_,List.getElem?_eq_getElem hi⟩
  have hc:=cloneBytes_eq v.2.2.1 (h2 v (List.mem_of_getElem? hv))
  have hset:l.set i (v.1,v.2.1,v.2.2.1,v.2.2.2)=l:=set_same hv
  simp only [lt_len,hi,decide_true,cond_true,idxN_nat hi,hv,Option.bind_some]
  refine bind_of hc ?_
  simp only [idxN_nat hi,hv,Option.bind_some,hset,wrap64_nat (show i < 9223372036854775807 by omega)]
 ·simp only [lt_len,Nat.lt_irrefl,decide_false,cond_false]
  have hc:F111 (s3,())=some (s3,()):=cloneBytes_eq s3 h3
  exact (congrArg (Option.map Sum.inr) (bind_of hc rfl)).trans rfl
def CapY (r:T51D):Prop:=r.2.2.2.2.1.length≤capB
theorem cloneReply_eq (r:T51D) (h:CapY r):F72 (r,())=some (r,()):=by
 obtain⟨a1,a2,a3,a4,a5,a6,a7,⟨⟩⟩:=r
 unfold F72
 exact bind_of (cloneItems_eq a5 h) rfl
def CapS (l:List T94D):Prop:=l.length≤2000000000000∧∀ s∈l,CapY s.2.2.1
theorem cloneSess_eq (l:List T94D) (h:CapS l):F75 (l,())=some (l,()):=by
 unfold F75
 have h1:=h.1
 refine bind_of (cloneSess0_eq l h.1) ?_
 refine iter_count (mk:=fun i=>(l,(i:Int),())) (n:=l.length) (by omega) (fun i hi=> ?_) ?_
 ·obtain⟨v,hv⟩:∃ v,l[i]? = some v:=⟨_,List.getElem?_eq_getElem hi⟩
  have hc:=cloneReply_eq v.2.2.1 (h.2 v (List.mem_of_getElem? hv))
  have hset:l.set i (v.1,v.2.1,v.2.2.1,v.2.2.2)=l:=set_same hv
  simp only [lt_len,hi,decide_true,cond_true,idxN_nat hi,hv,Option.bind_some]
  refine bind_of hc ?_
  simp only [idxN_nat hi,hv,Option.bind_some,hset,wrap64_nat (show i < 9223372036854775807 by omega)]
 ·simp only [lt_len,Nat.lt_irrefl,decide_false,cond_false]
def CapC (c:T28D):Prop:=c.2.2.2.2.2.2.2.1.length≤capB∧c.2.2.2.2.2.2.2.2.1.length≤capB∧c.2.2.2.2.2.2.2.2.2.1.length≤capB∧c.2.2.2.2.2.2.2.2.2.2.2.2.2.2.1.length≤capB∧CapS c.2.2.2.2.2.2.2.2.2.2.2.2.2.2.2.1∧c.2.2.2.2.2.2.2.2.2.2.2.2.2.2.2.2.1.length≤capB
theorem cloneCmd_eq (c:T28D) (h:CapC c):F71 (c,())=some (c,()):=by
 obtain⟨k,a2,a3,a4,a5,a6,a7,a8,a9,a10,a11,a12,a13,a14,a15,a16,a17,⟨⟩⟩:=c
 obtain⟨h1,h2,h3,h4,h5,h6⟩:=h
 unfold F71
 exact bind_of (cloneCmps_eq a8 h1) (bind_of (cloneOps_eq a9 h2) (bind_of (cloneOps_eq a10 h3) (bind_of (cloneItems_eq a15 h4) (bind_of (cloneSess_eq a16 h5) (bind_of (cloneLeases_eq a17 h6) rfl)))))
def CapT (m:TMD):Prop:=CapR m.2.2.1∧CapC m.2.2.2.1.2.2.1∧CapY m.2.2.2.2.2.2.2.2.2.2.2.1∧(m.2.2.2.2.2.2.2.2.2.2.2.2.1.length≤capB∧∀ b∈m.2.2.2.2.2.2.2.2.2.2.2.2.1,b.2.1.length≤capB)∧m.2.2.2.2.2.2.2.2.2.2.2.2.2.1.length≤capB∧(CapS m.2.2.2.2.2.2.2.2.2.2.2.2.2.2.2.1.2.2.1∧m.2.2.2.2.2.2.2.2.2.2.2.2.2.2.2.1.2.2.2.1.length≤capB)
theorem cloneT_eq (m:TMD) (h:CapT m):F49 (m,())=some (m,()):=by
 obtain⟨k,rid,raft,⟨j1,j2,j3,⟨⟩⟩,cl,fr,en,rev,most,err,hint,rep,bat,its,done,⟨d1,d2,d3,d4,⟨⟩⟩,mov,⟨⟩⟩:=m
 obtain⟨h1,h2,h3,⟨h4,h4'⟩,h5,h6,h7⟩:=h
 have h4:bat.length≤capB:=h4
 have hb:=capB_lt
 unfold F49
 refine bind_of (cloneRaft_eq raft h1) (bind_of (cloneCmd_eq j3 h2) (bind_of (cloneReply_eq rep h3) (bind_of (cloneItems_eq its h5) (bind_of (cloneBatches_eq bat h4) ?_))))
 refine iter_count (mk:=fun i=>((i:Int),bat,())) (n:=bat.length) (by omega) (fun i hi=> ?_) ?_
 ·obtain⟨v,hv⟩:∃ v,bat[i]? = some v:=⟨_,List.getElem?_eq_getElem hi⟩
  have hc:=cloneItems_eq v.2.1 (h4' v (List.mem_of_getElem? hv))
  have hset:bat.set i (v.1,v.2.1,v.2.2)=bat:=set_same hv
  simp only [lt_len,hi,decide_true,cond_true,idxN_nat hi,hv,Option.bind_some]
  refine bind_of hc ?_
  simp only [idxN_nat hi,hv,Option.bind_some,hset,wrap64_nat (show i < 9223372036854775807 by omega)]
 ·simp only [lt_len,Nat.lt_irrefl,decide_false,cond_false]
  exact (congrArg (Option.map Sum.inr) (bind_of (cloneSess_eq d3 h6) (bind_of (cloneLeases_eq d4 h7) rfl))).trans rfl
theorem keep_parts (m:TMD) (hk:1≤m.1∧m.1≤12) (h:keepT m=m):(m.1≠1→m.2.2.1=NoMsg)∧(m.1≠2→m.2.2.2.1=NoJob)∧(m.1≠8→m.2.2.2.2.2.2.2.2.2.2.2.1=NoReply)∧(m.1≠9→m.2.2.2.2.2.2.2.2.2.2.2.2.1=[])∧(m.1≠10→m.2.2.2.2.2.2.2.2.2.2.2.2.2.1=[])∧(m.1≠11→m.2.2.2.2.2.2.2.2.2.2.2.2.2.2.2.1=NoHand):=by
 obtain⟨k,r⟩:=m
 rcases kinds12 hk.1 hk.2 with e | e | e | e | e | e | e | e | e | e | e | e <;> (dsimp only at e;subst e)
 all_goals
  refine⟨?_,?_,?_,?_,?_,?_⟩
  ·first | exact fun hn=>absurd rfl hn | exact fun _=>(congrArg (fun m:TMD=>m.2.2.1) h).symm
  ·first | exact fun hn=>absurd rfl hn | exact fun _=>(congrArg (fun m:TMD=>m.2.2.2.1) h).symm
  ·first | exact fun hn=>absurd rfl hn | exact fun _=>(congrArg (fun m:TMD=>m.2.2.2.2.2.2.2.2.2.2.2.1) h).symm
  ·first | exact fun hn=>absurd rfl hn | exact fun _=>(congrArg (fun m:TMD=>m.2.2.2.2.2.2.2.2.2.2.2.2.1) h).symm
  ·first | exact fun hn=>absurd rfl hn | exact fun _=>(congrArg (fun m:TMD=>m.2.2.2.2.2.2.2.2.2.2.2.2.2.1) h).symm
  ·first | exact fun hn=>absurd rfl hn | exact fun _=>(congrArg (fun m:TMD=>m.2.2.2.2.2.2.2.2.2.2.2.2.2.2.2.1) h).symm
theorem right_cap {m:TMD} (hm:ShT m) (h:RightT m) (hs:m.2.2.2.1.2.2.1.2.2.2.2.2.2.2.2.2.2.2.2.2.2.2.1.length≤2000000000000) (hh:m.2.2.2.2.2.2.2.2.2.2.2.2.2.2.2.1.2.2.1.length≤2000000000000):CapT m:=by
 obtain⟨hk,hp,hK⟩:=h
 obtain⟨p1,p2,p3,p4,p5,p6⟩:=keep_parts m hk hp
 have cB:capB=34359738368:=rfl
 have z:∀ {α:Type},([]:List α).length≤capB:=fun {_}=>by simp
 unfold KindT at hK
 refine⟨?_,?_,?_,?_,?_,?_⟩
 ·by_cases e:m.1=1
  ·have hR:mayM m.2.2.1=true:=by unfold Kind1 at hK;grind
   obtain⟨hO,hS⟩:=right_facts hm.1 hR
   have hrun:=runP_right hO.2.2.2.2.2.2.2.2
   have h4:=hO.2.2.2.2.2.2.2.1
   refine⟨by rw [cB];simp only [Int.ofNat_eq_natCast] at h4;omega,fun e he=>by have:=(hrun e he).2.2;omega,?_⟩
   by_cases e7:m.2.2.1.1=7
   ·have:=snapOk_len (hS e7);omega
   ·rw [(right_seven hO).2 e7];simp
  ·rw [p1 e];exact⟨z,fun e he=>by simp at he,by simp⟩
 ·by_cases e:m.1=2
  ·have hJ:JobOk m.2.2.2.1:=by unfold Kind1 at hK;grind
   have hC:=hJ.1
   have c1:=(right_cmps hC).2
   have c2:=(right_ops hC).1.2
   have c3:=(right_ops hC).2.2
   have c4:=(right_items hC).2
   have c5:=(right_sess hC).1
   have c6:=(right_sess hC).2.2
   refine⟨by rw [cB];omega,by rw [cB];omega,by rw [cB];omega,by rw [cB];omega,⟨hs,fun s hs=> ?_⟩,by rw [cB];omega⟩
   have:=(sess_reply c5 s hs).2.2.2.2.2.2.2.1
   unfold CapY;rw [cB];omega
  ·rw [p2 e];exact⟨z,z,z,z,⟨by simp,fun s hs=>by simp at hs⟩,z⟩
 ·by_cases e:m.1=8
  ·have hJ:ReplyOk m.2.2.2.2.2.2.2.2.2.2.2.1:=by unfold Kind1 at hK;grind
   have:=hJ.2.2.2.2.2.2.2.1
   unfold CapY;rw [cB];omega
  ·rw [p3 e];exact z
 ·by_cases e:m.1=9
  ·have hB:BatchesOk m.2.2.2.2.2.2.2.2.2.2.2.2.1:=by unfold Kind1 at hK;grind
   refine⟨by have:=hB.2;rw [cB];omega,fun b hb=> ?_⟩
   obtain⟨i,hi,rfl⟩:=List.mem_iff_getElem.1 hb
   have:=(hB.1 i _ (List.getElem?_eq_getElem hi)).2.1.1
   rw [cB];omega
  ·rw [p4 e];exact⟨z,fun b hb=>by simp at hb⟩
 ·by_cases e:m.1=10
  ·have hB:ItemsOk m.2.2.2.2.2.2.2.2.2.2.2.2.2.1 8:=by unfold Kind1 at hK;grind
   have:=hB.1
   rw [cB];omega
  ·rw [p5 e];exact z
 ·by_cases e:m.1=11
  ·have hB:m.2.2.2.2.2.2.2.2.2.2.2.2.2.2.2.1=NoHand∨HandOk m.2.2.2.2.2.2.2.2.2.2.2.2.2.2.2.1:=by unfold Kind1 at hK;grind
   rcases hB with e | hB
   ·rw [e];exact⟨⟨by simp,fun s hs=>by simp at hs⟩,z⟩
   ·refine⟨⟨hh,fun s hs=> ?_⟩,by have:=hB.2.2.2.2;rw [cB];omega⟩
    have:=(sess_reply hB.2.2.1 s hs).2.2.2.2.2.2.2.1
    unfold CapY;rw [cB];omega
  ·rw [p6 e];exact⟨⟨by simp,fun s hs=>by simp at hs⟩,z⟩
end Go.Proofs.YtpfjaaofpcbejaaGreat
