/-
 Plain laws of what lies below,as this seat reaches them (by a program of the bench: port.py).
-/
import Derived.Test.YtlegpimppfabgaaGreatTalkLawD
import Derived.Test.YtlegpimppfabgaaGreatSxS
namespace Go.Proofs.YtlegpimppfabgaaGreat
open Go.Sx Go Classical
set_option maxRecDepth 10000
theorem qI {α:Type} (l:List α) {X:Option (List α×Unit)} (hX:X=some (l,())):(bif List.isEmpty l then qj (List α×Unit) (some ([],())) X else X)=some (l,()):=by
 subst hX;cases l with
 | nil=>exact zas _
 | cons v l=>rfl
theorem IM {α:Type} {l:List α} {i:Nat} {v:α} (h:l[i]? = some v):l.set i v=l:=by
 apply List.ext_getElem?;intro j;have hi:i<l.length:=(List.getElem?_eq_some_iff.1 h).1;by_cases e:i=j
 ·subst e;rw[List.getElem?_set_self hi,h]
 ·rw[List.getElem?_set_ne e]
theorem XQ (l:List dN) (h:l.length≤bT):F87 (l,())=some (l,()):=by
 unfold F87;exact qI l (aB (iP (by simpa using h)) rfl)
theorem NG (l:List UInt8) (h:l.length≤140737488355000):F88 (l,())=some (l,()):=by
 unfold F88;exact qI l (aB (zcv (by simpa using h)) rfl)
theorem xQ (l:List aX) (h:l.length≤bT):F57 (l,())=some (l,()):=by
 unfold F57;exact qI l (aB (iP (by simpa using h)) rfl)
theorem XA (l:List dw) (h:l.length≤2000000000000):F89 (l,())=some (l,()):=by
 unfold F89;exact qI l (aB (Su (by simpa using h)) rfl)
theorem Ny (l:List fQ) (h:l.length≤bT):F63 (l,())=some (l,()):=by
 unfold F63;exact qI l (aB (iP (by simpa using h)) rfl)
theorem Gx (l:List dm) (h:l.length≤bT):F44 (l,())=some (l,()):=by
 unfold F44;exact qI l (aB (iP (by simpa using h)) rfl)
theorem uZ (l:List aK) (h:l.length≤bT):F45 (l,())=some (l,()):=by
 unfold F45;exact qI l (aB (iP (by simpa using h)) rfl)
theorem Xl (l:List TBD) (h:l.length≤bT):F61 (l,())=some (l,()):=by
 unfold F61;exact qI l (aB (iP (by simpa using h)) rfl)
def Xg (m:Msg):Prop:=m.2.2.2.2.2.2.2.2.2.1.length≤bT∧(∀ e∈m.2.2.2.2.2.2.2.2.2.1,e.2.2.1.length≤140737488355000)∧m.2.2.2.2.2.2.2.2.2.2.1.2.2.1.length≤140737488355000
theorem Si:bT≤9223372036854775806:=by decide
theorem XP (m:Msg) (h:Xg m):F58 (m,())=some (m,()):=by
 obtain⟨a1,a2,a3,a4,a5,a6,a7,a8,a9,l,⟨s1,s2,s3,⟨⟩⟩,⟨⟩⟩:=m;obtain⟨h1,h2,h3⟩:=h;have h1:l.length≤bT:=h1;have hb:=Si;unfold F58;refine aB (XQ l h1) ?_;refine Hf (mk:=fun i=>((i:Int),l,())) (n:=l.length) (by omega) (fun i hi=> ?_) ?_
 ·obtain⟨v,hv⟩:∃ v,l[i]? = some v:=⟨_,List.getElem?_eq_getElem hi⟩
  have hc:=NG v.2.2.1 (h2 v (List.mem_of_getElem? hv));have hset:l.set i (v.1,v.2.1,v.2.2.1,v.2.2.2)=l:=IM hv;simp only[ax,hi,decide_true,cond_true,tV hi,hv,Option.bind_some];refine aB hc ?_;simp only[tV hi,hv,Option.bind_some,hset,aP (show i<9223372036854775807 by omega)]
 ·simp only[ax,Nat.lt_irrefl,decide_false,cond_false];have hc:F88 (s3,())=some (s3,()):=NG s3 h3;exact(congrArg (Option.map Sum.inr) (aB hc rfl)).trans rfl
def xN (r:dh):Prop:=r.2.2.2.2.1.length≤bT
theorem NF (r:dh) (h:xN r):F60 (r,())=some (r,()):=by
 obtain⟨a1,a2,a3,a4,a5,a6,a7,⟨⟩⟩:=r;unfold F60;exact aB (xQ a5 h) rfl
def Ns (l:List dw):Prop:=l.length≤2000000000000∧∀ s∈l,xN s.2.2.1
theorem NS (l:List dw) (h:Ns l):F62 (l,())=some (l,()):=by
 unfold F62;have h1:=h.1;refine aB (XA l h.1) ?_;refine Hf (mk:=fun i=>(l,(i:Int),())) (n:=l.length) (by omega) (fun i hi=> ?_) ?_
 ·obtain⟨v,hv⟩:∃ v,l[i]? = some v:=⟨_,List.getElem?_eq_getElem hi⟩
  have hc:=NF v.2.2.1 (h.2 v (List.mem_of_getElem? hv));have hset:l.set i (v.1,v.2.1,v.2.2.1,v.2.2.2)=l:=IM hv;simp only[ax,hi,decide_true,cond_true,tV hi,hv,Option.bind_some];refine aB hc ?_;simp only[tV hi,hv,Option.bind_some,hset,aP (show i<9223372036854775807 by omega)]
 ·simp only[ax,Nat.lt_irrefl,decide_false,cond_false]
def Xh (c:aJ):Prop:=c.2.2.2.2.2.2.2.1.length≤bT∧c.2.2.2.2.2.2.2.2.1.length≤bT∧c.2.2.2.2.2.2.2.2.2.1.length≤bT∧c.2.2.2.2.2.2.2.2.2.2.2.2.2.2.1.length≤bT∧Ns c.2.2.2.2.2.2.2.2.2.2.2.2.2.2.2.1∧c.2.2.2.2.2.2.2.2.2.2.2.2.2.2.2.2.1.length≤bT
theorem Yi (c:aJ) (h:Xh c):F59 (c,())=some (c,()):=by
 obtain⟨k,a2,a3,a4,a5,a6,a7,a8,a9,a10,a11,a12,a13,a14,a15,a16,a17,⟨⟩⟩:=c;obtain⟨h1,h2,h3,h4,h5,h6⟩:=h;unfold F59;exact aB (Gx a8 h1) (aB (uZ a9 h2) (aB (uZ a10 h3) (aB (xQ a15 h4) (aB (NS a16 h5) (aB (Ny a17 h6) rfl)))))
def xO (m:TMD):Prop:=Xg m.2.2.1∧Xh m.2.2.2.1.2.2.1∧xN m.2.2.2.2.2.2.2.2.2.2.2.1∧(m.2.2.2.2.2.2.2.2.2.2.2.2.1.length≤bT∧∀ b∈m.2.2.2.2.2.2.2.2.2.2.2.2.1,b.2.1.length≤bT)∧m.2.2.2.2.2.2.2.2.2.2.2.2.2.1.length≤bT∧(Ns m.2.2.2.2.2.2.2.2.2.2.2.2.2.2.2.1.2.2.1∧m.2.2.2.2.2.2.2.2.2.2.2.2.2.2.2.1.2.2.2.1.length≤bT)
theorem IE (m:TMD) (h:xO m):F24 (m,())=some (m,()):=by
 obtain⟨k,rid,raft,⟨j1,j2,j3,⟨⟩⟩,cl,fr,en,rev,most,err,hint,rep,bat,its,done,⟨d1,d2,d3,d4,⟨⟩⟩,mov,⟨⟩⟩:=m;obtain⟨h1,h2,h3,⟨h4,h4'⟩,h5,h6,h7⟩:=h;have h4:bat.length≤bT:=h4;have hb:=Si;unfold F24;refine aB (XP raft h1) (aB (Yi j3 h2) (aB (NF rep h3) (aB (xQ its h5) (aB (Xl bat h4) ?_))));refine Hf (mk:=fun i=>((i:Int),bat,())) (n:=bat.length) (by omega) (fun i hi=> ?_) ?_
 ·obtain⟨v,hv⟩:∃ v,bat[i]? = some v:=⟨_,List.getElem?_eq_getElem hi⟩
  have hc:=xQ v.2.1 (h4' v (List.mem_of_getElem? hv));have hset:bat.set i (v.1,v.2.1,v.2.2)=bat:=IM hv;simp only[ax,hi,decide_true,cond_true,tV hi,hv,Option.bind_some];refine aB hc ?_;simp only[tV hi,hv,Option.bind_some,hset,aP (show i<9223372036854775807 by omega)]
 ·simp only[ax,Nat.lt_irrefl,decide_false,cond_false];exact(congrArg (Option.map Sum.inr) (aB (NS d3 h6) (aB (Ny d4 h7) rfl))).trans rfl
theorem YZ (m:TMD) (hk:1≤m.1∧m.1≤12) (h:kS m=m):(m.1≠1→m.2.2.1=jW)∧(m.1≠2→m.2.2.2.1=gI)∧(m.1≠8→m.2.2.2.2.2.2.2.2.2.2.2.1=dX)∧(m.1≠9→m.2.2.2.2.2.2.2.2.2.2.2.2.1=[])∧(m.1≠10→m.2.2.2.2.2.2.2.2.2.2.2.2.2.1=[])∧(m.1≠11→m.2.2.2.2.2.2.2.2.2.2.2.2.2.2.2.1=gZ):=by
 obtain⟨k,r⟩:=m;rcases oq hk.1 hk.2 with e|e|e|e|e|e|e|e|e|e|e|e<;>(dsimp only at e;subst e)
 all_goals
  refine⟨?_,?_,?_,?_,?_,?_⟩
  ·first|exact fun hn=>absurd rfl hn|exact fun _=>(congrArg (fun m:TMD=>m.2.2.1) h).symm
  ·first|exact fun hn=>absurd rfl hn|exact fun _=>(congrArg (fun m:TMD=>m.2.2.2.1) h).symm
  ·first|exact fun hn=>absurd rfl hn|exact fun _=>(congrArg (fun m:TMD=>m.2.2.2.2.2.2.2.2.2.2.2.1) h).symm
  ·first|exact fun hn=>absurd rfl hn|exact fun _=>(congrArg (fun m:TMD=>m.2.2.2.2.2.2.2.2.2.2.2.2.1) h).symm
  ·first|exact fun hn=>absurd rfl hn|exact fun _=>(congrArg (fun m:TMD=>m.2.2.2.2.2.2.2.2.2.2.2.2.2.1) h).symm
  ·first|exact fun hn=>absurd rfl hn|exact fun _=>(congrArg (fun m:TMD=>m.2.2.2.2.2.2.2.2.2.2.2.2.2.2.2.1) h).symm
theorem Ib {m:TMD} (hm:ShT m) (h:eX m) (hs:m.2.2.2.1.2.2.1.2.2.2.2.2.2.2.2.2.2.2.2.2.2.2.1.length≤2000000000000) (hh:m.2.2.2.2.2.2.2.2.2.2.2.2.2.2.2.1.2.2.1.length≤2000000000000):xO m:=by
 obtain⟨hk,hp,hK⟩:=h;obtain⟨p1,p2,p3,p4,p5,p6⟩:=YZ m hk hp;have cB:bT=34359738368:=rfl;have z:∀ {α:Type},([]:List α).length≤bT:=fun{_}=>by simp
 unfold uC at hK;refine⟨?_,?_,?_,?_,?_,?_⟩
 ·by_cases e:m.1=1
  ·have hR:rX m.2.2.1=true:=by unfold l9 at hK;grind
   obtain⟨hO,hS⟩:=XZ hm.1 hR;have hrun:=OG hO.2.2.2.2.2.2.2.2;have h4:=hO.2.2.2.2.2.2.2.1;refine⟨by rw[cB];simp only[Int.ofNat_eq_natCast] at h4;omega,fun e he=>by have:=(hrun e he).2.2;omega,?_⟩;by_cases e7:m.2.2.1.1=7
   ·have:=Yy (hS e7);omega
   ·rw[(XX hO).2 e7];simp
  ·rw[p1 e];exact⟨z,fun e he=>by simp at he,by simp⟩
 ·by_cases e:m.1=2
  ·have hJ:uD m.2.2.2.1:=by unfold l9 at hK;grind
   have hC:=hJ.1;have c1:=(YH hC).2;have c2:=(Py hC).1.2;have c3:=(Py hC).2.2;have c4:=(XY hC).2;have c5:=(OI hC).1;have c6:=(OI hC).2.2;refine⟨by rw[cB];omega,by rw[cB];omega,by rw[cB];omega,by rw[cB];omega,⟨hs,fun s hs=> ?_⟩,by rw[cB];omega⟩;have:=(OC c5 s hs).2.2.2.2.2.2.2.1;unfold xN;rw[cB];omega
  ·rw[p2 e];exact⟨z,z,z,z,⟨by simp,fun s hs=>by simp at hs⟩,z⟩
 ·by_cases e:m.1=8
  ·have hJ:mJ m.2.2.2.2.2.2.2.2.2.2.2.1:=by unfold l9 at hK;grind
   have:=hJ.2.2.2.2.2.2.2.1;unfold xN;rw[cB];omega
  ·rw[p3 e];exact z
 ·by_cases e:m.1=9
  ·have hB:pF m.2.2.2.2.2.2.2.2.2.2.2.2.1:=by unfold l9 at hK;grind
   refine⟨by have:=hB.2;rw[cB];omega,fun b hb=> ?_⟩;obtain⟨i,hi,rfl⟩:=List.mem_iff_getElem.1 hb;have:=(hB.1 i _ (List.getElem?_eq_getElem hi)).2.1.1;rw[cB];omega
  ·rw[p4 e];exact⟨z,fun b hb=>by simp at hb⟩
 ·by_cases e:m.1=10
  ·have hB:pM m.2.2.2.2.2.2.2.2.2.2.2.2.2.1 8:=by unfold l9 at hK;grind
   have:=hB.1;rw[cB];omega
  ·rw[p5 e];exact z
 ·by_cases e:m.1=11
  ·have hB:m.2.2.2.2.2.2.2.2.2.2.2.2.2.2.2.1=gZ∨wE m.2.2.2.2.2.2.2.2.2.2.2.2.2.2.2.1:=by unfold l9 at hK;grind
   rcases hB with e|hB
   ·rw[e];exact⟨⟨by simp,fun s hs=>by simp at hs⟩,z⟩
   ·refine⟨⟨hh,fun s hs=> ?_⟩,by have:=hB.2.2.2.2;rw[cB];omega⟩;have:=(OC hB.2.2.1 s hs).2.2.2.2.2.2.2.1;unfold xN;rw[cB];omega
  ·rw[p6 e];exact⟨⟨by simp,fun s hs=>by simp at hs⟩,z⟩
end Go.Proofs.YtlegpimppfabgaaGreat
