/-
 Talk: a message by itself,whose lists are its own.
-/
import Derived.Test.YteebpcpkhojfkaaGreatTalkLawH
import Derived.Test.YteebpcpkhojfkaaGreatSxS
namespace Go.Proofs.YteebpcpkhojfkaaGreat
open Go.Sx Go Classical
set_option maxRecDepth 10000
def zfO (m:Msg):Ob:=(m.1,m.2.1,m.2.2.1,m.2.2.2.1,m.2.2.2.2.1,m.2.2.2.2.2.1,m.2.2.2.2.2.2.1,m.2.2.2.2.2.2.2.1,m.2.2.2.2.2.2.2.2.1,m.2.2.2.2.2.2.2.2.2.1,m.2.2.2.2.2.2.2.2.2.2.1)
theorem ql (n:Nat):Int.toNat (n:Int)=n:=Int.toNat_natCast n
theorem xw (n:Nat):decide (n≤n)=true:=by simp
theorem JX (n:Nat):decide (n≤n+1)=true:=by simp
theorem Zb (m:Msg) (h:YT m):F81 (m,())=some (zfO m,()):=by
 obtain⟨a1,a2,a3,a4,a5,a6,a7,a8,a9,l,⟨s1,s2,s3,⟨⟩⟩,⟨⟩⟩:=m;obtain⟨h1,h2,h3⟩:=h;have h1:l.length≤bZ:=h1;have hb:=J6;unfold F81;refine aK (Zr l h1) ?_;refine Dl (mk:=fun i=>((i:Int),(l,(i:Int)),())) (n:=l.length) (by omega) (fun i hi=> ?_) ?_
 ·obtain⟨v,hv⟩:∃ v,l[i]? = some v:=⟨_,List.getElem?_eq_getElem hi⟩
  have hc:=OX v.2.2.1 (h2 v (List.mem_of_getElem? hv));have hset:l.set i (v.1,v.2.1,v.2.2.1,v.2.2.2)=l:=DT hv;simp only[aB,hi,decide_true,cond_true,jO hi,hv,Option.bind_some,ql,xw];refine aK hc ?_;simp only[jO hi,hv,Option.bind_some,hset,aT (show i<9223372036854775807 by omega),ql,xw,JX,cond_true];rfl
 ·simp only[aB,Nat.lt_irrefl,decide_false,cond_false,ql,decide_true,cond_true];have hc:wE (s3,())=some (s3,()):=OX s3 h3;exact(congrArg (Option.map Sum.inr) (aK hc rfl)).trans rfl
theorem OJ (r:dG) (h:yS r):F83 (r,())=some (r,()):=by
 obtain⟨a1,a2,a3,a4,a5,a6,a7,⟨⟩⟩:=r;unfold F83;exact aK (CU a5 h) rfl
theorem OW (l:List aW) (h:OD l):F86 (l,())=some (l,()):=by
 unfold F86;have h1:=h.1;refine aK (Za l h.1) ?_;refine Dl (mk:=fun i=>((l,(i:Int)),(i:Int),())) (n:=l.length) (by omega) (fun i hi=> ?_) ?_
 ·obtain⟨v,hv⟩:∃ v,l[i]? = some v:=⟨_,List.getElem?_eq_getElem hi⟩
  have hc:=OJ v.2.2.1 (h.2 v (List.mem_of_getElem? hv));have hset:l.set i (v.1,v.2.1,v.2.2.1,v.2.2.2)=l:=DT hv;simp only[aB,hi,decide_true,cond_true,jO hi,hv,Option.bind_some,ql,xw];refine aK hc ?_;simp only[jO hi,hv,Option.bind_some,hset,aT (show i<9223372036854775807 by omega),ql,xw,JX,cond_true];rfl
 ·simp only[aB,Nat.lt_irrefl,decide_false,cond_false,ql,decide_true,cond_true];rfl
theorem Zu (c:bn) (h:YU c):F82 (c,())=some (c,()):=by
 obtain⟨k,a2,a3,a4,a5,a6,a7,a8,a9,a10,a11,a12,a13,a14,a15,a16,a17,⟨⟩⟩:=c;obtain⟨h1,h2,h3,h4,h5,h6⟩:=h;unfold F82;exact aK (Zt a8 h1) (aK (PQ a9 h2) (aK (PQ a10 h3) (aK (CU a15 h4) (aK (OW a16 h5) (aK (OL a17 h6) (by simp only[decide_true,cond_true]))))))
def LH (m:TMD):Bv:=
 let r:=m.2.2.1;let c:=m.2.2.2.1.2.2.1;let y:=m.2.2.2.2.2.2.2.2.2.2.2.1;let d:=m.2.2.2.2.2.2.2.2.2.2.2.2.2.2.2.1;let s:=r.2.2.2.2.2.2.2.2.2.2.1
 (m.1,m.2.1,r.1,r.2.1,r.2.2.1,r.2.2.2.1,r.2.2.2.2.1,r.2.2.2.2.2.1,r.2.2.2.2.2.2.1,r.2.2.2.2.2.2.2.1,r.2.2.2.2.2.2.2.2.1,r.2.2.2.2.2.2.2.2.2.1,s.1,s.2.1,s.2.2.1,
  m.2.2.2.1.1,m.2.2.2.1.2.1,c.1,c.2.1,c.2.2.1,c.2.2.2.1,c.2.2.2.2.1,c.2.2.2.2.2.1,c.2.2.2.2.2.2.1,c.2.2.2.2.2.2.2.1,c.2.2.2.2.2.2.2.2.1,c.2.2.2.2.2.2.2.2.2.1,c.2.2.2.2.2.2.2.2.2.2.1,c.2.2.2.2.2.2.2.2.2.2.2.1,c.2.2.2.2.2.2.2.2.2.2.2.2.1,c.2.2.2.2.2.2.2.2.2.2.2.2.2.1,c.2.2.2.2.2.2.2.2.2.2.2.2.2.2.1,c.2.2.2.2.2.2.2.2.2.2.2.2.2.2.2.1,c.2.2.2.2.2.2.2.2.2.2.2.2.2.2.2.2.1,
  m.2.2.2.2.1,m.2.2.2.2.2.1,m.2.2.2.2.2.2.1,m.2.2.2.2.2.2.2.1,m.2.2.2.2.2.2.2.2.1,m.2.2.2.2.2.2.2.2.2.1,m.2.2.2.2.2.2.2.2.2.2.1,y.1,y.2.1,y.2.2.1,y.2.2.2.1,y.2.2.2.2.1,y.2.2.2.2.2.1,y.2.2.2.2.2.2.1,
  m.2.2.2.2.2.2.2.2.2.2.2.2.1,m.2.2.2.2.2.2.2.2.2.2.2.2.2.1,m.2.2.2.2.2.2.2.2.2.2.2.2.2.2.1,d.1,d.2.1,d.2.2.1,d.2.2.2.1,m.2.2.2.2.2.2.2.2.2.2.2.2.2.2.2.2.1)
theorem zaQ (m:TMD) (h:YS m):F21 (m,())=some (LH m,()):=by
 obtain⟨k,rid,raft,⟨j1,j2,j3,⟨⟩⟩,cl,fr,en,rev,most,err,hint,rep,bat,its,done,⟨d1,d2,d3,d4,⟨⟩⟩,mov,⟨⟩⟩:=m;obtain⟨h1,h2,h3,⟨h4,h4'⟩,h5,h6,h7⟩:=h;have h4:bat.length≤bZ:=h4;have hb:=J6;unfold F21;refine aK (Zb raft h1) (aK (Zu j3 h2) (aK (OJ rep h3) (aK (CU its h5) (aK (YV bat h4) ?_))));refine Dl (mk:=fun i=>((i:Int),(bat,(i:Int)),())) (n:=bat.length) (by omega) (fun i hi=> ?_) ?_
 ·obtain⟨v,hv⟩:∃ v,bat[i]? = some v:=⟨_,List.getElem?_eq_getElem hi⟩
  have hc:=CU v.2.1 (h4' v (List.mem_of_getElem? hv));have hset:bat.set i (v.1,v.2.1,v.2.2)=bat:=DT hv;simp only[aB,hi,decide_true,cond_true,jO hi,hv,Option.bind_some,ql,xw];refine aK hc ?_;simp only[jO hi,hv,Option.bind_some,hset,aT (show i<9223372036854775807 by omega),ql,xw,JX,cond_true];rfl
 ·simp only[aB,Nat.lt_irrefl,decide_false,cond_false];refine(congrArg (Option.map Sum.inr) (aK (r:=some (LH (k,rid,raft,(j1,j2,j3,()),cl,fr,en,rev,most,err,hint,rep,bat,its,done,(d1,d2,d3,d4,()),mov,()),())) (OW d3 h6) (aK (OL d4 h7) ?_))).trans rfl;simp only[ql,decide_true,cond_true];rfl
end Go.Proofs.YteebpcpkhojfkaaGreat
