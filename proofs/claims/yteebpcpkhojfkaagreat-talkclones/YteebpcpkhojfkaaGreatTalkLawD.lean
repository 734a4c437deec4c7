/-
 Plain laws of what lies below,as this seat reaches them (by a program of the bench: port.py).
-/
import Derived.Test.YteebpcpkhojfkaaGreatTalkLawC
import Derived.Test.YteebpcpkhojfkaaGreatSxS
namespace Go.Proofs.YteebpcpkhojfkaaGreat
open Go.Sx Go Classical
set_option maxRecDepth 10000
abbrev NoT:TMD:=(0,0,jB,jC,0,[],[],0,0,0,0,gY,[],[],false,dX,jc,())
abbrev look0:TMD:=(7,5,jB,jC,0,[],[],0,0,0,0,gY,[],[],false,dX,jc,())
theorem UX:ShT look0:=by
 have z:∀ {α:Type},Sh ([]:List α):=fun{_}=>by simp[Sh]
 exact⟨z,lV,z,⟨z,fun b hb=>by simp at hb⟩,z,⟨⟨z,fun b hb=>by simp at hb⟩,z⟩⟩
theorem zez:ShT NoT:=by
 have z:∀ {α:Type},Sh ([]:List α):=fun{_}=>by simp[Sh]
 exact⟨z,lV,z,⟨z,fun b hb=>by simp at hb⟩,z,⟨⟨z,fun b hb=>by simp at hb⟩,z⟩⟩
theorem zbn:mQ look0:=⟨⟨by decide,by decide⟩,rfl,by unfold vN mZ bI;simp⟩
theorem zeg:¬ mQ NoT:=fun h=>absurd h.1.1 (by decide)
theorem zb0:F7 ()=some (true,()):=by
 have hr:=QI look0 UX;rw[bP zbn] at hr;have hn:=QI NoT zez;rw[bU zeg] at hn;have hs:=Tc look0 look0 UX;rw[bP rfl] at hs;have e1:F25 (([],()),Sx.byteOf (IntKind.wrap IntKind.u8 7),())=some (([]++bG 7,()),()):=zcn [] 7 (by show _≤(140737488355000:Nat);simp[kJ]);have e2:F28 (([]++bG 7,()),5,())=some (([]++bG 7++ak 5,()),()):=zdo _ 5 (by show _≤(140737488355000:Nat);simp[kJ,bu]);have e3:F30 (([]++bG 7++ak 5,()),look0,())=some (([]++bG 7++ak 5,()),()):=rfl;have hlen:([]++bG 7++ak 5).length=9:=by simp[kJ,bu]
 have e4:=zer ([]++bG 7++ak 5) (by omega);have hE:F9 (look0,())=some ([]++bG 7++ak 5,0,()):=by unfold F9;refine aK hr ?_;refine aK e1 ?_;refine aK (show _=some (Sum.inl (([]++bG 7++ak 5,()):aA)) from aK e2 (aK e3 rfl)) ?_;simp only[Sum.elim_inl];exact aK e4 rfl
 have c1:=kindC.rt 7 (ak 5) ⟨by decide,by decide⟩;have c2:=yx.rt 5 [] (by unfold In64;decide);rw[List.append_nil] at c2;have d0:=zcw ([]++bG 7++ak 5) (by omega);rw[List.nil_append] at d0 hE hlen;have d1:F48 ((bG 7++ak 5,false,()),())=some ((tC (bG 7++ak 5,false,())).1,(LC (bG 7++ak 5,false,())).2,()):=zdz _;have hb:wrap64 (ay (tC (bG 7++ak 5,false,())).1)=7:=congrArg (fun z=>z.1) c1;have d2:F50 ((LC (bG 7++ak 5,false,())).2,())=some (5,([],false,()),()):=by rw[zen,c1];simp only[c2]
 have d3:F51 (([],false,()),(7,5,jB,jC,0,[],[],0,0,0,0,gY,[],[],false,dX,jc,()),())=some (([],false,()),look0,()):=rfl;have hD:F13 (bG 7++ak 5,())=some (look0,0,()):=by unfold F13;refine aK d0 ?_;refine aK d1 ?_;simp only[hb];refine aK (show _=some (Sum.inl (7,5,jB,jC,0,[],[],0,0,0,0,gY,[],[],false,dX,jc,[],false,())) from aK d2 (aK d3 rfl)) ?_;simp only[Sum.elim_inl,hlen];exact aK hr rfl
 unfold F7;refine aK hE ?_;refine aK hD ?_;simp only[hlen,decide_true,cond_true];refine aK hs ?_;simp only[cond_true];exact aK hn rfl
theorem zdE (m:TMD) (hm:ShT m) (hs:m.2.2.2.2.2.2.2.2.2.2.2.2.2.2.2.1.2.2.1.length≤1800000000000):∃ z,F8 (m,())=some (z,())∧(z=true→m.2.2.2.2.2.2.2.2.2.2.2.2.2.2.2.1.2.2.1.length≤20∧m.2.2.2.1.2.2.1.2.2.2.2.2.2.2.2.2.2.2.2.2.2.2.1.length≤20):=by
 obtain⟨h1,h2,h3,⟨h4,h4'⟩,h5,h6⟩:=hm;obtain⟨k,rid,raft,⟨j1,j2,j3,⟨⟩⟩,cl,fr,en,rev,most,err,hint,rep,bat,its,done,⟨d1,d2,d3,d4,⟨⟩⟩,mov,⟨⟩⟩:=m;dsimp only at hs h1 h2 h3 h4 h4' h5 h6;have z:∀ {α:Type},Sh ([]:List α):=fun{_}=>by simp[Sh]
 have zS:ShS []:=⟨z,fun s hs=>by simp at hs⟩
 have hI:∀ l:List aO,Sh l→∃ z,F23 ((0,[],[],[],0,0,0,[],[],[],0,0,0,false,l,[],[],()),())=some (z,()):=fun l hl=>by obtain⟨z,hz,-⟩:=KI (0,[],[],[],0,0,0,[],[],[],0,0,0,false,l,[],[],()) ⟨z,z,z,hl,zS,z⟩;exact⟨z,hz⟩
 unfold F8;refine Wh (Q:=fun r=>r.1=true→d3.length≤20∧j3.2.2.2.2.2.2.2.2.2.2.2.2.2.2.2.1.length≤20) (uH bat h4 _ (fun n i v hi hv=> ?_) (fun n=> ?_) _) (fun z hz=>hz)
 ·have ok:wrap64 ((i:Int)+1)=((i+1:Nat):Int):=aT (by unfold Sh at h4;omega);obtain⟨q,hq⟩:=hI v.2.1 (h4' v (List.mem_of_getElem? hv));simp only[aB,hi,decide_true,cond_true,aP,hv,Option.bind_some,ok,hq];by_cases c:(400:Int)<wrap64 (wrap64 (n+1)+Int.ofNat v.2.1.length)
  ·rw[decide_eq_true c];exact .inr ⟨_,rfl,fun h=>by cases h⟩
  ·rw[decide_eq_false c];cases q with
   | true=>exact .inl ⟨_,rfl⟩
   | false=>exact .inr ⟨_,rfl,fun h=>by cases h⟩
 ·simp only[aB,Nat.lt_irrefl,decide_false,cond_false];refine Af ?_;obtain⟨b1,e1⟩:=zdF raft h1;obtain⟨b2,e2,e2'⟩:=KI j3 h2;obtain⟨b3,e3⟩:=hI its h5;have ea:oq [((0:Int),(0:Int),rep,())] d3=some ([(0,0,rep,())]++d3):=UL (by simp only[List.length_cons,List.length_nil];omega);obtain⟨b4,e4,e4'⟩:=KI (0,[],[],[],0,0,0,[],[],[],0,0,0,false,[],[(0,0,rep,())]++d3,d4,()) ⟨z,z,z,z,⟨by simp[Sh];omega,fun s hs=>by
   rcases List.mem_append.1 hs with h|h
   ·rw[List.mem_singleton.1 h];exact h3
   ·exact h6.1.2 s h⟩,h6.2⟩
  simp only[e1,e2,e3,ea,e4,Option.bind_some];cases b1 with
  | false=>exact⟨_,rfl,fun h=>by cases h⟩
  | true=>
   cases b2 with
   | false=>exact⟨_,rfl,fun h=>by cases h⟩
   | true=>
    cases b3 with
    | false=>exact⟨_,rfl,fun h=>by cases h⟩
    | true=>
     cases b4 with
     | false=>exact⟨_,rfl,fun h=>by cases h⟩
     | true=>refine⟨_,rfl,fun _=>⟨?_,e2' rfl⟩⟩;have:=e4' rfl;simp only[List.length_append,List.length_cons,List.length_nil] at this;omega
theorem szT {m:TMD} (h:fF TM m):SzT m:=by
 obtain⟨k,rid,raft,⟨j1,j2,j3,⟨⟩⟩,cl,fr,en,rev,most,err,hint,rep,bat,its,done,hand,mov,⟨⟩⟩:=m;obtain⟨-,-,f3,⟨-,-,f4,-⟩,-,f6,f7,-,-,-,-,f12,f13,f14,-,f16,f17,-⟩:=h;have hC:=zey f4;have hH:=Es f16;have hR:=JO f12;have hI:∀ {l:List aO},fF (.slice T70) l→su l:=fun h=>⟨kV h.1,fun x hx=>(h.2 x hx).1⟩
 exact⟨⟨kV f3.2.2.2.2.2.2.2.2.2.1.1,hC.1,hR.1,⟨kV f13.1,fun b hb=>(hI (f13.2 b hb).2.1).1⟩,(hI f14).1,hH.2⟩,hC,f6,f7,hR,fun b hb=>hI (f13.2 b hb).2.1,hI f14,hH.1,zdU f17⟩
theorem zaE {m:TMD} (h:kC TM m):m.2.2.2.2.2.2.2.2.2.2.2.2.2.2.2.1.2.2.1.length≤1800000000000:=zbM h.2.2.2.2.2.2.2.2.2.2.2.2.2.2.2.1
theorem zdS (m:TMD):F10 (m,())=some (m,()):=rfl
end Go.Proofs.YteebpcpkhojfkaaGreat
