/-
 Plain laws of what lies below,as this seat reaches them (by a program of the bench: port.py).
-/
import Derived.Test.YtlegpimppfabgaaGreatRemPlain
import Derived.Test.YtlegpimppfabgaaGreatSxS
namespace Go.Proofs.YtlegpimppfabgaaGreat
open Go.Sx Go Classical
set_option maxRecDepth 10000
theorem vI {α T R:Type} (l:List α) (hl:l.length≤9223372036854775806) (ok:α→Bool) (to:α→α) (mk:List α→Nat→T) {step:T→Option (T⊕R)} (rt:List α→R) (rf:R)
  (h:∀ i v d,d.length=i→l[i]? = some v→step (mk d i)=some (bif ok v then .inl (mk (d++[to v]) (i+1)) else .inr rf)) (hK:∀ d,d.length=l.length→step (mk d l.length)=some (.inr (rt d))) :
  iter step big (mk [] 0)=some (bif l.all ok then rt (l.map to) else rf):=by
 have main:∀ k i m d,i+k=l.length→k<m→d.length=i→iter step m (mk d i)=some (bif (l.drop i).all ok then rt (d++(l.drop i).map to) else rf):=by
  intro k;induction k with
  | zero=>
   intro i m d hi hm hd;cases m with
   | zero=>omega
   | succ m=>rw[Nat.add_zero] at hi;subst hi;simp[iter,hK d hd]
  | succ k ih=>
   intro i m d hi hm hd;cases m with
   | zero=>omega
   | succ m=>
    have hlt:i<l.length:=by omega
    have h0:=h i l[i] d hd (List.getElem?_eq_getElem hlt);rw[List.drop_eq_getElem_cons hlt];simp only[iter,h0,Option.bind_some,List.all_cons,List.map_cons];cases hv:ok l[i] with
    | false=>rfl
    | true=>simp only[cond_true,Sum.elim_inl,Bool.true_and];rw[ih (i+1) m _ (by omega) (by omega) (by simp[hd])];simp
 have:=main l.length 0 big [] (by omega) (by rw[ji];omega) rfl;simpa using this
noncomputable def lY {α:Type} (ok:α→Bool) (to:α→α) (l:List α):List α×Bool×Unit:=bif l.all ok then(l.map to,true,()) else([],false,())
noncomputable def cOk (p q:List UInt8) (c:dm):Bool:=(dL p q c.1).2.1
noncomputable def cTo (p q:List UInt8) (c:dm):dm:=((dL p q c.1).1,c.2)
noncomputable def oOk (p q:List UInt8) (o:aK):Bool:=(dC p q o.2.1 o.2.2.1).2.2.1
noncomputable def oTo (p q:List UInt8) (o:aK):aK:=(o.1,(dC p q o.2.1 o.2.2.1).1,(dC p q o.2.1 o.2.2.1).2.1,o.2.2.2)
noncomputable def iOk (p q:List UInt8) (x:aX):Bool:=(dL p q x.1).2.1
noncomputable def iTo (p q:List UInt8) (x:aX):aX:=((dL p q x.1).1,x.2)
theorem Dk {α:Type} {d:List α} {v:α} {n:Nat} (h:d.length=n) (hn:n<100):bn d [v]=some (d++[v]):=iP (by have:bT=34359738368:=rfl;simp only[List.length_cons,List.length_nil];omega)
theorem zcr (p q:List UInt8) (l:List dm) (hl:l.length≤4):Bi (p,q,l,())=some (lY (cOk p q) (cTo p q) l):=by
 unfold Bi;refine(vI l (by omega) (cOk p q) (cTo p q) (fun d i=>(d,(i:Int),())) (fun d=>(d,true,())) ([],false,()) (fun i v d hd hv=> ?_) (fun d hd=> ?_)).trans rfl
 ·have hi:=(List.getElem?_eq_some_iff.1 hv).1;simp only[ax,hi,decide_true,cond_true,aI,hv,Option.bind_some,GN,Dk hd (by omega),aP (show i<9223372036854775807 by omega),cOk,cTo];cases (dL p q v.1).2.1<;>rfl
 ·simp only[ax,Nat.lt_irrefl,decide_false,cond_false]
theorem SL (p q:List UInt8) (l:List aK) (hl:l.length≤4):uU (p,q,l,())=some (lY (oOk p q) (oTo p q) l):=by
 unfold uU;refine(vI l (by omega) (oOk p q) (oTo p q) (fun d i=>(d,(i:Int),())) (fun d=>(d,true,())) ([],false,()) (fun i v d hd hv=> ?_) (fun d hd=> ?_)).trans rfl
 ·have hi:=(List.getElem?_eq_some_iff.1 hv).1;simp only[ax,hi,decide_true,cond_true,aI,hv,Option.bind_some,Gl,Dk hd (by omega),aP (show i<9223372036854775807 by omega),oOk,oTo];cases (dC p q v.2.1 v.2.2.1).2.2.1<;>rfl
 ·simp only[ax,Nat.lt_irrefl,decide_false,cond_false]
theorem Rz (p q:List UInt8) (hp:St p) (hq:St q) (l:List aK) (hl:l.length≤4) (hz:∀ o∈l,qy o):F99 (p,q,l,())=some (lY (oOk p q) (oTo p q) l):=by
 unfold F99;refine(vI l (by omega) (oOk p q) (oTo p q) (fun d i=>(d,(i:Int),())) (fun d=>(d,true,())) ([],false,()) (fun i v d hd hv=> ?_) (fun d hd=> ?_)).trans rfl
 ·have hi:=(List.getElem?_eq_some_iff.1 hv).1;obtain⟨z1,z2,-⟩:=hz v (List.mem_of_getElem? hv);simp only[ax,hi,decide_true,cond_true,aI,hv,Option.bind_some,F5 p q v.2.1 v.2.2.1 hp hq z1 z2,Dk hd (by omega),aP (show i<9223372036854775807 by omega),oOk,oTo];cases (dC p q v.2.1 v.2.2.1).2.2.1<;>rfl
 ·simp only[ax,Nat.lt_irrefl,decide_false,cond_false]
theorem Ri {α:Type} {d:List α} {v:α} {n:Nat} (h:d.length=n) (hn:n<1000000):bn d [v]=some (d++[v]):=iP (by have:bT=34359738368:=rfl;simp only[List.length_cons,List.length_nil];omega)
theorem QT (p q:List UInt8) (l:List aX) (hl:l.length≤1000000):F84 (p,q,l,())=some (lY (iOk p q) (iTo p q) l):=by
 unfold F84;refine(vI l (by omega) (iOk p q) (iTo p q) (fun d i=>(d,(i:Int),())) (fun d=>(d,true,())) ([],false,()) (fun i v d hd hv=> ?_) (fun d hd=> ?_)).trans rfl
 ·have hi:=(List.getElem?_eq_some_iff.1 hv).1;simp only[ax,hi,decide_true,cond_true,aI,hv,Option.bind_some,GN,Ri hd (by omega),aP (show i<9223372036854775807 by omega),iOk,iTo];cases (dL p q v.1).2.1<;>rfl
 ·simp only[ax,Nat.lt_irrefl,decide_false,cond_false]
theorem PM (p q:List UInt8) (hp:St p) (hq:St q) (l:List aX) (hl:l.length≤1000000) (hz:∀ x∈l,St x.1):F86 (p,q,l,())=some (lY (iOk p q) (iTo p q) l):=by
 unfold F86;refine(vI l (by omega) (iOk p q) (iTo p q) (fun d i=>(d,(i:Int),())) (fun d=>(d,true,())) ([],false,()) (fun i v d hd hv=> ?_) (fun d hd=> ?_)).trans rfl
 ·have hi:=(List.getElem?_eq_some_iff.1 hv).1;have z1:=hz v (List.mem_of_getElem? hv);simp only[ax,hi,decide_true,cond_true,aI,hv,Option.bind_some,Gf p q v.1 hp hq z1,Ri hd (by omega),aP (show i<9223372036854775807 by omega),iOk,iTo];cases (dL p q v.1).2.1<;>rfl
 ·simp only[ax,Nat.lt_irrefl,decide_false,cond_false]
theorem GL (p q k:List UInt8):dL p q k=([],false,())∨∃ r,dP p∧dP q∧k=p++r∧IsKey (p++r)∧IsKey (q++r)∧dL p q k=(q++r,true,()):=by
 cases h:(dL p q k).2.1 with
 | false=>
  left;unfold dL at h ⊢;by_cases c:Under p k∧dP q∧IsKey (q++k.drop p.length)
  ·rw[if_pos c] at h;cases h
  ·rw[if_neg c]
 | true=>
  obtain⟨⟨k1,k2,k3⟩,k4,k5,k6⟩:=Cm h;obtain⟨r,rfl⟩:=zcG.1 k3;have hd:(p++r).drop p.length=r:=by simp
  rw[hd] at k5 k6;refine .inr ⟨r,k1,k4,rfl,k2,k5,?_⟩;refine Prod.ext k6 (Prod.ext h rfl)
theorem Qo {p q k e k' e' s:List UInt8} (h:Moves p q k e k' e') (h1:IsKey (p++s)) (h2:IsKey (q++s)):InP k e (p++s)↔InP k' e' (q++s):=by
 obtain⟨g1,g2,g3,g4,⟨r,rfl,rfl⟩,g7⟩:=h;unfold InP;simp only[g3,g4,h1,h2,true_and,Gu,List.append_cancel_left_eq];rcases g7 with⟨rfl,rfl⟩|⟨rfl,rfl⟩|⟨t,rfl,rfl⟩
 ·simp only[tu]
 ·simp only[QI g1 s,QI g2 s]
 ·simp only[Gu]
theorem IY {p q:List UInt8} {o:aK} (h:oOk p q o=true):∃ k' e',Moves p q o.2.1 o.2.2.1 k' e'∧oTo p q o=(o.1,k',e',o.2.2.2):=by
 unfold oOk oTo at *;rcases Bq p q o.2.1 o.2.2.1 with e|⟨k',e',hM,e⟩
 ·rw[e] at h;cases h
 ·exact⟨k',e',hM,by rw[e]⟩
theorem Q4 {p q e e':List UInt8} (h1:dP p) (h:Ends p q e e') (he:e=[]):e'=[]:=by
 rcases h with⟨a,b⟩|⟨a,b⟩|⟨t,a,b⟩
 ·exact b
 ·exact absurd (a.symm.trans he) (CS h1)
 ·exact absurd (a.symm.trans he) (BN h1 t)
theorem zaZ {p q:List UInt8} {o:aK} (h:oOk p q o=true) (ho:jv o):jv (oTo p q o):=by
 obtain⟨k',e',hM,e⟩:=IY h;rw[e];rcases ho with⟨a1,a2,a3,a4⟩|⟨a1,a2,a3,a4⟩
 ·exact .inl ⟨a1,Q4 hM.1 hM.2.2.2.2.2 a2,hM.2.2.2.1.1,a4⟩
 ·exact .inr ⟨a1,a2,a3,hM.2.2.2.1⟩
theorem YW {p q:List UInt8} {a b:aK} (ha:oOk p q a=true) (hb:oOk p q b=true):Meet (oTo p q a) (oTo p q b)↔Meet a b:=by
 obtain⟨k1,e1,hM1,x1⟩:=IY ha;obtain⟨k2,e2,hM2,x2⟩:=IY hb;rw[x1,x2];obtain⟨r1,y1,z1⟩:=hM1.2.2.2.2.1;obtain⟨r2,y2,z2⟩:=hM2.2.2.2.2.1;have i1:=Qo hM1 (s:=r2) (y2▸hM2.2.2.1.1) (z2▸hM2.2.2.2.1.1);have i2:=Qo hM2 (s:=r1) (y1▸hM1.2.2.1.1) (z1▸hM1.2.2.2.1.1);unfold Meet;dsimp only;rw[←y2,←z2] at i1;rw[←y1,←z1] at i2;rw[i1,i2]
theorem PV {p q:List UInt8} {l:List aK} (h:l.all (oOk p q)=true) (hl:jV l):jV (l.map (oTo p q)):=by
 have hall:∀ o∈l,oOk p q o=true:=fun o ho=>List.all_eq_true.1 h o ho;refine⟨fun i v hv=> ?_,by rw[List.length_map];exact hl.2⟩;rw[List.getElem?_map] at hv;obtain⟨v0,hv0,rfl⟩:=Option.map_eq_some_iff.1 hv;obtain⟨h1,h2⟩:=hl.1 i v0 hv0;have hm:=hall v0 (List.mem_of_getElem? hv0);refine⟨zaZ hm h1,fun j w hj hw=> ?_⟩;rw[List.getElem?_map] at hw;obtain⟨w0,hw0,rfl⟩:=Option.map_eq_some_iff.1 hw;exact fun hh=>h2 j w0 hj hw0 ((YW (hall w0 (List.mem_of_getElem? hw0)) hm).1 hh)
theorem zan {p q:List UInt8} {c:dm} (h:cOk p q c=true) (hc:nD c):nD (cTo p q c):=by
 unfold cOk cTo at *;rcases GL p q c.1 with e|⟨r,h1,h2,h3,h4,h5,e⟩
 ·rw[e] at h;cases h
 ·rw[e];exact⟨h5,hc.2⟩
theorem Za {p q:List UInt8} {l:List dm} (h:l.all (cOk p q)=true) (hl:pW l):pW (l.map (cTo p q)):=by
 refine⟨fun c hc=> ?_,by rw[List.length_map];exact hl.2⟩;obtain⟨c0,hc0,rfl⟩:=List.mem_map.1 hc;exact zan (List.all_eq_true.1 h c0 hc0) (hl.1 c0 hc0)
end Go.Proofs.YtlegpimppfabgaaGreat
