/-
 Plain laws of what lies below,as this seat reaches them (by a program of the bench: port.py).
-/
import Derived.Test.YtlegpimppfabgaaGreatRemPlain
import Derived.Test.YtlegpimppfabgaaGreatSxS
namespace Go.Proofs.YtlegpimppfabgaaGreat
open Go.Sx Go Classical
set_option maxRecDepth 10000
theorem KZ {α T R:Type} (l:List α) (hl:l.length≤9223372036854775806) (ok:α→Bool) (to:α→α) (mk:List α→Nat→T) {step:T→Option (T⊕R)} (rt:List α→R) (rf:R)
  (h:∀ i v d,d.length=i→l[i]? = some v→step (mk d i)=some (bif ok v then .inl (mk (d++[to v]) (i+1)) else .inr rf)) (hK:∀ d,d.length=l.length→step (mk d l.length)=some (.inr (rt d))) :
  iter step big (mk [] 0)=some (bif l.all ok then rt (l.map to) else rf):=by
 have main:∀ k i m d,i+k=l.length→k < m→d.length=i→iter step m (mk d i)=some (bif (l.drop i).all ok then rt (d++(l.drop i).map to) else rf):=by
  intro k
  induction k with
  | zero=>
   intro i m d hi hm hd
   cases m with
   | zero=>omega
   | succ m=>
    rw [Nat.add_zero] at hi
    subst hi
    simp [iter,hK d hd]
  | succ k ih=>
   intro i m d hi hm hd
   cases m with
   | zero=>omega
   | succ m=>
    have hlt:i < l.length:=by omega
    have h0:=h i l[i] d hd (List.getElem?_eq_getElem hlt)
    rw [List.drop_eq_getElem_cons hlt]
    simp only [iter,h0,Option.bind_some,List.all_cons,List.map_cons]
    cases hv:ok l[i] with
    | false=>rfl
    | true=>
     simp only [cond_true,Sum.elim_inl,Bool.true_and]
     rw [ih (i+1) m _ (by omega) (by omega) (by simp [hd])]
     simp
 have:=main l.length 0 big [] (by omega) (by rw [jZ];omega) rfl
 simpa using this
noncomputable def tH {α:Type} (ok:α→Bool) (to:α→α) (l:List α):List α×Bool×Unit:=bif l.all ok then (l.map to,true,()) else ([],false,())
noncomputable def cOk (p q:List UInt8) (c:aN):Bool:=(dX p q c.1).2.1
noncomputable def cTo (p q:List UInt8) (c:aN):aN:=((dX p q c.1).1,c.2)
noncomputable def oOk (p q:List UInt8) (o:au):Bool:=(fK p q o.2.1 o.2.2.1).2.2.1
noncomputable def oTo (p q:List UInt8) (o:au):au:=(o.1,(fK p q o.2.1 o.2.2.1).1,(fK p q o.2.1 o.2.2.1).2.1,o.2.2.2)
theorem MM {α:Type} {d:List α} {v:α} {n:Nat} (h:d.length=n) (hn:n < 100):dm d [v]=some (d++[v]):=lN (by have:di=34359738368:=rfl;simp only [List.length_cons,List.length_nil];omega)
theorem zd6 (p q:List UInt8) (l:List aN) (hl:l.length≤4):uY (p,q,l,())=some (tH (cOk p q) (cTo p q) l):=by
 unfold uY
 refine (KZ l (by omega) (cOk p q) (cTo p q) (fun d i=>(d,(i:Int),())) (fun d=>(d,true,())) ([],false,()) (fun i v d hd hv=> ?_) (fun d hd=> ?_)).trans rfl
 ·have hi:=(List.getElem?_eq_some_iff.1 hv).1
  simp only [aO,hi,decide_true,cond_true,aZ,hv,Option.bind_some,IW,MM hd (by omega),bY (show i < 9223372036854775807 by omega),cOk,cTo]
  cases (dX p q v.1).2.1 <;> rfl
 ·simp only [aO,Nat.lt_irrefl,decide_false,cond_false]
theorem Nb (p q:List UInt8) (l:List au) (hl:l.length≤4):pq (p,q,l,())=some (tH (oOk p q) (oTo p q) l):=by
 unfold pq
 refine (KZ l (by omega) (oOk p q) (oTo p q) (fun d i=>(d,(i:Int),())) (fun d=>(d,true,())) ([],false,()) (fun i v d hd hv=> ?_) (fun d hd=> ?_)).trans rfl
 ·have hi:=(List.getElem?_eq_some_iff.1 hv).1
  simp only [aO,hi,decide_true,cond_true,aZ,hv,Option.bind_some,Ib,MM hd (by omega),bY (show i < 9223372036854775807 by omega),oOk,oTo]
  cases (fK p q v.2.1 v.2.2.1).2.2.1 <;> rfl
 ·simp only [aO,Nat.lt_irrefl,decide_false,cond_false]
theorem Yj (p q k:List UInt8):dX p q k=([],false,())∨∃ r,eF p∧eF q∧k=p++r∧IsKey (p++r)∧IsKey (q++r)∧dX p q k=(q++r,true,()):=by
 cases h:(dX p q k).2.1 with
 | false=>
  left
  unfold dX at h ⊢
  by_cases c:Under p k∧eF q∧IsKey (q++k.drop p.length)
  ·rw [if_pos c] at h;cases h
  ·rw [if_neg c]
 | true=>
  obtain⟨⟨k1,k2,k3⟩,k4,k5,k6⟩:=Ed h
  obtain⟨r,rfl⟩:=zeg.1 k3
  have hd:(p++r).drop p.length=r:=by simp
  rw [hd] at k5 k6
  refine .inr ⟨r,k1,k4,rfl,k2,k5,?_⟩
  refine Prod.ext k6 (Prod.ext h rfl)
theorem KE {p q k e k' e' s:List UInt8} (h:Moves p q k e k' e') (h1:IsKey (p++s)) (h2:IsKey (q++s)):InP k e (p++s)↔InP k' e' (q++s):=by
 obtain⟨g1,g2,g3,g4,⟨r,rfl,rfl⟩,g7⟩:=h
 unfold InP
 simp only [g3,g4,h1,h2,true_and,BU,List.append_cancel_left_eq]
 rcases g7 with ⟨rfl,rfl⟩ | ⟨rfl,rfl⟩ | ⟨t,rfl,rfl⟩
 ·simp only [rD]
 ·simp only [La g1 s,La g2 s]
 ·simp only [BU]
theorem Ea {p q:List UInt8} {o:au} (h:oOk p q o=true):∃ k' e',Moves p q o.2.1 o.2.2.1 k' e'∧oTo p q o=(o.1,k',e',o.2.2.2):=by
 unfold oOk oTo at *
 rcases H7 p q o.2.1 o.2.2.1 with e | ⟨k',e',hM,e⟩
 ·rw [e] at h;cases h
 ·exact⟨k',e',hM,by rw [e]⟩
theorem Lu {p q e e':List UInt8} (h1:eF p) (h:Ends p q e e') (he:e=[]):e'=[]:=by
 rcases h with ⟨a,b⟩ | ⟨a,b⟩ | ⟨t,a,b⟩
 ·exact b
 ·exact absurd (a.symm.trans he) (zx h1)
 ·exact absurd (a.symm.trans he) (yU h1 t)
theorem zcV {p q:List UInt8} {o:au} (h:oOk p q o=true) (ho:jS o):jS (oTo p q o):=by
 obtain⟨k',e',hM,e⟩:=Ea h
 rw [e]
 rcases ho with ⟨a1,a2,a3,a4⟩ | ⟨a1,a2,a3,a4⟩
 ·exact .inl ⟨a1,Lu hM.1 hM.2.2.2.2.2 a2,hM.2.2.2.1.1,a4⟩
 ·exact .inr ⟨a1,a2,a3,hM.2.2.2.1⟩
theorem Zh {p q:List UInt8} {a b:au} (ha:oOk p q a=true) (hb:oOk p q b=true):Meet (oTo p q a) (oTo p q b)↔Meet a b:=by
 obtain⟨k1,e1,hM1,x1⟩:=Ea ha
 obtain⟨k2,e2,hM2,x2⟩:=Ea hb
 rw [x1,x2]
 obtain⟨r1,y1,z1⟩:=hM1.2.2.2.2.1
 obtain⟨r2,y2,z2⟩:=hM2.2.2.2.2.1
 have i1:=KE hM1 (s:=r2) (y2▸hM2.2.2.1.1) (z2▸hM2.2.2.2.1.1)
 have i2:=KE hM2 (s:=r1) (y1▸hM1.2.2.1.1) (z1▸hM1.2.2.2.1.1)
 unfold Meet
 dsimp only
 rw [←y2,←z2] at i1
 rw [←y1,←z1] at i2
 rw [i1,i2]
theorem J3 {p q:List UInt8} {l:List au} (h:l.all (oOk p q)=true) (hl:jI l):jI (l.map (oTo p q)):=by
 have hall:∀ o∈l,oOk p q o=true:=fun o ho=>List.all_eq_true.1 h o ho
 refine⟨fun i v hv=> ?_,by rw [List.length_map];exact hl.2⟩
 rw [List.getElem?_map] at hv
 obtain⟨v0,hv0,rfl⟩:=Option.map_eq_some_iff.1 hv
 obtain⟨h1,h2⟩:=hl.1 i v0 hv0
 have hm:=hall v0 (List.mem_of_getElem? hv0)
 refine⟨zcV hm h1,fun j w hj hw=> ?_⟩
 rw [List.getElem?_map] at hw
 obtain⟨w0,hw0,rfl⟩:=Option.map_eq_some_iff.1 hw
 exact fun hh=>h2 j w0 hj hw0 ((Zh (hall w0 (List.mem_of_getElem? hw0)) hm).1 hh)
theorem zbI {p q:List UInt8} {c:aN} (h:cOk p q c=true) (hc:oL c):oL (cTo p q c):=by
 unfold cOk cTo at *
 rcases Yj p q c.1 with e | ⟨r,h1,h2,h3,h4,h5,e⟩
 ·rw [e] at h;cases h
 ·rw [e];exact⟨h5,hc.2⟩
theorem Zu {p q:List UInt8} {l:List aN} (h:l.all (cOk p q)=true) (hl:qm l):qm (l.map (cTo p q)):=by
 refine⟨fun c hc=> ?_,by rw [List.length_map];exact hl.2⟩
 obtain⟨c0,hc0,rfl⟩:=List.mem_map.1 hc
 exact zbI (List.all_eq_true.1 h c0 hc0) (hl.1 c0 hc0)
end Go.Proofs.YtlegpimppfabgaaGreat
