/-
 Plain laws of what lies below,as this seat reaches them (by a program of the bench: port.py).
-/
import Derived.Test.YtlegpimppfabgaaGreatProwOk
import Derived.Test.YtlegpimppfabgaaGreatSxS
open Bool (and_eq_true eq_false_iff noConfusion not_eq_true')
open Int (ofNat ofNat_eq_natCast reduceEq reduceLE reduceLT toNat toNat_natCast)
open Go.IntKind (signed u8 wrap)
open List (all_eq_true drop_eq_getElem_cons drop_length getD_eq_getElem?_getD getElem?_cons_zero getElem?_eq_getElem getElem_mem getElem_of_mem head?_cons isEmpty_cons isEmpty_nil length length_append length_cons length_eq_zero_iff length_map length_nil mem_iff_getElem? mem_map mem_of_getElem? mem_range nil_append range)
open Nat (eq_zero_or_pos le_refl le_trans lt_irrefl zero_le)
open Option (bind_some getD_some map_some)
open Sum (elim_inl elim_inr inl)
namespace Go.Proofs.YtlegpimppfabgaaGreat
open Go.Sx Go Classical
set_option maxRecDepth 10000
def zcO (a:Int) (b:UInt8):Int:=a*256 % 18446744073709551616+b.toNat
def dec (l:List UInt8):Int:=l.foldl zcO 0
abbrev In:Type:=List UInt8×Bool×Unit
def zG (s:In) (n:Nat):List UInt8×In:=
 bif s.2.1 then([],s) else bif decide (n≤s.1.length) then(s.1.take n,(s.1.drop n,false,())) else([],([],true,()))
def Fine (s:In):Prop:=s.2.1=true→s.1=[]
theorem Fine.take {s:In} (h:Fine s) (n:Nat):Fine (zG s n).2:=by
 unfold zG;cases hb:s.2.1 with
 | true=>exact h
 | false=>
  by_cases hn:n≤s.1.length
  ·simp[hn,Fine]
  ·simp[hn,Fine]
def sF (s:In) (n:Nat):Int×In:=(dec (zG s n).1,(zG s n).2)
def VY:In:=([],true,())
theorem zaQ:Fine VY:=fun _=>rfl
def DV (s:In) (most:Int):Int×In:=
 bif decide (0≤most∧(sF s 4).1≤most∧(sF s 4).1≤((sF s 4).2.1.length:Int)) then sF s 4 else(0,VY)
theorem Fine.num {s:In} (h:Fine s) (n:Nat):Fine (sF s n).2:=h.take n
theorem Fine.count {s:In} (h:Fine s) (m:Int):Fine (DV s m).2:=by
 unfold DV;cases decide (0≤m∧(sF s 4).1≤m∧(sF s 4).1≤((sF s 4).2.1.length:Int)) with
 | true=>exact h.num 4
 | false=>exact zaQ
def zdS (s:In) (most:Int):List UInt8×In:=zG (DV s most).2 (DV s most).1.toNat
theorem Fine.text {s:In} (h:Fine s) (m:Int):Fine (zdS s m).2:=(h.count m).take _
structure Codec {α:Type} (enc:α→List UInt8) (g:In→α×In) (ok:α→Prop):Prop where
 rt:∀ v r,ok v→g (enc v++r,false,())=(v,(r,false,()))
 fine:∀ s,Fine s→Fine (g s).2
 bad:∀ s,s.2.1=true→(g s).2.2.1=true
 ex:∀ s,s.2.1=false→(g s).2.2.1=false→ok (g s).1∧s.1=enc (g s).1++(g s).2.1
 len:∀ s,(g s).2.1.length≤s.1.length
theorem Codec.map {α β:Type} {e:α→List UInt8} {g:In→α×In} {p:α→Prop} (c:Codec e g p) (to:α→β) (back:β→α) (q:β→Prop) (h1:∀ a,p a→back (to a)=a∧q (to a)) (h2:∀ b,q b→p (back b)∧to (back b)=b) :
  Codec (fun b=>e (back b)) (fun s=>(to (g s).1,(g s).2)) q where
 rt:=fun v r hv=>by rw[c.rt (back v) r (h2 v hv).1,(h2 v hv).2]
 fine:=fun s h=>c.fine s h
 bad:=fun s h=>c.bad s h
 ex:=fun s h0 h=>by obtain⟨h3,h4⟩:=c.ex s h0 h;exact⟨(h1 _ h3).2,by rw[(h1 _ h3).1];exact h4⟩
 len:=fun s=>c.len s
theorem jE {α:Type} (e:α→List UInt8) (h:∀ v,1≤(e v).length):∀ l:List α,l.length≤(l.flatMap e).length
 | []=>le_refl _
 | v::l=>by have:=h v;have:=jE e h l;simp only[List.flatMap_cons,length_cons,length_append];omega
abbrev Sh {α:Type} (l:List α):Prop:=l.length≤9223372036854775806
def Sm (s:In):Prop:=s.1.length≤1000000000
theorem H8 {T R:Type} {step:T→Option (T⊕R)} {mk:Nat→T} {n:Nat} {r:R} (hn:n≤9223372036854775807) (h:∀ i,i<n→step (mk i)=some (.inl (mk (i+1)))) (hK:step (mk n)=some (.inr r)):iter step big (mk 0)=some r:=by
 have:=qW (mk:=mk) (fun _=>true) (rt:=r) (rf:=r) hn (fun i hi=>h i hi) hK;rw[this];cases (range n).all (fun _=>true)<;>rfl
theorem Tt {α:Type} {l x:List α} (h:l.length+x.length≤2000000000000):o9 l x=some (l++x):=by
 unfold o9;have:Nat.ble (l.length+x.length) MC=true:=Nat.ble_eq_true_of_le h;rw[this];rfl
theorem lI {α:Type} {l:List α} {i:Nat} (h:i<l.length):dB l (i:Int)=some i:=by
 unfold dB;have:(0:Int)≤(i:Int)∧(i:Int)<(l.length:Int):=⟨by omega,by omega⟩
 simp only[this,and_self,decide_true,cond_true,toNat_natCast]
abbrev nV:Type:=Int×Int×Int×Int×List UInt8×Int×Bool×Unit
def fZ (v:nV):Prop:=
 1≤v.1∧v.1≤1099511627776∧1≤v.2.2.1∧v.2.2.1≤1099511627776∧
 (if v.2.2.2.2.2.2.1=true then v.2.1=0∧v.2.2.2.1=0∧v.2.2.2.2.2.1=0∧v.2.2.2.2.1=[]
  else 1≤v.2.1∧v.2.1≤v.2.2.1∧1≤v.2.2.2.1∧v.2.2.2.1≤1099511627776∧v.2.2.2.2.1.length≤40∧ -1099511627776≤v.2.2.2.2.2.1∧v.2.2.2.2.2.1≤1099511627776)
def Lt (u v:nV):Prop:=u.1<v.1∧u.2.2.1<v.2.2.1
def ut (l:List nV):Prop:=(∀ v∈l,fZ v)∧l.Pairwise Lt
theorem Zw (n:Int):xB (n,())=some (decide (1≤n∧n≤1099511627776),()):=by
 unfold xB;by_cases h:1≤n<;>simp[h]
theorem zcL (v:nV):Fe (v,())=some (decide (fZ v),()):=by
 obtain⟨a,b,c,d,e,f,g,u⟩:=v;unfold Fe fZ;simp only[Zw,bind_some];by_cases h1:1≤a∧a≤1099511627776
 ·by_cases h2:1≤c∧c≤1099511627776
  ·cases g with
   | true=>by_cases h3:b=0<;>by_cases h4:d=0<;>by_cases h5:f=0<;>simp[h1,h2,h3,h4,h5]
   | false=>by_cases h3:1≤b<;>by_cases h4:b≤c<;>by_cases h5:1≤d∧d≤1099511627776<;>by_cases h6:(e.length:Int)≤40<;>by_cases h7 : -1099511627776≤f<;>simp[h1,h2,h3,h4,h5,h6,h7]<;>omega
  ·have:¬ (1≤c∧c≤1099511627776):=h2;simp[h1,h2];omega
 ·simp[h1];omega
theorem Du (v:nV):qK (v,())=some (decide (fZ v),()):=by
 obtain⟨a,b,c,d,e,f,g,u⟩:=v;unfold qK fZ;by_cases h1:a<1
 ·simp[h1];omega
 ·by_cases h2:1099511627776<a
  ·simp[h1,h2];omega
  ·by_cases h3:c<1
   ·simp[h1,h2,h3];omega
   ·by_cases h4:1099511627776<c
    ·simp[h1,h2,h3,h4];omega
    ·have a1:1≤a:=by omega
     have a2:a≤1099511627776:=by omega
     have a3:1≤c:=by omega
     have a4:c≤1099511627776:=by omega
     cases g with
     | true=>by_cases h5:b=0<;>by_cases h6:d=0<;>by_cases h7:f=0<;>simp[h1,h2,h3,h4,h5,h6,h7,a1,a2,a3,a4]
     | false=>by_cases h5:1≤b<;>by_cases h6:b≤c<;>by_cases h7:1≤d<;>by_cases h8:d≤1099511627776<;>by_cases h9:(e.length:Int)≤40<;>by_cases h10 : -1099511627776≤f<;>simp[h1,h2,h3,h4,h5,h6,h7,h8,h9,h10,a1,a2,a3,a4]<;>omega
noncomputable def nR (l:List nV) (i:Nat):Bool:=decide (∀ v,l[i]? = some v→fZ v∧(0<i→∀ u,l[i-1]? = some u→Lt u v))
theorem zbo (l:List nV):(range l.length).all (nR l)=decide (ut l):=by
 rw[Bool.eq_iff_iff,all_eq_true,decide_eq_true_eq];simp only[nR,decide_eq_true_eq,mem_range];constructor
 ·intro h;refine⟨fun v hv=> ?_,?_⟩
  ·obtain⟨i,hi,rfl⟩:=getElem_of_mem hv;exact(h i hi _ (getElem?_eq_getElem hi)).1
  ·have adj:∀ i,i+1<l.length→∀ u v,l[i]? = some u→l[i+1]? = some v→Lt u v:=fun i hi u v hu hv=>(h (i+1) hi v hv).2 (by omega) u (by simpa using hu);have tr:∀ d i u v,l[i]? = some u→l[i+1+d]? = some v→Lt u v:=by
    intro d;induction d with
    | zero=>intro i u v hu hv;exact adj i (List.getElem?_eq_some_iff.1 hv).1 u v hu hv
    | succ d ih=>intro i u v hu hv;have hlt:=(List.getElem?_eq_some_iff.1 hv).1;have hm:=getElem?_eq_getElem (l:=l) (i:=i+1+d) (by omega);have h1:=ih i u _ hu hm;have h2:=adj (i+1+d) (by omega) _ v hm (by rwa[show i+1+(d+1)=i+1+d+1 from by omega] at hv);exact⟨Int.lt_trans h1.1 h2.1,Int.lt_trans h1.2 h2.2⟩
   rw[List.pairwise_iff_getElem];intro i j hi hj hij;exact tr (j-i-1) i _ _ (getElem?_eq_getElem hi) (by rw[show i+1+(j-i-1)=j from by omega];exact getElem?_eq_getElem hj)
 ·rintro⟨h1,h2⟩ i hi v hv;refine⟨h1 v (mem_of_getElem? hv),fun h0 u hu=> ?_⟩;rw[List.pairwise_iff_getElem] at h2;have hu':=List.getElem?_eq_some_iff.1 hu;have hv':=List.getElem?_eq_some_iff.1 hv;have:=h2 (i-1) i hu'.1 hv'.1 (by omega);rwa[hu'.2,hv'.2] at this
theorem QD (l:List nV) (hl:l.length≤9223372036854775807):xC (l,())=some (decide (ut l),()):=by
 unfold xC;refine(qW (mk:=fun i=>((i:Int),())) (nR l) (rt:=(true,())) (rf:=(false,())) hl (fun i hi=> ?_) ?_).trans ?_
 rotate_left 2
 ·rw[zbo];cases decide (ut l)<;>rfl
 ·simp only[aC,hi,decide_true,cond_true,aN,getElem?_eq_getElem hi,bind_some,zcL];by_cases h1:fZ l[i]
  ·simp only[h1,decide_true,Bool.not_true,cond_false];cases i with
   | zero=>
    have:nR l 0=true:=by simp[nR,getElem?_eq_getElem hi,h1]
    simp[this];rfl
   | succ i=>
    have e1:wrap64 (((i+1:Nat):Int)-1)=(i:Int):=by rw[eU (by omega) (by omega)];omega
    have e2:(0:Int)<((i+1:Nat):Int):=by omega
    have hi':i<l.length:=by omega
    simp only[e1,e2,decide_true,cond_true,aN,getElem?_eq_getElem hi',bind_some,aX (show i+1<9223372036854775807 by omega)];by_cases h2:Lt l[i] l[i+1]
    ·have:nR l (i+1)=true:=by simp[nR,getElem?_eq_getElem hi,getElem?_eq_getElem hi',h1,h2]
     have h2a:¬ l[i+1].1≤l[i].1:=by have:=h2.1;omega
     have h2b:¬ l[i+1].2.2.1≤l[i].2.2.1:=by have:=h2.2;omega
     simp[this,h2a,h2b]
    ·have:nR l (i+1)=false:=by simp[nR,getElem?_eq_getElem hi,getElem?_eq_getElem hi',h1,h2]
     by_cases h3:l[i+1].1≤l[i].1
     ·simp[this,h3]
     ·by_cases h4:l[i+1].2.2.1≤l[i].2.2.1
      ·simp[this,h3,h4]
      ·exact absurd ⟨by omega,by omega⟩ h2
  ·have:nR l i=false:=by simp[nR,getElem?_eq_getElem hi,h1]
   simp[h1,this]
 ·simp
def VZ {α:Type} (l:List α):Prop:=l.length≤1000000
theorem VZ.lt {α:Type} {l:List α} (h:VZ l):l.length≤9223372036854775807:=by unfold VZ at h;omega
def Txt (m:UInt8) (s:List UInt8):Prop:=1≤s.length∧s.length≤32∧∀ c∈s,33≤c.toNat∧c.toNat≤m.toNat
def IsKey (s:List UInt8):Prop:=Txt 126 s
def eG (a b:List UInt8):Prop:=IsKey a∧(b=[]∨(Txt 127 b∧aY a b=true))
def sQ (m:UInt8) (s:List UInt8) (i:Nat):Bool:=
 match s[i]? with
 | some c=>decide (33≤c.toNat∧c.toNat≤m.toNat)
 | none=>true
theorem Jp (m:UInt8) (s:List UInt8):(range s.length).all (sQ m s)=decide (∀ c∈s,33≤c.toNat∧c.toNat≤m.toNat):=by
 rw[Bool.eq_iff_iff,all_eq_true,decide_eq_true_eq];constructor
 ·intro h c hc;obtain⟨i,hi,rfl⟩:=getElem_of_mem hc;have:=h i (mem_range.2 hi);unfold sQ at this;rw[getElem?_eq_getElem hi] at this;simpa using this
 ·intro h i hi;have hi:=mem_range.1 hi;unfold sQ;rw[getElem?_eq_getElem hi];simpa using h _ (getElem_mem hi)
theorem PI (s:List UInt8) (m:UInt8):BF (s,m,())=some (decide (Txt m s),()):=by
 unfold BF Txt;by_cases h1:s.length<1
 ·have e:decide (ofNat s.length<1)=true:=decide_eq_true (by simp;omega);have:¬ 1≤s.length:=by omega
  simp only[e,cond_true,this,false_and,decide_false]
 ·have e:decide (ofNat s.length<1)=false:=decide_eq_false (by simp;omega);have h1':1≤s.length:=by omega
  by_cases h2:32<s.length
  ·have e2:decide ((32:Int)<ofNat s.length)=true:=decide_eq_true (by simp;omega);have:¬ s.length≤32:=by omega
   simp only[e,e2,cond_true,cond_false,this,false_and,and_false,decide_false]
  ·have e2:decide ((32:Int)<ofNat s.length)=false:=decide_eq_false (by simp;omega);have h2':s.length≤32:=by omega
   simp only[e,e2,cond_false,h1',h2',true_and];refine(qW (mk:=fun i=>((i:Int),())) (sQ m s) (rt:=(true,())) (rf:=(false,())) (show s.length≤9223372036854775807 by omega) (fun i hi=> ?_) ?_).trans ?_
   ·simp only[aC,hi,decide_true,cond_true,aN,getElem?_eq_getElem hi,bind_some,aX (show i<9223372036854775807 by omega),sQ];by_cases h3:s[i].toNat<33
    ·have:¬ 33≤s[i].toNat:=by omega
     have h3':decide (aB s[i]<aB (UInt8.ofNat 33))=true:=decide_eq_true (by simp[aB];omega);simp only[h3',cond_true,this,false_and,decide_false,cond_false]
    ·have h3a:33≤s[i].toNat:=by omega
     have h3':decide (aB s[i]<aB (UInt8.ofNat 33))=false:=decide_eq_false (by simp[aB];omega);by_cases h4:m.toNat<s[i].toNat
     ·have:¬ s[i].toNat≤m.toNat:=by omega
      have h4':decide (aB m<aB s[i])=true:=decide_eq_true (by simp only[aB];omega);simp only[h3',h4',cond_true,cond_false,this,and_false,decide_false]
     ·have h4a:s[i].toNat≤m.toNat:=by omega
      have h4':decide (aB m<aB s[i])=false:=decide_eq_false (by simp only[aB];omega);simp only[h3',h4',cond_false,h3a,h4a,and_self,decide_true,cond_true]
   ·simp
   ·rw[Jp];cases decide (∀ c∈s,33≤c.toNat∧c.toNat≤m.toNat)<;>rfl
theorem Pj (s:List UInt8) (m:UInt8) (hs:s.length≤140737488351232):F81 (s,m,())=some (decide (Txt m s),()):=by
 unfold F81 Txt;have hK:∀ {b:Bool},(bif decide ((1:Int)≤ofNat s.length) then some (decide (ofNat s.length≤(32:Int)),()) else some (false,()))=some (decide (1≤s.length∧s.length≤32),()):=by
  intro b;by_cases h1:1≤s.length
  ·have e:decide ((1:Int)≤ofNat s.length)=true:=decide_eq_true (by simp;omega);have e2:decide (ofNat s.length≤(32:Int))=decide (s.length≤32):=by rw[decide_eq_decide];simp;omega
   simp only[e,e2,cond_true,h1,true_and]
  ·have e:decide ((1:Int)≤ofNat s.length)=false:=decide_eq_false (by simp;omega);simp only[e,cond_false,h1,false_and,decide_false]
 refine(qW (mk:=fun i=>((i:Int),())) (sQ m s) (rt:=(decide (1≤s.length∧s.length≤32),())) (rf:=(false,())) (show s.length≤9223372036854775807 by omega) (fun i hi=> ?_) ?_).trans ?_
 ·simp only[aC,hi,decide_true,cond_true,aN,getElem?_eq_getElem hi,bind_some,aX (show i<9223372036854775807 by omega),sQ];by_cases h3:s[i].toNat<33
  ·have:¬ 33≤s[i].toNat:=by omega
   have h3':decide (aB s[i]<aB (UInt8.ofNat 33))=true:=decide_eq_true (by simp[aB];omega);simp only[h3',cond_true,this,false_and,decide_false,cond_false]
  ·have h3a:33≤s[i].toNat:=by omega
   have h3':decide (aB s[i]<aB (UInt8.ofNat 33))=false:=decide_eq_false (by simp[aB];omega);by_cases h4:m.toNat<s[i].toNat
   ·have:¬ s[i].toNat≤m.toNat:=by omega
    have h4':decide (aB m<aB s[i])=true:=decide_eq_true (by simp only[aB];omega);simp only[h3',h4',cond_true,cond_false,this,and_false,decide_false]
   ·have h4a:s[i].toNat≤m.toNat:=by omega
    have h4':decide (aB m<aB s[i])=false:=decide_eq_false (by simp only[aB];omega);simp only[h3',h4',cond_false,h3a,h4a,and_self,decide_true,cond_true]
 ·simp only[aC,lt_irrefl,decide_false,cond_false,@hK true];rfl
 ·cases hb:(range s.length).all (sQ m s) with
  | true=>have h1:=of_decide_eq_true ((Jp m s).symm.trans hb);simp only[cond_true];refine congrArg (fun b=>some (b,())) ?_;rw[Bool.eq_iff_iff];simp only[decide_eq_true_eq];exact⟨fun h=>⟨h.1,h.2,h1⟩,fun h=>⟨h.1,h.2.1⟩⟩
  | false=>have h1:=of_decide_eq_false ((Jp m s).symm.trans hb);simp only[cond_false];refine congrArg (fun b=>some (b,())) ?_;rw[eq_comm,eq_false_iff];simp only[ne_eq,decide_eq_true_eq];exact fun h=>h1 h.2.2
theorem jU (s:List UInt8):F92 (s,())=some (decide (IsKey s),()):=by
 unfold F92;exact aF (PI s _) rfl
theorem jr (s:List UInt8) (hs:s.length≤140737488351232):F80 (s,())=some (decide (IsKey s),()):=by
 unfold F80;exact aF (Pj s _ hs) rfl
theorem qV (a b:List UInt8):F77 (a,b,())=some (decide (eG a b),()):=by
 unfold F77 eG;simp only[jU,bind_some];by_cases h1:IsKey a
 ·by_cases h2:b=[]
  ·simp[h1,h2]
  ·simp only[h1,h2,decide_true,decide_false,cond_true,cond_false,false_or,true_and];refine aF (PI b _) ?_;simp only[QZ];by_cases h3:Txt (UInt8.ofNat 127) b
   ·have h3':Txt 127 b:=h3;cases h4:aY a b<;>simp[h3']
   ·have h3':¬ Txt 127 b:=h3;simp[h3']
 ·simp[h1]
theorem qO (a b:List UInt8) (ha:a.length≤140737488351232) (hb:b.length≤140737488351232):F46 (a,b,())=some (decide (eG a b),()):=by
 unfold F46 eG;simp only[jr a ha,bind_some];by_cases h1:IsKey a
 ·by_cases h2:b=[]
  ·simp[h1,h2]
  ·have e:decide (ofNat b.length=0)=false:=decide_eq_false (by simp[h2]);simp only[h1,h2,e,decide_true,cond_true,cond_false,false_or,true_and];refine aF (Pj b _ hb) ?_;by_cases h3:Txt (UInt8.ofNat 127) b
   ·have h3':Txt 127 b:=h3;cases h4:aY a b<;>simp[h3']
   ·have h3':¬ Txt 127 b:=h3;simp[h3']
 ·simp[h1]
theorem IsKey.len {s:List UInt8} (h:IsKey s):s.length≤32:=h.2.1
noncomputable abbrev dec' (p:Prop):Bool:= @decide p (propDecidable p)
theorem iQ {p q:Prop} [d:Decidable q] (h:p↔q):dec' p=decide q:=by
 by_cases hq:q
 ·rw[decide_eq_true hq];exact decide_eq_true (h.2 hq)
 ·rw[decide_eq_false hq];exact decide_eq_false (fun x=>hq (h.1 x))
theorem bZ {p q r:Prop} {_:Decidable p} {X Y:Option (Bool×Unit)} (hx:X=some (dec' q,())) (hy:Y=some (dec' r,())):(bif decide p then X else Y)=some (dec' ((p→q)∧(¬ p→r)),()):=by
 by_cases hp:p
 ·rw[decide_eq_true hp,cond_true,hx];exact congrArg (fun z=>some (z,())) (iQ (d:=propDecidable _) (by grind))
 ·rw[decide_eq_false hp,cond_false,hy];exact congrArg (fun z=>some (z,())) (iQ (d:=propDecidable _) (by grind))
theorem fA {p q r:Prop} {_:Decidable p} {X Y:Option (Bool×Unit)} (hx:X=some (dec' q,())) (hy:Y=some (dec' r,())):(bif !decide p then X else Y)=some (dec' ((¬ p→q)∧(p→r)),()):=by
 by_cases hp:p
 ·rw[decide_eq_true hp,Bool.not_true,cond_false,hy];exact congrArg (fun z=>some (z,())) (iQ (d:=propDecidable _) (by grind))
 ·rw[decide_eq_false hp,Bool.not_false,cond_true,hx];exact congrArg (fun z=>some (z,())) (iQ (d:=propDecidable _) (by grind))
theorem vz {b:Bool} {q r:Prop} {X Y:Option (Bool×Unit)} (hx:X=some (dec' q,())) (hy:Y=some (dec' r,())):(bif b then X else Y)=some (dec' ((b=true→q)∧(b=false→r)),()):=by
 cases b
 ·rw[cond_false,hy];exact congrArg (fun z=>some (z,())) (iQ (d:=propDecidable _) (by grind))
 ·rw[cond_true,hx];exact congrArg (fun z=>some (z,())) (iQ (d:=propDecidable _) (by grind))
theorem cu:(some (true,()):Option (Bool×Unit))=some (dec' True,()):=by simp[dec']
theorem bW:(some (false,()):Option (Bool×Unit))=some (dec' False,()):=by simp[dec']
theorem cO (p:Prop) {_:Decidable p}:(some (decide p,()):Option (Bool×Unit))=some (dec' p,()):=congrArg (fun z=>some (z,())) (iQ (p:=p) Iff.rfl).symm
theorem wG (b:Bool):(some (b,()):Option (Bool×Unit))=some (dec' (b=true),()):=by
 cases b<;>simp[dec']
theorem fin {X:Option (Bool×Unit)} {p q:Prop} (h:X=some (dec' p,())) (h2:p↔q):X=some (dec' q,()):=by
 rw[h,iQ (d:=propDecidable _) h2]
theorem dE {p:Prop} (h:¬ p):dec' p=false:= @decide_eq_false p (propDecidable p) h
theorem bT {p:Prop} (h:p):dec' p=true:= @decide_eq_true p (propDecidable p) h
theorem rq {α:Type} (a b:List α) (ha:a.length≤9223372036854775806) {step:Int×Unit→Option ((Int×Unit)⊕(Bool×Unit))}
  (h1:∀ (i:Nat) v,i<a.length→a[i]? = some v→b[i]? = some v→step ((i:Int),())=some (.inl (((i+1:Nat):Int),())))
  (h2:∀ (i:Nat) v w,i<a.length→a[i]? = some v→b[i]? = some w→v≠w→step ((i:Int),())=some (.inr (false,())))
  (hK:step ((a.length:Int),())=some (.inr (true,()))) :
  (bif !decide (ofNat a.length=ofNat b.length) then some (false,()) else aO (Int×Unit) (Bool×Unit) step big (0,()))=some (dec' (a=b),()):=by
 by_cases hl:a.length=b.length
 ·have e:decide (ofNat a.length=ofNat b.length)=true:=decide_eq_true (by rw[hl]);simp only[e,Bool.not_true,cond_false];refine(qW (mk:=fun i=>((i:Int),())) (fun i=>decide (a[i]? = b[i]?)) (rt:=(true,())) (rf:=(false,())) (by omega) (fun i hi=> ?_) hK).trans ?_
  ·have e1:=getElem?_eq_getElem hi;have e2:=getElem?_eq_getElem (hl▸hi:i<b.length);by_cases hv:a[i]=b[i]'(hl▸hi)
   ·rw[h1 i _ hi e1 (by rw[e2,hv]),e1,e2,hv];simp
   ·rw[h2 i _ _ hi e1 e2 hv,e1,e2];simp[hv]
  ·by_cases hab:a=b
   ·subst hab;have:(range a.length).all (fun i=>decide (a[i]? = a[i]?))=true:=by simp
    rw[this];simp
   ·have:(range a.length).all (fun i=>decide (a[i]? = b[i]?))=false:=by
     rw[eq_false_iff];intro h;refine hab (List.ext_getElem? fun i=> ?_);by_cases hi:i<a.length
     ·have:=all_eq_true.1 h i (mem_range.2 hi);exact of_decide_eq_true this
     ·rw[List.getElem?_eq_none (by omega),List.getElem?_eq_none (by omega)]
    rw[this];simp[hab]
 ·have e:decide (ofNat a.length=ofNat b.length)=false:=decide_eq_false (by intro h;exact hl (Int.ofNat.inj h));have:a≠b:=fun h=>hl (by rw[h]);simp only[e,Bool.not_false,cond_true];exact congrArg (fun z=>some (z,())) (dE this).symm
theorem I5 (a b:List dC) (ha:Sh a):FM (a,b,())=some (dec' (a=b),()):=by
 unfold FM;refine rq a b ha (fun i v hi hv hw=> ?_) (fun i v w hi hv hw hne=> ?_) (by simp)
 ·have hi':i<9223372036854775807:=by unfold Sh at ha;omega
  simp only[aC,hi,decide_true,cond_true,aN,hv,hw,bind_some,aX hi',Bool.and_self,Bool.and_true,Bool.not_true,cond_false]
 ·simp only[aC,hi,decide_true,cond_true,aN,hv,hw,bind_some];rw[show(!(decide (v.fst=w.fst) && (decide (v.snd.fst=w.snd.fst) && (decide (v.snd.snd.fst=w.snd.snd.fst) && (decide (v.snd.snd.snd.fst=w.snd.snd.snd.fst) && (decide (v.snd.snd.snd.snd.fst=w.snd.snd.snd.snd.fst) && true))))))=true from ?_]
  ·rfl
  ·rw[not_eq_true',eq_false_iff];intro h2;apply hne;simp only[and_eq_true,decide_eq_true_eq,and_true] at h2;grind
theorem yL (a b:List aP) (ha:Sh a):Bg (a,b,())=some (dec' (a=b),()):=by
 unfold Bg;refine rq a b ha (fun i v hi hv hw=> ?_) (fun i v w hi hv hw hne=> ?_) (by simp)
 ·have hi':i<9223372036854775807:=by unfold Sh at ha;omega
  simp only[aC,hi,decide_true,cond_true,aN,hv,hw,bind_some,aX hi',Bool.and_self,Bool.and_true,Bool.not_true,cond_false]
 ·simp only[aC,hi,decide_true,cond_true,aN,hv,hw,bind_some];rw[show(!(decide (v.fst=w.fst) && (decide (v.snd.fst=w.snd.fst) && (decide (v.snd.snd.fst=w.snd.snd.fst) && (decide (v.snd.snd.snd.fst=w.snd.snd.snd.fst) && (decide (v.snd.snd.snd.snd.fst=w.snd.snd.snd.snd.fst) && true))))))=true from ?_]
  ·rfl
  ·rw[not_eq_true',eq_false_iff];intro h2;apply hne;simp only[and_eq_true,decide_eq_true_eq,and_true] at h2;grind
theorem He (a b:List fE) (ha:Sh a):FI (a,b,())=some (dec' (a=b),()):=by
 unfold FI;refine rq a b ha (fun i v hi hv hw=> ?_) (fun i v w hi hv hw hne=> ?_) (by simp)
 ·have hi':i<9223372036854775807:=by unfold Sh at ha;omega
  simp only[aC,hi,decide_true,cond_true,aN,hv,hw,bind_some,aX hi',Bool.and_self,Bool.and_true,Bool.not_true,cond_false]
 ·simp only[aC,hi,decide_true,cond_true,aN,hv,hw,bind_some];rw[show(!(decide (v.fst=w.fst) && (decide (v.snd.fst=w.snd.fst) && (decide (v.snd.snd.fst=w.snd.snd.fst) && true))))=true from ?_]
  ·rfl
  ·rw[not_eq_true',eq_false_iff];intro h2;apply hne;simp only[and_eq_true,decide_eq_true_eq,and_true] at h2;grind
theorem BN (a b:List aT) (ha:Sh a):xG (a,b,())=some (dec' (a=b),()):=by
 unfold xG;refine rq a b ha (fun i v hi hv hw=> ?_) (fun i v w hi hv hw hne=> ?_) (by simp)
 ·have hi':i<9223372036854775807:=by unfold Sh at ha;omega
  simp only[aC,hi,decide_true,cond_true,aN,hv,hw,bind_some,aX hi',Bool.and_self,Bool.and_true,Bool.not_true,cond_false,BEq.rfl]
 ·simp only[aC,hi,decide_true,cond_true,aN,hv,hw,bind_some];rw[show(!(decide (v.fst=w.fst) && (decide (v.snd.fst.fst=w.snd.fst.fst) && (decide (v.snd.fst.snd.fst=w.snd.fst.snd.fst) && (decide (v.snd.fst.snd.snd.fst=w.snd.fst.snd.snd.fst) && (decide (v.snd.fst.snd.snd.snd.fst=w.snd.fst.snd.snd.snd.fst) && (decide (v.snd.fst.snd.snd.snd.snd.fst=w.snd.fst.snd.snd.snd.snd.fst) && (decide (v.snd.fst.snd.snd.snd.snd.snd.fst=w.snd.fst.snd.snd.snd.snd.snd.fst) && (v.snd.fst.snd.snd.snd.snd.snd.snd.fst == w.snd.fst.snd.snd.snd.snd.snd.snd.fst && true)))))) && true)))=true from ?_]
  ·rfl
  ·rw[not_eq_true',eq_false_iff];intro h2;apply hne;simp only[and_eq_true,decide_eq_true_eq,beq_iff_eq,and_true] at h2;grind
theorem BU (a b:List aT) (ha:Sh a):Bf (a,b,())=some (dec' (a=b),()):=by
 unfold Bf;exact aF (BN a b ha) rfl
theorem Hy (a b:dD) (ha:Sh a.2.2.2.2.1):xH (a,b,())=some (dec' (a=b),()):=by
 obtain⟨a1,a2,a3,a4,a5,a6,a7,⟨⟩⟩:=a;obtain⟨b1,b2,b3,b4,b5,b6,b7,⟨⟩⟩:=b;unfold xH;simp only[BU a5 b5 ha,bind_some,yZ];apply fin
 ·repeat' first|apply cu|apply bW|apply cO|apply bZ
 ·simp only[Prod.mk.injEq];grind
def ShS (l:List dh):Prop:=Sh l∧∀ s∈l,Sh s.2.2.1.2.2.2.2.1
def ShC (c:aQ):Prop:=Sh c.2.2.2.2.2.2.2.1∧Sh c.2.2.2.2.2.2.2.2.1∧Sh c.2.2.2.2.2.2.2.2.2.1∧Sh c.2.2.2.2.2.2.2.2.2.2.2.2.2.2.1∧ShS c.2.2.2.2.2.2.2.2.2.2.2.2.2.2.2.1∧Sh c.2.2.2.2.2.2.2.2.2.2.2.2.2.2.2.2.1
theorem O8 (a b:dh) (ha:Sh a.2.2.1.2.2.2.2.1):Fh (a,b,())=some (dec' (a=b),()):=by
 obtain⟨a1,a2,a3,⟨⟩⟩:=a;obtain⟨b1,b2,b3,⟨⟩⟩:=b;unfold Fh;simp only[Hy a3 b3 ha,bind_some];apply fin
 ·repeat' first|apply cu|apply bW|apply cO|apply bZ
 ·simp only[Prod.mk.injEq];grind
theorem Y4 (a b:List dh) (ha:ShS a):Et (a,b,())=some (dec' (a=b),()):=by
 unfold Et;refine rq a b ha.1 (fun i v hi hv hw=> ?_) (fun i v w hi hv hw hne=> ?_) (by simp)
 ·have hi':i<9223372036854775807:=by have:=ha.1;unfold Sh at this;omega
  simp only[aC,hi,decide_true,cond_true,aN,hv,hw,bind_some,aX hi',O8 v v (ha.2 v (mem_of_getElem? hv)),bT,Bool.not_true,cond_false]
 ·simp only[aC,hi,decide_true,cond_true,aN,hv,hw,bind_some,O8 v w (ha.2 v (mem_of_getElem? hv)),dE hne,Bool.not_false]
theorem P6 (a b:List dh) (ha:ShS a):FK (a,b,())=some (dec' (a=b),()):=by
 unfold FK;exact aF (Y4 a b ha) rfl
theorem Dl (a b:aQ) (ha:ShC a):tH (a,b,())=some (dec' (a=b),()):=by
 obtain⟨a1,a2,a3,a4,a5,a6,a7,a8,a9,a10,a11,a12,a13,a14,a15,a16,a17,⟨⟩⟩:=a;obtain⟨b1,b2,b3,b4,b5,b6,b7,b8,b9,b10,b11,b12,b13,b14,b15,b16,b17,⟨⟩⟩:=b;obtain⟨h8,h9,h10,h15,h16,h17⟩:=ha;unfold tH;simp only[I5 a8 b8 h8,yL a9 b9 h9,yL a10 b10 h10,BU a15 b15 h15,P6 a16 b16 h16,He a17 b17 h17,bind_some,yZ];apply fin
 ·repeat' first|apply cu|apply bW|apply cO|apply bZ
 ·simp only[Prod.mk.injEq];grind
theorem Zf (a b:List dC) (ha:Sh a):NH (a,b,())=some (dec' (a=b),()):=I5 a b ha
theorem Qi (a b:List aP) (ha:Sh a):Fp (a,b,())=some (dec' (a=b),()):=yL a b ha
theorem x9 (a b:List aT) (ha:Sh a):F64 (a,b,())=some (dec' (a=b),()):=BN a b ha
theorem Oo (a b:List fE) (ha:Sh a):Fj (a,b,())=some (dec' (a=b),()):=He a b ha
theorem Ha (a b:dD) (ha:Sh a.2.2.2.2.1):uU (a,b,())=some (dec' (a=b),()):=by
 rw[←Hy a b ha];unfold uU xH;simp only[x9 a.2.2.2.2.1 b.2.2.2.2.1 ha,BU a.2.2.2.2.1 b.2.2.2.2.1 ha]
theorem Pn (a b:List dh) (ha:ShS a):AZ (a,b,())=some (dec' (a=b),()):=by
 unfold AZ;refine rq a b ha.1 (fun i v hi hv hw=> ?_) (fun i v w hi hv hw hne=> ?_) (by simp)
 ·have hi':i<9223372036854775807:=by have:=ha.1;unfold Sh at this;omega
  have hr:uU (v.2.2.1,v.2.2)=_:=Ha v.2.2.1 v.2.2.1 (ha.2 v (mem_of_getElem? hv));simp only[aC,hi,decide_true,cond_true,aN,hv,hw,bind_some,aX hi',hr,bT,Bool.not_true,cond_false]
 ·have hr:uU (v.2.2.1,w.2.2)=_:=Ha v.2.2.1 w.2.2.1 (ha.2 v (mem_of_getElem? hv));simp only[aC,hi,decide_true,cond_true,aN,hv,hw,bind_some,hr];by_cases h1:v.1=w.1
  ·by_cases h2:v.2.1=w.2.1
   ·have h3:¬ v.2.2.1=w.2.2.1:=by intro h3;apply hne;grind
    simp[h1,h2,dE h3]
   ·simp[h1,h2]
  ·simp[h1]
theorem zam (a b:aQ) (ha:ShC a):FO (a,b,())=some (dec' (a=b),()):=by
 rw[←Dl a b ha];obtain⟨h8,h9,h10,h15,h16,h17⟩:=ha;obtain⟨a1,a2,a3,a4,a5,a6,a7,a8,a9,a10,a11,a12,a13,a14,a15,a16,a17,⟨⟩⟩:=a;obtain⟨b1,b2,b3,b4,b5,b6,b7,b8,b9,b10,b11,b12,b13,b14,b15,b16,b17,⟨⟩⟩:=b;unfold FO tH;simp only[I5 a8 b8 h8,yL a9 b9 h9,yL a10 b10 h10,BU a15 b15 h15,P6 a16 b16 h16,He a17 b17 h17,Zf a8 b8 h8,Qi a9 b9 h9,Qi a10 b10 h10,x9 a15 b15 h15,Pn a16 b16 h16,Oo a17 b17 h17]
def ShH (h:gG):Prop:=ShS h.2.2.1∧Sh h.2.2.2.1
theorem Pq (a b:gG) (ha:ShH a):Bj (a,b,())=some (dec' (a=b),()):=by
 obtain⟨h1,h2⟩:=ha;obtain⟨a1,a2,a3,a4,⟨⟩⟩:=a;obtain⟨b1,b2,b3,b4,⟨⟩⟩:=b;unfold Bj;simp only[Pn a3 b3 h1,Oo a4 b4 h2,bind_some];apply fin
 ·repeat' first|apply cu|apply bW|apply cO|apply bZ
 ·simp only[Prod.mk.injEq];grind
noncomputable abbrev stR (i:Nat) (p:Prop):Option ((Int×Unit)⊕(Bool×Unit)):=some (bif dec' p then .inl (((i+1:Nat):Int),()) else .inr (false,()))
theorem gm (i:Nat):(some (.inl (((i+1:Nat):Int),())):Option ((Int×Unit)⊕(Bool×Unit)))=stR i True:=by rw[stR,bT trivial];rfl
theorem fU (i:Nat):(some (.inr (false,())):Option ((Int×Unit)⊕(Bool×Unit)))=stR i False:=by rw[stR,dE id];rfl
theorem pY {i:Nat} {p q:Prop} (h:p↔q):stR i p=stR i q:=by rw[propext h]
theorem gz {i:Nat} {X:Option ((Int×Unit)⊕(Bool×Unit))} {p q:Prop} (h:X=stR i p) (h2:p↔q):X=stR i q:=h.trans (pY h2)
theorem gu {i:Nat} {p q r:Prop} {_:Decidable p} {X Y:Option ((Int×Unit)⊕(Bool×Unit))} (hx:X=stR i q) (hy:Y=stR i r):(bif decide p then X else Y)=stR i ((p→q)∧(¬ p→r)):=by
 by_cases hp:p
 ·rw[decide_eq_true hp,cond_true,hx];exact pY (by grind)
 ·rw[decide_eq_false hp,cond_false,hy];exact pY (by grind)
theorem gp {i:Nat} {p q r:Prop} {_:Decidable p} {X Y:Option ((Int×Unit)⊕(Bool×Unit))} (hx:X=stR i q) (hy:Y=stR i r):(bif !decide p then X else Y)=stR i ((¬ p→q)∧(p→r)):=by
 by_cases hp:p
 ·rw[decide_eq_true hp,Bool.not_true,cond_false,hy];exact pY (by grind)
 ·rw[decide_eq_false hp,Bool.not_false,cond_true,hx];exact pY (by grind)
theorem gq {i:Nat} {b:Bool} {q r:Prop} {X Y:Option ((Int×Unit)⊕(Bool×Unit))} (hx:X=stR i q) (hy:Y=stR i r):(bif b then X else Y)=stR i ((b=true→q)∧(b=false→r)):=by
 cases b
 ·rw[cond_false,hy];exact pY (by grind)
 ·rw[cond_true,hx];exact pY (by grind)
theorem jR {α:Type} (l:List α) (hl:Sh l) {step:Int×Unit→Option ((Int×Unit)⊕(Bool×Unit))} (q:Nat→α→Prop) (rt:Prop)
  (h:∀ (i:Nat) v,i<l.length→l[i]? = some v→step ((i:Int),())=stR i (q i v)) (hK:step ((l.length:Int),())=some (.inr (dec' rt,()))) :
  aO (Int×Unit) (Bool×Unit) step big (0,())=some (dec' ((∀ i v,l[i]? = some v→q i v)∧rt),()):=by
 have hl':l.length≤9223372036854775807:=by unfold Sh at hl;omega
 refine(qW (mk:=fun i=>((i:Int),())) (fun i=>dec' (∀ v,l[i]? = some v→q i v)) (rt:=(dec' rt,())) (rf:=(false,())) hl' (fun i hi=> ?_) hK).trans ?_
 ·have e:=getElem?_eq_getElem hi;rw[h i _ hi e];by_cases hq:q i l[i]
  ·have:∀ v,l[i]? = some v→q i v:=by intro v hv;rw[e] at hv;cases hv;exact hq
   rw[stR,bT hq,bT this]
  ·have:¬ ∀ v,l[i]? = some v→q i v:=fun h=>hq (h _ e);rw[stR,dE hq,dE this]
 ·by_cases ha:∀ i v,l[i]? = some v→q i v
  ·have:(range l.length).all (fun i=>dec' (∀ v,l[i]? = some v→q i v))=true:=all_eq_true.2 fun i _=>bT (ha i);rw[this];exact congrArg (fun z=>some (z,())) (iQ (d:=propDecidable _) (by grind))
  ·have:(range l.length).all (fun i=>dec' (∀ v,l[i]? = some v→q i v))=false:=by
    rw[eq_false_iff];intro h;refine ha fun i v hv=> ?_;have hi:i<l.length:=(List.getElem?_eq_some_iff.1 hv).1;exact @of_decide_eq_true _ (propDecidable _) (all_eq_true.1 h i (mem_range.2 hi)) v hv
   rw[this];exact congrArg (fun z=>some (z,())) (dE (by grind)).symm
theorem yP {α:Type} (l:List α) (hl:Sh l) {step:Int×Unit→Option ((Int×Unit)⊕(Int×Unit))} (q:α→Prop)
  (h1:∀ (i:Nat) v,i<l.length→l[i]? = some v→q v→step ((i:Int),())=some (.inl (((i+1:Nat):Int),())))
  (h2:∀ (i:Nat) v,i<l.length→l[i]? = some v→¬ q v→step ((i:Int),())=some (.inr ((i:Int),()))) (hK:step ((l.length:Int),())=some (.inr (-1,()))) :
  ∃ r,aO (Int×Unit) (Int×Unit) step big (0,())=some (r,())∧decide (0≤r) = !dec' (∀ v∈l,q v):=by
 unfold Sh at hl;obtain⟨r,h3,h4⟩:=pW (step:=step) (n:=big) (t:=(0,())) (I:=fun t=>∃ i:Nat,t=((i:Int),())∧i≤l.length∧∀ j v,j<i→l[j]? = some v→q v) (μ:=fun t=>l.length-t.1.toNat)
  (Q:=fun _ r=>decide (0≤r.1) = !dec' (∀ v∈l,q v)) (fun t ht=>by
   obtain⟨i,rfl,hi,hj⟩:=ht;by_cases hlt:i<l.length
   ·have e:=getElem?_eq_getElem hlt;by_cases hq:q l[i]
    ·refine .inr ⟨_,h1 i _ hlt e hq,⟨i+1,rfl,hlt,fun j v hjl hv=> ?_⟩,?_,fun r h=>h⟩
     ·by_cases hji:j=i
      ·subst hji;rw[e] at hv;cases hv;exact hq
      ·exact hj j v (by omega) hv
     ·simp only[toNat_natCast];omega
    ·refine .inl ⟨_,h2 i _ hlt e hq,?_⟩;have:¬ ∀ v∈l,q v:=fun h=>hq (h _ (getElem_mem hlt));rw[dE this];exact decide_eq_true (by show(0:Int)≤(i:Int);omega)
   ·have:i=l.length:=by omega
    subst this;refine .inl ⟨_,hK,?_⟩;have:∀ v∈l,q v:=fun v hv=>by obtain⟨j,hj2,rfl⟩:=getElem_of_mem hv;exact hj j _ hj2 (getElem?_eq_getElem hj2)
    rw[bT this];rfl) ⟨0,rfl,zero_le _,fun j v hj=>by omega⟩ (by rw[iT];simp only[Int.toNat_zero];omega)
 obtain⟨r,⟨⟩⟩:=r;exact⟨r,h3,h4⟩
def dO (n:Int):Prop:=0≤n∧n≤1099511627776
def bH (n:Int):Prop:=1≤n∧n≤1099511627776
def nK (s:List UInt8):Prop:=s.length≤8∧IsKey s
theorem lY (n a b:Int):lW (n,a,b,())=some (dec' (a≤n∧n≤b),()):=by
 unfold lW;apply fin
 ·repeat' first|apply cu|apply bW|apply cO|apply bZ
 ·grind
theorem mM (n a b:Int):jO (n,a,b,())=some (dec' (a≤n∧n≤b),()):=lY n a b
theorem qY (n:Int):iM (n,())=some (dec' (bH n),()):=by
 unfold iM;exact aF (mM n _ _) rfl
theorem x8 (n:Int):kH (n,())=some (dec' (dO n),()):=by
 unfold kH;exact aF (mM n _ _) rfl
theorem SQ (n:Int):Bd (n,())=some (!dec' (bH n),()):=by
 unfold Bd;exact aF (lY n _ _) rfl
theorem SX (n:Int):AQ (n,())=some (!dec' (dO n),()):=by
 unfold AQ;exact aF (lY n _ _) rfl
theorem OH (l:List Int) (hl:Sh l):gW (l,())=some (dec' (∀ n∈l,bH n),()):=by
 unfold gW LK LH;obtain⟨r,h1,h2⟩:=yP l hl (step:=fun(x_1:Int×Unit)=>bif decide (x_1.fst<ofNat (length l)) then Option.bind (idx l x_1.fst) fun b=>Option.bind (Bd (b,())) fun b=>bif b.fst then some (Sum.inr x_1) else some (inl (wrap64 (x_1.fst+1),())) else some (Sum.inr (-1,()))) bH
  (fun i v hi hv hq=>by
   have hi':i<9223372036854775807:=by unfold Sh at hl;omega
   simp only[aC,hi,decide_true,cond_true,aN,hv,bind_some,SQ,bT hq,Bool.not_true,cond_false,aX hi'])
  (fun i v hi hv hq=>by simp only[aC,hi,decide_true,cond_true,aN,hv,bind_some,SQ,dE hq,Bool.not_false]) (by simp)
 refine aF (aF h1 rfl) ?_;simp only[h2,Bool.not_not]
theorem H6 (l:List Int) (hl:Sh l):pG (l,())=some (dec' (∀ n∈l,dO n),()):=by
 unfold pG LJ LG;obtain⟨r,h1,h2⟩:=yP l hl (step:=fun(x_1:Int×Unit)=>bif decide (x_1.fst<ofNat (length l)) then Option.bind (idx l x_1.fst) fun b=>Option.bind (AQ (b,())) fun b=>bif b.fst then some (Sum.inr x_1) else some (inl (wrap64 (x_1.fst+1),())) else some (Sum.inr (-1,()))) dO
  (fun i v hi hv hq=>by
   have hi':i<9223372036854775807:=by unfold Sh at hl;omega
   simp only[aC,hi,decide_true,cond_true,aN,hv,bind_some,SX,bT hq,Bool.not_true,cond_false,aX hi'])
  (fun i v hi hv hq=>by simp only[aC,hi,decide_true,cond_true,aN,hv,bind_some,SX,dE hq,Bool.not_false]) (by simp)
 refine aF (aF h1 rfl) ?_;simp only[h2,Bool.not_not]
theorem rZ (a:Int):gW ([a],())=some (dec' (bH a),()):=
 fin (OH [a] (by simp[Sh])) (by simp)
theorem Vr (a b:Int):gW ([a,b],())=some (dec' (bH a∧bH b),()):=
 fin (OH [a,b] (by simp[Sh])) (by simp)
theorem VU (a:Int):pG ([a],())=some (dec' (dO a),()):=
 fin (H6 [a] (by simp[Sh])) (by simp)
theorem nat3 (a b c:Int):pG ([a,b,c],())=some (dec' (dO a∧dO b∧dO c),()):=
 fin (H6 [a,b,c] (by simp[Sh])) (by simp)
theorem nat6 (a b c d e f:Int):pG ([a,b,c,d,e,f],())=some (dec' (dO a∧dO b∧dO c∧dO d∧dO e∧dO f),()):=
 fin (H6 [a,b,c,d,e,f] (by simp[Sh])) (by simp)
abbrev St (s:List UInt8):Prop:=s.length≤140737488351232
theorem pre_eq (s:List UInt8):F67 (s,())=some (dec' (nK s),()):=by
 unfold F67;simp only[jU,bind_some];apply fin
 ·repeat' first|apply cu|apply bW|apply cO|apply bZ
 ·unfold nK;simp only[ofNat_eq_natCast];grind
theorem yT (s:List UInt8) (hs:St s):F76 (s,())=some (dec' (nK s),()):=by
 unfold F76;simp only[jr s hs,bind_some];apply fin
 ·repeat' first|apply cu|apply bW|apply cO|apply bZ
 ·unfold nK;simp only[ofNat_eq_natCast];grind
theorem LM (v:nV):qJ (v,())=some (dec' (fZ v),()):=by
 unfold qJ;refine fin (aF (QD [v] (by simp)) rfl) ?_;unfold ut;simp
theorem put_eq (k v:List UInt8) (l:Int):Be (k,v,l,())=some (dec' (IsKey k∧v.length≤40∧dO l),()):=by
 unfold Be;simp only[jU,VU,bind_some];apply fin
 ·repeat' first|apply cu|apply bW|apply cO|apply bZ
 ·simp only[ofNat_eq_natCast];grind
def nM (c:dC):Prop:=IsKey c.1∧0≤c.2.2.1∧c.2.2.1≤2∧((1≤c.2.1∧c.2.1≤4∧c.2.2.2.2.1=[]∧ -1099511627776≤c.2.2.2.1∧c.2.2.2.1≤1099511627776)∨(c.2.1=5∧c.2.2.2.1=0∧c.2.2.2.2.1.length≤40))
theorem cmp_eq (c:dC):Fg (c,())=some (dec' (nM c),()):=by
 obtain⟨k,w,s,n,v,⟨⟩⟩:=c;unfold Fg;simp only[jU,lY,bind_some];apply fin
 ·repeat' first|apply cu|apply bW|apply cO|apply bZ|apply fA
 ·unfold nM;simp only[ofNat_eq_natCast];grind
theorem Sr (c:dC):AV (c,())=some (!dec' (nM c),()):=by
 unfold AV;exact aF (cmp_eq c) rfl
theorem ZM (l:List dC) (hl:Sh l):Es (l,())=some (!dec' (∀ c∈l,nM c),()):=by
 unfold Es Ls;obtain⟨r,h1,h2⟩:=yP l hl (step:=fun(x_1:Int×Unit)=>bif decide (x_1.fst<ofNat (length l)) then Option.bind (idx l x_1.fst) fun b=>Option.bind (AV (b,())) fun b=>bif b.fst then some (Sum.inr x_1) else some (inl (wrap64 (x_1.fst+1),())) else some (Sum.inr (-1,()))) nM
  (fun i v hi hv hq=>by
   have hi':i<9223372036854775807:=by unfold Sh at hl;omega
   simp only[aC,hi,decide_true,cond_true,aN,hv,bind_some,Sr,bT hq,Bool.not_true,cond_false,aX hi'])
  (fun i v hi hv hq=>by simp only[aC,hi,decide_true,cond_true,aN,hv,bind_some,Sr,dE hq,Bool.not_false]) (by simp)
 refine aF h1 ?_;simp only[h2]
def qm (l:List dC):Prop:=(∀ c∈l,nM c)∧l.length≤4
theorem JC {α:Type} {l:List α} {p:α→Prop}:(∀ (i:Nat) v,l[i]? = some v→p v)↔∀ v∈l,p v:=
 ⟨fun h v hv=>by obtain⟨i,hi,rfl⟩:=getElem_of_mem hv;exact h i _ (getElem?_eq_getElem hi),fun h i v hv=>h v (mem_of_getElem? hv)⟩
theorem zaX {R:Type} {n:Nat} (hn:n≤9223372036854775806) {step:Int×Unit→Option ((Int×Unit)⊕R)} (q:Nat→Prop) (rt rf:R)
  (h:∀ i:Nat,i<n→step ((i:Int),())=some (bif dec' (q i) then .inl (((i+1:Nat):Int),()) else .inr rf)) (hK:step ((n:Int),())=some (.inr rt)) :
  aO (Int×Unit) R step big (0,())=some (bif dec' (∀ i,i<n→q i) then rt else rf):=by
 refine(qW (mk:=fun i=>((i:Int),())) (fun i=>dec' (q i)) (rt:=rt) (rf:=rf) (by omega) (fun i hi=> ?_) hK).trans ?_
 ·rw[h i hi]
 ·have:(range n).all (fun i=>dec' (q i))=dec' (∀ i,i<n→q i):=by
   by_cases ha:∀ i,i<n→q i
   ·rw[bT ha];exact all_eq_true.2 fun i hi=>bT (ha i (mem_range.1 hi))
   ·rw[dE ha,eq_false_iff];intro h;exact ha fun i hi=> @of_decide_eq_true _ (propDecidable _) (all_eq_true.1 h i (mem_range.2 hi))
  rw[this]
theorem zaV {α T R:Type} (l:List α) (hl:Sh l) {step:T→Option (T⊕R)} (q:α→Prop) (mk:Nat→T) (idxOf:T→Nat) (hmk:∀ i,idxOf (mk i)=i) (out:Nat→R) (no:R)
  (h1:∀ (i:Nat) v,i<l.length→l[i]? = some v→q v→step (mk i)=some (.inl (mk (i+1))))
  (h2:∀ (i:Nat) v,i<l.length→l[i]? = some v→¬ q v→step (mk i)=some (.inr (out i))) (hK:step (mk l.length)=some (.inr no)) :
  ∃ z,iter step big (mk 0)=some z∧((z=no∧∀ v∈l,q v)∨((∃ i,z=out i)∧¬ ∀ v∈l,q v)):=by
 unfold Sh at hl;exact pW (step:=step) (n:=big) (t:=mk 0) (I:=fun t=>∃ i:Nat,t=mk i∧i≤l.length∧∀ j v,j<i→l[j]? = some v→q v) (μ:=fun t=>l.length-idxOf t)
  (Q:=fun _ z=>(z=no∧∀ v∈l,q v)∨((∃ i,z=out i)∧¬ ∀ v∈l,q v)) (fun t ht=>by
   obtain⟨i,rfl,hi,hj⟩:=ht;by_cases hlt:i<l.length
   ·have e:=getElem?_eq_getElem hlt;by_cases hq:q l[i]
    ·refine .inr ⟨_,h1 i _ hlt e hq,⟨i+1,rfl,hlt,fun j v hjl hv=> ?_⟩,?_,fun r h=>h⟩
     ·by_cases hji:j=i
      ·subst hji;rw[e] at hv;cases hv;exact hq
      ·exact hj j v (by omega) hv
     ·simp only[hmk];omega
    ·exact .inl ⟨_,h2 i _ hlt e hq,.inr ⟨⟨i,rfl⟩,fun h=>hq (h _ (getElem_mem hlt))⟩⟩
   ·have:i=l.length:=by omega
    subst this;refine .inl ⟨_,hK,.inl ⟨rfl,fun v hv=> ?_⟩⟩;obtain⟨j,hj2,rfl⟩:=getElem_of_mem hv;exact hj j _ hj2 (getElem?_eq_getElem hj2)) ⟨0,rfl,zero_le _,fun j v hj=>by omega⟩ (by rw[iT];simp only[hmk];omega)
theorem zbl (l:List dC) (hl:Sh l) (hk:∀ c∈l,St c.1):Gn (l,())=some (dec' (qm l),()):=by
 unfold Gn;refine fin (jR l hl (fun _ c=>nM c) (l.length≤4) (fun i v hi hv=> ?_) ?_) ?_
 ·have hi':i<9223372036854775807:=by unfold Sh at hl;omega
  have hs:=hk v (mem_of_getElem? hv);obtain⟨k,w,s,n,t,⟨⟩⟩:=v;have e1:(bif decide (1≤w) then bif decide (w≤4) then bif decide (ofNat (length t)=0) then some (inl (dec' (-1099511627776≤n∧n≤1099511627776),())) else some (inl (false,())) else some (inl (false,())) else some (inl (false,())):Option ((Bool×Unit)⊕((Int×Unit)⊕(Bool×Unit))))=some (inl (dec' (1≤w∧w≤4∧t=[]∧ -1099511627776≤n∧n≤1099511627776),())):=by by_cases h1:1≤w<;>by_cases h2:w≤4<;>by_cases h3:t=[]<;>simp[h1,h2,h3]
  have e2:(bif decide (w=5) then bif decide (n=0) then some (inl (decide (ofNat (length t)≤40),())) else some (inl (false,())) else some (inl (false,())):Option ((Bool×Unit)⊕((Int×Unit)⊕(Bool×Unit))))=some (inl (dec' (w=5∧n=0∧t.length≤40),())):=by by_cases h1:w=5<;>by_cases h2:n=0<;>simp[h1,h2]<;>omega
  simp only[aC,hi,decide_true,cond_true,aN,hv,bind_some,e1,e2,elim_inl,jr k hs,mM,aX hi'];apply gz
  ·repeat' first|apply gm|apply fU|apply gu|apply gp|apply gq
  ·unfold nM;grind
 ·simp only[aC,lt_irrefl,decide_false,cond_false];exact congrArg (fun z=>some (Sum.inr (z,()))) (iQ (by simp;omega)).symm
 ·unfold qm;rw[JC (p:=nM)]
def jC (o:aP):Prop:=(o.1=1∧o.2.2.1=[]∧IsKey o.2.1∧o.2.2.2.1.length≤40∧dO o.2.2.2.2.1)∨((o.1=2∨o.1=3)∧o.2.2.2.1=[]∧o.2.2.2.2.1=0∧eG o.2.1 o.2.2.1)
theorem zdU (o:aP):Fb (o,())=some (dec' (jC o),()):=by
 obtain⟨k,a,b,v,n,⟨⟩⟩:=o;unfold Fb;simp only[put_eq,qV,bind_some];apply fin
 ·repeat' first|apply cu|apply bW|apply cO|apply bZ
 ·unfold jC;grind
def qI (o:aP):Prop:=St o.2.1∧St o.2.2.1∧St o.2.2.2.1
theorem zdh (o:aP) (ho:qI o):FN (o,())=some (dec' (jC o),()):=by
 obtain⟨k,a,b,v,n,⟨⟩⟩:=o;obtain⟨h1,h2,h3⟩:=ho;unfold FN;simp only[jr a h1,qO a b h1 h2,x8,bind_some];apply fin
 ·repeat' first|apply cu|apply bW|apply cO|apply bZ
 ·unfold jC;have e1:(ofNat b.length=0)↔b=[]:=by simp
  have e2:(ofNat v.length=0)↔v=[]:=by simp
  rw[e1,e2];simp only[ofNat_eq_natCast];grind
def InP (a b k:List UInt8):Prop:=eG a b∧IsKey k∧(k=a∨(aY a k=true∧aY k b=true))
theorem ze9 (a b k:List UInt8):AO (a,b,k,())=some (dec' (InP a b k),()):=by
 unfold AO;simp only[qV,jU,bind_some,QZ];apply fin
 ·repeat' first|apply cu|apply bW|apply cO|apply wG|apply bZ|apply fA|apply vz
 ·unfold InP;grind
theorem zdG (k a:List UInt8):aY k a=false↔(k=a∨aY a k=true):=by
 rcases Cb k a with h|h|h
 ·have h2:=xY h;have h3:k≠a:=fun e=>by rw[e,vk] at h;cases h
  simp[h,h2,h3]
 ·subst h;simp[vk]
 ·have h2:=xY h;simp[h,h2]
theorem TI (a b k:List UInt8) (ha:St a) (hb:St b) (hk:St k):AX (a,b,k,())=some (dec' (InP a b k),()):=by
 unfold AX;simp only[qO a b ha hb,jr k hk,bind_some];apply fin
 ·repeat' first|apply cu|apply bW|apply cO|apply wG|apply bZ|apply fA|apply vz
 ·have e1:(ofNat b.length=0)↔b=[]:=by simp
  have e2:=zdG k a;have e3:=tY k;unfold InP eG;rw[e1];simp only[not_eq_true',Bool.not_eq_false',e2];by_cases hb:b=[]
  ·subst hb;grind
  ·grind
def Meet (a b:aP):Prop:=a.1≠3∧b.1≠3∧(InP a.2.1 a.2.2.1 b.2.1∨InP b.2.1 b.2.2.1 a.2.1)
def uH (a b:aP):Prop:=a.1≠3∧b.1≠3∧(a.2.1=b.2.1∨InP a.2.1 a.2.2.1 b.2.1∨InP b.2.1 b.2.2.1 a.2.1)
theorem SY (a b:aP):Fa (a,b,())=some (dec' (uH a b),()):=by
 unfold Fa;simp only[ze9,bind_some];apply fin
 ·repeat' first|apply cu|apply bW|apply cO|apply wG|apply bZ|apply fA|apply vz
 ·unfold uH;grind
theorem zbi (a b:aP) (ha:qI a) (hb:qI b):Bh (a,b,())=some (dec' (Meet a b),()):=by
 unfold Bh;simp only[TI _ _ _ ha.1 ha.2.1 hb.1,TI _ _ _ hb.1 hb.2.1 ha.1,bind_some];apply fin
 ·repeat' first|apply cu|apply bW|apply cO|apply wG|apply bZ|apply fA|apply vz
 ·unfold Meet;grind
theorem Q9 {o:aP} (h:jC o):eG o.2.1 o.2.2.1∧IsKey o.2.1:=by
 rcases h with h|h
 ·exact⟨⟨h.2.2.1,.inl h.2.1⟩,h.2.2.1⟩
 ·exact⟨h.2.2.2,h.2.2.2.1⟩
theorem Rk {a b:aP} (ha:jC a) (hb:jC b):uH a b↔Meet a b:=by
 have h1:=Q9 ha;have h2:=Q9 hb;unfold uH Meet InP;grind
def ku (l:List aP):Prop:=(∀ (i:Nat) v,l[i]? = some v→jC v∧∀ (j:Nat) w,j<i→l[j]? = some w→¬ Meet w v)∧l.length≤4
theorem zaW (l:List aP) (hl:Sh l) (o:aP):Ep (l,o,())=some (!dec' (∀ w∈l,¬ uH w o),o,()):=by
 unfold Ep Lr;obtain⟨z,h1,h2⟩:=zaV l hl (step:=fun(x_1:Int×aP)=>bif decide (x_1.fst<ofNat (length l)) then Option.bind (idx l x_1.fst) fun b=>Option.bind (Ad (b,x_1.snd,())) fun b=>bif b.fst then some (Sum.inr (x_1.fst,b.snd)) else some (inl (wrap64 (x_1.fst+1),b.snd.fst)) else some (Sum.inr (-1,x_1.snd,())))
  (fun w=>¬ uH w o) (fun i=>((i:Int),o)) (fun t=>t.1.toNat) (fun i=>by simp) (fun i=>((i:Int),o,())) (-1,o,())
  (fun i v hi hv hq=>by
   have hi':i<9223372036854775807:=by unfold Sh at hl;omega
   unfold Ad;simp only[aC,hi,decide_true,cond_true,aN,hv,bind_some,SY,dE hq,cond_false,aX hi'])
  (fun i v hi hv hq=>by unfold Ad;simp only[aC,hi,decide_true,cond_true,aN,hv,bind_some,SY,bT (Classical.not_not.1 hq)]) (by simp)
 refine aF h1 ?_;rcases h2 with⟨rfl,h2⟩|⟨⟨i,rfl⟩,h2⟩
 ·rw[bT h2];rfl
 ·rw[dE h2];have:decide ((0:Int)≤(i:Int))=true:=decide_eq_true (by omega);simp only[this,Bool.not_false]
theorem TL (l:List aP) (hl:Sh l):AU (l,())=some (dec' (ku l),()):=by
 unfold AU;refine fin (jR l hl (fun i v=>jC v∧∀ w∈l.take i,¬ uH w v) (l.length≤4) (fun i v hi hv=> ?_) ?_) ?_
 ·have hi':i<9223372036854775807:=by unfold Sh at hl;omega
  have e2:gY l 0 (i:Int)=some (l.take i):=xZ (by omega);have ht:Sh (l.take i):=by unfold Sh at hl ⊢;rw[List.length_take];omega
  simp only[aC,hi,decide_true,cond_true,aN,hv,bind_some,zdU,e2,zaW _ ht,aX hi'];apply gz
  ·repeat' first|apply gm|apply fU|apply gu|apply gp|apply gq
  ·grind
 ·simp only[aC,lt_irrefl,decide_false,cond_false];exact congrArg (fun z=>some (Sum.inr (z,()))) (iQ (by simp;omega)).symm
 ·unfold ku;refine and_congr ?_ Iff.rfl;constructor
  ·intro h i v hv;refine⟨(h i v hv).1,fun j w hj hw=> ?_⟩;have:=(h i v hv).2 w (mem_iff_getElem?.2 ⟨j,by rw[List.getElem?_take,if_pos hj];exact hw⟩);rwa[Rk (h j w hw).1 (h i v hv).1] at this
  ·intro h i v hv;refine⟨(h i v hv).1,fun w hw=> ?_⟩;obtain⟨j,hj⟩:=mem_iff_getElem?.1 hw;rw[List.getElem?_take] at hj;by_cases hji:j<i
   ·rw[if_pos hji] at hj;rw[Rk (h j w hj).1 (h i v hv).1];exact(h i v hv).2 j w hji hj
   ·rw[if_neg hji] at hj;cases hj
theorem SI (l:List aP) (hl:Sh l) (hs:∀ o∈l,qI o):BB (l,())=some (dec' (ku l),()):=by
 unfold BB;refine fin (jR l hl (fun i v=>jC v∧∀ j,j<i→∀ w,l[j]? = some w→¬ Meet w v) (l.length≤4) (fun i v hi hv=> ?_) ?_) ?_
 ·have hi':i<9223372036854775807:=by unfold Sh at hl;omega
  have hz:=hs v (mem_of_getElem? hv);have inner:=zaX (n:=i) (by omega) (step:=fun(x_2:Int×Unit)=>bif decide (x_2.fst<(i:Int)) then Option.bind (idx l x_2.fst) fun b=>Option.bind (idx l (i:Int)) fun b_1=>Option.bind (Bh (b,b_1,())) fun b=>bif b.fst then some (Sum.inr (Sum.inr (false,()))) else some (inl (wrap64 (x_2.fst+1),())) else some (Sum.inr (inl (wrap64 ((i:Int)+1),()))))
   (fun j=>∀ w,l[j]? = some w→¬ Meet w v) (inl (wrap64 ((i:Int)+1),())) (Sum.inr (false,())) (fun j hj=>by
    obtain⟨w,hw⟩:∃ w,l[j]? = some w:=⟨_,getElem?_eq_getElem (show j<l.length by omega)⟩
    have hwz:=hs w (mem_of_getElem? hw);have e:decide ((j:Int)<(i:Int))=true:=decide_eq_true (by omega);simp only[e,cond_true,aN,hw,hv,bind_some,zbi w v hwz hz,aX (show j<9223372036854775807 by omega)];by_cases hm:Meet w v
    ·rw[bT hm,dE (fun h=>h w rfl hm)];rfl
    ·rw[dE hm,bT (fun u hu=>by cases hu;exact hm)];rfl)
   (by simp)
  simp only[aC,hi,decide_true,cond_true,aN,hv,bind_some,zdh v hz];simp only[aN,hv,bind_some] at inner;rw[inner,aX hi'];by_cases h1:jC v
  ·rw[bT h1];simp only[Bool.not_true,cond_false];exact pY ⟨fun h=>⟨h1,h⟩,fun h=>h.2⟩
  ·rw[dE h1];simp only[Bool.not_false,cond_true];rw[fU i];exact pY ⟨False.elim,fun h=>h1 h.1⟩
 ·simp only[aC,lt_irrefl,decide_false,cond_false];exact congrArg (fun z=>some (Sum.inr (z,()))) (iQ (by simp;omega)).symm
 ·unfold ku;refine and_congr ?_ Iff.rfl;exact⟨fun h i v hv=>⟨(h i v hv).1,fun j w hj hw=>(h i v hv).2 j hj w hw⟩,fun h i v hv=>⟨(h i v hv).1,fun j hj w hw=>(h i v hv).2 j w hj hw⟩⟩
theorem oG {i:Nat} (h0:0<i) (h:i<9223372036854775807):wrap64 ((i:Int)-1)=((i-1:Nat):Int):=by
 rw[eU (by omega) (by omega)];omega
theorem ou {α:Type} {l:List α} {i:Nat} {u:α} (h0:0<i) (hu:l[i-1]? = some u) (p:α→Prop):(∀ w,0<i→l[i-1]? = some w→p w)↔p u:=
 ⟨fun h=>h u h0 hu,fun h w _ hw=>by rw[hu] at hw;cases hw;exact h⟩
theorem nZ {α:Type} {l:List α} {i:Nat} (h0:i=0) (p:α→Prop):(∀ w,0<i→l[i-1]? = some w→p w)↔True:=⟨fun _=>trivial,fun _ w h=>by omega⟩
def jw (x:aT):Prop:=IsKey x.1∧fZ x.2.1
def mV (r:dD):Prop:=0≤r.1∧r.1≤15∧dO r.2.1∧dO r.2.2.2.1∧dO r.2.2.2.2.2.2.1∧0≤r.2.2.2.2.2.1∧r.2.2.2.2.2.1≤1∧r.2.2.2.2.1.length≤8∧∀ x∈r.2.2.2.2.1,jw x
theorem Qe (x:aT):A8 (x,())=some (!dec' (jw x),()):=by
 obtain⟨k,v,⟨⟩⟩:=x;have hv:qJ (v,())=_:=LM v;unfold A8;simp only[jU,hv,bind_some];unfold jw;by_cases h1:IsKey k
 ·by_cases h2:fZ v
  ·rw[decide_eq_true h1,bT h2,show dec' (IsKey k∧fZ v)=true from bT ⟨h1,h2⟩];rfl
  ·rw[decide_eq_true h1,dE h2,show dec' (IsKey k∧fZ v)=false from dE (fun h=>h2 h.2)];rfl
 ·rw[decide_eq_false h1,show dec' (IsKey k∧fZ v)=false from dE (fun h=>h1 h.1)];rfl
theorem YP (l:List aT) (hl:Sh l):Ey (l,())=some (!dec' (∀ c∈l,jw c),()):=by
 unfold Ey LC;obtain⟨r,h1,h2⟩:=yP l hl (step:=fun(x_1:Int×Unit)=>bif decide (x_1.fst<ofNat (length l)) then Option.bind (idx l x_1.fst) fun b=>Option.bind (A8 (b,())) fun b=>bif b.fst then some (Sum.inr x_1) else some (inl (wrap64 (x_1.fst+1),())) else some (Sum.inr (-1,()))) jw
  (fun i v hi hv hq=>by
   have hi':i<9223372036854775807:=by unfold Sh at hl;omega
   simp only[aC,hi,decide_true,cond_true,aN,hv,bind_some,Qe,bT hq,Bool.not_true,cond_false,aX hi'])
  (fun i v hi hv hq=>by simp only[aC,hi,decide_true,cond_true,aN,hv,bind_some,Qe,dE hq,Bool.not_false]) (by simp)
 refine aF h1 ?_;simp only[h2]
theorem Q5 (r:dD) (hr:Sh r.2.2.2.2.1):xE (r,())=some (dec' (mV r),()):=by
 obtain⟨a1,a2,a3,a4,a5,a6,a7,⟨⟩⟩:=r;unfold xE;simp only[nat3,YP a5 hr,bind_some,Bool.not_not];apply fin
 ·repeat' first|apply cu|apply bW|apply cO|apply bZ|apply fA
 ·unfold mV;simp only[ofNat_eq_natCast];grind
def y8 (r:dD):Prop:=Sh r.2.2.2.2.1∧∀ x∈r.2.2.2.2.1,St x.1
theorem Qh (r:dD) (hr:y8 r):xO (r,())=some (dec' (mV r),()):=by
 obtain⟨a1,a2,a3,a4,a5,a6,a7,⟨⟩⟩:=r;obtain⟨hl,hs⟩:=hr;unfold xO;refine fin (jR a5 hl (fun _ x=>jw x) (0≤a1∧a1≤15∧dO a2∧dO a4∧dO a7∧0≤a6∧a6≤1∧a5.length≤8) (fun i v hi hv=> ?_) ?_) ?_
 ·have hi':i<9223372036854775807:=by unfold Sh at hl;simp only at hl;omega
  have hk:=hs v (mem_of_getElem? hv);obtain⟨k,w,⟨⟩⟩:=v;simp only[aC,hi,decide_true,cond_true,aN,hv,bind_some,jr k hk,Du,aX hi'];apply gz
  ·repeat' first|apply gm|apply fU|apply gu|apply gp|apply gq
  ·unfold jw;grind
 ·simp only[aC,lt_irrefl,decide_false,cond_false,mM,x8,bind_some];refine(congrArg (Option.map Sum.inr) (?_:_=some (dec' (0≤a1∧a1≤15∧dO a2∧dO a4∧dO a7∧0≤a6∧a6≤1∧a5.length≤8),()))).trans rfl;apply fin
  ·repeat' first|apply cu|apply bW|apply cO|apply bZ|apply fA
  ·simp only[ofNat_eq_natCast];grind
 ·unfold mV;rw[JC (p:=jw)];grind
def ql (l:List dh) (m:Int):Prop:=∀ (i:Nat) v,l[i]? = some v→1≤v.1∧v.1≤m∧bH v.2.1∧mV v.2.2.1∧∀ w,0<i→l[i-1]? = some w→w.1<v.1
def zu (l:List dh):Prop:=Sh l∧∀ s∈l,y8 s.2.2.1
theorem zcl (l:List dh) (m:Int) (hs:ShS l):FC (l,m,())=some (dec' (ql l m),()):=by
 obtain⟨hl,hs⟩:=hs;unfold FC;refine fin (jR l hl (fun i v=>1≤v.1∧v.1≤m∧bH v.2.1∧mV v.2.2.1∧∀ w,0<i→l[i-1]? = some w→w.1<v.1) True (fun i v hi hv=> ?_) ?_) ?_
 ·have hi':i<9223372036854775807:=by unfold Sh at hl;omega
  have hr:xE (v.2.2.1,())=_:=Q5 v.2.2.1 (hs v (mem_of_getElem? hv));rcases eq_zero_or_pos i with h0|h0
  ·have e0:decide ((0:Int)<(i:Int))=false:=decide_eq_false (by omega);have e00:decide ((i:Int)=0)=true:=decide_eq_true (by omega);have hp:(∀ w,0<i→l[i-1]? = some w→w.1<v.1)=True:=propext (nZ (l:=l) h0 (fun w=>w.1<v.1));simp only[hp];simp only[aC,hi,decide_true,cond_true,aN,hv,bind_some,aX hi',e0,cond_false,rZ,lY,hr];apply gz
   ·repeat' first|apply gm|apply fU|apply gu|apply gp|apply gq
   ·grind
  ·obtain⟨u,hu⟩:∃ u,l[i-1]? = some u:=⟨_,getElem?_eq_getElem (show i-1<l.length by omega)⟩
   have e0:decide ((0:Int)<(i:Int))=true:=decide_eq_true (by omega);have e00:decide ((i:Int)=0)=false:=decide_eq_false (by omega);have hp:(∀ w,0<i→l[i-1]? = some w→w.1<v.1)=(u.1<v.1):=propext (ou h0 hu (fun w=>w.1<v.1));simp only[hp];simp only[aC,hi,decide_true,cond_true,aN,hv,bind_some,aX hi',e0,oG h0 hi',hu,rZ,lY,hr];apply gz
   ·repeat' first|apply gm|apply fU|apply gu|apply gp|apply gq
   ·grind
 ·simp
 ·unfold ql;exact and_iff_left trivial
theorem Q7 (l:List dh) (m:Int) (hs:zu l):xN (l,m,())=some (dec' (ql l m),()):=by
 obtain⟨hl,hs⟩:=hs;unfold xN;refine fin (jR l hl (fun i v=>1≤v.1∧v.1≤m∧bH v.2.1∧mV v.2.2.1∧∀ w,0<i→l[i-1]? = some w→w.1<v.1) True (fun i v hi hv=> ?_) ?_) ?_
 ·have hi':i<9223372036854775807:=by unfold Sh at hl;omega
  have hr:xO (v.2.2.1,())=_:=Qh v.2.2.1 (hs v (mem_of_getElem? hv));rcases eq_zero_or_pos i with h0|h0
  ·have e0:decide ((0:Int)<(i:Int))=false:=decide_eq_false (by omega);have e00:decide ((i:Int)=0)=true:=decide_eq_true (by omega);have hp:(∀ w,0<i→l[i-1]? = some w→w.1<v.1)=True:=propext (nZ (l:=l) h0 (fun w=>w.1<v.1));simp only[hp];simp only[aC,hi,decide_true,cond_true,aN,hv,bind_some,aX hi',e0,cond_false,qY,mM,hr];apply gz
   ·repeat' first|apply gm|apply fU|apply gu|apply gp|apply gq
   ·grind
  ·obtain⟨u,hu⟩:∃ u,l[i-1]? = some u:=⟨_,getElem?_eq_getElem (show i-1<l.length by omega)⟩
   have e0:decide ((0:Int)<(i:Int))=true:=decide_eq_true (by omega);have e00:decide ((i:Int)=0)=false:=decide_eq_false (by omega);have hp:(∀ w,0<i→l[i-1]? = some w→w.1<v.1)=(u.1<v.1):=propext (ou h0 hu (fun w=>w.1<v.1));simp only[hp];simp only[aC,hi,decide_true,cond_true,aN,hv,bind_some,aX hi',e0,oG h0 hi',hu,qY,mM,hr];apply gz
   ·repeat' first|apply gm|apply fU|apply gu|apply gp|apply gq
   ·grind
 ·simp
 ·unfold ql;exact and_iff_left trivial
def vU (l:List fE):Prop:=(∀ (i:Nat) v,l[i]? = some v→bH v.1∧1≤v.2.1∧v.2.1≤1000∧0≤v.2.2.1∧v.2.2.1≤1000∧∀ w,0<i→l[i-1]? = some w→w.1<v.1)∧l.length≤64
theorem zax (l:List fE) (hl:Sh l):FB (l,())=some (dec' (vU l),()):=by
 unfold FB;refine fin (jR l hl (fun i v=>bH v.1∧1≤v.2.1∧v.2.1≤1000∧0≤v.2.2.1∧v.2.2.1≤1000∧∀ w,0<i→l[i-1]? = some w→w.1<v.1) (l.length≤64) (fun i v hi hv=> ?_) ?_) ?_
 ·have hi':i<9223372036854775807:=by unfold Sh at hl;omega
  rcases eq_zero_or_pos i with h0|h0
  ·have e0:decide ((0:Int)<(i:Int))=false:=decide_eq_false (by omega);have e00:decide ((i:Int)=0)=true:=decide_eq_true (by omega);have hp:(∀ w,0<i→l[i-1]? = some w→w.1<v.1)=True:=propext (nZ (l:=l) h0 (fun w=>w.1<v.1));simp only[hp];simp only[aC,hi,decide_true,cond_true,aN,hv,bind_some,aX hi',e0,cond_false,rZ,lY];apply gz
   ·repeat' first|apply gm|apply fU|apply gu|apply gp|apply gq
   ·grind
  ·obtain⟨u,hu⟩:∃ u,l[i-1]? = some u:=⟨_,getElem?_eq_getElem (show i-1<l.length by omega)⟩
   have e0:decide ((0:Int)<(i:Int))=true:=decide_eq_true (by omega);have e00:decide ((i:Int)=0)=false:=decide_eq_false (by omega);have hp:(∀ w,0<i→l[i-1]? = some w→w.1<v.1)=(u.1<v.1):=propext (ou h0 hu (fun w=>w.1<v.1));simp only[hp];simp only[aC,hi,decide_true,cond_true,aN,hv,bind_some,aX hi',e0,oG h0 hi',hu,rZ,lY];apply gz
   ·repeat' first|apply gm|apply fU|apply gu|apply gp|apply gq
   ·grind
 ·simp only[aC,lt_irrefl,decide_false,cond_false];exact congrArg (fun z=>some (Sum.inr (z,()))) (iQ (by simp;omega)).symm
 ·exact Iff.rfl
theorem Po (l:List fE) (hl:Sh l):xM (l,())=some (dec' (vU l),()):=by
 unfold xM;refine fin (jR l hl (fun i v=>bH v.1∧1≤v.2.1∧v.2.1≤1000∧0≤v.2.2.1∧v.2.2.1≤1000∧∀ w,0<i→l[i-1]? = some w→w.1<v.1) (l.length≤64) (fun i v hi hv=> ?_) ?_) ?_
 ·have hi':i<9223372036854775807:=by unfold Sh at hl;omega
  rcases eq_zero_or_pos i with h0|h0
  ·have e0:decide ((0:Int)<(i:Int))=false:=decide_eq_false (by omega);have e00:decide ((i:Int)=0)=true:=decide_eq_true (by omega);have hp:(∀ w,0<i→l[i-1]? = some w→w.1<v.1)=True:=propext (nZ (l:=l) h0 (fun w=>w.1<v.1));simp only[hp];simp only[aC,hi,decide_true,cond_true,aN,hv,bind_some,aX hi',e0,cond_false,qY,mM];apply gz
   ·repeat' first|apply gm|apply fU|apply gu|apply gp|apply gq
   ·grind
  ·obtain⟨u,hu⟩:∃ u,l[i-1]? = some u:=⟨_,getElem?_eq_getElem (show i-1<l.length by omega)⟩
   have e0:decide ((0:Int)<(i:Int))=true:=decide_eq_true (by omega);have e00:decide ((i:Int)=0)=false:=decide_eq_false (by omega);have hp:(∀ w,0<i→l[i-1]? = some w→w.1<v.1)=(u.1<v.1):=propext (ou h0 hu (fun w=>w.1<v.1));simp only[hp];simp only[aC,hi,decide_true,cond_true,aN,hv,bind_some,aX hi',e0,oG h0 hi',hu,qY,mM];apply gz
   ·repeat' first|apply gm|apply fU|apply gu|apply gp|apply gq
   ·grind
 ·simp only[aC,lt_irrefl,decide_false,cond_false];exact congrArg (fun z=>some (Sum.inr (z,()))) (iQ (by simp;omega)).symm
 ·exact Iff.rfl
def Eo (l:List aT):Prop:=∀ (i:Nat) v,l[i]? = some v→IsKey v.1∧fZ v.2.1∧v.2.1.2.2.2.2.2.2.1=false∧∀ w,0<i→l[i-1]? = some w→aY w.1 v.1=true
def zy (c:aQ):Prop:=(c.2.1=[]∨IsKey c.2.1)∧(c.2.2.1=[]∨IsKey c.2.2.1)∧c.2.2.2.2.2.2.2.2.2.2.2.2.2.2.1.length≤8∧Eo c.2.2.2.2.2.2.2.2.2.2.2.2.2.2.1
theorem zct (c:aQ) (hl:Sh c.2.2.2.2.2.2.2.2.2.2.2.2.2.2.1):Bv (c,())=some (dec' (zy c),()):=by
 obtain⟨a1,k,en,a4,a5,a6,a7,a8,a9,a10,a11,a12,a13,a14,l,a16,a17,⟨⟩⟩:=c;have hl:Sh l:=hl;unfold Bv;simp only[jU,bind_some];generalize hL:aO (Int×Unit) (Bool×Unit) _ big (0,())=L;have eL:L=some (dec' (Eo l),()):=by
  rw[←hL];refine fin (jR l hl (fun i v=>IsKey v.1∧fZ v.2.1∧v.2.1.2.2.2.2.2.2.1=false∧∀ w,0<i→l[i-1]? = some w→aY w.1 v.1=true) True (fun i v hi hv=> ?_) ?_) ?_
  ·have hi':i<9223372036854775807:=by unfold Sh at hl;omega
   have hr:qJ v.2=_:=LM v.2.1;rcases eq_zero_or_pos i with h0|h0
   ·have e0:decide ((0:Int)<(i:Int))=false:=decide_eq_false (by omega);have e00:decide ((i:Int)=0)=true:=decide_eq_true (by omega);have hp:(∀ w,0<i→l[i-1]? = some w→aY w.1 v.1=true)=True:=propext (nZ (l:=l) h0 (fun w=>aY w.1 v.1=true));simp only[hp];simp only[aC,hi,decide_true,cond_true,aN,hv,bind_some,aX hi',e0,cond_false,hr];apply gz
    ·repeat' first|apply gm|apply fU|apply gu|apply gp|apply gq
    ·grind
   ·obtain⟨u,hu⟩:∃ u,l[i-1]? = some u:=⟨_,getElem?_eq_getElem (show i-1<l.length by omega)⟩
    have e0:decide ((0:Int)<(i:Int))=true:=decide_eq_true (by omega);have e00:decide ((i:Int)=0)=false:=decide_eq_false (by omega);have hp:(∀ w,0<i→l[i-1]? = some w→aY w.1 v.1=true)=(aY u.1 v.1=true):=propext (ou h0 hu (fun w=>aY w.1 v.1=true));simp only[hp];simp only[aC,hi,decide_true,cond_true,aN,hv,bind_some,aX hi',e0,oG h0 hi',hu,hr];apply gz
    ·repeat' first|apply gm|apply fU|apply gu|apply gp|apply gq
    ·grind
  ·simp
  ·unfold Eo;exact and_iff_left trivial
 rw[eL];unfold zy;have n1:decide ((8:Int)<ofNat l.length) = !decide (l.length≤8):=by
  by_cases h:l.length≤8
  ·rw[decide_eq_true h];exact decide_eq_false (by simp;omega)
  ·rw[decide_eq_false h];exact decide_eq_true (by simp;omega)
 simp only[n1];by_cases h1:k=[]<;>by_cases h2:IsKey k<;>by_cases h3:en=[]<;>by_cases h4:IsKey en<;>by_cases h5:l.length≤8<;>simp[h1,h2,h3,h4,h5]
def Ei (rev to:Int) (l:List aT):Prop:=∀ (i:Nat) v,l[i]? = some v→IsKey v.1∧fZ v.2.1∧rev<v.2.1.1∧v.2.1.1≤to∧∀ w,0<i→l[i-1]? = some w→w.2.1.1≤v.2.1.1∧(w.2.1.1=v.2.1.1→aY w.1 v.1=true)
def zq (c:aQ):Prop:=bH c.2.2.2.2.2.2.1∧bH c.2.2.2.2.2.2.2.2.2.2.2.2.1∧c.2.2.2.2.2.2.1<c.2.2.2.2.2.2.2.2.2.2.2.2.1∧c.2.2.2.2.2.2.2.2.2.2.2.2.2.2.1.length≤64∧Ei c.2.2.2.2.2.2.1 c.2.2.2.2.2.2.2.2.2.2.2.2.1 c.2.2.2.2.2.2.2.2.2.2.2.2.2.2.1
theorem zci (c:aQ) (hl:Sh c.2.2.2.2.2.2.2.2.2.2.2.2.2.2.1):Bq (c,())=some (dec' (zq c),()):=by
 obtain⟨a1,k,en,a4,a5,a6,rev,a8,a9,a10,a11,a12,to,a14,l,a16,a17,⟨⟩⟩:=c;have hl:Sh l:=hl;unfold Bq;simp only[Vr,bind_some];generalize hL:aO (Int×Unit) (Bool×Unit) _ big (0,())=L;have eL:L=some (dec' (Ei rev to l),()):=by
  rw[←hL];refine fin (jR l hl (fun i v=>IsKey v.1∧fZ v.2.1∧rev<v.2.1.1∧v.2.1.1≤to∧∀ w,0<i→l[i-1]? = some w→w.2.1.1≤v.2.1.1∧(w.2.1.1=v.2.1.1→aY w.1 v.1=true)) True (fun i v hi hv=> ?_) ?_) ?_
  ·have hi':i<9223372036854775807:=by unfold Sh at hl;omega
   have hr:qJ v.2=_:=LM v.2.1;rcases eq_zero_or_pos i with h0|h0
   ·have e0:decide ((0:Int)<(i:Int))=false:=decide_eq_false (by omega);have e00:decide ((i:Int)=0)=true:=decide_eq_true (by omega);have hp:(∀ w,0<i→l[i-1]? = some w→w.2.1.1≤v.2.1.1∧(w.2.1.1=v.2.1.1→aY w.1 v.1=true))=True:=propext (nZ (l:=l) h0 (fun w=>w.2.1.1≤v.2.1.1∧(w.2.1.1=v.2.1.1→aY w.1 v.1=true)));simp only[hp];simp only[aC,hi,decide_true,cond_true,aN,hv,bind_some,aX hi',e00,jU,hr];apply gz
    ·repeat' first|apply gm|apply fU|apply gu|apply gp|apply gq
    ·grind
   ·obtain⟨u,hu⟩:∃ u,l[i-1]? = some u:=⟨_,getElem?_eq_getElem (show i-1<l.length by omega)⟩
    have e0:decide ((0:Int)<(i:Int))=true:=decide_eq_true (by omega);have e00:decide ((i:Int)=0)=false:=decide_eq_false (by omega);have hp:(∀ w,0<i→l[i-1]? = some w→w.2.1.1≤v.2.1.1∧(w.2.1.1=v.2.1.1→aY w.1 v.1=true))=(u.2.1.1≤v.2.1.1∧(u.2.1.1=v.2.1.1→aY u.1 v.1=true)):=propext (ou h0 hu (fun w=>w.2.1.1≤v.2.1.1∧(w.2.1.1=v.2.1.1→aY w.1 v.1=true)));simp only[hp];simp only[aC,hi,decide_true,cond_true,aN,hv,bind_some,aX hi',e00,cond_false,oG h0 hi',hu,jU,hr];apply gz
    ·repeat' first|apply gm|apply fU|apply gu|apply gp|apply gq
    ·grind
  ·simp
  ·unfold Ei;exact and_iff_left trivial
 rw[eL];apply fin
 ·repeat' first|apply cu|apply bW|apply cO|apply bZ|apply fA
 ·unfold zq;simp only[ofNat_eq_natCast];grind
def mf (top:Prop) (c:aQ):Prop:=
 (c.1=1∨c.1=2∨c.1=10∨c.1=12∨c.1=13∨c.2.1=[])∧(c.1=2∨c.1=12∨c.1=13∨c.2.2.1=[])∧(c.1=1∨c.2.2.2.1=[])∧
 (c.1=1∨c.1=5∨c.1=6∨c.1=7∨c.1=9∨c.2.2.2.2.1=0)∧(c.1=5∨c.2.2.2.2.2.1=0)∧(c.1=4∨c.1=12∨c.1=14∨c.1=15∨c.2.2.2.2.2.2.1=0)∧
 (c.1=3∨(c.2.2.2.2.2.2.2.1=[]∧c.2.2.2.2.2.2.2.2.1=[]∧c.2.2.2.2.2.2.2.2.2.1=[]))∧((10≤c.1∧top)∨c.2.2.2.2.2.2.2.2.2.2.1=0)∧
 ((12≤c.1∧c.1≤15)∨c.2.2.2.2.2.2.2.2.2.2.2.1=0)∧(c.1=14∨c.2.2.2.2.2.2.2.2.2.2.2.2.1=0)∧(c.1=13∨c.2.2.2.2.2.2.2.2.2.2.2.2.2.1=false)∧
 (c.1=13∨c.1=14∨c.2.2.2.2.2.2.2.2.2.2.2.2.2.2.1=[])∧(c.1=15∨(c.2.2.2.2.2.2.2.2.2.2.2.2.2.2.2.1=[]∧c.2.2.2.2.2.2.2.2.2.2.2.2.2.2.2.2.1=[]))
theorem kinds (k:Int):k=1∨k=2∨k=3∨k=4∨k=5∨k=6∨k=7∨k=8∨k=9∨k=10∨k=11∨k=12∨k=13∨k=14∨k=15∨k=16∨(k<1∨16<k):=by omega
theorem zcF (c:aQ) (hc:ShC c):∃ b,Gl (c,())=some (b,())∧ShC b∧(b=c↔mf (c.1≤16) c):=by
 obtain⟨k,a2,a3,a4,a5,a6,a7,a8,a9,a10,a11,a12,a13,a14,a15,a16,a17,⟨⟩⟩:=c;obtain⟨h8,h9,h10,h15,h16,h17⟩:=hc;simp only at h8 h9 h10 h15 h16 h17;have n96:Sh ([]:List dC):=by simp[Sh]
 have n48:Sh ([]:List aP):=by simp[Sh]
 have n70:Sh ([]:List aT):=by simp[Sh]
 have n113:Sh ([]:List fE):=by simp[Sh]
 have n94:ShS ([]:List dh):=⟨by simp[Sh],fun s h=>by simp at h⟩
 rcases kinds k with h|h|h|h|h|h|h|h|h|h|h|h|h|h|h|h|h
 iterate 16
  ·subst h;refine⟨_,rfl,⟨by assumption,by assumption,by assumption,by assumption,by assumption,by assumption⟩,?_⟩;simp only[mf,Prod.mk.injEq];grind
 ·have e:∀ n:Int,1≤n→n≤16→decide (k=n)=false:=fun n h1 h2=>decide_eq_false (by omega);refine⟨(k,[],[],[],0,0,0,[],[],[],0,0,0,false,[],[],[],()),?_,⟨n96,n48,n48,n70,n94,n113⟩,?_⟩
  ·unfold Gl FH;simp only[e 1 (by omega) (by omega),e 2 (by omega) (by omega),e 3 (by omega) (by omega),e 4 (by omega) (by omega),e 5 (by omega) (by omega),e 6 (by omega) (by omega),e 7 (by omega) (by omega),e 9 (by omega) (by omega),e 10 (by omega) (by omega),e 11 (by omega) (by omega),e 12 (by omega) (by omega),e 13 (by omega) (by omega),e 14 (by omega) (by omega),e 15 (by omega) (by omega),e 16 (by omega) (by omega),cond_false,bind_some,elim_inl,elim_inr]
  ·have f:∀ n:Int,1≤n→n≤16→(k=n)=False:=fun n h1 h2=>eq_false (by omega);have g1:(10≤k∧k≤16)=False:=eq_false (by omega);have g2:(12≤k∧k≤15)=False:=eq_false (by omega);simp only[mf,Prod.mk.injEq,g1,g2,f 1 (by omega) (by omega),f 2 (by omega) (by omega),f 3 (by omega) (by omega),f 5 (by omega) (by omega),f 4 (by omega) (by omega),f 6 (by omega) (by omega),f 7 (by omega) (by omega),f 9 (by omega) (by omega),f 10 (by omega) (by omega),f 12 (by omega) (by omega),f 13 (by omega) (by omega),f 14 (by omega) (by omega),f 15 (by omega) (by omega),false_or];grind
theorem zaY {α β:Type} (a:List α) (b:List β) (ha:a.length≤140737488351232) (hb:b.length≤140737488351232):decide (wrap64 (ofNat a.length+ofNat b.length)=0)=dec' (a=[]∧b=[]):=by
 rw[eU (by simp;omega) (by simp;omega)];refine(iQ ?_).symm;rw[←length_eq_zero_iff,←length_eq_zero_iff];simp only[ofNat_eq_natCast];omega
theorem YU {α β γ:Type} (a:List α) (b:List β) (c:List γ) (ha:a.length≤140737488351232) (hb:b.length≤140737488351232) (hc:c.length≤140737488351232):decide (wrap64 (wrap64 (ofNat a.length+ofNat b.length)+ofNat c.length)=0)=dec' (a=[]∧b=[]∧c=[]):=by
 rw[eU (x:=ofNat a.length+ofNat b.length) (by simp;omega) (by simp;omega),eU (by simp;omega) (by simp;omega)];refine(iQ ?_).symm;rw[←length_eq_zero_iff,←length_eq_zero_iff,←length_eq_zero_iff];simp only[ofNat_eq_natCast];omega
def LnC (c:aQ):Prop:=c.2.2.2.2.2.2.2.1.length≤140737488351232∧c.2.2.2.2.2.2.2.2.1.length≤140737488351232∧c.2.2.2.2.2.2.2.2.2.1.length≤140737488351232∧c.2.2.2.2.2.2.2.2.2.2.2.2.2.2.2.1.length≤140737488351232∧c.2.2.2.2.2.2.2.2.2.2.2.2.2.2.2.2.1.length≤140737488351232
def jc (p q:Bool) (r:Option (Bool×Unit)):Option (Bool×Unit):=bif p then r else bif q then r else some (false,())
theorem zbp {p q:Bool} {r:Option (Bool×Unit)} {R:Prop} (h:r=some (dec' R,())):jc p q r=some (dec' ((p=true∨q=true)∧R),()):=by
 unfold jc;cases p
 ·cases q
  ·exact fin bW (by simp)
  ·exact fin h (by simp)
 ·exact fin h (by simp)
theorem tryE (a b q:Bool) (r:Option (Bool×Unit)):(bif a then jc b q r else jc false q r)=jc (a && b) q r:=by cases a<;>rfl
theorem bare_eq (c:aQ) (hc:LnC c):BC (c,())=some (dec' (mf True c),()):=by
 obtain⟨k,a2,a3,a4,a5,a6,a7,a8,a9,a10,a11,a12,a13,a14,a15,a16,a17,⟨⟩⟩:=c;obtain⟨h8,h9,h10,h16,h17⟩:=hc;show(jc (decide (k=1) || decide (k=2) || decide (k=10) || decide (k=12) || decide (k=13)) (decide (a2=[])) (jc (decide (k=2) || decide (k=12) || decide (k=13)) (decide (a3=[])) (jc (decide (k=1)) (decide (a4=[])) (jc (decide (k=1) || decide (k=5) || decide (k=6) || decide (k=7) || decide (k=9)) (decide (a5=0)) (jc (decide (k=5)) (decide (a6=0)) (jc (decide (k=4) || decide (k=12) || decide (k=14) || decide (k=15)) (decide (a7=0)) (jc (decide (k=3)) (decide (wrap64 (wrap64 (ofNat (length a8)+ofNat (length a9))+ofNat (length a10))=0)) (jc (decide (10≤k)) (decide (a11=0)) ((fun r=>bif decide (12≤k) then jc (decide (k≤15)) (decide (a12=0)) r else jc false (decide (a12=0)) r) (jc (decide (k=14)) (decide (a13=0)) (jc (decide (k=13)) (!a14) (jc (decide (k=13) || decide (k=14)) (decide (ofNat (length a15)=0)) (bif decide (k=15) then some (true,()) else some (decide (wrap64 (ofNat (length a16)+ofNat (length a17))=0),()))))))))))))))=_;simp only[zaY a16 a17 h16 h17,YU a8 a9 a10 h8 h9 h10,tryE];apply fin
 ·repeat' first|apply zbp|apply cu|apply bW|apply cO|apply bZ
 ·unfold mf;simp only[Bool.or_eq_true,and_eq_true,decide_eq_true_eq,not_eq_true',length_eq_zero_iff,ofNat_eq_natCast,Int.natCast_eq_zero,and_true,or_assoc];grind (splits:=60)
def mQ (l:List aT):Prop:=Sh l∧∀ x∈l,St x.1
theorem zbe (c:aQ) (hz:mQ c.2.2.2.2.2.2.2.2.2.2.2.2.2.2.1) (hk:St c.2.1) (he:St c.2.2.1):BA (c,())=some (dec' (zy c),()):=by
 obtain⟨a1,k,en,a4,a5,a6,a7,a8,a9,a10,a11,a12,a13,a14,l,a16,a17,⟨⟩⟩:=c;obtain⟨hl,hs⟩:Sh l∧∀ x∈l,St x.1:=hz;have hk:St k:=hk;have he:St en:=he;unfold BA;refine fin (jR l hl (fun i v=>IsKey v.1∧fZ v.2.1∧v.2.1.2.2.2.2.2.2.1=false∧∀ w,0<i→l[i-1]? = some w→aY w.1 v.1=true) ((k=[]∨IsKey k)∧(en=[]∨IsKey en)∧l.length≤8) (fun i v hi hv=> ?_) ?_) ?_
 ·have hi':i<9223372036854775807:=by unfold Sh at hl;omega
  have hr:qK v.2=_:=Du v.2.1;have hk1:=jr v.1 (hs v (mem_of_getElem? hv));rcases eq_zero_or_pos i with h0|h0
  ·have e0:decide ((0:Int)<(i:Int))=false:=decide_eq_false (by omega);have hp:(∀ w,0<i→l[i-1]? = some w→aY w.1 v.1=true)=True:=propext (nZ (l:=l) h0 (fun w=>aY w.1 v.1=true));simp only[hp];simp only[aC,hi,decide_true,cond_true,aN,hv,bind_some,aX hi',e0,cond_false,hr,hk1];apply gz
   ·repeat' first|apply gm|apply fU|apply gu|apply gp|apply gq
   ·grind
  ·obtain⟨u,hu⟩:∃ u,l[i-1]? = some u:=⟨_,getElem?_eq_getElem (show i-1<l.length by omega)⟩
   have e0:decide ((0:Int)<(i:Int))=true:=decide_eq_true (by omega);have hp:(∀ w,0<i→l[i-1]? = some w→aY w.1 v.1=true)=(aY u.1 v.1=true):=propext (ou h0 hu (fun w=>aY w.1 v.1=true));simp only[hp];simp only[aC,hi,decide_true,cond_true,aN,hv,bind_some,aX hi',e0,oG h0 hi',hu,hr,hk1];apply gz
   ·repeat' first|apply gm|apply fU|apply gu|apply gp|apply gq
   ·grind
 ·simp only[aC,lt_irrefl,decide_false,cond_false,jr k hk,jr en he,bind_some];refine(congrArg (Option.map Sum.inr) (?_:_=some (dec' ((k=[]∨IsKey k)∧(en=[]∨IsKey en)∧l.length≤8),()))).trans rfl;apply fin
  ·repeat' first|apply cu|apply bW|apply cO|apply bZ|apply fA
  ·simp only[ofNat_eq_natCast];by_cases c1:k=[]<;>by_cases c2:en=[]<;>grind
 ·unfold zy Eo;grind
theorem zbd (c:aQ) (hz:mQ c.2.2.2.2.2.2.2.2.2.2.2.2.2.2.1):Bz (c,())=some (dec' (zq c),()):=by
 obtain⟨a1,k,en,a4,a5,a6,rev,a8,a9,a10,a11,a12,to,a14,l,a16,a17,⟨⟩⟩:=c;obtain⟨hl,hs⟩:Sh l∧∀ x∈l,St x.1:=hz;unfold Bz;refine fin (jR l hl (fun i v=>IsKey v.1∧fZ v.2.1∧rev<v.2.1.1∧v.2.1.1≤to∧∀ w,0<i→l[i-1]? = some w→w.2.1.1≤v.2.1.1∧(w.2.1.1=v.2.1.1→aY w.1 v.1=true)) (bH rev∧bH to∧rev<to∧l.length≤64) (fun i v hi hv=> ?_) ?_) ?_
 ·have hi':i<9223372036854775807:=by unfold Sh at hl;omega
  have hr:qK v.2=_:=Du v.2.1;have hk1:=jr v.1 (hs v (mem_of_getElem? hv));rcases eq_zero_or_pos i with h0|h0
  ·have e0:decide ((0:Int)<(i:Int))=false:=decide_eq_false (by omega);have hp:(∀ w,0<i→l[i-1]? = some w→w.2.1.1≤v.2.1.1∧(w.2.1.1=v.2.1.1→aY w.1 v.1=true))=True:=propext (nZ (l:=l) h0 (fun w=>w.2.1.1≤v.2.1.1∧(w.2.1.1=v.2.1.1→aY w.1 v.1=true)));simp only[hp];simp only[aC,hi,decide_true,cond_true,aN,hv,bind_some,aX hi',e0,cond_false,hr,hk1];apply gz
   ·repeat' first|apply gm|apply fU|apply gu|apply gp|apply gq
   ·grind
  ·obtain⟨u,hu⟩:∃ u,l[i-1]? = some u:=⟨_,getElem?_eq_getElem (show i-1<l.length by omega)⟩
   have e0:decide ((0:Int)<(i:Int))=true:=decide_eq_true (by omega);have hp:(∀ w,0<i→l[i-1]? = some w→w.2.1.1≤v.2.1.1∧(w.2.1.1=v.2.1.1→aY w.1 v.1=true))=(u.2.1.1≤v.2.1.1∧(u.2.1.1=v.2.1.1→aY u.1 v.1=true)):=propext (ou h0 hu (fun w=>w.2.1.1≤v.2.1.1∧(w.2.1.1=v.2.1.1→aY w.1 v.1=true)));simp only[hp];simp only[aC,hi,decide_true,cond_true,aN,hv,bind_some,aX hi',e0,oG h0 hi',hu,hr,hk1];apply gz
   ·repeat' first|apply gm|apply fU|apply gu|apply gp|apply gq
   ·grind
 ·simp only[aC,lt_irrefl,decide_false,cond_false,qY,bind_some];refine(congrArg (Option.map Sum.inr) (?_:_=some (dec' (bH rev∧bH to∧rev<to∧l.length≤64),()))).trans rfl;apply fin
  ·repeat' first|apply cu|apply bW|apply cO|apply bZ|apply fA
  ·simp only[ofNat_eq_natCast];grind
 ·unfold zq Ei;grind
theorem QC (s:List dh) (l:List fE) (hs:ShS s) (hl:Sh l):xJ (s,l,())=some (dec' (ql s 15∧vU l),()):=by
 unfold xJ;simp only[zcl s 15 hs,zax l hl,bind_some];apply fin
 ·repeat' first|apply cu|apply bW|apply cO|apply bZ|apply fA
 ·grind
def iI (c:aQ):Prop:=
 (c.1=1∧IsKey c.2.1∧c.2.2.2.1.length≤40∧dO c.2.2.2.2.1)∨(c.1=2∧eG c.2.1 c.2.2.1)∨(c.1=3∧qm c.2.2.2.2.2.2.2.1∧ku c.2.2.2.2.2.2.2.2.1∧ku c.2.2.2.2.2.2.2.2.2.1)∨
 (c.1=4∧bH c.2.2.2.2.2.2.1)∨(c.1=5∧bH c.2.2.2.2.1∧1≤c.2.2.2.2.2.1∧c.2.2.2.2.2.1≤1000)∨((c.1=6∨c.1=7)∧bH c.2.2.2.2.1)∨c.1=8∨(c.1=9∧c.2.2.2.2.1≠0∧ -1099511627776≤c.2.2.2.2.1∧c.2.2.2.2.1≤1099511627776)∨
 (bH c.2.2.2.2.2.2.2.2.2.2.1∧((c.1=10∧nK c.2.1)∨c.1=11∨c.1=16∨(bH c.2.2.2.2.2.2.2.2.2.2.2.1∧((c.1=12∧bH c.2.2.2.2.2.2.1∧nK c.2.1∧nK c.2.2.1)∨(c.1=13∧zy c)∨(c.1=14∧zq c)∨
  (c.1=15∧bH c.2.2.2.2.2.2.1∧ql c.2.2.2.2.2.2.2.2.2.2.2.2.2.2.2.1 15∧vU c.2.2.2.2.2.2.2.2.2.2.2.2.2.2.2.2.1)))))
def gy (c:aQ):Prop:=mf True c∧iI c
theorem zc8 (c:aQ) (hc:ShC c):FD (c,())=some (dec' (qm c.2.2.2.2.2.2.2.1∧ku c.2.2.2.2.2.2.2.2.1∧ku c.2.2.2.2.2.2.2.2.2.1),()):=by
 obtain⟨h8,h9,h10,h15,h16,h17⟩:=hc;unfold FD;simp only[ZM _ h8,TL _ h9,TL _ h10,bind_some,Bool.not_not];apply fin
 ·repeat' first|apply cu|apply bW|apply cO|apply bZ|apply fA
 ·unfold qm;simp only[ofNat_eq_natCast];grind
theorem zaN (c:aQ) (hc:ShC c) (h10:c.1<10):Gj (c,())=some (dec' (iI c),()):=by
 have ht:=zc8 c hc;obtain⟨k,a2,a3,a4,a5,a6,a7,a8,a9,a10,a11,a12,a13,a14,a15,a16,a17,⟨⟩⟩:=c;unfold Gj;simp only[put_eq,qV,ht,rZ,lY,bind_some];simp only at h10;rcases kinds k with h|h|h|h|h|h|h|h|h|h|h|h|h|h|h|h|h
 iterate 9
  ·subst h;simp only[reduceEq,decide_true,decide_false,cond_true,cond_false];apply fin
   ·repeat' first|apply cu|apply bW|apply cO|apply bZ|apply fA
   ·simp only[iI,reduceEq,false_and,true_and,false_or,or_false,and_false,or_self]
    try grind
 iterate 7
  ·exact absurd h10 (by omega)
 ·have f:∀ n:Int,1≤n→n≤16→(k=n)=False:=fun n h1 h2=>eq_false (by omega);simp only[f 1 (by omega) (by omega),f 2 (by omega) (by omega),f 3 (by omega) (by omega),f 4 (by omega) (by omega),f 5 (by omega) (by omega),f 6 (by omega) (by omega),f 7 (by omega) (by omega),f 8 (by omega) (by omega),f 9 (by omega) (by omega),f 10 (by omega) (by omega),f 11 (by omega) (by omega),f 12 (by omega) (by omega),f 13 (by omega) (by omega),f 14 (by omega) (by omega),f 15 (by omega) (by omega),f 16 (by omega) (by omega),iI,decide_false,cond_false,false_and,or_self,and_false]
theorem right_eq (c:aQ) (hc:ShC c):tJ (c,())=some (dec' (gy c),()):=by
 obtain⟨b,hb,hsb,hiff⟩:=zcF c hc;have hS:tH (b,c,())=some (dec' (mf (c.1≤16) c),()):=fin (Dl b c hsb) hiff;clear hiff hsb;have hcl:=zaN c hc;have hpg:=zct c hc.2.2.2.1;have htl:=zci c hc.2.2.2.1;have hhd:=QC c.2.2.2.2.2.2.2.2.2.2.2.2.2.2.2.1 c.2.2.2.2.2.2.2.2.2.2.2.2.2.2.2.2.1 hc.2.2.2.2.1 hc.2.2.2.2.2;obtain⟨k,a2,a3,a4,a5,a6,a7,a8,a9,a10,a11,a12,a13,a14,a15,a16,a17,⟨⟩⟩:=c;simp only at hcl hhd;unfold tJ;simp only[hb,hS,rZ,Vr,pre_eq,hpg,htl,hhd,bind_some];clear hb hS;unfold gy;rcases kinds k with h|h|h|h|h|h|h|h|h|h|h|h|h|h|h|h|h
 iterate 9
  ·subst h;rw[hcl (by omega)];simp only[reduceEq,reduceLT,reduceLE,decide_true,decide_false,cond_true,cond_false,bind_some];apply fin
   ·repeat' first|apply cu|apply bW|apply cO|apply bZ|apply fA
   ·grind
 iterate 7
  ·subst h;simp only[reduceEq,reduceLT,reduceLE,decide_true,decide_false,cond_true,cond_false];apply fin
   ·repeat' first|apply cu|apply bW|apply cO|apply bZ|apply fA
   ·simp only[iI,reduceEq,false_and,true_and,false_or,or_false,and_false,or_self,ne_eq];grind
 ·have f:∀ n:Int,1≤n→n≤16→(k=n)=False:=fun n h1 h2=>eq_false (by omega);have hK:iI (k,a2,a3,a4,a5,a6,a7,a8,a9,a10,a11,a12,a13,a14,a15,a16,a17,())=False:=by
   simp only[f 1 (by omega) (by omega),f 2 (by omega) (by omega),f 3 (by omega) (by omega),f 4 (by omega) (by omega),f 5 (by omega) (by omega),f 6 (by omega) (by omega),f 7 (by omega) (by omega),f 8 (by omega) (by omega),f 9 (by omega) (by omega),f 10 (by omega) (by omega),f 11 (by omega) (by omega),f 12 (by omega) (by omega),f 13 (by omega) (by omega),f 14 (by omega) (by omega),f 15 (by omega) (by omega),f 16 (by omega) (by omega),iI,false_and,or_self,and_false]
  rw[hK] at hcl ⊢;by_cases h9:k<10
  ·rw[hcl h9];simp only[h9,decide_true,cond_true];apply fin
   ·repeat' first|apply cu|apply bW|apply cO|apply bZ|apply fA
   ·grind
  ·simp only[h9,decide_false,cond_false,f 10 (by omega) (by omega),f 11 (by omega) (by omega),f 12 (by omega) (by omega),f 13 (by omega) (by omega),f 14 (by omega) (by omega),f 15 (by omega) (by omega),f 16 (by omega) (by omega)];apply fin
   ·repeat' first|apply cu|apply bW|apply cO|apply bZ|apply fA
   ·grind
def nG (c:aQ):Prop:=ShC c∧LnC c∧St c.2.1∧St c.2.2.1∧(∀ x∈c.2.2.2.2.2.2.2.1,St x.1)∧(∀ o∈c.2.2.2.2.2.2.2.2.1,qI o)∧(∀ o∈c.2.2.2.2.2.2.2.2.2.1,qI o)∧mQ c.2.2.2.2.2.2.2.2.2.2.2.2.2.2.1∧zu c.2.2.2.2.2.2.2.2.2.2.2.2.2.2.2.1
theorem QO {A B:Type} (b:Bool) (X Y:Option A) (f:A→Option B):Option.bind (bif b then X else Y) f=bif b then Option.bind X f else Option.bind Y f:=by cases b<;>rfl
theorem Qg (c:aQ) (hc:nG c):F98 (c,())=some (dec' (gy c),()):=by
 obtain⟨h1,h2,h3,h4,h5,h6,h7,h8,h9⟩:=hc;have hb:=bare_eq c h2;have hpg:=zbe c h8 h3 h4;have htl:=zbd c h8;have hcm:=zbl _ h1.1 h5;have ho1:=SI _ h1.2.1 h6;have ho2:=SI _ h1.2.2.1 h7;have hse:=Q7 _ 15 h9;have hle:=Po _ h1.2.2.2.2.2;have hk:=jr c.2.1 h3;have hr:=qO c.2.1 c.2.2.1 h3 h4;have hp1:=yT c.2.1 h3;have hp2:=yT c.2.2.1 h4;obtain⟨k,a2,a3,a4,a5,a6,a7,a8,a9,a10,a11,a12,a13,a14,a15,a16,a17,⟨⟩⟩:=c;simp only at hcm ho1 ho2 hse hle hk hr hp1 hp2;unfold F98;simp only[hb,qY,x8,mM,hpg,htl,hcm,ho1,ho2,hse,hle,hk,hr,hp1,hp2,bind_some];unfold gy;by_cases hB:mf True (k,a2,a3,a4,a5,a6,a7,a8,a9,a10,a11,a12,a13,a14,a15,a16,a17,())
 ·simp only[hB,true_and,bT trivial,Bool.not_true,cond_false];by_cases hE:bH a11<;>by_cases hT:bH a12
  all_goals
   rcases kinds k with h|h|h|h|h|h|h|h|h|h|h|h|h|h|h|h|h
   iterate 16
    ·subst h;simp only[hE,hT,QO,reduceEq,reduceLE,decide_true,decide_false,cond_true,cond_false,Bool.not_true,Bool.not_false,bind_some,elim_inl,elim_inr]
     try
      apply fin
      ·repeat' first|apply cu|apply bW|apply cO|apply bZ|apply fA
      ·simp only[iI,reduceEq,false_and,true_and,false_or,or_false,and_false,or_self,ne_eq,hE,hT]
       try grind
   ·have f:∀ n:Int,1≤n→n≤16→(k=n)=False:=fun n h1 h2=>eq_false (by omega);have hK:iI (k,a2,a3,a4,a5,a6,a7,a8,a9,a10,a11,a12,a13,a14,a15,a16,a17,())=False:=by
     simp only[f 1 (by omega) (by omega),f 2 (by omega) (by omega),f 3 (by omega) (by omega),f 4 (by omega) (by omega),f 5 (by omega) (by omega),f 6 (by omega) (by omega),f 7 (by omega) (by omega),f 8 (by omega) (by omega),f 9 (by omega) (by omega),f 10 (by omega) (by omega),f 11 (by omega) (by omega),f 12 (by omega) (by omega),f 13 (by omega) (by omega),f 14 (by omega) (by omega),f 15 (by omega) (by omega),f 16 (by omega) (by omega),iI,false_and,or_self,and_false]
    rw[hK];simp only[hE,hT,QO,f 1 (by omega) (by omega),f 2 (by omega) (by omega),f 3 (by omega) (by omega),f 4 (by omega) (by omega),f 5 (by omega) (by omega),f 6 (by omega) (by omega),f 7 (by omega) (by omega),f 8 (by omega) (by omega),f 9 (by omega) (by omega),f 10 (by omega) (by omega),f 11 (by omega) (by omega),f 12 (by omega) (by omega),f 13 (by omega) (by omega),f 14 (by omega) (by omega),f 15 (by omega) (by omega),f 16 (by omega) (by omega),decide_true,decide_false,cond_true,cond_false,Bool.not_true,Bool.not_false,bind_some,elim_inl,elim_inr];cases decide (10≤k)<;>cases decide (12≤k)<;>cases decide (k≤15)<;>rfl
 ·simp only[hB,false_and];rw[dE (p:=False) id];simp only[Bool.not_false,cond_true,bind_some,elim_inr]
def uI (j:lT):Prop:=gy j.2.2.1∧((j.1=0∧j.2.1=0∧8≤j.2.2.1.1)∨(1≤j.1∧j.1≤31∧bH j.2.1∧j.2.2.1.1<8))
theorem zdA (j:lT) (hj:ShC j.2.2.1):FW (j,())=some (dec' (uI j),()):=by
 obtain⟨cl,sq,c,⟨⟩⟩:=j;have hr:=right_eq c hj;unfold FW;simp only[hr,lY,rZ,bind_some];apply fin
 ·repeat' first|apply cu|apply bW|apply cO|apply bZ|apply fA
 ·unfold uI;grind
theorem zcn (j:lT) (hj:nG j.2.2.1):Gv (j,())=some (dec' (uI j),()):=by
 obtain⟨cl,sq,c,⟨⟩⟩:=j;have hr:=Qg c hj;unfold Gv;simp only[hr,mM,qY,bind_some];apply fin
 ·repeat' first|apply cu|apply bW|apply cO|apply bZ|apply fA
 ·unfold uI;grind
def zA (m:jh):Prop:=0≤m.1∧m.1≤4∧dO m.2.1∧dO m.2.2.1∧(m.2.2.2.1=[]∨nK m.2.2.2.1)∧(m.2.2.2.2.1=[]∨nK m.2.2.2.2.1)∧dO m.2.2.2.2.2.1∧(m.2.2.2.2.2.2.1=[]∨IsKey m.2.2.2.2.2.2.1)∧dO m.2.2.2.2.2.2.2.1∧dO m.2.2.2.2.2.2.2.2.1∧dO m.2.2.2.2.2.2.2.2.2.1
def Kt (m:jh):Prop:=St m.2.2.2.1∧St m.2.2.2.2.1∧St m.2.2.2.2.2.2.1
theorem zbw (s:List UInt8):Ae (s,())=some (dec' (s=[]∨nK s),()):=by
 unfold Ae;simp only[pre_eq,bind_some];apply fin
 ·repeat' first|apply cu|apply bW|apply cO|apply bZ|apply fA
 ·grind
theorem zbv (s:List UInt8):Eu (s,())=some (dec' (s=[]∨IsKey s),()):=by
 unfold Eu;simp only[jU,bind_some];apply fin
 ·repeat' first|apply cu|apply bW|apply cO|apply bZ|apply fA
 ·grind
theorem zcz (m:jh):FQ (m,())=some (dec' (zA m),()):=by
 obtain⟨a1,a2,a3,a4,a5,a6,a7,a8,a9,a10,⟨⟩⟩:=m;unfold FQ;simp only[nat6,zbw,zbv,bind_some];apply fin
 ·repeat' first|apply cu|apply bW|apply cO|apply bZ|apply fA
 ·unfold zA;grind
theorem zbh (m:jh) (hm:Kt m):Gq (m,())=some (dec' (zA m),()):=by
 obtain⟨a1,a2,a3,a4,a5,a6,a7,a8,a9,a10,⟨⟩⟩:=m;obtain⟨h4,h5,h7⟩:=hm;unfold Gq;simp only[mM,x8,yT a4 h4,yT a5 h5,jr a7 h7,bind_some];apply fin
 ·repeat' first|apply cu|apply bW|apply cO|apply bZ|apply fA
 ·unfold zA;by_cases c1:a4=[]<;>by_cases c2:a5=[]<;>by_cases c3:a7=[]<;>grind
def wI (h:gG):Prop:=bH h.1∧dO h.2.1∧ql h.2.2.1 15∧vU h.2.2.2.1
def Ku (h:gG):Prop:=zu h.2.2.1∧Sh h.2.2.2.1
theorem zcI (h:gG) (hh:ShH h):FT (h,())=some (dec' (wI h),()):=by
 obtain⟨a1,a2,a3,a4,⟨⟩⟩:=h;have e:=QC a3 a4 hh.1 hh.2;unfold FT;simp only[rZ,VU,e,bind_some];apply fin
 ·repeat' first|apply cu|apply bW|apply cO|apply bZ|apply fA
 ·unfold wI;grind
theorem zbk (h:gG) (hh:Ku h):Gs (h,())=some (dec' (wI h),()):=by
 obtain⟨a1,a2,a3,a4,⟨⟩⟩:=h;have e1:=Q7 a3 15 hh.1;have e2:=Po a4 hh.2;unfold Gs;simp only[qY,x8,e1,e2,bind_some];apply fin
 ·repeat' first|apply cu|apply bW|apply cO|apply bZ|apply fA
 ·unfold wI;grind
abbrev NoV:nV:=(0,0,0,0,[],0,false,())
def zdO (v:nV):Prop:=v=NoV∨fZ v
def zc0 (x:aT):Prop:=(x.1=[]∨IsKey x.1)∧zdO x.2.1
abbrev eF:dD:=(0,0,false,0,[],0,0,())
abbrev kU:jh:=(0,0,0,[],[],0,[],0,0,0,())
abbrev iC:gG:=(0,0,[],[],())
theorem kW {α:Type} {l:List α} (h:l.length≤140737488351232):Sh l:=le_trans h (by omega)
theorem Ju {r:dD} (h:gU T51 r):y8 r:=by
 obtain⟨-,-,-,-,⟨h1,h2⟩,-⟩:=h;exact⟨kW h1,fun x hx=>(h2 x hx).1⟩
theorem TE {l:List dh} (h:gU (.slice T94) l):zu l:=⟨kW h.1,fun s hs=>Ju (h.2 s hs).2.2.1⟩
theorem TG {l:List dh} (h:gU (.slice T94) l):ShS l:=⟨kW h.1,fun s hs=>(Ju (h.2 s hs).2.2.1).1⟩
theorem DZ {c:aQ} (h:gU T28 c):nG c:=by
 obtain⟨k,a2,a3,a4,a5,a6,a7,a8,a9,a10,a11,a12,a13,a14,a15,a16,a17,⟨⟩⟩:=c;obtain⟨-,h2,h3,-,-,-,-,h8,h9,h10,-,-,-,-,h15,h16,h17,-⟩:=h;refine⟨⟨kW h8.1,kW h9.1,kW h10.1,kW h15.1,TG h16,kW h17.1⟩,⟨h8.1,h9.1,h10.1,h16.1,h17.1⟩,h2,h3,fun x hx=>(h8.2 x hx).1,fun o ho=> ?_,fun o ho=> ?_,⟨kW h15.1,fun x hx=>(h15.2 x hx).1⟩,TE h16⟩
 ·obtain⟨-,g1,g2,g3,-⟩:=h9.2 o ho;exact⟨g1,g2,g3⟩
 ·obtain⟨-,g1,g2,g3,-⟩:=h10.2 o ho;exact⟨g1,g2,g3⟩
theorem zdd {c:gG} (h:gU T55 c):Ku c∧ShH c:=by
 obtain⟨a1,a2,a3,a4,⟨⟩⟩:=c;obtain⟨-,-,h3,h4,-⟩:=h;exact⟨⟨TE h3,kW h4.1⟩,TG h3,kW h4.1⟩
theorem zdc {m:jh} (h:gU T53 m):Kt m:=by
 obtain⟨a1,a2,a3,a4,a5,a6,a7,a8,a9,a10,⟨⟩⟩:=m;obtain⟨-,-,-,h4,h5,-,h7,-⟩:=h;exact⟨h4,h5,h7⟩
abbrev fD:aQ:=(0,[],[],[],0,0,0,[],[],[],0,0,0,false,[],[],[],())
abbrev gQ:lT:=(0,0,fD,())
def Plain (c:aQ):Prop:=(∀ x∈c.2.2.2.2.2.2.2.2.2.2.2.2.2.2.1,zc0 x)∧∀ s∈c.2.2.2.2.2.2.2.2.2.2.2.2.2.2.2.1,mV s.2.2.1
theorem Hu {c:aQ} (h:gy c):1≤c.1∧c.1≤16:=by
 have hk:=h.2;unfold iI at hk;omega
theorem Y9 {c:aQ} (h:gy c):qm c.2.2.2.2.2.2.2.1:=by
 obtain⟨hb,hk⟩:=h;rcases hb.2.2.2.2.2.2.1 with hb|hb
 ·unfold iI at hk;simp only[hb] at hk;simp at hk;exact hk.1
 ·rw[hb.1];exact⟨fun x hx=>by simp at hx,by simp⟩
theorem TN:ku []:=⟨fun i v hv=>by simp at hv,by simp⟩
theorem Qb {c:aQ} (h:gy c):ku c.2.2.2.2.2.2.2.2.1∧ku c.2.2.2.2.2.2.2.2.2.1:=by
 obtain⟨hb,hk⟩:=h;rcases hb.2.2.2.2.2.2.1 with hb|hb
 ·unfold iI at hk;simp only[hb] at hk;simp at hk;exact hk.2
 ·rw[hb.2.1,hb.2.2];exact⟨TN,TN⟩
theorem Yt {c:aQ} (h:gy c):(∀ x∈c.2.2.2.2.2.2.2.2.2.2.2.2.2.2.1,jw x)∧c.2.2.2.2.2.2.2.2.2.2.2.2.2.2.1.length≤64:=by
 obtain⟨hb,hk⟩:=h;rcases hb.2.2.2.2.2.2.2.2.2.2.2.1 with hb|hb|hb
 ·unfold iI at hk;simp only[hb] at hk;simp at hk;obtain⟨-,-,-,-,h1,h2⟩:=hk;refine⟨fun x hx=> ?_,by omega⟩;obtain⟨i,hi⟩:=mem_iff_getElem?.1 hx;exact⟨(h2 i x hi).1,(h2 i x hi).2.1⟩
 ·unfold iI at hk;simp only[hb] at hk;simp at hk;obtain⟨-,-,-,-,-,h1,h2⟩:=hk;refine⟨fun x hx=> ?_,h1⟩;obtain⟨i,hi⟩:=mem_iff_getElem?.1 hx;exact⟨(h2 i x hi).1,(h2 i x hi).2.1⟩
 ·rw[hb];exact⟨fun x hx=>by simp at hx,by simp⟩
theorem Ph {c:aQ} (h:gy c):ql c.2.2.2.2.2.2.2.2.2.2.2.2.2.2.2.1 15∧vU c.2.2.2.2.2.2.2.2.2.2.2.2.2.2.2.2.1:=by
 obtain⟨hb,hk⟩:=h;rcases hb.2.2.2.2.2.2.2.2.2.2.2.2 with hb|hb
 ·unfold iI at hk;simp only[hb] at hk;simp at hk;exact hk.2.2.2
 ·rw[hb.1,hb.2];exact⟨fun i v hv=>by simp at hv,fun i v hv=>by simp at hv,by simp⟩
theorem O7 {l:List dh} {m:Int} (h:ql l m):∀ s∈l,mV s.2.2.1:=fun s hs=>by
 obtain⟨i,hi⟩:=mem_iff_getElem?.1 hs;exact(h i s hi).2.2.2.1
theorem nO:ShC fD:=by
 refine⟨?_,?_,?_,?_,⟨?_,fun s hs=>by simp at hs⟩,?_⟩<;>simp[Sh]
theorem yH {α R:Type} (l:List α) (hl:Sh l) {step:Int×Int×Unit→Option ((Int×Int×Unit)⊕R)} (Q:R→Prop)
  (h:∀ (n:Int) (i:Nat) v,i<l.length→l[i]? = some v→(∃ m,step (n,(i:Int),())=some (.inl (m,((i+1:Nat):Int),())))∨∃ r,step (n,(i:Int),())=some (.inr r)∧Q r)
  (hK:∀ n,∃ r,step (n,(l.length:Int),())=some (.inr r)∧Q r) (n:Int):∃ r,aO (Int×Int×Unit) R step big (n,0,())=some r∧Q r:=by
 unfold Sh at hl;refine pW (step:=step) (n:=big) (t:=(n,0,())) (I:=fun t=>∃ (m:Int) (i:Nat),t=(m,(i:Int),())∧i≤l.length) (μ:=fun t=>l.length-t.2.1.toNat) (Q:=fun _ r=>Q r) (fun t ht=> ?_) ⟨n,0,rfl,zero_le _⟩ (by rw[iT];simp only[Int.toNat_zero];omega);obtain⟨m,i,rfl,hi⟩:=ht;by_cases hlt:i<l.length
 ·rcases h m i _ hlt (getElem?_eq_getElem hlt) with⟨m',h1⟩|⟨r,h1,h2⟩
  ·refine .inr ⟨_,h1,⟨m',i+1,rfl,hlt⟩,?_,fun r h=>h⟩;simp only[toNat_natCast];omega
  ·exact .inl ⟨r,h1,h2⟩
 ·have:i=l.length:=by omega
  subst this;obtain⟨r,h1,h2⟩:=hK m;exact .inl ⟨r,h1,h2⟩
theorem UX {X:Option (Bool×Unit)} {Q:Bool×Unit→Prop} {P:Bool→Prop} (h:∃ r,X=some r∧Q r) (h2:∀ z,Q (z,())→P z):∃ z,X=some (z,())∧P z:=by
 obtain⟨⟨z,⟨⟩⟩,h1,h3⟩:=h;exact⟨z,h1,h2 z h3⟩
theorem zk {R T:Type} {X:Option R} {Q:R→Prop} (h:∃ r,X=some r∧Q r):∃ r,(Option.map Sum.inr X:Option (T⊕R))=some (Sum.inr r)∧Q r:=by
 obtain⟨r,h1,h3⟩:=h;exact⟨r,by rw[h1];rfl,h3⟩
theorem zaH {h:gG} (hm:kG T55 h):h.2.2.1.length≤1800000000000:=by
 obtain⟨-,-,h3,-⟩:=hm;have h3:h.2.2.1.length*81≤140737488351232:=h3.1;omega
abbrev Ent:Type:=Int×Int×List UInt8×Unit
def Num (n:Int):Prop:=1≤n∧n≤1099511627776
def lK (e:Ent):Prop:=Num e.1∧Num e.2.1∧e.2.2.1.length≤12000
theorem Ou (n:Int):uT (n,())=some (decide (Num n),()):=by
 unfold uT Num;by_cases h:1≤n<;>simp[h]
theorem BK (n:Int):uS (n,())=some (decide (Num n),()):=by
 unfold uS Num;by_cases h:1≤n<;>simp[h]
theorem YI (e:Ent):Ba (e,())=some (decide (lK e),()):=by
 obtain⟨a,b,s,⟨⟩⟩:=e;unfold Ba lK;simp only[Ou,bind_some];by_cases h1:Num a<;>by_cases h2:Num b<;>simp[h1,h2]<;>omega
theorem Yy (e:Ent):AY (e,())=some (decide (lK e),()):=by
 obtain⟨a,b,s,⟨⟩⟩:=e;unfold AY lK;simp only[BK,bind_some];by_cases h1:Num a<;>by_cases h2:Num b<;>simp[h1,h2]<;>omega
noncomputable def kZ:Int→Int→List Ent→Bool
 | _,_,[]=>true
 | i,t,e::r=>bif decide (lK e∧e.1-1=i∧t≤e.2.1) then kZ e.1 e.2.1 r else false
def yQ (l:List Ent):Int×Int×Int×Unit→Option ((Int×Int×Int×Unit)⊕(Bool×Unit)):=fun x_1=>
   bif decide (x_1.snd.snd.fst<ofNat (length l)) then
    Option.bind (idx l x_1.snd.snd.fst) fun(b:Ent)=>
     Option.bind (Ba (b,())) fun(b_1:Bool×Unit)=>
      bif !b_1.fst then some (Sum.inr (false,()))
      else
       bif !decide (wrap64 (b.fst-1)=x_1.fst) then some (Sum.inr (false,()))
       else
        bif decide (b.snd.fst<x_1.snd.fst) then some (Sum.inr (false,()))
        else some (inl (b.fst,b.snd.fst,wrap64 (x_1.snd.snd.fst+1),()))
   else some (Sum.inr (true,()))
theorem Yq (l:List Ent) (i t:Int):yQ l (i,t,(l.length:Int),())=some (.inr (true,())):=by
 unfold yQ;simp
theorem Y8 (l:List Ent) (k:Nat) (hlt:k<l.length) (hk:k<9223372036854775807) (i t:Int):yQ l (i,t,(k:Int),()) =
  bif decide (lK l[k]∧(l[k]).1-1=i∧t≤(l[k]).2.1) then some (.inl ((l[k]).1,(l[k]).2.1,((k+1:Nat):Int),())) else some (.inr (false,())):=by
 unfold yQ;simp only[aC,hlt,decide_true,cond_true,aN,getElem?_eq_getElem hlt,bind_some,YI,aX hk];by_cases h1:lK l[k]
 ·have e1:wrap64 ((l[k]).1-1)=(l[k]).1-1:=eU (by have:=h1.1.1;omega) (by have:=h1.1.2;omega);simp only[h1,decide_true,Bool.not_true,cond_false,e1,true_and];by_cases h2:(l[k]).1-1=i
  ·simp only[h2,decide_true,Bool.not_true,cond_false,true_and];by_cases h3:(l[k]).2.1<t
   ·have:¬ t≤(l[k]).2.1:=by omega
    simp only[h3,this,decide_true,decide_false,cond_true,cond_false]
   ·have h3':t≤(l[k]).2.1:=by omega
    simp only[h3,h3',decide_false,decide_true,cond_false,cond_true]
  ·simp only[h2,false_and,decide_false,Bool.not_false,cond_true,cond_false]
 ·simp only[h1,false_and,decide_false,Bool.not_false,cond_true,cond_false]
theorem zde (l:List Ent) (hl:l.length≤9223372036854775806) (i t:Int):NL (i,t,l,())=some (kZ i t l,()):=by
 have main:∀ (d k m:Nat) (i t:Int),k+d=l.length→d<m→iter (yQ l) m (i,t,(k:Int),())=some (kZ i t (l.drop k),()):=by
  intro d;induction d with
  | zero=>
   intro k m i t hk hm;cases m with
   | zero=>omega
   | succ m=>
    have:k=l.length:=by omega
    subst this;simp only[iter,Yq,drop_length,kZ,bind_some,elim_inr]
  | succ d ih=>
   intro k m i t hk hm;cases m with
   | zero=>omega
   | succ m=>
    have hlt:k<l.length:=by omega
    have:=ih (k+1) m (l[k]).1 (l[k]).2.1 (by omega) (by omega);rw[drop_eq_getElem_cons hlt];simp only[iter,Y8 l k hlt (by omega),kZ];cases decide (lK l[k]∧(l[k]).1-1=i∧t≤(l[k]).2.1) with
    | true=>exact this
    | false=>rfl
 exact main l.length 0 big i t (by omega) (by rw[iT];omega)
def yS (index:Int) (l:List Ent):Int×Int×Unit→Option ((Int×Int×Unit)⊕(Bool×Unit)):=fun x_1=>
   bif decide (x_1.snd.fst<ofNat (length l)) then
    Option.bind (idx l x_1.snd.fst) fun(b:Ent)=>
     Option.bind (AY (b,())) fun(b:Bool×Unit)=>
      bif !b.fst then some (Sum.inr (false,()))
      else
       Option.bind (idx l x_1.snd.fst) fun(b:Ent)=>
        bif decide (b.snd.fst<x_1.fst) then some (Sum.inr (false,()))
        else
         Option.bind
          (bif decide (x_1.snd.fst=0) then
           bif decide (index<0) then some (Sum.inr (Sum.inr (false,())))
           else
            bif decide (1099511627776≤index) then some (Sum.inr (Sum.inr (false,())))
            else
             Option.bind (idx l x_1.snd.fst) fun(b:Ent)=>
              bif !decide (b.fst=wrap64 (index+1)) then
               some (Sum.inr (Sum.inr (false,())))
              else
               bif decide (0<x_1.snd.fst) then
                Option.bind (idx l x_1.snd.fst) fun(b:Ent)=>
                 Option.bind (idx l (wrap64 (x_1.snd.fst-1)))
                  fun(b_1:Ent)=>
                  bif !decide (b.fst=wrap64 (b_1.fst+1)) then
                   some (Sum.inr (Sum.inr (false,())))
                  else some (inl ())
               else some (inl ())
          else
           bif decide (0<x_1.snd.fst) then
            Option.bind (idx l x_1.snd.fst) fun(b:Ent)=>
             Option.bind (idx l (wrap64 (x_1.snd.fst-1)))
              fun(b_1:Ent)=>
              bif !decide (b.fst=wrap64 (b_1.fst+1)) then
               some (Sum.inr (Sum.inr (false,())))
              else some (inl ())
           else some (inl ()))
          fun(o:Unit⊕(Int×Int×Unit)⊕Bool×Unit)=>
          Sum.elim
           (fun(_x_2:Unit)=>Option.bind (idx l x_1.snd.fst) fun(b:Ent)=>some (inl (b.snd.fst,wrap64 (x_1.snd.fst+1),())))
           (fun(val:(Int×Int×Unit)⊕Bool×Unit)=>some val) o
   else some (Sum.inr (true,()))
theorem Yw (index:Int) (l:List Ent) (t:Int):yS index l (t,(l.length:Int),())=some (.inr (true,())):=by
 unfold yS;simp
def prev (index:Int) (l:List Ent) (k:Nat):Int:=match k with
 | 0=>index
 | k+1=>(l.getD k (0,0,[],())).1
theorem Zd (index:Int) (l:List Ent) (k:Nat) (hlt:k<l.length) (hk:k<9223372036854775807) (hp:0<k→Num (prev index l k)) (t:Int):yS index l (t,(k:Int),()) =
  bif decide (lK l[k]∧(l[k]).1-1=prev index l k∧t≤(l[k]).2.1) then some (.inl ((l[k]).2.1,((k+1:Nat):Int),())) else some (.inr (false,())):=by
 unfold yS;simp only[aC,hlt,decide_true,cond_true,aN,getElem?_eq_getElem hlt,bind_some,Yy,aX hk];by_cases h1:lK l[k]
 ·simp only[h1,decide_true,Bool.not_true,cond_false,true_and];have hr:=h1.1;unfold Num at hr;by_cases h3:(l[k]).2.1<t
  ·have:¬ t≤(l[k]).2.1:=by omega
   simp only[h3,this,and_false,decide_true,decide_false,cond_true,cond_false]
  ·have h3':t≤(l[k]).2.1:=by omega
   simp only[h3,h3',and_true,decide_false,cond_false];cases k with
   | zero=>
    simp only[prev,Int.natCast_zero,decide_true,cond_true,Int.lt_irrefl,decide_false,cond_false];by_cases c1:index<0
    ·have:¬ ((l[0]).1-1=index):=by omega
     simp[c1,this]
    ·by_cases c2:1099511627776≤index
     ·have:¬ ((l[0]).1-1=index):=by omega
      simp[c1,c2,this]
     ·have e:wrap64 (index+1)=index+1:=eU (by omega) (by omega);by_cases c3:(l[0]).1=index+1
      ·have:(l[0]).1-1=index:=by omega
       simp[c1,c2,e,c3]
      ·have:¬ ((l[0]).1-1=index):=by omega
       simp[c1,c2,e,c3,this]
   | succ j=>
    have hj:j<l.length:=by omega
    have hp':Num (l[j]).1:=by simpa[prev,getD_eq_getElem?_getD,getElem?_eq_getElem hj] using hp (by omega)
    have e0:decide (((j+1:Nat):Int)=0)=false:=decide_eq_false (by omega);have e1:decide ((0:Int)<((j+1:Nat):Int))=true:=decide_eq_true (by omega);have e2:wrap64 (((j+1:Nat):Int)-1)=(j:Int):=by rw[eU (by omega) (by omega)];omega
    have e3:wrap64 ((l[j]).1+1)=(l[j]).1+1:=eU (by have:=hp'.1;omega) (by have:=hp'.2;omega);have e4:prev index l (j+1)=(l[j]).1:=by simp[prev,getD_eq_getElem?_getD,getElem?_eq_getElem hj]
    simp only[e0,e1,e2,e4,aN,getElem?_eq_getElem hj,bind_some,cond_true,cond_false,e3];by_cases c3:(l[j+1]).1=(l[j]).1+1
    ·have:(l[j+1]).1-1=(l[j]).1:=by omega
     simp only[c3,decide_true,Bool.not_true,cond_false,bind_some,elim_inl];have:(l[j]).1+1-1=(l[j]).1:=by omega
     simp only[this,decide_true,cond_true]
    ·have:¬ ((l[j+1]).1-1=(l[j]).1):=by omega
     simp only[c3,this,decide_false,Bool.not_false,cond_true,cond_false,bind_some,elim_inr]
 ·simp only[h1,false_and,decide_false,Bool.not_false,cond_true,cond_false]
theorem zaf (index:Int) (l:List Ent) (hl:l.length≤9223372036854775806) (t:Int):NJ (index,t,l,())=some (kZ index t l,()):=by
 have main:∀ (d k m:Nat) (t:Int),k+d=l.length→d<m→(0<k→Num (prev index l k))→iter (yS index l) m (t,(k:Int),())=some (kZ (prev index l k) t (l.drop k),()):=by
  intro d;induction d with
  | zero=>
   intro k m t hk hm _;cases m with
   | zero=>omega
   | succ m=>
    have:k=l.length:=by omega
    subst this;simp only[iter,Yw,drop_length,kZ,bind_some,elim_inr]
  | succ d ih=>
   intro k m t hk hm hp;cases m with
   | zero=>omega
   | succ m=>
    have hlt:k<l.length:=by omega
    have e4:prev index l (k+1)=(l[k]).1:=by simp[prev,getD_eq_getElem?_getD,getElem?_eq_getElem hlt]
    rw[drop_eq_getElem_cons hlt];simp only[iter,Zd index l k hlt (by omega) hp,kZ];by_cases hc:lK l[k]∧(l[k]).1-1=prev index l k∧t≤(l[k]).2.1
    ·have:=ih (k+1) m (l[k]).2.1 (by omega) (by omega) (fun _=>by rw[e4];exact hc.1.1);rw[e4] at this;simp only[hc,and_self,decide_true,cond_true,bind_some,elim_inl];exact this
    ·simp only[hc,decide_false,cond_false,bind_some,elim_inr]
 exact main l.length 0 big t (by omega) (by rw[iT];omega) (fun h=>absurd h (by omega))
theorem Z8 (x:Ent×Unit):FX x=mG x:=by
 unfold FX mG;simp only[Ou,BK]
theorem Sz (x:Ent×Unit):∃ b,mG x=some (b,()):=by
 unfold mG;simp only[BK,bind_some];cases decide (x.fst.fst=0)<;>cases decide (x.fst.snd.fst=0)<;>cases decide (Num x.fst.fst)<;>cases decide (Num x.fst.snd.fst)<;>exact⟨_,rfl⟩
theorem TP (a b:Ent):AP (a,b,())=some (decide (a=b),()):=by
 obtain⟨a1,a2,a3,⟨⟩⟩:=a;obtain⟨b1,b2,b3,⟨⟩⟩:=b;unfold AP;by_cases h1:a1=b1<;>by_cases h2:a2=b2<;>by_cases h3:a3=b3<;>simp[h1,h2,h3]
theorem zfd (a b:Ent):Ff (a,b,())=some (decide (a=b),()):=by
 rw[←TP];rfl
def uf (a b:List Ent) (f:Ent×Ent×Unit→Option (Bool×Unit)):Int×Unit→Option ((Int×Unit)⊕(Bool×Unit)):=fun x_1=>
        bif decide (x_1.fst<ofNat (length a)) then
         Option.bind (idx a x_1.fst) fun(x:Ent)=>
          Option.bind (idx b x_1.fst) fun(y:Ent)=>
           Option.bind (f (x,y,())) fun(b:Bool×Unit)=>
            bif !b.fst then some (Sum.inr (false,()))
            else some (inl (wrap64 (x_1.fst+1),()))
        else some (Sum.inr (true,()))
theorem N8 (a b:List Ent) (f:Ent×Ent×Unit→Option (Bool×Unit)) (hf:∀ x y,f (x,y,())=some (decide (x=y),())) (hl:a.length=b.length) (ha:a.length≤9223372036854775806) :
  ∀ (d k m:Nat),k+d=a.length→d<m→iter (uf a b f) m ((k:Int),())=some (decide (a.drop k=b.drop k),()):=by
 intro d;induction d with
 | zero=>
  intro k m hk hm;cases m with
  | zero=>omega
  | succ m=>
   have:k=a.length:=by omega
   have e:uf a b f ((k:Int),())=some (.inr (true,())):=by
    unfold uf;have:¬ k<a.length:=by omega
    simp only[aC,this,decide_false,cond_false]
   have e2:a.drop k=[]:=List.drop_of_length_le (by omega);have e3:b.drop k=[]:=List.drop_of_length_le (by omega);simp only[iter,e,e2,e3,decide_true,bind_some,elim_inr]
 | succ d ih=>
  intro k m hk hm;cases m with
  | zero=>omega
  | succ m=>
   have h1:k<a.length:=by omega
   have h2:k<b.length:=by omega
   have:=ih (k+1) m (by omega) (by omega);rw[drop_eq_getElem_cons h1,drop_eq_getElem_cons h2];by_cases h:a[k]=b[k]
   ·have e:uf a b f ((k:Int),())=some (.inl (((k+1:Nat):Int),())):=by
     unfold uf;simp only[aC,h1,decide_true,cond_true,aN,getElem?_eq_getElem h1,getElem?_eq_getElem h2,bind_some,hf,h,Bool.not_true,cond_false,aX (show k<9223372036854775807 by omega)]
    simp only[iter,e,bind_some,elim_inl];rw[this];have:(a[k]::a.drop (k+1)=b[k]::b.drop (k+1))=(a.drop (k+1)=b.drop (k+1)):=by rw[List.cons.injEq];simp[h]
    simp only[this]
   ·have e:uf a b f ((k:Int),())=some (.inr (false,())):=by
     unfold uf;simp only[aC,h1,decide_true,cond_true,aN,getElem?_eq_getElem h1,getElem?_eq_getElem h2,bind_some,hf,h,decide_false,Bool.not_false]
    have hn:¬ (a[k]::a.drop (k+1)=b[k]::b.drop (k+1)):=fun hh=>h (List.cons.inj hh).1;simp only[iter,e,hn,decide_false,bind_some,elim_inr]
theorem Rt (a b:List Ent):decide (ofNat a.length=ofNat b.length)=decide (a.length=b.length):=by
 rw[decide_eq_decide];exact Int.ofNat_inj
theorem Ze (a b:List Ent) (ha:a.length≤9223372036854775806):Fq (a,b,())=some (decide (a=b),()):=by
 unfold Fq;simp only[Rt];by_cases h:a.length=b.length
 ·simp only[h,decide_true,Bool.not_true,cond_false];rw[←h];exact N8 a b AP TP h ha a.length 0 big (by omega) (by rw[iT];omega)
 ·have:¬ a=b:=fun e=>h (by rw[e]);simp only[h,this,decide_false,Bool.not_false,cond_true]
theorem same_eq (a b:List Ent) (ha:a.length≤9223372036854775806):Fz (a,b,())=some (decide (a=b),()):=by
 unfold Fz LD;simp only[Rt];by_cases h:a.length=b.length
 ·simp only[h,decide_true,Bool.not_true,cond_false];rw[←h];exact aF (N8 a b Ff zfd h ha a.length 0 big (by omega) (by rw[iT];omega)) rfl
 ·have:¬ a=b:=fun e=>h (by rw[e]);simp only[h,this,decide_false,Bool.not_false,cond_true,bind_some]
def Td (l:List Ent) (n:Int):Int×Int×Unit→Option ((Int×Int×Unit)⊕(Bool×Unit)):=fun(x_1:Int×Int×Unit)=>
   bif decide (x_1.snd.fst<ofNat (length l)) then
    Option.bind (idx l x_1.snd.fst) fun(b:Ent)=>
     bif decide (n≤x_1.snd.fst) then some (Sum.inr (false,()))
     else
      bif decide (40000<wrap64 (x_1.fst+ofNat (length b.snd.snd.fst))) then
       some (Sum.inr (false,()))
      else
       some
        (inl
         (wrap64 (x_1.fst+ofNat (length b.snd.snd.fst)),
          wrap64 (x_1.snd.fst+1),()))
   else some (Sum.inr (true,()))
theorem zdH (l:List Ent) (q:Nat) (hl:l.length≤9223372036854775806):∃ b,F90 (l,(q:Int),())=some (b,())∧(b=true→l.length≤q):=by
 obtain⟨r,h,hq⟩:=pW (step:=Td l q) (I:=fun t=>∃ (i:Nat) (a:Int),i≤l.length∧i≤q∧t=(a,(i:Int),())) (μ:=fun t=>l.length-t.2.1.toNat) (Q:=fun _ r=>r.1=true→l.length≤q) (fun t ht=>by
    obtain⟨i,a,hi,h40,rfl⟩:=ht;unfold Td;by_cases h:i<l.length
    ·simp only[aC,h,decide_true,cond_true,aN,getElem?_eq_getElem h,bind_some];by_cases hn:(q:Int)≤(i:Int)
     ·simp only[hn,decide_true,cond_true];exact .inl ⟨_,rfl,fun h=>noConfusion h⟩
     ·simp only[hn,decide_false,cond_false];cases decide (40000<wrap64 (a+ofNat (l[i].2.2.1).length)) with
      | true=>exact .inl ⟨_,rfl,fun h=>noConfusion h⟩
      | false=>right;rw[aX (show i<9223372036854775807 by omega)];exact⟨_,rfl,⟨i+1,_,h,by omega,rfl⟩,by simp only[toNat_natCast];omega,fun _ h=>h⟩
    ·left;have:i=l.length:=by omega
     subst this;exact⟨(true,()),by simp,fun _=>h40⟩) (n:=big) (t:=(0,0,())) ⟨0,0,zero_le _,zero_le _,rfl⟩ (by rw[iT];simp;omega)
 obtain⟨b,⟨⟩⟩:=r;exact⟨b,h,hq⟩
abbrev Msg:Type:=Int×Int×Int×Int×Int×Int×Int×Int×Bool×List Ent×Ent×Unit
theorem RZ {α:Type} (x:Option α):Option.bind x (fun b=>some b)=x:=by cases x<;>rfl
def nU:List Bool→Option (Bool×Unit)
 | []=>some (true,())
 | [a]=>some (a,())
 | a::b::r=>bif a then nU (b::r) else some (false,())
theorem Tv:∀ l:List Bool,nU l=some (l.all id,())
 | []=>rfl
 | [a]=>by simp[nU]
 | a::b::r=>by
  have:=Tv (b::r);cases a
  ·rfl
  ·exact this
theorem Jc (a b:Msg) (ha:a.2.2.2.2.2.2.2.2.2.1.length≤9223372036854775806):xI (a,b,())=some (decide (a=b),()):=by
 obtain⟨a1,a2,a3,a4,a5,a6,a7,a8,a9,aE,⟨s1,s2,s3,⟨⟩⟩,⟨⟩⟩:=a;obtain⟨b1,b2,b3,b4,b5,b6,b7,b8,b9,bE,⟨t1,t2,t3,⟨⟩⟩,⟨⟩⟩:=b;unfold xI Bc;simp only[same_eq aE bE ha,bind_some,yZ];by_cases h1:a1=b1
 case neg=>simp[h1]
 by_cases h2:a2=b2
 case neg=>simp[h1,h2]
 by_cases h3:a3=b3
 case neg=>simp[h1,h2,h3]
 by_cases h4:a4=b4
 case neg=>simp[h1,h2,h3,h4]
 by_cases h5:a5=b5
 case neg=>simp[h1,h2,h3,h4,h5]
 by_cases h6:a6=b6
 case neg=>simp[h1,h2,h3,h4,h5,h6]
 by_cases h7:a7=b7
 case neg=>simp[h1,h2,h3,h4,h5,h6,h7]
 by_cases h8:a8=b8
 case neg=>simp[h1,h2,h3,h4,h5,h6,h7,h8]
 by_cases h9:a9=b9
 case neg=>simp[h1,h2,h3,h4,h5,h6,h7,h8,h9]
 by_cases hE:aE=bE
 case neg=>simp[h1,h2,h3,h4,h5,h6,h7,h8,h9,hE]
 subst h1 h2 h3 h4 h5 h6 h7 h8 h9 hE;by_cases k1:s1=t1<;>by_cases k2:s2=t2<;>by_cases k3:s3=t3<;>simp[k1,k2,k3]
theorem Yx (a b:Msg) (ha:a.2.2.2.2.2.2.2.2.2.1.length≤9223372036854775806):FP (a,b,())=some (decide (a=b),()):=by
 rw[←Jc a b ha];obtain⟨a1,a2,a3,a4,a5,a6,a7,a8,a9,aE,⟨s1,s2,s3,⟨⟩⟩,⟨⟩⟩:=a;obtain⟨b1,b2,b3,b4,b5,b6,b7,b8,b9,bE,⟨t1,t2,t3,⟨⟩⟩,⟨⟩⟩:=b;unfold xI FP Bc NI;simp only[same_eq aE bE ha,Ze aE bE ha,bind_some,RZ]
def jI (m:Msg):Msg:=
 if m.1=1∨m.1=3 then(m.1,m.2.1,m.2.2.1,m.2.2.2.1,m.2.2.2.2.1,m.2.2.2.2.2.1,0,0,false,[],(0,0,[],()),())
 else if m.1=2∨m.1=4 then(m.1,m.2.1,m.2.2.1,m.2.2.2.1,0,0,0,0,m.2.2.2.2.2.2.2.2.1,[],(0,0,[],()),())
 else if m.1=5 then(m.1,m.2.1,m.2.2.1,m.2.2.2.1,m.2.2.2.2.1,m.2.2.2.2.2.1,m.2.2.2.2.2.2.1,m.2.2.2.2.2.2.2.1,false,m.2.2.2.2.2.2.2.2.2.1,(0,0,[],()),())
 else if m.1=6 then(m.1,m.2.1,m.2.2.1,m.2.2.2.1,m.2.2.2.2.1,0,0,m.2.2.2.2.2.2.2.1,m.2.2.2.2.2.2.2.2.1,[],(0,0,[],()),())
 else(m.1,m.2.1,m.2.2.1,m.2.2.2.1,0,0,0,0,false,[],m.2.2.2.2.2.2.2.2.2.2.1,())
theorem H7 {k:Int} (h1:1≤k) (h2:k≤7):k=1∨k=2∨k=3∨k=4∨k=5∨k=6∨k=7:=by omega
theorem Zr (m:Msg) (h:1≤m.1∧m.1≤7):Bo (m,())=some (jI m,true,()):=by
 obtain⟨a1,a2,a3,a4,a5,a6,a7,a8,a9,aE,s,⟨⟩⟩:=m;rcases H7 h.1 h.2 with h|h|h|h|h|h|h<;>(subst h;rfl)
theorem zbG (m:Msg) (h:¬ (1≤m.1∧m.1≤7)):∃ z,Bo (m,())=some (z,false,()):=by
 obtain⟨a1,a2,a3,a4,a5,a6,a7,a8,a9,aE,s,⟨⟩⟩:=m;have h1:decide (a1=1)=false:=decide_eq_false (fun e=>h (by subst e;exact⟨(by decide:(1:Int)≤1),(by decide:(1:Int)≤7)⟩));have h2:decide (a1=2)=false:=decide_eq_false (fun e=>h (by subst e;exact⟨(by decide:(1:Int)≤2),(by decide:(2:Int)≤7)⟩));have h3:decide (a1=3)=false:=decide_eq_false (fun e=>h (by subst e;exact⟨(by decide:(1:Int)≤3),(by decide:(3:Int)≤7)⟩));have h4:decide (a1=4)=false:=decide_eq_false (fun e=>h (by subst e;exact⟨(by decide:(1:Int)≤4),(by decide:(4:Int)≤7)⟩));have h5:decide (a1=5)=false:=decide_eq_false (fun e=>h (by subst e;exact⟨(by decide:(1:Int)≤5),(by decide:(5:Int)≤7)⟩));have h6:decide (a1=6)=false:=decide_eq_false (fun e=>h (by subst e;exact⟨(by decide:(1:Int)≤6),(by decide:(6:Int)≤7)⟩));have h7:decide (a1=7)=false:=decide_eq_false (fun e=>h (by subst e;exact⟨(by decide:(1:Int)≤7),(by decide:(7:Int)≤7)⟩));unfold Bo;simp only[h1,h2,h3,h4,h5,h6,h7,cond_false,bind_some,elim_inr];exact⟨_,rfl⟩
theorem ZK (m:Msg) (h:1≤m.1∧m.1≤7):Bi (m,())=some (decide (jI m=m),()):=by
 obtain⟨a1,a2,a3,a4,a5,a6,a7,a8,a9,aE,⟨s1,s2,s3,⟨⟩⟩,⟨⟩⟩:=m;have hz:∀ {α:Type} (l:List α),decide (ofNat l.length=0)=decide (l=[]):=fun l=>by
  rw[decide_eq_decide];cases l
  ·simp
  ·simp;omega
 have hn:∀ l:List Bool,∀ p:Prop,[Decidable p]→(l.all id=true↔p)→nU l=some (decide p,()):=fun l p _ hp=>by rw[Tv];congr 2;rw[Bool.eq_iff_iff,hp,decide_eq_true_iff]
 rcases H7 h.1 h.2 with h|h|h|h|h|h|h<;>subst h
 ·show nU [decide (a7=0),decide (ofNat aE.length=0),decide (a8=0),!a9,decide (s1=0),decide (s2=0),decide (ofNat s3.length=0)]=_;apply hn;simp only[hz];rw[show jI (1,a2,a3,a4,a5,a6,a7,a8,a9,aE,(s1,s2,s3,()),())=(1,a2,a3,a4,a5,a6,0,0,false,[],(0,0,[],()),()) from rfl];constructor
  ·intro h;simp at h;obtain⟨rfl,rfl,rfl,rfl,rfl,rfl,rfl⟩:=h;rfl
  ·intro h;cases h;rfl
 ·show nU [decide (a5=0),decide (a6=0),decide (a7=0),decide (ofNat aE.length=0),decide (a8=0),decide (s1=0),decide (s2=0),decide (ofNat s3.length=0)]=_;apply hn;simp only[hz];rw[show jI (2,a2,a3,a4,a5,a6,a7,a8,a9,aE,(s1,s2,s3,()),())=(2,a2,a3,a4,0,0,0,0,a9,[],(0,0,[],()),()) from rfl];constructor
  ·intro h;simp at h;obtain⟨rfl,rfl,rfl,rfl,rfl,rfl,rfl,rfl⟩:=h;rfl
  ·intro h;cases h;rfl
 ·show nU [decide (a7=0),decide (ofNat aE.length=0),decide (a8=0),!a9,decide (s1=0),decide (s2=0),decide (ofNat s3.length=0)]=_;apply hn;simp only[hz];rw[show jI (3,a2,a3,a4,a5,a6,a7,a8,a9,aE,(s1,s2,s3,()),())=(3,a2,a3,a4,a5,a6,0,0,false,[],(0,0,[],()),()) from rfl];constructor
  ·intro h;simp at h;obtain⟨rfl,rfl,rfl,rfl,rfl,rfl,rfl⟩:=h;rfl
  ·intro h;cases h;rfl
 ·show nU [decide (a5=0),decide (a6=0),decide (a7=0),decide (ofNat aE.length=0),decide (a8=0),decide (s1=0),decide (s2=0),decide (ofNat s3.length=0)]=_;apply hn;simp only[hz];rw[show jI (4,a2,a3,a4,a5,a6,a7,a8,a9,aE,(s1,s2,s3,()),())=(4,a2,a3,a4,0,0,0,0,a9,[],(0,0,[],()),()) from rfl];constructor
  ·intro h;simp at h;obtain⟨rfl,rfl,rfl,rfl,rfl,rfl,rfl,rfl⟩:=h;rfl
  ·intro h;cases h;rfl
 ·show nU [!a9,decide (s1=0),decide (s2=0),decide (ofNat s3.length=0)]=_;apply hn;simp only[hz];rw[show jI (5,a2,a3,a4,a5,a6,a7,a8,a9,aE,(s1,s2,s3,()),())=(5,a2,a3,a4,a5,a6,a7,a8,false,aE,(0,0,[],()),()) from rfl];constructor
  ·intro h;simp at h;obtain⟨rfl,rfl,rfl,rfl⟩:=h;rfl
  ·intro h;cases h;rfl
 ·show nU [decide (a6=0),decide (a7=0),decide (ofNat aE.length=0),decide (s1=0),decide (s2=0),decide (ofNat s3.length=0)]=_;apply hn;simp only[hz];rw[show jI (6,a2,a3,a4,a5,a6,a7,a8,a9,aE,(s1,s2,s3,()),())=(6,a2,a3,a4,a5,0,0,a8,a9,[],(0,0,[],()),()) from rfl];constructor
  ·intro h;simp at h;obtain⟨rfl,rfl,rfl,rfl,rfl,rfl⟩:=h;rfl
  ·intro h;cases h;rfl
 ·show nU [decide (a5=0),decide (a6=0),decide (a7=0),decide (ofNat aE.length=0),decide (a8=0),!a9,true]=_;apply hn;simp only[hz];rw[show jI (7,a2,a3,a4,a5,a6,a7,a8,a9,aE,(s1,s2,s3,()),())=(7,a2,a3,a4,0,0,0,0,false,[],(s1,s2,s3,()),()) from rfl];constructor
  ·intro h;simp at h;obtain⟨rfl,rfl,rfl,rfl,rfl,rfl⟩:=h;rfl
  ·intro h;cases h;rfl
theorem zcw (n:Int):Bl (n,())=some (decide (0≤n∧n<3),()):=by
 unfold Bl;by_cases h:0≤n<;>simp[h]
def eY (n:Int):Prop:=0≤n∧n≤1099511627776
theorem Zc (n:Int):tC (n,())=some (decide (eY n),()):=by
 unfold tC eY;by_cases h:0≤n<;>simp[h]
theorem Zk (l:List Int) (hl:l.length≤9223372036854775806):FZ (l,())=some (decide (∀ n∈l,eY n),()):=by
 unfold FZ;have:=qW (step:=fun(x_1:Int×Unit)=>
   bif decide (x_1.fst<ofNat (length l)) then
    Option.bind (idx l x_1.fst) fun(b:Int)=>
     bif decide (b<0) then some (Sum.inr (false,()))
     else
      bif decide (1099511627776<b) then some (Sum.inr (false,()))
      else some (inl (wrap64 (x_1.fst+1),()))
   else some (Sum.inr (true,()))) (mk:=fun i=>((i:Int),())) (n:=l.length) (fun i=>decide (∃ n,l[i]? = some n∧eY n)) (rt:=(true,())) (rf:=(false,())) (by omega) (fun i hi=>by
    simp only[aC,hi,decide_true,cond_true,aN,getElem?_eq_getElem hi,bind_some,aX (show i<9223372036854775807 by omega),Option.some.injEq,exists_eq_left'];unfold eY;by_cases h1:l[i]<0
    ·have:¬ (0≤l[i]∧l[i]≤1099511627776):=by omega
     simp only[h1,this,decide_true,decide_false,cond_true,cond_false]
    ·by_cases h2:1099511627776<l[i]
     ·have:¬ (0≤l[i]∧l[i]≤1099511627776):=by omega
      simp only[h1,h2,this,decide_true,decide_false,cond_true,cond_false]
     ·have:(0≤l[i]∧l[i]≤1099511627776):=by omega
      simp only[h1,h2,this,decide_true,decide_false,cond_true,cond_false,and_self]) (by simp)
 refine Eq.trans this ?_;have e:((range l.length).all fun i=>decide (∃ n,l[i]? = some n∧eY n))=decide (∀ n∈l,eY n):=by
  rw[Bool.eq_iff_iff,all_eq_true,decide_eq_true_iff];constructor
  ·intro h n hn;obtain⟨i,hi,rfl⟩:=getElem_of_mem hn;obtain⟨m,h1,h2⟩:=of_decide_eq_true (h i (mem_range.2 hi));rw[getElem?_eq_getElem hi] at h1;rw[Option.some.inj h1];exact h2
  ·intro h i hi;have hi:=mem_range.1 hi;exact decide_eq_true ⟨_,getElem?_eq_getElem hi,h _ (getElem_mem hi)⟩
 rw[e];cases decide (∀ n∈l,eY n)<;>rfl
noncomputable def uw (m:Msg):Option (Bool×Unit):=aO (Int×Unit) (Bool×Unit)
                 (fun(x_1:Int×Unit)=>
                  bif decide (x_1.fst<ofNat (length m.2.2.2.2.2.2.2.2.2.1)) then
                   Option.bind (idx m.2.2.2.2.2.2.2.2.2.1 x_1.fst)
                    fun(b:Ent)=>
                    bif decide (m.2.2.2.1<b.snd.fst) then
                     some (Sum.inr (false,()))
                    else some (inl (wrap64 (x_1.fst+1),()))
                  else
                   Option.map Sum.inr
                    (bif !decide (m.1=7) then some (true,())
                    else
                     Option.bind (mG m.2.2.2.2.2.2.2.2.2.2)
                      fun(b:Bool×Unit)=>
                      bif b.fst then
                       some
                        (decide (0<m.2.2.2.2.2.2.2.2.2.2.1.1),
                         ())
                      else some (false,())))
                 big (0,())
theorem zch (m:Msg) (hl:m.2.2.2.2.2.2.2.2.2.1.length≤9223372036854775806):∃ b,uw m=some (b,()):=by
 unfold uw;obtain⟨a1,a2,a3,a4,a5,a6,a7,a8,a9,l,s,⟨⟩⟩:=m;have hl':l.length≤9223372036854775806:=hl;obtain⟨sb,hs⟩:=Sz (s,());obtain⟨r,h,_⟩:=pW (T:=Int×Unit) (R:=Bool×Unit) (step:=fun(x_1:Int×Unit)=>
   bif decide (x_1.fst<ofNat (length l)) then
    Option.bind (idx l x_1.fst) fun(b:Ent)=>
     bif decide (a4<b.snd.fst) then some (Sum.inr (false,()))
     else some (inl (wrap64 (x_1.fst+1),()))
   else Option.map Sum.inr
    (bif !decide (a1=7) then some (true,())
    else Option.bind (mG (s,())) fun(b:Bool×Unit)=>bif b.fst then some (decide (0<s.1),()) else some (false,()))) (I:=fun t=>∃ (i:Nat),i≤l.length∧t=((i:Int),())) (μ:=fun t=>l.length-t.1.toNat) (Q:=fun _ _=>True) (fun t ht=>by
    obtain⟨i,hi,rfl⟩:=ht;by_cases h:i<l.length
    ·simp only[aC,h,decide_true,cond_true,aN,getElem?_eq_getElem h,bind_some];cases decide (a4<(l[i]).2.1) with
     | true=>exact .inl ⟨_,rfl,trivial⟩
     | false=>right;rw[aX (show i<9223372036854775807 by omega)];exact⟨_,rfl,⟨i+1,h,rfl⟩,by simp only[toNat_natCast];omega,fun _ h=>h⟩
    ·left;have:i=l.length:=by omega
     subst this;simp only[aC,lt_irrefl,decide_false,cond_false,hs,bind_some];cases decide (a1=7) with
     | false=>exact⟨_,rfl,trivial⟩
     | true=>cases sb<;>exact⟨_,rfl,trivial⟩) (n:=big) (t:=(0,())) ⟨0,zero_le _,rfl⟩ (by rw[iT];simp;omega)
 obtain⟨b,⟨⟩⟩:=r;exact⟨b,h⟩
def OkM (m:Msg):Prop:=(1≤m.1∧m.1≤7)∧jI m=m∧(0≤m.2.1∧m.2.1<3)∧(0≤m.2.2.1∧m.2.2.1<3)∧¬ m.2.1=m.2.2.1∧¬ m.2.2.2.1<1∧
 (eY m.2.2.2.1∧eY m.2.2.2.2.1∧eY m.2.2.2.2.2.1∧eY m.2.2.2.2.2.2.1∧eY m.2.2.2.2.2.2.2.1)∧¬ 4<ofNat m.2.2.2.2.2.2.2.2.2.1.length∧kZ m.2.2.2.2.1 m.2.2.2.2.2.1 m.2.2.2.2.2.2.2.2.2.1=true
theorem noM {m:Msg} (h:¬ OkM m):(bif decide (OkM m) then uw m else some (false,()))=some (false,()):=by
 rw[decide_eq_false h];rfl
theorem zbH (m:Msg):(jI m).2.2.2.2.2.2.2.2.2.1.length≤m.2.2.2.2.2.2.2.2.2.1.length:=by
 unfold jI;split
 ·exact zero_le _
 ·split
  ·exact zero_le _
  ·split
   ·exact le_refl _
   ·split<;>exact zero_le _
theorem Qc (m:Msg) (hl:m.2.2.2.2.2.2.2.2.2.1.length≤9223372036854775806):qM (m,())=bif decide (OkM m) then uw m else some (false,()):=by
 by_cases hk:1≤m.1∧m.1≤7
 case neg=>obtain⟨z,hz⟩:=zbG m hk;rw[noM (fun h=>hk h.1)];unfold qM;simp only[hz,bind_some,Bool.not_false,cond_true]
 have hkl:=zbH m;unfold qM;simp only[Zr m hk,bind_some,Bool.not_true,cond_false,Jc (jI m) m (by omega),zcw,Zk [_,_,_,_,_] (by simp),zde _ hl,Z8];by_cases h2:jI m=m
 case neg=>rw[noM (fun h=>h2 h.2.1)];simp only[h2,decide_false,Bool.not_false,cond_true]
 simp only[h2,decide_true,Bool.not_true,cond_false];by_cases h3:0≤m.2.1∧m.2.1<3
 case neg=>rw[noM (fun h=>h3 h.2.2.1)];simp only[h3,decide_false,Bool.not_false,cond_true]
 simp only[h3,and_self,decide_true,Bool.not_true,cond_false];by_cases h4:0≤m.2.2.1∧m.2.2.1<3
 case neg=>rw[noM (fun h=>h4 h.2.2.2.1)];simp only[h4,decide_false,Bool.not_false,cond_true]
 simp only[h4,and_self,decide_true,Bool.not_true,cond_false];by_cases h5:m.2.1=m.2.2.1
 case pos=>rw[noM (fun h=>h.2.2.2.2.1 h5)];simp only[h5,decide_true,cond_true]
 simp only[h5,decide_false,cond_false];by_cases h6:m.2.2.2.1<1
 case pos=>rw[noM (fun h=>h.2.2.2.2.2.1 h6)];simp only[h6,decide_true,cond_true]
 simp only[h6,decide_false,cond_false];have e7:(∀ n∈[m.2.2.2.1,m.2.2.2.2.1,m.2.2.2.2.2.1,m.2.2.2.2.2.2.1,m.2.2.2.2.2.2.2.1],eY n)↔(eY m.2.2.2.1∧eY m.2.2.2.2.1∧eY m.2.2.2.2.2.1∧eY m.2.2.2.2.2.2.1∧eY m.2.2.2.2.2.2.2.1):=by simp
 by_cases h7:(eY m.2.2.2.1∧eY m.2.2.2.2.1∧eY m.2.2.2.2.2.1∧eY m.2.2.2.2.2.2.1∧eY m.2.2.2.2.2.2.2.1)
 case neg=>rw[noM (fun h=>h7 h.2.2.2.2.2.2.1),decide_eq_false (fun h=>h7 (e7.1 h))];simp only[Bool.not_false,cond_true]
 rw[decide_eq_true (e7.2 h7)];simp only[Bool.not_true,cond_false];by_cases h8:4<ofNat m.2.2.2.2.2.2.2.2.2.1.length
 case pos=>rw[noM (fun h=>h.2.2.2.2.2.2.2.1 h8)];simp only[h8,decide_true,cond_true]
 simp only[h8,decide_false,cond_false];cases h9:kZ m.2.2.2.2.1 m.2.2.2.2.2.1 m.2.2.2.2.2.2.2.2.2.1 with
 | false=>rw[noM (fun h=>noConfusion (h9.symm.trans h.2.2.2.2.2.2.2.2))];simp only[Bool.not_false,cond_true]
 | true=>
  have:OkM m:=⟨hk,h2,h3,h4,h5,h6,h7,h8,h9⟩
  rw[decide_eq_true this];simp only[Bool.not_true,cond_false,cond_true];rfl
theorem Yd (m:Msg) (hl:m.2.2.2.2.2.2.2.2.2.1.length≤9223372036854775806):uY (m,())=bif decide (OkM m) then uw m else some (false,()):=by
 unfold uY;by_cases k1:m.1<1
 case pos=>rw[noM (fun h=>by have:=h.1.1;omega)];simp only[k1,decide_true,cond_true]
 by_cases k2:7<m.1
 case pos=>rw[noM (fun h=>by have:=h.1.2;omega)];simp only[k1,k2,decide_false,cond_false,decide_true,cond_true]
 have hk:1≤m.1∧m.1≤7:=by omega
 simp only[k1,k2,decide_false,cond_false,Zc,bind_some,ZK m hk,zaf _ _ hl];by_cases k3:m.2.1<0
 case pos=>rw[noM (fun h=>by have:=h.2.2.1.1;omega)];simp only[k3,decide_true,cond_true]
 by_cases k4:2<m.2.1
 case pos=>rw[noM (fun h=>by have:=h.2.2.1.2;omega)];simp only[k3,k4,decide_false,cond_false,decide_true,cond_true]
 by_cases k5:m.2.2.1<0
 case pos=>rw[noM (fun h=>by have:=h.2.2.2.1.1;omega)];simp only[k3,k4,k5,decide_false,cond_false,decide_true,cond_true]
 by_cases k6:2<m.2.2.1
 case pos=>rw[noM (fun h=>by have:=h.2.2.2.1.2;omega)];simp only[k3,k4,k5,k6,decide_false,cond_false,decide_true,cond_true]
 simp only[k3,k4,k5,k6,decide_false,cond_false];by_cases h5:m.2.1=m.2.2.1
 case pos=>rw[noM (fun h=>h.2.2.2.2.1 h5)];simp only[h5,decide_true,cond_true]
 simp only[h5,decide_false,cond_false];by_cases h6:m.2.2.2.1<1
 case pos=>rw[noM (fun h=>h.2.2.2.2.2.1 h6)];simp only[h6,decide_true,cond_true]
 simp only[h6,decide_false,cond_false];by_cases a1:eY m.2.2.2.1
 case neg=>rw[noM (fun h=>a1 h.2.2.2.2.2.2.1.1)];simp only[a1,decide_false,Bool.not_false,cond_true]
 by_cases a2:eY m.2.2.2.2.1
 case neg=>rw[noM (fun h=>a2 h.2.2.2.2.2.2.1.2.1)];simp only[a1,a2,decide_true,Bool.not_true,cond_false,decide_false,Bool.not_false,cond_true]
 by_cases a3:eY m.2.2.2.2.2.1
 case neg=>rw[noM (fun h=>a3 h.2.2.2.2.2.2.1.2.2.1)];simp only[a1,a2,a3,decide_true,Bool.not_true,cond_false,decide_false,Bool.not_false,cond_true]
 by_cases a4:eY m.2.2.2.2.2.2.1
 case neg=>rw[noM (fun h=>a4 h.2.2.2.2.2.2.1.2.2.2.1)];simp only[a1,a2,a3,a4,decide_true,Bool.not_true,cond_false,decide_false,Bool.not_false,cond_true]
 by_cases a5:eY m.2.2.2.2.2.2.2.1
 case neg=>rw[noM (fun h=>a5 h.2.2.2.2.2.2.1.2.2.2.2)];simp only[a1,a2,a3,a4,a5,decide_true,Bool.not_true,cond_false,decide_false,Bool.not_false,cond_true]
 simp only[a1,a2,a3,a4,a5,decide_true,Bool.not_true,cond_false];by_cases h2:jI m=m
 case neg=>rw[noM (fun h=>h2 h.2.1)];simp only[h2,decide_false,Bool.not_false,cond_true]
 simp only[h2,decide_true,Bool.not_true,cond_false];by_cases h8:4<ofNat m.2.2.2.2.2.2.2.2.2.1.length
 case pos=>rw[noM (fun h=>h.2.2.2.2.2.2.2.1 h8)];simp only[h8,decide_true,cond_true]
 simp only[h8,decide_false,cond_false];cases h9:kZ m.2.2.2.2.1 m.2.2.2.2.2.1 m.2.2.2.2.2.2.2.2.2.1 with
 | false=>rw[noM (fun h=>noConfusion (h9.symm.trans h.2.2.2.2.2.2.2.2))];simp only[Bool.not_false,cond_true]
 | true=>
  have:OkM m:=⟨hk,h2,⟨by omega,by omega⟩,⟨by omega,by omega⟩,h5,h6,⟨a1,a2,a3,a4,a5⟩,h8,h9⟩
  rw[decide_eq_true this];simp only[Bool.not_true,cond_false,cond_true];rfl
theorem zae (m:Msg) (hl:m.2.2.2.2.2.2.2.2.2.1.length≤9223372036854775806):∃ b,qM (m,())=some (b,())∧uY (m,())=some (b,()):=by
 rw[Qc m hl,Yd m hl];obtain⟨b,h⟩:=zch m hl;cases decide (OkM m) with
 | true=>exact⟨b,h,h⟩
 | false=>exact⟨false,rfl,rfl⟩
abbrev Vm:Ent:=(0,0,[],())
noncomputable def ul (e:Ent):Bool:=(mG (e,())).elim false (·.1)
theorem PY (e:Ent):mG (e,())=some (ul e,()):=by
 obtain⟨b,h⟩:=Sz (e,());unfold ul;rw[h];rfl
abbrev kw:Msg:=(0,0,0,0,0,0,0,0,false,[],Vm,())
noncomputable def sK (m:Msg):Bool:=(qM (m,())).elim false (·.1)
theorem JD (m:Msg) (hl:m.2.2.2.2.2.2.2.2.2.1.length≤9223372036854775806):qM (m,())=some (sK m,())∧uY (m,())=some (sK m,()):=by
 obtain⟨b,h1,h2⟩:=zae m hl;unfold sK;rw[h1];exact⟨rfl,h2⟩
theorem Pe:∀ {i t:Int} {l:List Ent},kZ i t l=true→∀ e∈l,lK e
 | _,_,[],_,e,h=>by simp at h
 | i,t,x::r,hr,e,h=>by
  unfold kZ at hr;cases hd:decide (lK x∧x.1-1=i∧t≤x.2.1) with
  | false=>rw[hd] at hr;cases hr
  | true=>
   rw[hd] at hr;rcases List.mem_cons.1 h with rfl|h
   ·exact(of_decide_eq_true hd).1
   ·exact Pe hr e h
theorem ZZ (m:Msg) (hl:m.2.2.2.2.2.2.2.2.2.1.length≤9223372036854775806) (h:uw m=some (true,())) (h7:m.1=7):ul m.2.2.2.2.2.2.2.2.2.2.1=true:=by
 unfold uw at h;obtain⟨a1,a2,a3,a4,a5,a6,a7,a8,a9,l,s,⟨⟩⟩:=m;have hl':l.length≤9223372036854775806:=hl;have hs:=PY s;obtain⟨r,h1,h2⟩:=pW (T:=Int×Unit) (R:=Bool×Unit) (step:=fun(x_1:Int×Unit)=>
   bif decide (x_1.fst<ofNat (length l)) then
    Option.bind (idx l x_1.fst) fun(b:Ent)=>
     bif decide (a4<b.snd.fst) then some (Sum.inr (false,()))
     else some (inl (wrap64 (x_1.fst+1),()))
   else Option.map Sum.inr
    (bif !decide (a1=7) then some (true,())
    else Option.bind (mG (s,())) fun(b:Bool×Unit)=>bif b.fst then some (decide (0<s.1),()) else some (false,()))) (I:=fun t=>∃ (i:Nat),i≤l.length∧t=((i:Int),())) (μ:=fun t=>l.length-t.1.toNat) (Q:=fun _ r=>r=(true,())→ul s=true) (fun t ht=>by
    obtain⟨i,hi,rfl⟩:=ht;by_cases h:i<l.length
    ·simp only[aC,h,decide_true,cond_true,aN,getElem?_eq_getElem h,bind_some];cases decide (a4<(l[i]).2.1) with
     | true=>exact .inl ⟨_,rfl,fun h=>by cases h⟩
     | false=>right;rw[aX (show i<9223372036854775807 by omega)];exact⟨_,rfl,⟨i+1,h,rfl⟩,by simp only[toNat_natCast];omega,fun _ h=>h⟩
    ·left;have:i=l.length:=by omega
     subst this;have h7:a1=7:=h7;simp only[aC,lt_irrefl,decide_false,cond_false,hs,bind_some,h7,decide_true,Bool.not_true];cases hb:ul s with
     | true=>exact⟨_,rfl,fun _=>rfl⟩
     | false=>exact⟨_,rfl,fun h=>by cases h⟩) (n:=big) (t:=(0,())) ⟨0,zero_le _,rfl⟩ (by rw[iT];simp;omega)
 have e:r=(true,()):=Option.some.inj (h1.symm.trans h);exact h2 e
theorem Yu {m:Msg} (hl:m.2.2.2.2.2.2.2.2.2.1.length≤9223372036854775806) (h:sK m=true):OkM m∧(m.1=7→ul m.2.2.2.2.2.2.2.2.2.2.1=true):=by
 have h1:=(JD m hl).1;rw[h,Qc m hl] at h1;cases hd:decide (OkM m) with
 | false=>rw[hd] at h1;cases h1
 | true=>rw[hd] at h1;exact⟨of_decide_eq_true hd,ZZ m hl h1⟩
theorem Yr {m:Msg} (h:OkM m):(m.1=7→m.2.2.2.2.2.2.2.2.2.1=[])∧(m.1≠7→m.2.2.2.2.2.2.2.2.2.2.1=Vm):=by
 have hk:=h.2.1;have h1:=h.1;unfold jI at hk;constructor
 ·intro h7;rw[if_neg (by omega),if_neg (by omega),if_neg (by omega),if_neg (by omega)] at hk;rw[←hk]
 ·intro h7;rcases H7 h1.1 h1.2 with c|c|c|c|c|c|c
  ·rw[if_pos (by omega)] at hk;rw[←hk]
  ·rw[if_neg (by omega),if_pos (by omega)] at hk;rw[←hk]
  ·rw[if_pos (by omega)] at hk;rw[←hk]
  ·rw[if_neg (by omega),if_pos (by omega)] at hk;rw[←hk]
  ·rw[if_neg (by omega),if_neg (by omega),if_pos (by omega)] at hk;rw[←hk]
  ·rw[if_neg (by omega),if_neg (by omega),if_neg (by omega),if_pos (by omega)] at hk;rw[←hk]
  ·exact absurd c h7
theorem YZ {e:Ent} (h:ul e=true):e.2.2.1.length≤50000:=by
 obtain⟨i,t,s,⟨⟩⟩:=e;have h1:=PY (i,t,s,());rw[h] at h1;unfold mG at h1;simp only[BK,bind_some] at h1;show s.length≤50000;by_cases c0:s.length≤50000
 ·exact c0
 ·exfalso;have d0:decide (ofNat s.length≤50000)=false:=decide_eq_false (by simp only[ofNat_eq_natCast];omega);have d1:decide (ofNat s.length=0)=false:=decide_eq_false (by simp only[ofNat_eq_natCast];omega);simp only[d0,d1] at h1;by_cases c1:i=0<;>by_cases c2:t=0<;>by_cases c3:Num i<;>by_cases c4:Num t<;>simp[c1,c2,c3,c4] at h1
def ShB (l:List TBD):Prop:=Sh l∧∀ b∈l,Sh b.2.1
def ShT (m:TMD):Prop:=Sh m.2.2.1.2.2.2.2.2.2.2.2.2.1∧ShC m.2.2.2.1.2.2.1∧Sh m.2.2.2.2.2.2.2.2.2.2.2.1.2.2.2.2.1∧ShB m.2.2.2.2.2.2.2.2.2.2.2.2.1∧Sh m.2.2.2.2.2.2.2.2.2.2.2.2.2.1∧ShH m.2.2.2.2.2.2.2.2.2.2.2.2.2.2.2.1
theorem OX (a b:TBD) (ha:Sh a.2.1):Fv (a,b,())=some (dec' (a=b),()):=by
 obtain⟨a1,a2,⟨⟩⟩:=a;obtain⟨b1,b2,⟨⟩⟩:=b;unfold Fv;simp only[BN a2 b2 ha,bind_some];apply fin
 ·repeat' first|apply cu|apply bW|apply cO|apply bZ
 ·simp only[Prod.mk.injEq];grind
theorem X9 (a b:List TBD) (ha:ShB a):Ez (a,b,())=some (dec' (a=b),()):=by
 unfold Ez;refine rq a b ha.1 (fun i v hi hv hw=> ?_) (fun i v w hi hv hw hne=> ?_) (by simp)
 ·have hi':i<9223372036854775807:=by have:=ha.1;unfold Sh at this;omega
  simp only[aC,hi,decide_true,cond_true,aN,hv,hw,bind_some,aX hi',OX v v (ha.2 v (mem_of_getElem? hv)),bT,Bool.not_true,cond_false]
 ·simp only[aC,hi,decide_true,cond_true,aN,hv,hw,bind_some,OX v w (ha.2 v (mem_of_getElem? hv)),dE hne,Bool.not_false]
theorem Ym (a b:List TBD) (ha:ShB a):Gg (a,b,())=some (dec' (a=b),()):=by
 unfold Gg;exact aF (X9 a b ha) rfl
theorem N9 (a b:List TBD) (ha:ShB a):F25 (a,b,())=some (dec' (a=b),()):=by
 unfold F25;refine rq a b ha.1 (fun i v hi hv hw=> ?_) (fun i v w hi hv hw hne=> ?_) (by simp)
 ·have hi':i<9223372036854775807:=by have:=ha.1;unfold Sh at this;omega
  have hr:F64 (v.2.1,v.2)=_:=x9 v.2.1 v.2.1 (ha.2 v (mem_of_getElem? hv));simp only[aC,hi,decide_true,cond_true,aN,hv,hw,bind_some,aX hi',hr,bT,Bool.not_true,cond_false]
 ·have hr:F64 (v.2.1,w.2)=_:=x9 v.2.1 w.2.1 (ha.2 v (mem_of_getElem? hv));simp only[aC,hi,decide_true,cond_true,aN,hv,hw,bind_some,hr];by_cases h1:v.1=w.1
  ·have h3:¬ v.2.1=w.2.1:=by intro h3;apply hne;grind
   simp[h1,dE h3]
  ·simp[h1]
theorem zaG (a b:gG) (ha:ShH a):Gf (a,b,())=some (dec' (a=b),()):=by
 obtain⟨h1,h2⟩:=ha;obtain⟨a1,a2,a3,a4,⟨⟩⟩:=a;obtain⟨b1,b2,b3,b4,⟨⟩⟩:=b;have z:∀ {α:Type},Sh ([]:List α):=fun{_}=>by simp[Sh]
 have hc:=Dl (0,[],[],[],0,0,0,[],[],[],0,0,0,false,[],a3,a4,()) (0,[],[],[],0,0,0,[],[],[],0,0,0,false,[],b3,b4,()) ⟨z,z,z,z,h1,h2⟩;unfold Gf;simp only[hc,bind_some];apply fin
 ·repeat' first|apply cu|apply bW|apply cO|apply bZ
 ·simp only[Prod.mk.injEq];grind
theorem Ri (a b:jh):(decide (a.fst=b.fst) && (decide (a.snd.fst=b.snd.fst) && (decide (a.snd.snd.fst=b.snd.snd.fst) && (decide (a.snd.snd.snd.fst=b.snd.snd.snd.fst) && (decide (a.snd.snd.snd.snd.fst=b.snd.snd.snd.snd.fst) && (decide (a.snd.snd.snd.snd.snd.fst=b.snd.snd.snd.snd.snd.fst) && (decide (a.snd.snd.snd.snd.snd.snd.fst=b.snd.snd.snd.snd.snd.snd.fst) && (decide (a.snd.snd.snd.snd.snd.snd.snd.fst=b.snd.snd.snd.snd.snd.snd.snd.fst) && (decide (a.snd.snd.snd.snd.snd.snd.snd.snd.fst=b.snd.snd.snd.snd.snd.snd.snd.snd.fst) && (decide (a.snd.snd.snd.snd.snd.snd.snd.snd.snd.fst=b.snd.snd.snd.snd.snd.snd.snd.snd.snd.fst) && true))))))))))=dec' (a=b):=by
 by_cases h:a=b
 ·rw[bT h,h];simp
 ·rw[dE h,eq_false_iff];intro h2;apply h;obtain⟨a1,a2,a3,a4,a5,a6,a7,a8,a9,a10,⟨⟩⟩:=a;obtain⟨b1,b2,b3,b4,b5,b6,b7,b8,b9,b10,⟨⟩⟩:=b;simp only[and_eq_true,decide_eq_true_eq,and_true] at h2;simp only[Prod.mk.injEq];grind
theorem zbu (a b:TMD) (ha:ShT a):Gx (a,b,())=some (dec' (a=b),()):=by
 obtain⟨h1,h2,h3,h4,h5,h6⟩:=ha;obtain⟨a1,a2,a3,⟨j1,j2,j3,⟨⟩⟩,a5,a6,a7,a8,a9,a10,a11,a12,a13,a14,a15,a16,a17,⟨⟩⟩:=a;obtain⟨b1,b2,b3,⟨k1,k2,k3,⟨⟩⟩,b5,b6,b7,b8,b9,b10,b11,b12,b13,b14,b15,b16,b17,⟨⟩⟩:=b;unfold Gx;simp only[Jc a3 b3 h1,Dl j3 k3 h2,Hy a12 b12 h3,Ym a13 b13 h4,BN a14 b14 h5,zaG a16 b16 h6,Ri a17 b17,yZ,bind_some];apply fin
 ·repeat' first|apply cu|apply bW|apply cO|apply bZ
 ·simp only[Prod.mk.injEq];grind
theorem zaj (a b:TMD) (ha:ShT a):Gw (a,b,())=some (dec' (a=b),()):=by
 obtain⟨h1,h2,h3,h4,h5,h6⟩:=ha;obtain⟨a1,a2,a3,⟨j1,j2,j3,⟨⟩⟩,a5,a6,a7,a8,a9,a10,a11,a12,a13,a14,a15,a16,a17,⟨⟩⟩:=a;obtain⟨b1,b2,b3,⟨k1,k2,k3,⟨⟩⟩,b5,b6,b7,b8,b9,b10,b11,b12,b13,b14,b15,b16,b17,⟨⟩⟩:=b;unfold Gw;simp only[Yx a3 b3 h1,zam j3 k3 h2,Ha a12 b12 h3,N9 a13 b13 h4,x9 a14 b14 h5,Pq a16 b16 h6,Ri a17 b17,yZ,bind_some];apply fin
 ·repeat' first|apply cu|apply bW|apply cO|apply bZ
 ·simp only[Prod.mk.injEq];grind
def kX (m:TMD):TMD:=
 if m.1=1 then(m.1,0,m.2.2.1,gQ,0,[],[],0,0,0,0,eF,[],[],false,iC,kU,())
 else if m.1=2 then(m.1,m.2.1,kw,m.2.2.2.1,0,[],[],0,0,0,0,eF,[],[],false,iC,kU,())
 else if m.1=3 then(m.1,m.2.1,kw,gQ,m.2.2.2.2.1,m.2.2.2.2.2.1,m.2.2.2.2.2.2.1,m.2.2.2.2.2.2.2.1,m.2.2.2.2.2.2.2.2.1,0,0,eF,[],[],false,iC,kU,())
 else if m.1=4 then(m.1,m.2.1,kw,gQ,m.2.2.2.2.1,m.2.2.2.2.2.1,m.2.2.2.2.2.2.1,m.2.2.2.2.2.2.2.1,0,0,0,eF,[],[],false,iC,kU,())
 else if m.1=5 then(m.1,m.2.1,kw,gQ,0,m.2.2.2.2.2.1,m.2.2.2.2.2.2.1,m.2.2.2.2.2.2.2.1,0,0,0,eF,[],[],false,iC,kU,())
 else if m.1=6 then(m.1,m.2.1,kw,gQ,0,[],[],m.2.2.2.2.2.2.2.1,0,0,0,eF,[],[],false,iC,kU,())
 else if m.1=7 then(m.1,m.2.1,kw,gQ,0,[],[],0,0,0,0,eF,[],[],false,iC,kU,())
 else if m.1=8 then(m.1,m.2.1,kw,gQ,0,[],[],0,0,m.2.2.2.2.2.2.2.2.2.1,m.2.2.2.2.2.2.2.2.2.2.1,m.2.2.2.2.2.2.2.2.2.2.2.1,[],[],false,iC,kU,())
 else if m.1=9 then(m.1,m.2.1,kw,gQ,0,[],[],m.2.2.2.2.2.2.2.1,0,m.2.2.2.2.2.2.2.2.2.1,0,eF,m.2.2.2.2.2.2.2.2.2.2.2.2.1,[],false,iC,kU,())
 else if m.1=10 then(m.1,m.2.1,kw,gQ,0,[],[],0,0,m.2.2.2.2.2.2.2.2.2.1,0,eF,[],m.2.2.2.2.2.2.2.2.2.2.2.2.2.1,m.2.2.2.2.2.2.2.2.2.2.2.2.2.2.1,iC,kU,())
 else if m.1=11 then(m.1,m.2.1,kw,gQ,0,[],[],0,0,m.2.2.2.2.2.2.2.2.2.1,0,eF,[],[],false,m.2.2.2.2.2.2.2.2.2.2.2.2.2.2.2.1,kU,())
 else(m.1,m.2.1,kw,gQ,0,[],[],m.2.2.2.2.2.2.2.1,0,0,0,eF,[],[],false,iC,m.2.2.2.2.2.2.2.2.2.2.2.2.2.2.2.2.1,())
theorem qc {k:Int} (h1:1≤k) (h2:k≤12):k=1∨k=2∨k=3∨k=4∨k=5∨k=6∨k=7∨k=8∨k=9∨k=10∨k=11∨k=12:=by omega
theorem zbI (m:TMD) (h:1≤m.1∧m.1≤12):NR (m,())=some (kX m,()):=by
 obtain⟨k,r⟩:=m;rcases qc h.1 h.2 with h|h|h|h|h|h|h|h|h|h|h|h<;>(dsimp only at h;subst h;rfl)
theorem zb2 (m:TMD) (h:1≤m.1∧m.1≤12):NM (m,())=some (kX m,()):=by
 obtain⟨k,r⟩:=m;rcases qc h.1 h.2 with h|h|h|h|h|h|h|h|h|h|h|h<;>(dsimp only at h;subst h;rfl)
theorem mZ {p:Prop} [Decidable p] {a b:TMD} (ha:ShT a) (hb:ShT b):ShT (if p then a else b):=by
 by_cases h:p
 ·rw[if_pos h];exact ha
 ·rw[if_neg h];exact hb
theorem Ry {m:TMD} (h:ShT m):ShT (kX m):=by
 have z:∀ {α:Type},Sh ([]:List α):=fun{_}=>by simp[Sh]
 have zB:ShB []:=⟨z,fun b hb=>by simp at hb⟩
 have zH:ShH iC:=⟨⟨z,fun b hb=>by simp at hb⟩,z⟩
 obtain⟨h1,h2,h3,h4,h5,h6⟩:=h;unfold kX;exact mZ ⟨h1,nO,z,zB,z,zH⟩ (mZ ⟨z,h2,z,zB,z,zH⟩ (mZ ⟨z,nO,z,zB,z,zH⟩ (mZ ⟨z,nO,z,zB,z,zH⟩ (mZ ⟨z,nO,z,zB,z,zH⟩ (mZ ⟨z,nO,z,zB,z,zH⟩ (mZ ⟨z,nO,z,zB,z,zH⟩ (mZ ⟨z,nO,h3,zB,z,zH⟩ (mZ ⟨z,nO,z,h4,z,zH⟩ (mZ ⟨z,nO,z,zB,h5,zH⟩ (mZ ⟨z,nO,z,zB,z,h6⟩ ⟨z,nO,z,zB,z,zH⟩))))))))))
def qg (l:List aT) (m:Int):Prop:=(l.length:Int)≤m∧∀ x∈l,jw x
theorem QY (x:aT):A7 (x,())=some (!dec' (jw x),()):=by
 obtain⟨k,v,⟨⟩⟩:=x;have hv:xC ([v],())=some (decide (ut [v]),()):=QD [v] (by simp);have hi:ut [v]↔fZ v:=by unfold ut;simp
 unfold A7;simp only[jU,hv,bind_some];unfold jw;by_cases h1:IsKey k
 ·by_cases h2:fZ v
  ·rw[decide_eq_true h1,decide_eq_true (hi.2 h2),show dec' (IsKey k∧fZ v)=true from bT ⟨h1,h2⟩];rfl
  ·rw[decide_eq_true h1,decide_eq_false (fun h=>h2 (hi.1 h)),show dec' (IsKey k∧fZ v)=false from dE (fun h=>h2 h.2)];rfl
 ·rw[decide_eq_false h1,show dec' (IsKey k∧fZ v)=false from dE (fun h=>h1 h.1)];rfl
theorem Yn (l:List aT) (hl:Sh l):Ew (l,())=some (!dec' (∀ c∈l,jw c),()):=by
 unfold Ew Lu;obtain⟨r,h1,h2⟩:=yP l hl (step:=fun(x_1:Int×Unit)=>bif decide (x_1.fst<ofNat (length l)) then Option.bind (idx l x_1.fst) fun b=>Option.bind (A7 (b,())) fun b=>bif b.fst then some (Sum.inr x_1) else some (inl (wrap64 (x_1.fst+1),())) else some (Sum.inr (-1,()))) jw
  (fun i v hi hv hq=>by
   have hi':i<9223372036854775807:=by unfold Sh at hl;omega
   simp only[aC,hi,decide_true,cond_true,aN,hv,bind_some,QY,bT hq,Bool.not_true,cond_false,aX hi'])
  (fun i v hi hv hq=>by simp only[aC,hi,decide_true,cond_true,aN,hv,bind_some,QY,dE hq,Bool.not_false]) (by simp)
 refine aF h1 ?_;simp only[h2]
theorem PU (l:List aT) (m:Int) (hl:Sh l):uV (l,m,())=some (dec' (qg l m),()):=by
 unfold uV;simp only[Yn l hl,bind_some,Bool.not_not];apply fin
 ·repeat' first|apply cu|apply bW|apply cO|apply bZ
 ·unfold qg;simp only[ofNat_eq_natCast];grind
theorem Pm (l:List aT) (m:Int) (hz:mQ l):uX (l,m,())=some (dec' (qg l m),()):=by
 obtain⟨hl,hs⟩:=hz;unfold uX;refine fin (jR l hl (fun _ x=>jw x) ((l.length:Int)≤m) (fun i v hi hv=> ?_) ?_) ?_
 ·have hi':i<9223372036854775807:=by unfold Sh at hl;omega
  have hk:=hs v (mem_of_getElem? hv);obtain⟨k,w,⟨⟩⟩:=v;simp only[aC,hi,decide_true,cond_true,aN,hv,bind_some,jr k hk,Du,aX hi'];apply gz
  ·repeat' first|apply gm|apply fU|apply gu|apply gp|apply gq
  ·unfold jw;grind
 ·simp only[aC,lt_irrefl,decide_false,cond_false];exact congrArg (fun z=>some (Sum.inr (z,()))) (iQ (p:=(l.length:Int)≤m) (q:=ofNat l.length≤m) Iff.rfl).symm
 ·unfold qg;rw[JC (p:=jw)];exact And.comm
theorem Ht (n a b:Int):lC (n,a,b,())=some (dec' (a≤n∧n≤b),()):=lY n a b
theorem G9 (n a b:Int):kJ (n,a,b,())=some (dec' (a≤n∧n≤b),()):=lY n a b
def pU (l:List TBD):Prop:=(∀ (i:Nat) v,l[i]? = some v→bH v.1∧qg v.2.1 48∧∀ w,0<i→l[i-1]? = some w→w.1<v.1)∧l.length≤64
theorem Yo (l:List TBD) (hs:ShB l):FV (l,())=some (dec' (pU l),()):=by
 obtain⟨hl,hs⟩:=hs;unfold FV;refine fin (jR l hl (fun i v=>bH v.1∧qg v.2.1 48∧∀ w,0<i→l[i-1]? = some w→w.1<v.1) (l.length≤64) (fun i v hi hv=> ?_) ?_) ?_
 ·have hi':i<9223372036854775807:=by unfold Sh at hl;omega
  have hr:uV (v.2.1,48,())=_:=PU v.2.1 48 (hs v (mem_of_getElem? hv));rcases eq_zero_or_pos i with h0|h0
  ·have e0:decide ((0:Int)<(i:Int))=false:=decide_eq_false (by omega);have hp:(∀ w,0<i→l[i-1]? = some w→w.1<v.1)=True:=propext (nZ (l:=l) h0 (fun w=>w.1<v.1));simp only[hp];simp only[aC,hi,decide_true,cond_true,aN,hv,bind_some,aX hi',e0,cond_false,Ht,hr];apply gz
   ·repeat' first|apply gm|apply fU|apply gu|apply gp|apply gq
   ·unfold bH;grind
  ·obtain⟨u,hu⟩:∃ u,l[i-1]? = some u:=⟨_,getElem?_eq_getElem (show i-1<l.length by omega)⟩
   have e0:decide ((0:Int)<(i:Int))=true:=decide_eq_true (by omega);have hp:(∀ w,0<i→l[i-1]? = some w→w.1<v.1)=(u.1<v.1):=propext (ou h0 hu (fun w=>w.1<v.1));simp only[hp];simp only[aC,hi,decide_true,cond_true,aN,hv,bind_some,aX hi',e0,oG h0 hi',hu,Ht,hr];apply gz
   ·repeat' first|apply gm|apply fU|apply gu|apply gp|apply gq
   ·unfold bH;grind
 ·simp only[aC,lt_irrefl,decide_false,cond_false];exact congrArg (fun z=>some (Sum.inr (z,()))) (iQ (p:=l.length≤64) (q:=ofNat l.length≤64) (by simp only[ofNat_eq_natCast];omega)).symm
 ·unfold pU;exact Iff.rfl
theorem Ye (l:List TBD) (hl:Sh l) (hs:∀ b∈l,mQ b.2.1):Gu (l,())=some (dec' (pU l),()):=by
 unfold Gu;refine fin (jR l hl (fun i v=>bH v.1∧qg v.2.1 48∧∀ w,0<i→l[i-1]? = some w→w.1<v.1) (l.length≤64) (fun i v hi hv=> ?_) ?_) ?_
 ·have hi':i<9223372036854775807:=by unfold Sh at hl;omega
  have hr:uX (v.2.1,48,())=_:=Pm v.2.1 48 (hs v (mem_of_getElem? hv));rcases eq_zero_or_pos i with h0|h0
  ·have e0:decide ((0:Int)<(i:Int))=false:=decide_eq_false (by omega);have hp:(∀ w,0<i→l[i-1]? = some w→w.1<v.1)=True:=propext (nZ (l:=l) h0 (fun w=>w.1<v.1));simp only[hp];simp only[aC,hi,decide_true,cond_true,aN,hv,bind_some,aX hi',e0,cond_false,G9,hr];apply gz
   ·repeat' first|apply gm|apply fU|apply gu|apply gp|apply gq
   ·unfold bH;grind
  ·obtain⟨u,hu⟩:∃ u,l[i-1]? = some u:=⟨_,getElem?_eq_getElem (show i-1<l.length by omega)⟩
   have e0:decide ((0:Int)<(i:Int))=true:=decide_eq_true (by omega);have hp:(∀ w,0<i→l[i-1]? = some w→w.1<v.1)=(u.1<v.1):=propext (ou h0 hu (fun w=>w.1<v.1));simp only[hp];simp only[aC,hi,decide_true,cond_true,aN,hv,bind_some,aX hi',e0,oG h0 hi',hu,G9,hr];apply gz
   ·repeat' first|apply gm|apply fU|apply gu|apply gp|apply gq
   ·unfold bH;grind
 ·simp only[aC,lt_irrefl,decide_false,cond_false];exact congrArg (fun z=>some (Sum.inr (z,()))) (iQ (p:=l.length≤64) (q:=ofNat l.length≤64) (by simp only[ofNat_eq_natCast];omega)).symm
 ·unfold pU;exact Iff.rfl
theorem zau (h:gG):FU (h,())=some (dec' (h=iC),()):=by
 obtain⟨a1,a2,a3,a4,⟨⟩⟩:=h;unfold FU;apply fin
 ·repeat' first|apply cu|apply bW|apply cO|apply bZ
 ·simp only[Prod.mk.injEq,ofNat_eq_natCast];constructor
  ·intro h;refine⟨?_,?_,?_,?_,trivial⟩<;>(have h3:∀ {α:Type} (l:List α),(l.length:Int)=0→l=[]:=fun l hl=>length_eq_zero_iff.1 (by omega))<;>grind
  ·rintro⟨rfl,rfl,rfl,rfl,-⟩;simp
theorem zbf (h:gG) (hs:ShH h):Gt (h,())=some (dec' (h=iC),()):=by
 unfold Gt;exact aF (Pq h iC hs) rfl
def nJ (k rid:Int) (raft:Msg) (job:lT) (cl:Int) (fr en:List UInt8) (rev most err hint:Int) (rep:dD) (bat:List TBD) (its:List aT) (hand:gG) (mov:jh):Prop:=
 (k=1∧sK raft=true)∨(k=2∧bH rid∧uI job)∨
 (k=3∧bH rid∧0≤cl∧cl≤31∧eG fr en∧dO rev∧0≤most∧most≤8)∨
 (k=4∧bH rid∧0≤cl∧cl≤31∧eG fr en∧bH rev)∨
 (k=5∧bH rid∧nK fr∧(en=[]∨IsKey en)∧bH rev)∨
 (k=6∧bH rid∧bH rev)∨(k=7∧bH rid)∨
 (k=8∧bH rid∧0≤err∧err≤15∧ -1≤hint∧hint≤2∧mV rep)∨
 (k=9∧bH rid∧0≤err∧err≤15∧0≤rev∧rev≤1099511627777∧pU bat)∨
 (k=10∧bH rid∧0≤err∧err≤15∧qg its 8)∨
 (k=11∧bH rid∧0≤err∧err≤15∧(hand=iC∨wI hand))∨
 (k=12∧bH rid∧dO rev∧zA mov)
def wY (m:TMD):Prop:=nJ m.1 m.2.1 m.2.2.1 m.2.2.2.1 m.2.2.2.2.1 m.2.2.2.2.2.1 m.2.2.2.2.2.2.1 m.2.2.2.2.2.2.2.1 m.2.2.2.2.2.2.2.2.1 m.2.2.2.2.2.2.2.2.2.1 m.2.2.2.2.2.2.2.2.2.2.1 m.2.2.2.2.2.2.2.2.2.2.2.1 m.2.2.2.2.2.2.2.2.2.2.2.2.1 m.2.2.2.2.2.2.2.2.2.2.2.2.2.1 m.2.2.2.2.2.2.2.2.2.2.2.2.2.2.2.1 m.2.2.2.2.2.2.2.2.2.2.2.2.2.2.2.2.1
def fV (m:TMD):Prop:=(1≤m.1∧m.1≤12)∧kX m=m∧wY m
theorem YA (m:TMD) (hk:1≤m.1∧m.1≤12) (h:kX m=m) (h3:m.1≠3) (h4:m.1≠4):m.2.2.2.2.1=0:=by
 obtain⟨k,r⟩:=m;rcases qc hk.1 hk.2 with e|e|e|e|e|e|e|e|e|e|e|e<;>(dsimp only at e;subst e)
 all_goals first|exact absurd rfl h3|exact absurd rfl h4|exact(congrArg (fun m:TMD=>m.2.2.2.2.1) h).symm
theorem Rx (m:TMD) (hk:1≤m.1∧m.1≤12) (h:kX m=m) (h8:m.1<8∨m.1=12):m.2.2.2.2.2.2.2.2.2.1=0:=by
 obtain⟨k,r⟩:=m;rcases qc hk.1 hk.2 with e|e|e|e|e|e|e|e|e|e|e|e<;>(dsimp only at e;subst e)
 all_goals first|exact(congrArg (fun m:TMD=>m.2.2.2.2.2.2.2.2.2.1) h).symm|(exfalso;dsimp only at h8;omega)
theorem yz (m:TMD) (hm:ShT m):F83 (m,())=some (dec' (fV m),()):=by
 by_cases hk:1≤m.1∧m.1≤12
 ·have hE:=Rx m hk;have hS:=zbu (kX m) m (Ry hm);have hK:=zbI m hk;obtain⟨h1,h2,h3,h4,h5,h6⟩:=hm;unfold fV wY;obtain⟨p,hp⟩:∃ p:Prop,p=(kX m=m):=⟨_,rfl⟩
  rw[←hp] at hS hE ⊢;generalize kX m=z at hS hK;clear hp;obtain⟨k,rid,raft,job,cl,fr,en,rev,most,err,hint,rep,bat,its,done,hand,mov,⟨⟩⟩:=m;have e1:qM (raft,())=some (sK raft,()):=(JD raft h1).1;have e2:=zdA job h2;have e3:=Q5 rep h3;have e4:=Yo bat h4;have e5:=PU its 8 h5;have e6:=zcI hand h6;have n1:decide (k<1)=false:=decide_eq_false (by have:=hk.1;dsimp only at this;omega);have n2:decide (12<k)=false:=decide_eq_false (by have:=hk.2;dsimp only at this;omega);dsimp only at hk hE;unfold F83 NQ NP;simp only[n1,n2,hK,hS,cond_false,e1,e2,e3,e4,e5,e6,Ht,qV,pre_eq,jU,zau,zcz,bind_some];clear hS hK e1 e2 e3 e4 e5 e6 n1 n2;rcases qc hk.1 hk.2 with e|e|e|e|e|e|e|e|e|e|e|e
  all_goals
   subst e;simp only[reduceEq,reduceLT,reduceLE,decide_true,decide_false,cond_true,cond_false,RZ];apply fin
   ·repeat' first|apply cu|apply bW|apply cO|apply wG|apply bZ|apply fA|apply vz
   ·simp only[nJ,bH,dO,reduceEq,Int.reduceNeg,false_and,true_and,false_or,or_false,or_self]
    try grind
 ·have:¬ fV m:=fun h=>hk h.1;rw[dE this];unfold F83;by_cases n1:m.1<1
  ·rw[decide_eq_true n1];rfl
  ·have n2:12<m.1:=by omega
   rw[decide_eq_false n1,decide_eq_true n2];rfl
def SzT (m:TMD):Prop:=ShT m∧nG m.2.2.2.1.2.2.1∧St m.2.2.2.2.2.1∧St m.2.2.2.2.2.2.1∧y8 m.2.2.2.2.2.2.2.2.2.2.2.1∧(∀ b∈m.2.2.2.2.2.2.2.2.2.2.2.2.1,mQ b.2.1)∧mQ m.2.2.2.2.2.2.2.2.2.2.2.2.2.1∧Ku m.2.2.2.2.2.2.2.2.2.2.2.2.2.2.2.1∧Kt m.2.2.2.2.2.2.2.2.2.2.2.2.2.2.2.2.1
theorem yl (m:TMD) (hz:SzT m):F85 (m,())=some (dec' (fV m),()):=by
 obtain⟨hm,z1,z2,z3,z4,z5,z6,z7,z8⟩:=hz;by_cases hk:1≤m.1∧m.1≤12
 ·have hE:=Rx m hk;have hC:=YA m hk;have hS:=zaj (kX m) m (Ry hm);have hK:=zb2 m hk;obtain⟨h1,h2,h3,h4,h5,h6⟩:=hm;unfold fV wY;obtain⟨p,hp⟩:∃ p:Prop,p=(kX m=m):=⟨_,rfl⟩
  rw[←hp] at hS hE hC ⊢;generalize kX m=z at hS hK;clear hp;obtain⟨k,rid,raft,job,cl,fr,en,rev,most,err,hint,rep,bat,its,done,hand,mov,⟨⟩⟩:=m;have e1:uY (raft,())=some (sK raft,()):=(JD raft h1).2;have e2:=zcn job z1;have e3:=Qh rep z4;have e4:=Ye bat h4.1 z5;have e5:=Pm its 8 z6;have e6:=zbk hand z7;have e7:=zbf hand h6;have e8:=zbh mov z8;have e9:=qO fr en z2 z3;have e10:=yT fr z2;have e11:=jr en z3;have n1:decide (k<1)=false:=decide_eq_false (by have:=hk.1;dsimp only at this;omega);have n2:decide (12<k)=false:=decide_eq_false (by have:=hk.2;dsimp only at this;omega);dsimp only at hk hE hC;unfold F85;simp only[n1,n2,hK,hS,cond_false,e1,e2,e3,e4,e5,e6,e7,e8,e9,e10,e11,G9,bind_some];clear hS hK e1 e2 e3 e4 e5 e6 e7 e8 e9 e10 e11 n1 n2;rcases qc hk.1 hk.2 with e|e|e|e|e|e|e|e|e|e|e|e
  all_goals
   subst e;simp only[reduceEq,reduceLE,decide_true,decide_false,cond_true,cond_false];apply fin
   ·repeat' first|apply cu|apply bW|apply cO|apply wG|apply bZ|apply fA|apply vz
   ·simp only[nJ,bH,dO,reduceEq,Int.reduceNeg,false_and,true_and,false_or,or_false,or_self]
    try grind
 ·have:¬ fV m:=fun h=>hk h.1;rw[dE this];unfold F85;by_cases n1:m.1<1
  ·rw[decide_eq_true n1];rfl
  ·have n2:12<m.1:=by omega
   rw[decide_eq_false n1,decide_eq_true n2];rfl
abbrev NoT:TMD:=(0,0,kw,gQ,0,[],[],0,0,0,0,eF,[],[],false,iC,kU,())
theorem YQ (k:Int):∃ z,F82 (k,())=some (z,())∧F47 (k,())=some (z,()):=by
 by_cases h:0≤k∧k≤12
 ·have hk:k=0∨k=1∨k=2∨k=3∨k=4∨k=5∨k=6∨k=7∨k=8∨k=9∨k=10∨k=11∨k=12:=by omega
  rcases hk with e|e|e|e|e|e|e|e|e|e|e|e|e<;>(subst e;exact⟨_,rfl,rfl⟩)
 ·have f:∀ n:Int,0≤n→n≤12→decide (k=n)=false:=fun n h1 h2=>decide_eq_false (by omega);refine⟨0,?_,?_⟩
  ·unfold F82;simp only[f 2 (by omega) (by omega),f 3 (by omega) (by omega),f 4 (by omega) (by omega),f 5 (by omega) (by omega),f 6 (by omega) (by omega),f 7 (by omega) (by omega),cond_false]
  ·have hm:eQ 0 (fQ k 12)=0∨eQ 0 (fQ k 12)=12:=by
    unfold eQ fQ;by_cases h1:k<0
    ·have a1:decide ((12:Int)<k)=false:=decide_eq_false (by omega);have a2:decide ((0:Int)<k)=false:=decide_eq_false (by omega);simp only[a1,cond_false,a2,true_or]
    ·have a1:decide ((12:Int)<k)=true:=decide_eq_true (by omega);simp only[a1,cond_true];exact .inr (by decide)
   unfold F47;rcases hm with hm|hm<;>(simp only[hm];rfl)
theorem szT {m:TMD} (h:gU TM m):SzT m:=by
 obtain⟨k,rid,raft,⟨j1,j2,j3,⟨⟩⟩,cl,fr,en,rev,most,err,hint,rep,bat,its,done,hand,mov,⟨⟩⟩:=m;obtain⟨-,-,f3,⟨-,-,f4,-⟩,-,f6,f7,-,-,-,-,f12,f13,f14,-,f16,f17,-⟩:=h;have hC:=DZ f4;have hH:=zdd f16;have hR:=Ju f12;have hI:∀ {l:List aT},gU (.slice T70) l→mQ l:=fun h=>⟨kW h.1,fun x hx=>(h.2 x hx).1⟩
 exact⟨⟨kW f3.2.2.2.2.2.2.2.2.2.1.1,hC.1,hR.1,⟨kW f13.1,fun b hb=>(hI (f13.2 b hb).2.1).1⟩,(hI f14).1,hH.2⟩,hC,f6,f7,hR,fun b hb=>hI (f13.2 b hb).2.1,hI f14,hH.1,zdc f17⟩
theorem Zu {m:TMD} (h:kG TM m):m.2.2.2.2.2.2.2.2.2.2.2.2.2.2.2.1.2.2.1.length≤1800000000000:=zaH h.2.2.2.2.2.2.2.2.2.2.2.2.2.2.2.1
theorem zc9 (m:TMD):F20 (m,())=some (m,()):=rfl
theorem qQ {α:Type} (l:List α) {X:Option (List α×Unit)} (hX:X=some (l,())):(bif List.isEmpty l then qC (List α×Unit) (some ([],())) X else X)=some (l,()):=by
 subst hX;cases l with
 | nil=>exact zaP _
 | cons v l=>rfl
theorem yI {α:Type} {l:List α} {i:Nat} {v:α} (h:l[i]? = some v):l.set i v=l:=by
 apply List.ext_getElem?;intro j;have hi:i<l.length:=(List.getElem?_eq_some_iff.1 h).1;by_cases e:i=j
 ·subst e;rw[List.getElem?_set_self hi,h]
 ·rw[List.getElem?_set_ne e]
theorem Yk (l:List dP) (h:l.length≤bI):F87 (l,())=some (l,()):=by
 unfold F87;exact qQ l (aF (iR (by simpa using h)) rfl)
theorem Og (l:List UInt8) (h:l.length≤140737488355000):F88 (l,())=some (l,()):=by
 unfold F88;exact qQ l (aF (zcW (by simpa using h)) rfl)
theorem xW (l:List aT) (h:l.length≤bI):F57 (l,())=some (l,()):=by
 unfold F57;exact qQ l (aF (iR (by simpa using h)) rfl)
theorem X5 (l:List dh) (h:l.length≤2000000000000):F89 (l,())=some (l,()):=by
 unfold F89;exact qQ l (aF (Tt (by simpa using h)) rfl)
theorem N7 (l:List fE) (h:l.length≤bI):F63 (l,())=some (l,()):=by
 unfold F63;exact qQ l (aF (iR (by simpa using h)) rfl)
theorem G5 (l:List dC) (h:l.length≤bI):F44 (l,())=some (l,()):=by
 unfold F44;exact qQ l (aF (iR (by simpa using h)) rfl)
theorem vw (l:List aP) (h:l.length≤bI):F45 (l,())=some (l,()):=by
 unfold F45;exact qQ l (aF (iR (by simpa using h)) rfl)
theorem XP (l:List TBD) (h:l.length≤bI):F61 (l,())=some (l,()):=by
 unfold F61;exact qQ l (aF (iR (by simpa using h)) rfl)
def XK (m:Msg):Prop:=m.2.2.2.2.2.2.2.2.2.1.length≤bI∧(∀ e∈m.2.2.2.2.2.2.2.2.2.1,e.2.2.1.length≤140737488355000)∧m.2.2.2.2.2.2.2.2.2.2.1.2.2.1.length≤140737488355000
theorem Ti:bI≤9223372036854775806:=by decide
def xR (r:dD):Prop:=r.2.2.2.2.1.length≤bI
def NU (l:List dh):Prop:=l.length≤2000000000000∧∀ s∈l,xR s.2.2.1
def XL (c:aQ):Prop:=c.2.2.2.2.2.2.2.1.length≤bI∧c.2.2.2.2.2.2.2.2.1.length≤bI∧c.2.2.2.2.2.2.2.2.2.1.length≤bI∧c.2.2.2.2.2.2.2.2.2.2.2.2.2.2.1.length≤bI∧NU c.2.2.2.2.2.2.2.2.2.2.2.2.2.2.2.1∧c.2.2.2.2.2.2.2.2.2.2.2.2.2.2.2.2.1.length≤bI
def lX (m:TMD):Prop:=XK m.2.2.1∧XL m.2.2.2.1.2.2.1∧xR m.2.2.2.2.2.2.2.2.2.2.2.1∧(m.2.2.2.2.2.2.2.2.2.2.2.2.1.length≤bI∧∀ b∈m.2.2.2.2.2.2.2.2.2.2.2.2.1,b.2.1.length≤bI)∧m.2.2.2.2.2.2.2.2.2.2.2.2.2.1.length≤bI∧(NU m.2.2.2.2.2.2.2.2.2.2.2.2.2.2.2.1.2.2.1∧m.2.2.2.2.2.2.2.2.2.2.2.2.2.2.2.1.2.2.2.1.length≤bI)
theorem Zq (m:TMD) (hk:1≤m.1∧m.1≤12) (h:kX m=m):(m.1≠1→m.2.2.1=kw)∧(m.1≠2→m.2.2.2.1=gQ)∧(m.1≠8→m.2.2.2.2.2.2.2.2.2.2.2.1=eF)∧(m.1≠9→m.2.2.2.2.2.2.2.2.2.2.2.2.1=[])∧(m.1≠10→m.2.2.2.2.2.2.2.2.2.2.2.2.2.1=[])∧(m.1≠11→m.2.2.2.2.2.2.2.2.2.2.2.2.2.2.2.1=iC):=by
 obtain⟨k,r⟩:=m;rcases qc hk.1 hk.2 with e|e|e|e|e|e|e|e|e|e|e|e<;>(dsimp only at e;subst e)
 all_goals
  refine⟨?_,?_,?_,?_,?_,?_⟩
  ·first|exact fun hn=>absurd rfl hn|exact fun _=>(congrArg (fun m:TMD=>m.2.2.1) h).symm
  ·first|exact fun hn=>absurd rfl hn|exact fun _=>(congrArg (fun m:TMD=>m.2.2.2.1) h).symm
  ·first|exact fun hn=>absurd rfl hn|exact fun _=>(congrArg (fun m:TMD=>m.2.2.2.2.2.2.2.2.2.2.2.1) h).symm
  ·first|exact fun hn=>absurd rfl hn|exact fun _=>(congrArg (fun m:TMD=>m.2.2.2.2.2.2.2.2.2.2.2.2.1) h).symm
  ·first|exact fun hn=>absurd rfl hn|exact fun _=>(congrArg (fun m:TMD=>m.2.2.2.2.2.2.2.2.2.2.2.2.2.1) h).symm
  ·first|exact fun hn=>absurd rfl hn|exact fun _=>(congrArg (fun m:TMD=>m.2.2.2.2.2.2.2.2.2.2.2.2.2.2.2.1) h).symm
theorem Iz {m:TMD} (hm:ShT m) (h:fV m) (hs:m.2.2.2.1.2.2.1.2.2.2.2.2.2.2.2.2.2.2.2.2.2.2.1.length≤2000000000000) (hh:m.2.2.2.2.2.2.2.2.2.2.2.2.2.2.2.1.2.2.1.length≤2000000000000):lX m:=by
 obtain⟨hk,hp,hK⟩:=h;obtain⟨p1,p2,p3,p4,p5,p6⟩:=Zq m hk hp;have cB:bI=34359738368:=rfl;have z:∀ {α:Type},([]:List α).length≤bI:=fun{_}=>by simp
 unfold wY at hK;refine⟨?_,?_,?_,?_,?_,?_⟩
 ·by_cases e:m.1=1
  ·have hR:sK m.2.2.1=true:=by unfold nJ at hK;grind
   obtain⟨hO,hS⟩:=Yu hm.1 hR;have hrun:=Pe hO.2.2.2.2.2.2.2.2;have h4:=hO.2.2.2.2.2.2.2.1;refine⟨by rw[cB];simp only[ofNat_eq_natCast] at h4;omega,fun e he=>by have:=(hrun e he).2.2;omega,?_⟩;by_cases e7:m.2.2.1.1=7
   ·have:=YZ (hS e7);omega
   ·rw[(Yr hO).2 e7];simp
  ·rw[p1 e];exact⟨z,fun e he=>by simp at he,by simp⟩
 ·by_cases e:m.1=2
  ·have hJ:uI m.2.2.2.1:=by unfold nJ at hK;grind
   have hC:=hJ.1;have c1:=(Y9 hC).2;have c2:=(Qb hC).1.2;have c3:=(Qb hC).2.2;have c4:=(Yt hC).2;have c5:=(Ph hC).1;have c6:=(Ph hC).2.2;refine⟨by rw[cB];omega,by rw[cB];omega,by rw[cB];omega,by rw[cB];omega,⟨hs,fun s hs=> ?_⟩,by rw[cB];omega⟩;have:=(O7 c5 s hs).2.2.2.2.2.2.2.1;unfold xR;rw[cB];omega
  ·rw[p2 e];exact⟨z,z,z,z,⟨by simp,fun s hs=>by simp at hs⟩,z⟩
 ·by_cases e:m.1=8
  ·have hJ:mV m.2.2.2.2.2.2.2.2.2.2.2.1:=by unfold nJ at hK;grind
   have:=hJ.2.2.2.2.2.2.2.1;unfold xR;rw[cB];omega
  ·rw[p3 e];exact z
 ·by_cases e:m.1=9
  ·have hB:pU m.2.2.2.2.2.2.2.2.2.2.2.2.1:=by unfold nJ at hK;grind
   refine⟨by have:=hB.2;rw[cB];omega,fun b hb=> ?_⟩;obtain⟨i,hi,rfl⟩:=List.mem_iff_getElem.1 hb;have:=(hB.1 i _ (getElem?_eq_getElem hi)).2.1.1;rw[cB];omega
  ·rw[p4 e];exact⟨z,fun b hb=>by simp at hb⟩
 ·by_cases e:m.1=10
  ·have hB:qg m.2.2.2.2.2.2.2.2.2.2.2.2.2.1 8:=by unfold nJ at hK;grind
   have:=hB.1;rw[cB];omega
  ·rw[p5 e];exact z
 ·by_cases e:m.1=11
  ·have hB:m.2.2.2.2.2.2.2.2.2.2.2.2.2.2.2.1=iC∨wI m.2.2.2.2.2.2.2.2.2.2.2.2.2.2.2.1:=by unfold nJ at hK;grind
   rcases hB with e|hB
   ·rw[e];exact⟨⟨by simp,fun s hs=>by simp at hs⟩,z⟩
   ·refine⟨⟨hh,fun s hs=> ?_⟩,by have:=hB.2.2.2.2;rw[cB];omega⟩;have:=(O7 hB.2.2.1 s hs).2.2.2.2.2.2.2.1;unfold xR;rw[cB];omega
  ·rw[p6 e];exact⟨⟨by simp,fun s hs=>by simp at hs⟩,z⟩
def zff (m:Msg):NF:=(m.1,m.2.1,m.2.2.1,m.2.2.2.1,m.2.2.2.2.1,m.2.2.2.2.2.1,m.2.2.2.2.2.2.1,m.2.2.2.2.2.2.2.1,m.2.2.2.2.2.2.2.2.1,m.2.2.2.2.2.2.2.2.2.1,m.2.2.2.2.2.2.2.2.2.2.1)
theorem pO (n:Nat):toNat (n:Int)=n:=toNat_natCast n
theorem vX (n:Nat):decide (n≤n)=true:=by simp
theorem JF (n:Nat):decide (n≤n+1)=true:=by simp
theorem X6 (m:Msg) (h:XK m):F58 (m,())=some (zff m,()):=by
 obtain⟨a1,a2,a3,a4,a5,a6,a7,a8,a9,l,⟨s1,s2,s3,⟨⟩⟩,⟨⟩⟩:=m;obtain⟨h1,h2,h3⟩:=h;have h1:l.length≤bI:=h1;have hb:=Ti;unfold F58;refine aF (Yk l h1) ?_;refine H8 (mk:=fun i=>((i:Int),(l,(i:Int)),())) (n:=l.length) (by omega) (fun i hi=> ?_) ?_
 ·obtain⟨v,hv⟩:∃ v,l[i]? = some v:=⟨_,getElem?_eq_getElem hi⟩
  have hc:=Og v.2.2.1 (h2 v (mem_of_getElem? hv));have hset:l.set i (v.1,v.2.1,v.2.2.1,v.2.2.2)=l:=yI hv;simp only[aC,hi,decide_true,cond_true,lI hi,hv,bind_some,pO,vX];refine aF hc ?_;simp only[lI hi,hv,bind_some,hset,aX (show i<9223372036854775807 by omega),pO,vX,JF,cond_true];rfl
 ·simp only[aC,lt_irrefl,decide_false,cond_false,pO,decide_true,cond_true];have hc:F88 (s3,())=some (s3,()):=Og s3 h3;exact(congrArg (Option.map Sum.inr) (aF hc rfl)).trans rfl
theorem NZ (r:dD) (h:xR r):F60 (r,())=some (r,()):=by
 obtain⟨a1,a2,a3,a4,a5,a6,a7,⟨⟩⟩:=r;unfold F60;exact aF (xW a5 h) rfl
theorem Oe (l:List dh) (h:NU l):F62 (l,())=some (l,()):=by
 unfold F62;have h1:=h.1;refine aF (X5 l h.1) ?_;refine H8 (mk:=fun i=>((l,(i:Int)),(i:Int),())) (n:=l.length) (by omega) (fun i hi=> ?_) ?_
 ·obtain⟨v,hv⟩:∃ v,l[i]? = some v:=⟨_,getElem?_eq_getElem hi⟩
  have hc:=NZ v.2.2.1 (h.2 v (mem_of_getElem? hv));have hset:l.set i (v.1,v.2.1,v.2.2.1,v.2.2.2)=l:=yI hv;simp only[aC,hi,decide_true,cond_true,lI hi,hv,bind_some,pO,vX];refine aF hc ?_;simp only[lI hi,hv,bind_some,hset,aX (show i<9223372036854775807 by omega),pO,vX,JF,cond_true];rfl
 ·simp only[aC,lt_irrefl,decide_false,cond_false,pO,decide_true,cond_true];rfl
theorem Yl (c:aQ) (h:XL c):F59 (c,())=some (c,()):=by
 obtain⟨k,a2,a3,a4,a5,a6,a7,a8,a9,a10,a11,a12,a13,a14,a15,a16,a17,⟨⟩⟩:=c;obtain⟨h1,h2,h3,h4,h5,h6⟩:=h;unfold F59;exact aF (G5 a8 h1) (aF (vw a9 h2) (aF (vw a10 h3) (aF (xW a15 h4) (aF (Oe a16 h5) (aF (N7 a17 h6) (by simp only[decide_true,cond_true]))))))
def La (m:TMD):E5:=
 let r:=m.2.2.1;let c:=m.2.2.2.1.2.2.1;let y:=m.2.2.2.2.2.2.2.2.2.2.2.1;let d:=m.2.2.2.2.2.2.2.2.2.2.2.2.2.2.2.1;let s:=r.2.2.2.2.2.2.2.2.2.2.1
 (m.1,m.2.1,r.1,r.2.1,r.2.2.1,r.2.2.2.1,r.2.2.2.2.1,r.2.2.2.2.2.1,r.2.2.2.2.2.2.1,r.2.2.2.2.2.2.2.1,r.2.2.2.2.2.2.2.2.1,r.2.2.2.2.2.2.2.2.2.1,s.1,s.2.1,s.2.2.1,
  m.2.2.2.1.1,m.2.2.2.1.2.1,c.1,c.2.1,c.2.2.1,c.2.2.2.1,c.2.2.2.2.1,c.2.2.2.2.2.1,c.2.2.2.2.2.2.1,c.2.2.2.2.2.2.2.1,c.2.2.2.2.2.2.2.2.1,c.2.2.2.2.2.2.2.2.2.1,c.2.2.2.2.2.2.2.2.2.2.1,c.2.2.2.2.2.2.2.2.2.2.2.1,c.2.2.2.2.2.2.2.2.2.2.2.2.1,c.2.2.2.2.2.2.2.2.2.2.2.2.2.1,c.2.2.2.2.2.2.2.2.2.2.2.2.2.2.1,c.2.2.2.2.2.2.2.2.2.2.2.2.2.2.2.1,c.2.2.2.2.2.2.2.2.2.2.2.2.2.2.2.2.1,
  m.2.2.2.2.1,m.2.2.2.2.2.1,m.2.2.2.2.2.2.1,m.2.2.2.2.2.2.2.1,m.2.2.2.2.2.2.2.2.1,m.2.2.2.2.2.2.2.2.2.1,m.2.2.2.2.2.2.2.2.2.2.1,y.1,y.2.1,y.2.2.1,y.2.2.2.1,y.2.2.2.2.1,y.2.2.2.2.2.1,y.2.2.2.2.2.2.1,
  m.2.2.2.2.2.2.2.2.2.2.2.2.1,m.2.2.2.2.2.2.2.2.2.2.2.2.2.1,m.2.2.2.2.2.2.2.2.2.2.2.2.2.2.1,d.1,d.2.1,d.2.2.1,d.2.2.2.1,m.2.2.2.2.2.2.2.2.2.2.2.2.2.2.2.2.1)
theorem BV (m:TMD) (h:lX m):F24 (m,())=some (La m,()):=by
 obtain⟨k,rid,raft,⟨j1,j2,j3,⟨⟩⟩,cl,fr,en,rev,most,err,hint,rep,bat,its,done,⟨d1,d2,d3,d4,⟨⟩⟩,mov,⟨⟩⟩:=m;obtain⟨h1,h2,h3,⟨h4,h4'⟩,h5,h6,h7⟩:=h;have h4:bat.length≤bI:=h4;have hb:=Ti;unfold F24;refine aF (X6 raft h1) (aF (Yl j3 h2) (aF (NZ rep h3) (aF (xW its h5) (aF (XP bat h4) ?_))));refine H8 (mk:=fun i=>((i:Int),(bat,(i:Int)),())) (n:=bat.length) (by omega) (fun i hi=> ?_) ?_
 ·obtain⟨v,hv⟩:∃ v,bat[i]? = some v:=⟨_,getElem?_eq_getElem hi⟩
  have hc:=xW v.2.1 (h4' v (mem_of_getElem? hv));have hset:bat.set i (v.1,v.2.1,v.2.2)=bat:=yI hv;simp only[aC,hi,decide_true,cond_true,lI hi,hv,bind_some,pO,vX];refine aF hc ?_;simp only[lI hi,hv,bind_some,hset,aX (show i<9223372036854775807 by omega),pO,vX,JF,cond_true];rfl
 ·simp only[aC,lt_irrefl,decide_false,cond_false];refine(congrArg (Option.map Sum.inr) (aF (r:=some (La (k,rid,raft,(j1,j2,j3,()),cl,fr,en,rev,most,err,hint,rep,bat,its,done,(d1,d2,d3,d4,()),mov,()),())) (Oe d3 h6) (aF (N7 d4 h7) ?_))).trans rfl;simp only[pO,decide_true,cond_true];rfl
theorem zcd (m:TMD):un (La m)=m:=rfl
theorem DD {α:Type} {i n:Nat} {A B:α} (h:i<n):(bif decide ((i:Int)<ofNat n) then A else B)=A:=by
 rw[show decide ((i:Int)<ofNat n)=true from decide_eq_true (Int.ofNat_lt.2 h)];rfl
theorem Dk {α:Type} {n:Nat} {A B:α}:(bif decide ((n:Int)<ofNat n) then A else B)=B:=by
 rw[show decide ((n:Int)<ofNat n)=false from decide_eq_false (Int.lt_irrefl _)];rfl
theorem Df {s:List UInt8} (h1:1≤s.length) (h2:s.length≤32) (h3:s.all (fun c=>decide (33≤c.toNat) && decide (c.toNat≤126))=true):IsKey s:=
 ⟨h1,h2,fun c hc=>by simpa using all_eq_true.1 h3 c hc⟩
def dW (s:List UInt8):Prop:=s.length≤8∧IsKey s
theorem yA (s:List UInt8):F67 (s,())=some (decide (dW s),()):=by
 unfold F67 dW;by_cases h:s.length≤8
 ·have e:decide (ofNat s.length≤8)=true:=decide_eq_true (by simp;omega);simp only[e,cond_true,jU,bind_some,h,true_and]
 ·have e:decide (ofNat s.length≤8)=false:=decide_eq_false (by simp;omega);simp only[e,cond_false,h,false_and,decide_false]
theorem xX (s:List UInt8) (hs:s.length≤140737488351232):F76 (s,())=some (decide (dW s),()):=by
 unfold F76 dW;by_cases h:s.length≤8
 ·have e:decide (ofNat s.length≤8)=true:=decide_eq_true (by simp;omega);simp only[e,cond_true,jr s hs,bind_some,h,true_and]
 ·have e:decide (ofNat s.length≤8)=false:=decide_eq_false (by simp;omega);simp only[e,cond_false,h,false_and,decide_false]
theorem XM (s p:List UInt8):F93 (s,p,())=some (begins s p,()):=by
 unfold F93;by_cases h:p.length≤s.length
 ·have e:decide (ofNat p.length≤ofNat s.length)=true:=decide_eq_true (by simpa using h);simp only[e,cond_true,xZ h,bind_some,begins]
 ·have e:decide (ofNat p.length≤ofNat s.length)=false:=decide_eq_false (by simpa using h);simp only[e,cond_false,Ij h]
theorem NW (s p:List UInt8):F97 (s,p,())=some (begins s p,()):=by
 unfold F97;by_cases h:p.length≤s.length
 ·have e:decide (ofNat p.length≤ofNat s.length)=true:=decide_eq_true (by simpa using h);simp only[e,cond_true,xZ h,bind_some,begins]
 ·have e:decide (ofNat p.length≤ofNat s.length)=false:=decide_eq_false (by simpa using h);simp only[e,cond_false,Ij h]
theorem BG (s p:List UInt8):F68 (s,p,())=some (begins s p,()):=by
 unfold F68;simp[XM]
def Under (p k:List UInt8):Prop:=dW p∧IsKey k∧begins k p=true
theorem X3 (p k:List UInt8):Gm (p,k,())=some (decide (Under p k),()):=by
 unfold Gm Under;simp only[yA,jU,BG,bind_some];by_cases h1:dW p<;>by_cases h2:IsKey k<;>simp[h1,h2]
theorem XO (p k:List UInt8) (hp:p.length≤140737488351232) (hk:k.length≤140737488351232):Gp (p,k,())=some (decide (Under p k),()):=by
 unfold Gp Under;simp only[xX p hp,jr k hk,NW,bind_some];by_cases h1:dW p<;>by_cases h2:IsKey k<;>simp[h1,h2]
noncomputable def dU (p q k:List UInt8):List UInt8×Bool×Unit:=
 if Under p k∧dW q∧IsKey (q++k.drop p.length) then(q++k.drop p.length,true,()) else([],false,())
theorem Under.le {p k:List UInt8} (h:Under p k):p.length≤k.length:=by
 obtain⟨r,rfl⟩:=zc7.1 h.2.2;simp
theorem Hl (p q k:List UInt8):xP (p,q,k,())=some (dU p q k):=by
 unfold xP dU;simp only[X3,yA,bind_some];by_cases h1:Under p k
 ·by_cases h2:dW q
  ·have hle:=h1.le;have hk:=h1.2.1.len;have hq:=h2.2.len;simp only[h1,h2,decide_true,Bool.not_true,cond_false,BO hle,bind_some,true_and];rw[iR (by simp[bI];omega)];simp only[bind_some,jU];by_cases h3:IsKey (q++k.drop p.length)<;>simp[h3]
  ·simp[h1,h2]
 ·simp[h1]
theorem Gz (p q k:List UInt8) (hp:p.length≤140737488351232) (hq:q.length≤140737488351232) (hk:k.length≤140737488351232):F96 (p,q,k,())=some (dU p q k):=by
 unfold F96 dU;simp only[XO p k hp hk,xX q hq,bind_some];by_cases h1:Under p k
 ·by_cases h2:dW q
  ·have hle:=h1.le;have hk':=h1.2.1.len;have hq':=h2.2.len;simp only[h1,h2,decide_true,Bool.not_true,cond_false,BO hle,bind_some,true_and];rw[iR (by simp[bI];omega)];simp only[bind_some];rw[jr _ (by simp;omega)];by_cases h3:IsKey (q++k.drop p.length)<;>simp[h3]
  ·simp[h1,h2]
 ·simp[h1]
noncomputable def endOf (s:List UInt8):List UInt8:=
 if dW s then s.set (s.length-1) (Sx.byteOf (wrap u8 (aB (s.getD (s.length-1) 0)+aB (UInt8.ofNat 1)))) else[]
theorem Qz {α:Type} (l:List α) (i:Nat) (h:i<l.length):dB l (i:Int)=some i:=by
 unfold dB;have:(0:Int)≤(i:Int)∧(i:Int)<(l.length:Int):=⟨by omega,by omega⟩
 simp[this]
theorem Hm (s:List UInt8):F37 (s,())=some (endOf s,()):=by
 unfold F37 endOf;simp only[yA,bind_some];by_cases h:dW s
 ·have h1:=h.2.1;have h2:=h.2.len;have e:wrap64 (ofNat s.length-1)=((s.length-1:Nat):Int):=by rw[Qu,eU (by omega) (by omega)];omega
  have hlt:s.length-1<s.length:=by omega
  simp only[h,decide_true,Bool.not_true,cond_false,if_true,e,Qz s _ hlt,bind_some,getElem?_eq_getElem hlt,getD_eq_getElem?_getD,getD_some]
 ·simp[h]
theorem BH (s:List UInt8) (hs:s.length≤140737488351232):F41 (s,())=some (endOf s,()):=by
 unfold F41 endOf;simp only[xX s hs,bind_some];by_cases h:dW s
 ·have h1:=h.2.1;have h2:=h.2.len;have e:wrap64 (ofNat s.length-1)=((s.length-1:Nat):Int):=by rw[Qu,eU (by omega) (by omega)];omega
  have hlt:s.length-1<s.length:=by omega
  have hsl:gY s 0 ((s.length-1:Nat):Int)=some (s.take (s.length-1)):=xZ (by omega);simp only[h,decide_true,Bool.not_true,cond_false,if_true,e,hsl,aN,bind_some,getElem?_eq_getElem hlt,getD_eq_getElem?_getD,getD_some];rw[iR (by simp[bI];omega)];simp only[bind_some];congr 2;rw[List.set_eq_take_append_cons_drop,if_pos hlt,show s.length-1+1=s.length from by omega,drop_length]
 ·simp[h]
noncomputable def dG (p q k e:List UInt8):List UInt8×List UInt8×Bool×Unit:=
 if (dU p q k).2.1=true∧eG k e then
  if e=[] then((dU p q k).1,[],true,())
  else if e=endOf p then(if eG (dU p q k).1 (endOf q) then((dU p q k).1,endOf q,true,()) else([],[],false,()))
  else if begins e p=true then(if eG (dU p q k).1 (q++e.drop p.length) then((dU p q k).1,q++e.drop p.length,true,()) else([],[],false,()))
  else([],[],false,())
 else([],[],false,())
theorem CY {p q k:List UInt8} (h:(dU p q k).2.1=true):Under p k∧dW q∧IsKey (q++k.drop p.length)∧(dU p q k).1=q++k.drop p.length:=by
 unfold dU at h ⊢;by_cases hc:Under p k∧dW q∧IsKey (q++k.drop p.length)
 ·rw[if_pos hc];exact⟨hc.1,hc.2.1,hc.2.2,rfl⟩
 ·rw[if_neg hc] at h;exact noConfusion h
theorem eG.len {a b:List UInt8} (h:eG a b):b.length≤32:=by
 rcases h.2 with rfl|h
 ·simp
 ·exact h.1.2.1
theorem GK (p q k e:List UInt8):F78 (p,q,k,e,())=some (dG p q k e):=by
 unfold F78 dG;simp only[Hl,bind_some,qV];cases h1:(dU p q k).2.1 with
 | false=>simp
 | true=>
  obtain⟨k1,k2,k3,k4⟩:=CY h1;have hq:=k2.2.len;by_cases h2:eG k e
  ·have he:=h2.len;simp only[h2,decide_true,Bool.not_true,cond_false,and_self,if_true];by_cases h3:e=[]
   ·simp[h3]
   ·simp only[h3,decide_false,cond_false,Hm,bind_some,if_false];by_cases h4:e=endOf p
    ·simp only[h4,decide_true,Bool.not_true,cond_false,bind_some,elim_inl,if_true,qV];by_cases h5:eG (dU p q k).1 (endOf q)<;>simp[h5]
    ·simp only[h4,decide_false,Bool.not_false,cond_true,BG,bind_some,if_false];cases h5:begins e p with
     | false=>simp
     | true=>
      have hle:p.length≤e.length:=by obtain⟨r,rfl⟩:=zc7.1 h5;simp
      simp only[Bool.not_true,cond_false,BO hle,bind_some,if_true];rw[iR (by simp[bI];omega)];simp only[bind_some,elim_inl,qV];by_cases h6:eG (dU p q k).1 (q++e.drop p.length)<;>simp[h6]
  ·simp[h2]
theorem IR {s:List UInt8}:(endOf s).length≤s.length:=by
 unfold endOf;split<;>simp
theorem Gy (p q k e:List UInt8) (hp:p.length≤140737488351232) (hq0:q.length≤140737488351232) (hk:k.length≤140737488351232) (he0:e.length≤140737488351232):F74 (p,q,k,e,())=some (dG p q k e):=by
 unfold F74 dG;simp only[Gz p q k hp hq0 hk,bind_some,qO k e hk he0];cases h1:(dU p q k).2.1 with
 | false=>simp
 | true=>
  obtain⟨k1,k2,k3,k4⟩:=CY h1;have hq:=k2.2.len;have hk1:(dU p q k).1.length≤140737488351232:=by rw[k4];have:=k3.len;omega
  by_cases h2:eG k e
  ·have he:=h2.len;simp only[h2,decide_true,Bool.not_true,cond_false,and_self,if_true];by_cases h3:e=[]
   ·simp[h3]
   ·simp only[h3,decide_false,cond_false,BH p hp,BH q hq0,bind_some,if_false];by_cases h4:e=endOf p
    ·simp only[h4,decide_true,cond_true,bind_some,elim_inl,if_true];rw[qO _ _ hk1 (by have:= @IR q;omega)];by_cases h5:eG (dU p q k).1 (endOf q)<;>simp[h5]
    ·simp only[h4,decide_false,cond_false,NW,bind_some,if_false];cases h5:begins e p with
     | false=>simp
     | true=>
      have hle:p.length≤e.length:=by obtain⟨r,rfl⟩:=zc7.1 h5;simp
      simp only[cond_true,BO hle,bind_some,if_true];rw[iR (by simp[bI];omega)];simp only[bind_some,elim_inl];rw[qO _ _ hk1 (by simp;omega)];by_cases h6:eG (dU p q k).1 (q++e.drop p.length)<;>simp[h6]
  ·simp[h2]
theorem wrap_u8 {x:Int} (h1:0≤x) (h2:x≤255):wrap .u8 x=x:=by
 simp only[wrap,IntKind.bits,signed];simp;omega
theorem zcx (c:UInt8) (h:c.toNat≤126):c<Sx.byteOf (wrap u8 (aB c+aB (UInt8.ofNat 1))):=by
 have e:aB c+aB (UInt8.ofNat 1)=((c.toNat+1:Nat):Int):=rfl;have e2:wrap u8 ((c.toNat+1:Nat):Int)=((c.toNat+1:Nat):Int):=wrap_u8 (by omega) (by omega);rw[e,e2,UInt8.lt_iff_toNat_lt];simp[Sx.byteOf];omega
theorem Ia {p:List UInt8} (h:dW p):∃ p0 c c',p=p0++[c]∧endOf p=p0++[c']∧c<c':=by
 have hne:p≠[]:=by intro e;have:=h.2.1;rw[e] at this;exact absurd this (by simp)
 have hp:=List.dropLast_concat_getLast hne;refine⟨p.dropLast,p.getLast hne,_,hp.symm,?_,zcx (p.getLast hne) (h.2.2.2 _ (List.getLast_mem hne)).2⟩;unfold endOf;rw[if_pos h];generalize hq:p.dropLast=q at hp;generalize hc:p.getLast hne=c at hp;subst hp;simp[getD_eq_getElem?_getD]
theorem Dj {p:List UInt8} (h:dW p):endOf p≠[]:=by
 obtain⟨p0,c,c',_,e,_⟩:=Ia h;rw[e];simp
theorem IU {p:List UInt8} (h:dW p) (r:List UInt8):endOf p≠p++r:=by
 obtain⟨p0,c,c',e1,e2,h3⟩:=Ia h;rw[e2,e1];intro h;have h:=List.append_cancel_left (h.trans (List.append_assoc _ _ _));obtain rfl:=(List.cons.inj h).1;exact absurd h3 (by simp)
theorem Rl {p:List UInt8} (h:dW p) (s:List UInt8):aY (p++s) (endOf p)=true:=by
 obtain⟨p0,c,c',e1,e2,h3⟩:=Ia h;rw[e2,e1,List.append_assoc,GX,List.singleton_append,tV];simp[h3]
theorem Cf {p:List UInt8} (h:dW p) (r:List UInt8):p++r≠[]:=by
 intro e;have:=h.2.1;rw[(List.append_eq_nil_iff.1 e).1] at this;exact absurd this (by simp)
def Ends (p q e e':List UInt8):Prop:=(e=[]∧e'=[])∨(e=endOf p∧e'=endOf q)∨∃ r,e=p++r∧e'=q++r
def Moves (p q k e k' e':List UInt8):Prop:=dW p∧dW q∧eG k e∧eG k' e'∧(∃ r,k=p++r∧k'=q++r)∧Ends p q e e'
theorem Moves.symm {p q k e k' e':List UInt8} (h:Moves p q k e k' e'):Moves q p k' e' k e:=by
 obtain⟨h1,h2,h3,h4,⟨r,h5,h6⟩,h7⟩:=h;refine⟨h2,h1,h4,h3,⟨r,h6,h5⟩,?_⟩;rcases h7 with⟨a,b⟩|⟨a,b⟩|⟨r,a,b⟩
 ·exact .inl ⟨b,a⟩
 ·exact .inr (.inl ⟨b,a⟩)
 ·exact .inr (.inr ⟨r,b,a⟩)
theorem Moves.trans {p q s k e k' e' k'' e'':List UInt8} (h:Moves p q k e k' e') (g:Moves q s k' e' k'' e''):Moves p s k e k'' e'':=by
 obtain⟨h1,h2,h3,h4,⟨r,h5,h6⟩,h7⟩:=h;obtain⟨g1,g2,g3,g4,⟨r2,g5,g6⟩,g7⟩:=g;obtain rfl:=List.append_cancel_left (h6.symm.trans g5);refine⟨h1,g2,h3,g4,⟨r,h5,g6⟩,?_⟩;rcases h7 with⟨a,b⟩|⟨a,b⟩|⟨t,a,b⟩
 ·rcases g7 with⟨c,d⟩|⟨c,d⟩|⟨u,c,d⟩
  ·exact .inl ⟨a,d⟩
  ·exact absurd (c.symm.trans b) (Dj h2)
  ·exact absurd (c.symm.trans b) (Cf h2 u)
 ·rcases g7 with⟨c,d⟩|⟨c,d⟩|⟨u,c,d⟩
  ·exact absurd (b.symm.trans c) (Dj h2)
  ·exact .inr (.inl ⟨a,d⟩)
  ·exact absurd (b.symm.trans c) (IU h2 u)
 ·rcases g7 with⟨c,d⟩|⟨c,d⟩|⟨u,c,d⟩
  ·exact absurd (b.symm.trans c) (Cf h2 t)
  ·exact absurd (c.symm.trans b) (IU h2 t)
  ·obtain rfl:=List.append_cancel_left (b.symm.trans c);exact .inr (.inr ⟨t,a,d⟩)
theorem PO (p r:List UInt8):begins (p++r) p=true:=zc7.2 ⟨r,rfl⟩
theorem yj {p q k e k' e':List UInt8} (h:Moves p q k e k' e'):dG p q k e=(k',e',true,()):=by
 obtain⟨h1,h2,h3,h4,⟨r,rfl,rfl⟩,h7⟩:=h;have hk:dU p q (p++r)=(q++r,true,()):=by
  unfold dU;have:(p++r).drop p.length=r:=by simp
  rw[this];exact if_pos ⟨⟨h1,h3.1,PO p r⟩,h2,h4.1⟩
 unfold dG;rw[hk,if_pos ⟨rfl,h3⟩];rcases h7 with⟨rfl,rfl⟩|⟨rfl,rfl⟩|⟨t,rfl,rfl⟩
 ·rw[if_pos rfl]
 ·rw[if_neg (Dj h1),if_pos rfl,if_pos h4]
 ·rw[if_neg (Cf h1 t),if_neg (fun h=>IU h1 t h.symm),if_pos (PO p t)];have:(p++t).drop p.length=t:=by simp
  rw[this,if_pos h4]
theorem BI (p q k e:List UInt8):dG p q k e=([],[],false,())∨∃ k' e',Moves p q k e k' e'∧dG p q k e=(k',e',true,()):=by
 by_cases h1:(dU p q k).2.1=true∧eG k e
 ·obtain⟨⟨k1,k2,k3⟩,k4,k5,k6⟩:=CY h1.1;obtain⟨r,rfl⟩:=zc7.1 k3;have hd:(p++r).drop p.length=r:=by simp
  rw[hd] at k5 k6;by_cases h2:e=[]
  ·subst h2;exact .inr ⟨_,_,⟨k1,k4,h1.2,⟨k5,.inl rfl⟩,⟨r,rfl,rfl⟩,.inl ⟨rfl,rfl⟩⟩,yj ⟨k1,k4,h1.2,⟨k5,.inl rfl⟩,⟨r,rfl,rfl⟩,.inl ⟨rfl,rfl⟩⟩⟩
  ·by_cases h3:e=endOf p
   ·by_cases h4:eG (q++r) (endOf q)
    ·have hM:Moves p q (p++r) e (q++r) (endOf q):=⟨k1,k4,h1.2,h4,⟨r,rfl,rfl⟩,.inr (.inl ⟨h3,rfl⟩)⟩
     exact .inr ⟨_,_,hM,yj hM⟩
    ·left;unfold dG;rw[if_pos h1,if_neg h2,if_pos h3,k6,if_neg h4]
   ·cases h4:begins e p with
    | true=>
     obtain⟨t,rfl⟩:=zc7.1 h4;by_cases h5:eG (q++r) (q++t)
     ·have hM:Moves p q (p++r) (p++t) (q++r) (q++t):=⟨k1,k4,h1.2,h5,⟨r,rfl,rfl⟩,.inr (.inr ⟨t,rfl,rfl⟩)⟩
      exact .inr ⟨_,_,hM,yj hM⟩
     ·left;unfold dG;have hd2:(p++t).drop p.length=t:=by simp
      rw[if_pos h1,if_neg h2,if_neg h3,if_pos h4,hd2,k6,if_neg h5]
    | false=>left;unfold dG;rw[if_pos h1,if_neg h2,if_neg h3,if_neg (by rw[h4];exact noConfusion)]
 ·left;unfold dG;rw[if_neg h1]
theorem vN {α T R:Type} (l:List α) (hl:l.length≤9223372036854775806) (ok:α→Bool) (to:α→α) (mk:List α→Nat→T) {step:T→Option (T⊕R)} (rt:List α→R) (rf:R)
  (h:∀ i v d,d.length=i→l[i]? = some v→step (mk d i)=some (bif ok v then .inl (mk (d++[to v]) (i+1)) else .inr rf)) (hK:∀ d,d.length=l.length→step (mk d l.length)=some (.inr (rt d))) :
  iter step big (mk [] 0)=some (bif l.all ok then rt (l.map to) else rf):=by
 have main:∀ k i m d,i+k=l.length→k<m→d.length=i→iter step m (mk d i)=some (bif (l.drop i).all ok then rt (d++(l.drop i).map to) else rf):=by
  intro k;induction k with
  | zero=>
   intro i m d hi hm hd;cases m with
   | zero=>omega
   | succ m=>rw[Nat.add_zero] at hi;subst hi;simp[iter,hK d hd]
  | succ k ih=>
   intro i m d hi hm hd;cases m with
   | zero=>omega
   | succ m=>
    have hlt:i<l.length:=by omega
    have h0:=h i l[i] d hd (getElem?_eq_getElem hlt);rw[drop_eq_getElem_cons hlt];simp only[iter,h0,bind_some,List.all_cons,List.map_cons];cases hv:ok l[i] with
    | false=>rfl
    | true=>simp only[cond_true,elim_inl,Bool.true_and];rw[ih (i+1) m _ (by omega) (by omega) (by simp[hd])];simp
 have:=main l.length 0 big [] (by omega) (by rw[iT];omega) rfl;simpa using this
noncomputable def mg {α:Type} (ok:α→Bool) (to:α→α) (l:List α):List α×Bool×Unit:=bif l.all ok then(l.map to,true,()) else([],false,())
noncomputable def cOk (p q:List UInt8) (c:dC):Bool:=(dU p q c.1).2.1
noncomputable def cTo (p q:List UInt8) (c:dC):dC:=((dU p q c.1).1,c.2)
noncomputable def oOk (p q:List UInt8) (o:aP):Bool:=(dG p q o.2.1 o.2.2.1).2.2.1
noncomputable def oTo (p q:List UInt8) (o:aP):aP:=(o.1,(dG p q o.2.1 o.2.2.1).1,(dG p q o.2.1 o.2.2.1).2.1,o.2.2.2)
noncomputable def iOk (p q:List UInt8) (x:aT):Bool:=(dU p q x.1).2.1
noncomputable def iTo (p q:List UInt8) (x:aT):aT:=((dU p q x.1).1,x.2)
theorem DF {α:Type} {d:List α} {v:α} {n:Nat} (h:d.length=n) (hn:n<100):bF d [v]=some (d++[v]):=iR (by have:bI=34359738368:=rfl;simp only[length_cons,length_nil];omega)
theorem zcQ (p q:List UInt8) (l:List dC) (hl:l.length≤4):BD (p,q,l,())=some (mg (cOk p q) (cTo p q) l):=by
 unfold BD;refine(vN l (by omega) (cOk p q) (cTo p q) (fun d i=>(d,(i:Int),())) (fun d=>(d,true,())) ([],false,()) (fun i v d hd hv=> ?_) (fun d hd=> ?_)).trans rfl
 ·have hi:=(List.getElem?_eq_some_iff.1 hv).1;simp only[aC,hi,decide_true,cond_true,aN,hv,bind_some,Hl,DF hd (by omega),aX (show i<9223372036854775807 by omega),cOk,cTo];cases (dU p q v.1).2.1<;>rfl
 ·simp only[aC,lt_irrefl,decide_false,cond_false]
theorem TK (p q:List UInt8) (l:List aP) (hl:l.length≤4):uZ (p,q,l,())=some (mg (oOk p q) (oTo p q) l):=by
 unfold uZ;refine(vN l (by omega) (oOk p q) (oTo p q) (fun d i=>(d,(i:Int),())) (fun d=>(d,true,())) ([],false,()) (fun i v d hd hv=> ?_) (fun d hd=> ?_)).trans rfl
 ·have hi:=(List.getElem?_eq_some_iff.1 hv).1;simp only[aC,hi,decide_true,cond_true,aN,hv,bind_some,GK,DF hd (by omega),aX (show i<9223372036854775807 by omega),oOk,oTo];cases (dG p q v.2.1 v.2.2.1).2.2.1<;>rfl
 ·simp only[aC,lt_irrefl,decide_false,cond_false]
theorem SH (p q:List UInt8) (hp:St p) (hq:St q) (l:List aP) (hl:l.length≤4) (hz:∀ o∈l,qI o):F99 (p,q,l,())=some (mg (oOk p q) (oTo p q) l):=by
 unfold F99;refine(vN l (by omega) (oOk p q) (oTo p q) (fun d i=>(d,(i:Int),())) (fun d=>(d,true,())) ([],false,()) (fun i v d hd hv=> ?_) (fun d hd=> ?_)).trans rfl
 ·have hi:=(List.getElem?_eq_some_iff.1 hv).1;obtain⟨z1,z2,-⟩:=hz v (mem_of_getElem? hv);simp only[aC,hi,decide_true,cond_true,aN,hv,bind_some,Gy p q v.2.1 v.2.2.1 hp hq z1 z2,DF hd (by omega),aX (show i<9223372036854775807 by omega),oOk,oTo];cases (dG p q v.2.1 v.2.2.1).2.2.1<;>rfl
 ·simp only[aC,lt_irrefl,decide_false,cond_false]
theorem Si {α:Type} {d:List α} {v:α} {n:Nat} (h:d.length=n) (hn:n<1000000):bF d [v]=some (d++[v]):=iR (by have:bI=34359738368:=rfl;simp only[length_cons,length_nil];omega)
theorem Rz (p q:List UInt8) (l:List aT) (hl:l.length≤1000000):F84 (p,q,l,())=some (mg (iOk p q) (iTo p q) l):=by
 unfold F84;refine(vN l (by omega) (iOk p q) (iTo p q) (fun d i=>(d,(i:Int),())) (fun d=>(d,true,())) ([],false,()) (fun i v d hd hv=> ?_) (fun d hd=> ?_)).trans rfl
 ·have hi:=(List.getElem?_eq_some_iff.1 hv).1;simp only[aC,hi,decide_true,cond_true,aN,hv,bind_some,Hl,Si hd (by omega),aX (show i<9223372036854775807 by omega),iOk,iTo];cases (dU p q v.1).2.1<;>rfl
 ·simp only[aC,lt_irrefl,decide_false,cond_false]
theorem Qj (p q:List UInt8) (hp:St p) (hq:St q) (l:List aT) (hl:l.length≤1000000) (hz:∀ x∈l,St x.1):F86 (p,q,l,())=some (mg (iOk p q) (iTo p q) l):=by
 unfold F86;refine(vN l (by omega) (iOk p q) (iTo p q) (fun d i=>(d,(i:Int),())) (fun d=>(d,true,())) ([],false,()) (fun i v d hd hv=> ?_) (fun d hd=> ?_)).trans rfl
 ·have hi:=(List.getElem?_eq_some_iff.1 hv).1;have z1:=hz v (mem_of_getElem? hv);simp only[aC,hi,decide_true,cond_true,aN,hv,bind_some,Gz p q v.1 hp hq z1,Si hd (by omega),aX (show i<9223372036854775807 by omega),iOk,iTo];cases (dU p q v.1).2.1<;>rfl
 ·simp only[aC,lt_irrefl,decide_false,cond_false]
theorem Hf (p q k:List UInt8):dU p q k=([],false,())∨∃ r,dW p∧dW q∧k=p++r∧IsKey (p++r)∧IsKey (q++r)∧dU p q k=(q++r,true,()):=by
 cases h:(dU p q k).2.1 with
 | false=>
  left;unfold dU at h ⊢;by_cases c:Under p k∧dW q∧IsKey (q++k.drop p.length)
  ·rw[if_pos c] at h;cases h
  ·rw[if_neg c]
 | true=>
  obtain⟨⟨k1,k2,k3⟩,k4,k5,k6⟩:=CY h;obtain⟨r,rfl⟩:=zc7.1 k3;have hd:(p++r).drop p.length=r:=by simp
  rw[hd] at k5 k6;refine .inr ⟨r,k1,k4,rfl,k2,k5,?_⟩;refine Prod.ext k6 (Prod.ext h rfl)
theorem QU {p q k e k' e' s:List UInt8} (h:Moves p q k e k' e') (h1:IsKey (p++s)) (h2:IsKey (q++s)):InP k e (p++s)↔InP k' e' (q++s):=by
 obtain⟨g1,g2,g3,g4,⟨r,rfl,rfl⟩,g7⟩:=h;unfold InP;simp only[g3,g4,h1,h2,true_and,GX,List.append_cancel_left_eq];rcases g7 with⟨rfl,rfl⟩|⟨rfl,rfl⟩|⟨t,rfl,rfl⟩
 ·simp only[tY]
 ·simp only[Rl g1 s,Rl g2 s]
 ·simp only[GX]
theorem Ji {p q:List UInt8} {o:aP} (h:oOk p q o=true):∃ k' e',Moves p q o.2.1 o.2.2.1 k' e'∧oTo p q o=(o.1,k',e',o.2.2.2):=by
 unfold oOk oTo at *;rcases BI p q o.2.1 o.2.2.1 with e|⟨k',e',hM,e⟩
 ·rw[e] at h;cases h
 ·exact⟨k',e',hM,by rw[e]⟩
theorem RN {p q e e':List UInt8} (h1:dW p) (h:Ends p q e e') (he:e=[]):e'=[]:=by
 rcases h with⟨a,b⟩|⟨a,b⟩|⟨t,a,b⟩
 ·exact b
 ·exact absurd (a.symm.trans he) (Dj h1)
 ·exact absurd (a.symm.trans he) (Cf h1 t)
theorem zbn {p q:List UInt8} {o:aP} (h:oOk p q o=true) (ho:jC o):jC (oTo p q o):=by
 obtain⟨k',e',hM,e⟩:=Ji h;rw[e];rcases ho with⟨a1,a2,a3,a4⟩|⟨a1,a2,a3,a4⟩
 ·exact .inl ⟨a1,RN hM.1 hM.2.2.2.2.2 a2,hM.2.2.2.1.1,a4⟩
 ·exact .inr ⟨a1,a2,a3,hM.2.2.2.1⟩
theorem Zn {p q:List UInt8} {a b:aP} (ha:oOk p q a=true) (hb:oOk p q b=true):Meet (oTo p q a) (oTo p q b)↔Meet a b:=by
 obtain⟨k1,e1,hM1,x1⟩:=Ji ha;obtain⟨k2,e2,hM2,x2⟩:=Ji hb;rw[x1,x2];obtain⟨r1,y1,z1⟩:=hM1.2.2.2.2.1;obtain⟨r2,y2,z2⟩:=hM2.2.2.2.2.1;have i1:=QU hM1 (s:=r2) (y2▸hM2.2.2.1.1) (z2▸hM2.2.2.2.1.1);have i2:=QU hM2 (s:=r1) (y1▸hM1.2.2.1.1) (z1▸hM1.2.2.2.1.1);unfold Meet;dsimp only;rw[←y2,←z2] at i1;rw[←y1,←z1] at i2;rw[i1,i2]
theorem Qr {p q:List UInt8} {l:List aP} (h:l.all (oOk p q)=true) (hl:ku l):ku (l.map (oTo p q)):=by
 have hall:∀ o∈l,oOk p q o=true:=fun o ho=>all_eq_true.1 h o ho;refine⟨fun i v hv=> ?_,by rw[length_map];exact hl.2⟩;rw[List.getElem?_map] at hv;obtain⟨v0,hv0,rfl⟩:=Option.map_eq_some_iff.1 hv;obtain⟨h1,h2⟩:=hl.1 i v0 hv0;have hm:=hall v0 (mem_of_getElem? hv0);refine⟨zbn hm h1,fun j w hj hw=> ?_⟩;rw[List.getElem?_map] at hw;obtain⟨w0,hw0,rfl⟩:=Option.map_eq_some_iff.1 hw;exact fun hh=>h2 j w0 hj hw0 ((Zn (hall w0 (mem_of_getElem? hw0)) hm).1 hh)
theorem zaM {p q:List UInt8} {c:dC} (h:cOk p q c=true) (hc:nM c):nM (cTo p q c):=by
 unfold cOk cTo at *;rcases Hf p q c.1 with e|⟨r,h1,h2,h3,h4,h5,e⟩
 ·rw[e] at h;cases h
 ·rw[e];exact⟨h5,hc.2⟩
theorem ZC {p q:List UInt8} {l:List dC} (h:l.all (cOk p q)=true) (hl:qm l):qm (l.map (cTo p q)):=by
 refine⟨fun c hc=> ?_,by rw[length_map];exact hl.2⟩;obtain⟨c0,hc0,rfl⟩:=mem_map.1 hc;exact zaM (all_eq_true.1 h c0 hc0) (hl.1 c0 hc0)
noncomputable def ed (p q:List UInt8) (c:aQ):aQ×Bool×Unit:=
 bif dec' (gy c∧c.1≤7) then
  bif decide (c.1≤2) then bif (dG p q c.2.1 c.2.2.1).2.2.1 then((c.1,(dG p q c.2.1 c.2.2.1).1,(dG p q c.2.1 c.2.2.1).2.1,c.2.2.2),true,()) else(fD,false,())
  else bif decide (c.1=3) then
   bif c.2.2.2.2.2.2.2.1.all (cOk p q) then bif c.2.2.2.2.2.2.2.2.1.all (oOk p q) then bif c.2.2.2.2.2.2.2.2.2.1.all (oOk p q) then
    ((c.1,c.2.1,c.2.2.1,c.2.2.2.1,c.2.2.2.2.1,c.2.2.2.2.2.1,c.2.2.2.2.2.2.1,c.2.2.2.2.2.2.2.1.map (cTo p q),c.2.2.2.2.2.2.2.2.1.map (oTo p q),c.2.2.2.2.2.2.2.2.2.1.map (oTo p q),c.2.2.2.2.2.2.2.2.2.2),true,())
   else(fD,false,()) else(fD,false,()) else(fD,false,())
  else(c,true,())
 else(fD,false,())
theorem Pg {k:Int} {c:aQ} (h:gy c) (e:c.1=3):qm c.2.2.2.2.2.2.2.1∧ku c.2.2.2.2.2.2.2.2.1∧ku c.2.2.2.2.2.2.2.2.2.1:=by
 have hK:=h.2;unfold iI at hK;rw[e] at hK;simp only[reduceEq,false_and,true_and,false_or,or_false,and_false,or_self] at hK;exact hK
theorem Yz {p q:List UInt8} {c:aQ} (h:gy c) (hk:c.1=1∨c.1=2) {k' e':List UInt8} (hM:Moves p q c.2.1 c.2.2.1 k' e'):gy (c.1,k',e',c.2.2.2):=by
 obtain⟨hB,hK⟩:=h;have hR:=hM.2.2.2.1;have hE:=fun he=>RN hM.1 hM.2.2.2.2.2 he;obtain⟨k,a2,a3,r⟩:=c;dsimp only at *;rcases hk with e|e<;>subst e
 ·refine⟨?_,?_⟩
  ·unfold mf at *;simp only[reduceEq,false_or,or_false,true_or,true_and] at hB ⊢;exact⟨hE hB.1,hB.2⟩
  ·unfold iI at *;simp only[reduceEq,false_and,true_and,false_or,or_false,and_false,or_self] at hK ⊢;exact⟨hR.1,hK.2⟩
 ·refine⟨?_,?_⟩
  ·unfold mf at *;simp only[reduceEq,false_or,or_false,true_or,true_and] at hB ⊢;exact hB
  ·unfold iI at *;simp only[reduceEq,false_and,true_and,false_or,or_false,and_false,or_self] at hK ⊢;exact hR
theorem zav {p q:List UInt8} {c:aQ} (h:gy c) (hk:c.1=3) (h1:c.2.2.2.2.2.2.2.1.all (cOk p q)=true) (h2:c.2.2.2.2.2.2.2.2.1.all (oOk p q)=true) (h3:c.2.2.2.2.2.2.2.2.2.1.all (oOk p q)=true) :
  gy (c.1,c.2.1,c.2.2.1,c.2.2.2.1,c.2.2.2.2.1,c.2.2.2.2.2.1,c.2.2.2.2.2.2.1,c.2.2.2.2.2.2.2.1.map (cTo p q),c.2.2.2.2.2.2.2.2.1.map (oTo p q),c.2.2.2.2.2.2.2.2.2.1.map (oTo p q),c.2.2.2.2.2.2.2.2.2.2):=by
 obtain⟨t1,t2,t3⟩:=Pg (k:=0) h hk;obtain⟨hB,hK⟩:=h;have u1:=ZC h1 t1;have u2:=Qr h2 t2;have u3:=Qr h3 t3;obtain⟨k,a2,a3,a4,a5,a6,a7,a8,a9,a10,r⟩:=c;dsimp only at *;subst hk;refine⟨?_,?_⟩
 ·unfold mf at *;simp only[reduceEq,false_or,or_false,true_or,true_and] at hB ⊢;exact hB
 ·unfold iI;simp only[reduceEq,false_and,true_and,false_or,or_false,and_false,or_self];exact⟨u1,u2,u3⟩
theorem Sl {c:aQ} (h:gy c) (hk:c.1=3):c.2.2.2.2.2.2.2.1.length≤4∧c.2.2.2.2.2.2.2.2.1.length≤4∧c.2.2.2.2.2.2.2.2.2.1.length≤4:=by
 obtain⟨t1,t2,t3⟩:=Pg (k:=0) h hk;exact⟨t1.2,t2.2,t3.2⟩
theorem wF {α:Type} (f:α→α) {l:List α} (h:Sh l):Sh (l.map f):=by unfold Sh;rw[length_map];exact h
theorem yC {α:Type} {ok:α→Bool} {to:α→α} {l:List α} (h:l.all ok=false):mg ok to l=([],false,()):=by unfold mg;rw[h];rfl
theorem pR {α:Type} {ok:α→Bool} {to:α→α} {l:List α} (h:l.all ok=true):mg ok to l=(l.map to,true,()):=by unfold mg;rw[h];rfl
theorem J9 (p q:List UInt8) (c:aQ) (hc:ShC c):F79 (p,q,c,())=some (ed p q c):=by
 have hr:=right_eq c hc;unfold F79 ed;by_cases hR:gy c
 case neg=>rw[dE hR] at hr;rw[dE fun h=>hR h.1];refine aF hr ?_;rfl
 rw[bT hR] at hr;refine aF hr ?_;simp only[Bool.not_true,cond_false];by_cases h8:8≤c.1
 ·rw[dE fun h=>by have:=h.2;omega,decide_eq_true h8];rfl
 rw[bT ⟨hR,by omega⟩,decide_eq_false h8];simp only[cond_true,cond_false];have hmv:c.1=1∨c.1=2→∀ k' e',Moves p q c.2.1 c.2.2.1 k' e'→tJ ((c.1,k',e',c.2.2.2),())=some (true,()):=fun hk k' e' hM=>by have:=right_eq (c.1,k',e',c.2.2.2) hc;rw[bT (Yz hR hk hM)] at this;exact this
 have hkk:=Hu hR;by_cases h12:c.1≤2
 ·have hk:c.1=1∨c.1=2:=by omega
  have d3:decide (c.1=3)=false:=decide_eq_false (by omega);rw[decide_eq_true h12];simp only[cond_true,d3,cond_false];have key:∀ {X:Option ((Bool×List UInt8×List UInt8×List dC×List aP×List aP×Unit)⊕(aQ×Bool×Unit))},X=(Option.bind (F78 (p,q,c.2.1,c.2.2.1,())) fun b=>some (inl (b.2.2.1,b.1,b.2.1,c.2.2.2.2.2.2.2.1,c.2.2.2.2.2.2.2.2.1,c.2.2.2.2.2.2.2.2.2.1,())))→
    X=some (inl ((dG p q c.2.1 c.2.2.1).2.2.1,(dG p q c.2.1 c.2.2.1).1,(dG p q c.2.1 c.2.2.1).2.1,c.2.2.2.2.2.2.2.1,c.2.2.2.2.2.2.2.2.1,c.2.2.2.2.2.2.2.2.2.1,())):=fun e=>by
   rw[e,GK];rfl
  refine aF (key (by
   rcases hk with e|e
   ·rw[decide_eq_true e];rfl
   ·rw[decide_eq_false (by omega:¬ c.1=1),decide_eq_true e];rfl)) ?_
  simp only[elim_inl];rcases BI p q c.2.1 c.2.2.1 with e|⟨k',e',hM,e⟩
  ·rw[e];rfl
  ·rw[e];simp only[Bool.not_true,cond_false,cond_true];refine aF (hmv hk k' e' hM) ?_;rfl
 ·rw[decide_eq_false h12];have d1:decide (c.1=1)=false:=decide_eq_false (by omega);have d2:decide (c.1=2)=false:=decide_eq_false (by omega);simp only[cond_false,d1,d2];by_cases h3:c.1=3
  ·obtain⟨l1,l2,l3⟩:=Sl hR h3;rw[decide_eq_true h3];simp only[cond_true,zcQ p q _ l1,TK p q _ l2,TK p q _ l3,bind_some];cases a1:c.2.2.2.2.2.2.2.1.all (cOk p q) with
   | false=>simp only[yC a1,cond_false,bind_some,elim_inl,Bool.not_false,cond_true]
   | true=>
    cases a2:c.2.2.2.2.2.2.2.2.1.all (oOk p q) with
    | false=>simp only[pR a1,yC a2,cond_true,cond_false,bind_some,elim_inl,Bool.not_false]
    | true=>
     cases a3:c.2.2.2.2.2.2.2.2.2.1.all (oOk p q) with
     | false=>simp only[pR a1,pR a2,yC a3,cond_true,cond_false,bind_some,elim_inl,Bool.not_false]
     | true=>simp only[pR a1,pR a2,pR a3,cond_true,cond_false,bind_some,elim_inl,Bool.not_true];have hm:=right_eq _ (show ShC (c.1,c.2.1,c.2.2.1,c.2.2.2.1,c.2.2.2.2.1,c.2.2.2.2.2.1,c.2.2.2.2.2.2.1,c.2.2.2.2.2.2.2.1.map (cTo p q),c.2.2.2.2.2.2.2.2.1.map (oTo p q),c.2.2.2.2.2.2.2.2.2.1.map (oTo p q),c.2.2.2.2.2.2.2.2.2.2) from⟨wF _ hc.1,wF _ hc.2.1,wF _ hc.2.2.1,hc.2.2.2⟩);rw[bT (zav hR h3 a1 a2 a3)] at hm;refine aF hm ?_;rfl
  ·rw[decide_eq_false h3];simp only[cond_false,bind_some,elim_inl,Bool.not_true];refine aF (show tJ (c,())=some (true,()) from hr) ?_;rfl
theorem zcp (p q:List UInt8) (hp:St p) (hq:St q) (c:aQ) (hz:nG c):F75 (p,q,c,())=some (ed p q c):=by
 have hr:=Qg c hz;unfold F75 ed;by_cases hR:gy c
 case neg=>rw[dE hR] at hr;rw[dE fun h=>hR h.1];refine aF hr ?_;rfl
 rw[bT hR] at hr;refine aF hr ?_;simp only[Bool.not_true,cond_false];by_cases h8:7<c.1
 ·rw[dE fun h=>by have:=h.2;omega,decide_eq_true h8];rfl
 rw[bT ⟨hR,by omega⟩,decide_eq_false h8];simp only[cond_true,cond_false];have hkk:=Hu hR;obtain⟨-,-,z2,z3,zc,z9,z10,-⟩:=hz;by_cases h4:4≤c.1
 ·rw[decide_eq_true h4,decide_eq_false (by omega:¬ c.1≤2),decide_eq_false (by omega:¬ c.1=3)];rfl
 rw[decide_eq_false h4];by_cases h3:c.1=3
 ·obtain⟨l1,l2,l3⟩:=Sl hR h3;rw[decide_eq_true h3,decide_eq_false (by omega:¬ c.1≤2)];simp only[Bool.not_true,cond_false,cond_true];refine(vN (T:=List dC×Int×aQ) (R:=aQ×Bool×Unit) c.2.2.2.2.2.2.2.1 (by omega) (cOk p q) (cTo p q) (fun d i=>(d,(i:Int),fD))
   (fun d=>bif c.2.2.2.2.2.2.2.2.1.all (oOk p q) then bif c.2.2.2.2.2.2.2.2.2.1.all (oOk p q) then((c.1,c.2.1,c.2.2.1,c.2.2.2.1,c.2.2.2.2.1,c.2.2.2.2.2.1,c.2.2.2.2.2.2.1,d,c.2.2.2.2.2.2.2.2.1.map (oTo p q),c.2.2.2.2.2.2.2.2.2.1.map (oTo p q),c.2.2.2.2.2.2.2.2.2.2),true,()) else(fD,false,()) else(fD,false,())) (fD,false,()) (fun i v d hd hv=> ?_) (fun d hd=> ?_)).trans ?_
  ·have hi:=(List.getElem?_eq_some_iff.1 hv).1;have zv:=zc v (mem_of_getElem? hv);simp only[aC,hi,decide_true,cond_true,aN,hv,bind_some,Gz p q v.1 hp hq zv,DF hd (by omega),aX (show i<9223372036854775807 by omega),cOk,cTo];cases (dU p q v.1).2.1<;>rfl
  ·simp only[aC,lt_irrefl,decide_false,cond_false,SH p q hp hq _ l2 z9,SH p q hp hq _ l3 z10,bind_some];refine congrArg (Option.map Sum.inr) (?_:_=some (bif c.2.2.2.2.2.2.2.2.1.all (oOk p q) then bif c.2.2.2.2.2.2.2.2.2.1.all (oOk p q) then((c.1,c.2.1,c.2.2.1,c.2.2.2.1,c.2.2.2.2.1,c.2.2.2.2.2.1,c.2.2.2.2.2.2.1,d,c.2.2.2.2.2.2.2.2.1.map (oTo p q),c.2.2.2.2.2.2.2.2.2.1.map (oTo p q),c.2.2.2.2.2.2.2.2.2.2),true,()) else(fD,false,()) else(fD,false,())));cases a2:c.2.2.2.2.2.2.2.2.1.all (oOk p q) with
   | false=>simp only[yC a2,cond_false,Bool.not_false,cond_true]
   | true=>
    cases a3:c.2.2.2.2.2.2.2.2.2.1.all (oOk p q) with
    | false=>simp only[pR a2,yC a3,cond_true,cond_false,Bool.not_false,Bool.not_true]
    | true=>simp only[pR a2,pR a3,cond_true,cond_false,Bool.not_true]
  ·rfl
 ·rw[decide_eq_false h3,decide_eq_true (by omega:c.1≤2)];simp only[Bool.not_false,cond_true,cond_false];refine aF (Gy p q c.2.1 c.2.2.1 hp hq z2 z3) ?_;cases (dG p q c.2.1 c.2.2.1).2.2.1<;>rfl
theorem za7 {p q:List UInt8} {c:aQ} (hc:ShC c):ShC (ed p q c).1:=by
 have hN:ShC fD:=by refine⟨?_,?_,?_,?_,⟨?_,fun s hs=>by simp at hs⟩,?_⟩<;>simp[Sh]
 unfold ed;cases dec' (gy c∧c.1≤7) with
 | false=>exact hN
 | true=>
  simp only[cond_true];cases decide (c.1≤2) with
  | true=>
   simp only[cond_true];cases (dG p q c.2.1 c.2.2.1).2.2.1 with
   | true=>exact hc
   | false=>exact hN
  | false=>
   simp only[cond_false];cases decide (c.1=3) with
   | false=>exact hc
   | true=>
    simp only[cond_true];cases c.2.2.2.2.2.2.2.1.all (cOk p q) with
    | false=>exact hN
    | true=>
     cases c.2.2.2.2.2.2.2.2.1.all (oOk p q) with
     | false=>exact hN
     | true=>
      cases c.2.2.2.2.2.2.2.2.2.1.all (oOk p q) with
      | false=>exact hN
      | true=>exact⟨wF _ hc.1,wF _ hc.2.1,wF _ hc.2.2.1,hc.2.2.2⟩
theorem G8 {p q k e:List UInt8} (hq:St q) (hk:St k) (he:St e):St (dG p q k e).1∧St (dG p q k e).2.1:=by
 rcases BI p q k e with h|⟨k',e',hM,h⟩
 ·rw[h];exact⟨by simp,by simp⟩
 ·rw[h];have h1:=hM.2.2.2.1.1.len;have h2:=hM.2.2.2.1.len;exact⟨by show k'.length≤_;omega,by show e'.length≤_;omega⟩
theorem za5 {p q:List UInt8} (hq:St q) {c:aQ} (hz:nG c):nG (ed p q c).1:=by
 have hN:nG fD:=DZ (by simp[gU,IntKind.min,IntKind.max,IntKind.bits,signed]);have hs:=za7 (p:=p) (q:=q) hz.1;by_cases hR:gy c∧c.1≤7
 case neg=>
  have e:ed p q c=(fD,false,()):=by unfold ed;rw[dE hR];rfl
  rw[e];exact hN
 have hkk:=Hu hR.1;obtain⟨z1,⟨n1,n2,n3,n4⟩,z2,z3,zc,z9,z10,zr⟩:=hz;obtain⟨s1,s2,s3⟩:=G8 (p:=p) hq z2 z3 |>.imp id (fun h=>(⟨h,trivial⟩:_∧True));by_cases h2:c.1≤2
 ·have e:ed p q c=bif (dG p q c.2.1 c.2.2.1).2.2.1 then((c.1,(dG p q c.2.1 c.2.2.1).1,(dG p q c.2.1 c.2.2.1).2.1,c.2.2.2),true,()) else(fD,false,()):=by
   unfold ed;rw[bT hR,decide_eq_true h2];rfl
  rw[e];cases (dG p q c.2.1 c.2.2.1).2.2.1 with
  | false=>exact hN
  | true=>exact⟨z1,⟨n1,n2,n3,n4⟩,s1,s2,zc,z9,z10,zr⟩
 ·by_cases h3:c.1=3
  ·cases a1:c.2.2.2.2.2.2.2.1.all (cOk p q) with
   | false=>
    have e:ed p q c=(fD,false,()):=by unfold ed;rw[bT hR,decide_eq_false h2,decide_eq_true h3,a1];rfl
    rw[e];exact hN
   | true=>
    cases a2:c.2.2.2.2.2.2.2.2.1.all (oOk p q) with
    | false=>
     have e:ed p q c=(fD,false,()):=by unfold ed;rw[bT hR,decide_eq_false h2,decide_eq_true h3,a1,a2];rfl
     rw[e];exact hN
    | true=>
     cases a3:c.2.2.2.2.2.2.2.2.2.1.all (oOk p q) with
     | false=>
      have e:ed p q c=(fD,false,()):=by unfold ed;rw[bT hR,decide_eq_false h2,decide_eq_true h3,a1,a2,a3];rfl
      rw[e];exact hN
     | true=>
      have e:ed p q c=((c.1,c.2.1,c.2.2.1,c.2.2.2.1,c.2.2.2.2.1,c.2.2.2.2.2.1,c.2.2.2.2.2.2.1,c.2.2.2.2.2.2.2.1.map (cTo p q),c.2.2.2.2.2.2.2.2.1.map (oTo p q),c.2.2.2.2.2.2.2.2.2.1.map (oTo p q),c.2.2.2.2.2.2.2.2.2.2),true,()):=by unfold ed;rw[bT hR,decide_eq_false h2,decide_eq_true h3,a1,a2,a3];rfl
      rw[e] at hs ⊢;have op:∀ {l:List aP},(∀ o∈l,qI o)→∀ o∈l.map (oTo p q),qI o:=fun hl o ho=>by obtain⟨o0,ho0,rfl⟩:=mem_map.1 ho;obtain⟨w1,w2,w3⟩:=hl o0 ho0;obtain⟨v1,v2⟩:=G8 (p:=p) hq w1 w2;exact⟨v1,v2,w3⟩
      refine⟨hs,⟨by simpa using n1,by simpa using n2,by simpa using n3,n4⟩,z2,z3,fun x hx=> ?_,op z9,op z10,zr⟩;obtain⟨x0,hx0,rfl⟩:=mem_map.1 hx;unfold cTo;rcases Hf p q x0.1 with e|⟨r,g1,g2,g3,g4,g5,e⟩
      ·rw[e];simp
      ·rw[e];have:=g5.len;show(q++r).length≤_;omega
  ·have e:ed p q c=(c,true,()):=by unfold ed;rw[bT hR,decide_eq_false h2,decide_eq_false h3];rfl
   rw[e];exact⟨z1,⟨n1,n2,n3,n4⟩,z2,z3,zc,z9,z10,zr⟩
abbrev CD:Type:=Int×Int×Int×Int×Int×Int×Int×Bool×TMD×Unit
abbrev PD:Type:=Int×Int×TMD×Unit
abbrev NoP:PD:=(0,0,NoT,())
def iH (k:Int):Int:=if k=2∨k=3 then 8 else if k=4 then 9 else if k=5 then 10 else if k=6 then 11 else if k=7 then 12 else 0
theorem uq (k:Int):F82 (k,())=some (iH k,()):=by
 by_cases h:2≤k∧k≤7
 ·have hk:k=2∨k=3∨k=4∨k=5∨k=6∨k=7:=by omega
  rcases hk with e|e|e|e|e|e<;>(subst e;rfl)
 ·have f:∀ n:Int,2≤n→n≤7→decide (k=n)=false:=fun n h1 h2=>decide_eq_false (by omega);have e:iH k=0:=by unfold iH;rw[if_neg (by omega),if_neg (by omega),if_neg (by omega),if_neg (by omega),if_neg (by omega)]
  unfold F82;simp only[e,f 2 (by omega) (by omega),f 3 (by omega) (by omega),f 4 (by omega) (by omega),f 5 (by omega) (by omega),f 6 (by omega) (by omega),f 7 (by omega) (by omega),cond_false]
theorem zdP {k:Int}:iH k=0↔¬ (2≤k∧k≤7):=by
 by_cases h:2≤k∧k≤7
 ·have hk:k=2∨k=3∨k=4∨k=5∨k=6∨k=7:=by omega
  rcases hk with e|e|e|e|e|e<;>(subst e;decide)
 ·have e:iH k=0:=by unfold iH;rw[if_neg (by omega),if_neg (by omega),if_neg (by omega),if_neg (by omega),if_neg (by omega)]
  exact⟨fun _=>h,fun _=>e⟩
theorem qZ (k:Int):F47 (k,())=some (iH k,()):=by
 obtain⟨z,h1,h2⟩:=YQ k;rw[uq k] at h1;rw[h2,←h1]
theorem IC (self site n pat rid tgt wt:Int) (o:Bool) (m:TMD) (h:lX m):F94 ((self,site,n,pat,rid,tgt,wt,o,m,()),())=some ((self,wrap64 (wrap64 (4*site)+tgt),m,()),(self,site,n,pat,rid,tgt,wt,o,m,()),()):=by
 unfold F94;exact aF (BV m h) rfl
def Bnd (m:TMD):Prop:=ShT m∧m.2.2.2.1.2.2.1.2.2.2.2.2.2.2.2.2.2.2.2.2.2.2.1.length≤2000000000000∧m.2.2.2.2.2.2.2.2.2.2.2.2.2.2.2.1.2.2.1.length≤2000000000000
theorem zb5 (self site n pat rid tgt wt:Int) (c m:TMD) (hm:Bnd m) (h:¬ (2≤m.1∧m.1≤7∧fV (m.1,wrap64 (rid+1),m.2.2))):F70 ((self,site,n,pat,rid,tgt,wt,false,c,()),m,())=some (NoP,1,(self,site,n,pat,rid,tgt,wt,false,c,()),()):=by
 have hr:=yz (m.1,wrap64 (rid+1),m.2.2) hm.1;unfold F70;simp only[cond_false,uq,bind_some,hr];by_cases h2:iH m.1=0
 ·simp only[h2,decide_true,cond_true]
 ·have hn:¬ fV (m.1,wrap64 (rid+1),m.2.2):=fun hR=>by
   have:=fun h=>h2 (zdP.2 h);by_cases hk:2≤m.1∧m.1≤7
   ·exact h ⟨hk.1,hk.2,hR⟩
   ·exact this hk
  simp only[h2,decide_false,cond_false,dE hn,Bool.not_false,cond_true]
theorem QP (self site n pat rid tgt wt:Int) (c m:TMD) (hm:Bnd m) (h:2≤m.1∧m.1≤7∧fV (m.1,wrap64 (rid+1),m.2.2)):F70 ((self,site,n,pat,rid,tgt,wt,false,c,()),m,()) =
  some ((self,wrap64 (wrap64 (4*site)+tgt),(m.1,wrap64 (rid+1),m.2.2),()),0,(self,site,n,pat,wrap64 (rid+1),tgt,0,true,(m.1,wrap64 (rid+1),m.2.2),()),()):=by
 have hr:=yz (m.1,wrap64 (rid+1),m.2.2) hm.1;have hc:=Iz (m:=(m.1,wrap64 (rid+1),m.2.2)) hm.1 h.2.2 hm.2.1 hm.2.2;have hcl:=BV _ hc;have h2:¬ iH m.1=0:=fun e=>zdP.1 e ⟨h.1,h.2.1⟩;unfold F70;simp only[cond_false,uq,bind_some,hr,h2,decide_false,bT h.2.2,Bool.not_true];refine aF hcl ?_;exact aF (IC _ _ _ _ _ _ _ _ _ hc) rfl
theorem CJ {t n:Int} (ht:0≤t) (h:t≤1000) (hn:1≤n):nP (wrap64 (t+1)) n=some ((t+1) % n):=by
 have e:wrap64 (t+1)=t+1:=eU (by omega) (by omega);unfold nP;rw[e,decide_eq_false (by omega),Int.tmod_eq_emod_of_nonneg (by omega)];rfl
theorem za2 (self site n pat rid tgt wt:Int) (m:TMD) (h:wrap64 (wt+1)<pat):F71 ((self,site,n,pat,rid,tgt,wt,true,m,()),())=some (NoP,false,(self,site,n,pat,rid,tgt,wrap64 (wt+1),true,m,()),()):=by
 unfold F71;simp only[Bool.not_true,cond_false,decide_eq_true h,cond_true]
theorem za3 (self site n pat rid tgt wt:Int) (m:TMD) (hn:1≤n∧n≤3) (ht:0≤tgt∧tgt<n) (h:wrap64 (wt+1)=pat) (hc:lX m):F71 ((self,site,n,pat,rid,tgt,wt,true,m,()),())=some ((self,wrap64 (wrap64 (4*site)+(tgt+1) % n),m,()),true,(self,site,n,pat,rid,(tgt+1) % n,0,true,m,()),()):=by
 have hr:=CJ (n:=n) ht.1 (by omega) hn.1;unfold F71;simp only[Bool.not_true,cond_false,h,Int.lt_irrefl,decide_false,decide_true,cond_true,hr,bind_some];exact aF (IC _ _ _ _ _ _ _ _ _ hc) rfl
theorem ZX (self site n pat rid tgt wt:Int) (m:TMD) (h:pat<wrap64 (wt+1)) (hc:lX m):F71 ((self,site,n,pat,rid,tgt,wt,true,m,()),())=some ((self,wrap64 (wrap64 (4*site)+tgt),m,()),true,(self,site,n,pat,rid,tgt,0,true,m,()),()):=by
 have h1:¬ wrap64 (wt+1)<pat:=by omega
 have h2:¬ wrap64 (wt+1)=pat:=by omega
 unfold F71;simp only[Bool.not_true,cond_false,h1,h2,decide_false];exact aF (IC _ _ _ _ _ _ _ _ _ hc) rfl
def uJ (site n rid kind from':Int) (m:TMD):Prop:=4*site≤from'∧from'<4*site+n∧m.2.1=rid∧m.1=iH kind∧fV m
theorem zbL (self site n pat rid tgt wt fr:Int) (c m:TMD):F48 ((self,site,n,pat,rid,tgt,wt,false,c,()),fr,m,())=some (NoT,false,(self,site,n,pat,rid,tgt,wt,false,c,()),()):=rfl
theorem zdE (self site n pat rid tgt wt fr:Int) (c m:TMD) (hs:0≤site∧site≤1) (hn:1≤n∧n≤3) (hm:ShT m) (h:¬ uJ site n rid c.1 fr m):F48 ((self,site,n,pat,rid,tgt,wt,true,c,()),fr,m,())=some (NoT,false,(self,site,n,pat,rid,tgt,wt,true,c,()),()):=by
 have w1:wrap64 (4*site)=4*site:=eU (by omega) (by omega);have w2:wrap64 (4*site+n)=4*site+n:=eU (by omega) (by omega);unfold F48;simp only[Bool.not_true,cond_false,w1,w2];by_cases h1:fr<4*site
 ·simp only[h1,decide_true,cond_true]
 by_cases h2:4*site+n≤fr
 ·simp only[h1,h2,decide_true,decide_false,cond_true,cond_false]
 by_cases h3:m.2.1=rid
 case neg=>simp only[h1,h2,h3,decide_true,decide_false,cond_true,cond_false,Bool.not_false]
 by_cases h4:m.1=iH c.1
 case neg=>simp only[h1,h2,h3,uq,bind_some,h4,decide_true,decide_false,cond_true,cond_false,Bool.not_false,Bool.not_true]
 have h5:¬ fV m:=fun hR=>h ⟨by omega,by omega,h3,h4,hR⟩;have hr:=yz m hm;rw[dE h5] at hr;simp only[h1,h2,h3,uq,bind_some,h4,decide_true,decide_false,cond_true,cond_false,Bool.not_true];refine aF hr ?_;rfl
def uC (n tgt hint:Int):Int:=if 0≤hint∧hint<n then hint else(tgt+1) % n
theorem zbM (self site n pat rid tgt wt fr:Int) (c m:TMD) (hs:0≤site∧site≤1) (hn:1≤n∧n≤3) (ht:0≤tgt∧tgt<n) (hm:ShT m) (h:uJ site n rid c.1 fr m) (h8:m.1=8) (h14:m.2.2.2.2.2.2.2.2.2.1=14):F48 ((self,site,n,pat,rid,tgt,wt,true,c,()),fr,m,())=some (NoT,false,(self,site,n,pat,rid,uC n tgt m.2.2.2.2.2.2.2.2.2.2.1,pat,true,c,()),()):=by
 have w1:wrap64 (4*site)=4*site:=eU (by omega) (by omega);have w2:wrap64 (4*site+n)=4*site+n:=eU (by omega) (by omega);obtain⟨h1,h2,h3,h4,h5⟩:=h;have h1:¬ fr<4*site:=by omega
 have h2:¬ 4*site+n≤fr:=by omega
 have hr:=yz m hm;rw[bT h5] at hr;have hrem:=CJ (n:=n) ht.1 (by omega) hn.1;have h4':8=iH c.1:=h8.symm.trans h4;unfold F48;simp only[Bool.not_true,cond_false,w1,w2,h1,h2,h3,uq,bind_some,h4,decide_true,decide_false];refine aF hr ?_;simp only[←h4',h14,decide_true,cond_true,Bool.not_true,cond_false,hrem,bind_some];unfold uC;generalize m.2.2.2.2.2.2.2.2.2.2.1=q;by_cases k1:0≤q
 ·by_cases k2:q<n
  ·simp only[k1,k2,decide_true,cond_true,bind_some,elim_inl,and_self,if_true]
  ·simp only[k1,k2,decide_true,decide_false,cond_true,cond_false,bind_some,elim_inl,and_false,if_false]
 ·simp only[k1,decide_false,cond_false,bind_some,elim_inl,false_and,if_false]
theorem zcH (self site n pat rid tgt wt fr:Int) (c m:TMD) (hs:0≤site∧site≤1) (hn:1≤n∧n≤3) (hm:Bnd m) (h:uJ site n rid c.1 fr m) (h8:¬ (m.1=8∧m.2.2.2.2.2.2.2.2.2.1=14)):F48 ((self,site,n,pat,rid,tgt,wt,true,c,()),fr,m,())=some (m,true,(self,site,n,pat,rid,tgt,wt,false,c,()),()):=by
 have w1:wrap64 (4*site)=4*site:=eU (by omega) (by omega);have w2:wrap64 (4*site+n)=4*site+n:=eU (by omega) (by omega);obtain⟨h1,h2,h3,h4,h5⟩:=h;have h1:¬ fr<4*site:=by omega
 have h2:¬ 4*site+n≤fr:=by omega
 have hr:=yz m hm.1;rw[bT h5] at hr;have hcl:=BV m (Iz hm.1 h5 hm.2.1 hm.2.2);unfold F48;simp only[Bool.not_true,cond_false,w1,w2,h1,h2,h3,uq,bind_some,decide_true,decide_false];have d4:decide (m.1=iH c.1)=true:=decide_eq_true h4;simp only[d4,Bool.not_true,cond_false];refine aF hr ?_;simp only[Bool.not_true,cond_false];by_cases k1:m.1=8
 ·have k2:¬ m.2.2.2.2.2.2.2.2.2.1=14:=fun e=>h8 ⟨k1,e⟩;rw[decide_eq_true k1];simp only[k2,decide_false,cond_true,cond_false];exact aF hcl rfl
 ·simp only[k1,decide_false,cond_false];exact aF hcl rfl
theorem zbJ {T R:Type} {step:T→Option (T⊕R)} {n:Nat} {I:Nat→T→Prop} {r:R} (hn:n≤9223372036854775807) (h:∀ k t,k<n→I k t→step t=some (.inr r)∨∃ t',step t=some (.inl t')∧I (k+1) t') (hK:∀ t,I n t→step t=some (.inr r)) {t:T} (h0:I 0 t):iter step big t=some r:=by
 have main:∀ d k t m,k+d=n→d<m→I k t→iter step m t=some r:=by
  intro d;induction d with
  | zero=>
   intro k t m hk hm ht;cases m with
   | zero=>omega
   | succ m=>rw[Nat.add_zero] at hk;subst hk;simp[iter,hK t ht]
  | succ d ih=>
   intro k t m hk hm ht;cases m with
   | zero=>omega
   | succ m=>
    rcases h k t (by omega) ht with h1|⟨t',h1,h2⟩
    ·simp[iter,h1]
    ·simp only[iter,h1,bind_some,elim_inl];exact ih (k+1) t' m (by omega) (by omega) h2
 exact main n 0 t big (by omega) (by rw[iT];omega) h0
theorem zdz {R T:Type} {X:Option R} {r:R} (h:X=some r):(Option.map Sum.inr X:Option (T⊕R))=some (Sum.inr r):=by rw[h];rfl
theorem ans_of {k:Int} (h:2≤k∧k≤7):iH k=8∨iH k=9∨iH k=10∨iH k=11∨iH k=12:=by
 have hk:k=2∨k=3∨k=4∨k=5∨k=6∨k=7:=by omega
 rcases hk with e|e|e|e|e|e<;>(subst e;decide)
theorem zdi (self site n pat rid tgt wt:Int) (now:Bool) (c m:TMD) (hz:SzT m) (h:¬ (2≤m.1∧m.1≤7∧fV (m.1,wrap64 (rid+1),m.2.2))):F73 ((self,site,n,pat,rid,tgt,wt,false,now,c,()),m,())=some ((self,site,n,pat,rid,tgt,wt,false,now,c,()),NoP,1,()):=by
 have hr:=yl (m.1,wrap64 (rid+1),m.2.2) hz;unfold F73;by_cases h2:m.1<2
 ·simp only[cond_false,h2,decide_true,cond_true]
 by_cases h7:7<m.1
 ·simp only[cond_false,h2,h7,decide_true,decide_false,cond_true]
 rw[dE fun hR=>h ⟨by omega,by omega,hR⟩] at hr;simp only[cond_false,h2,h7,decide_false];refine aF hr ?_;rfl
theorem zcq (self site n pat rid tgt wt:Int) (now:Bool) (c m:TMD) (hz:SzT m) (h:2≤m.1∧m.1≤7∧fV (m.1,wrap64 (rid+1),m.2.2)):F73 ((self,site,n,pat,rid,tgt,wt,false,now,c,()),m,()) =
  some ((self,site,n,pat,wrap64 (rid+1),tgt,0,true,false,(m.1,wrap64 (rid+1),m.2.2),()),(self,wrap64 (wrap64 (4*site)+tgt),(m.1,wrap64 (rid+1),m.2.2),()),0,()):=by
 have hr:=yl (m.1,wrap64 (rid+1),m.2.2) hz;rw[bT h.2.2] at hr;have h2:¬ m.1<2:=by omega
 have h7:¬ 7<m.1:=by omega
 unfold F73;simp only[cond_false,h2,h7,decide_false];refine aF hr ?_;rfl
theorem zah (self site n pat rid tgt wt:Int) (c:TMD) (h:wrap64 (wt+1)<pat):F72 ((self,site,n,pat,rid,tgt,wt,true,false,c,()),())=some ((self,site,n,pat,rid,tgt,wrap64 (wt+1),true,false,c,()),[],()):=by
 unfold F72;simp only[Bool.not_true,Bool.not_false,cond_false,cond_true,decide_eq_true h,bind_some,elim_inr]
theorem zai (self site n pat rid tgt wt:Int) (c:TMD) (hn:1≤n∧n≤3) (ht:0≤tgt∧tgt<n) (h:¬ wrap64 (wt+1)<pat):F72 ((self,site,n,pat,rid,tgt,wt,true,false,c,()),()) =
  some ((self,site,n,pat,rid,(tgt+1) % n,0,true,false,c,()),[(self,wrap64 (wrap64 (4*site)+(tgt+1) % n),c,())],()):=by
 have hr:=CJ (n:=n) ht.1 (by omega) hn.1;unfold F72;simp only[Bool.not_true,Bool.not_false,cond_false,cond_true,decide_eq_false h,bind_some,elim_inl,hr];rfl
theorem zbc (self site n pat rid tgt wt:Int) (c:TMD):F72 ((self,site,n,pat,rid,tgt,wt,true,true,c,()),()) =
  some ((self,site,n,pat,rid,tgt,0,true,false,c,()),[(self,wrap64 (wrap64 (4*site)+tgt),c,())],()):=rfl
theorem zak (self site n pat rid tgt wt fr:Int) (now:Bool) (c m:TMD):F53 ((self,site,n,pat,rid,tgt,wt,false,now,c,()),fr,m,())=some ((self,site,n,pat,rid,tgt,wt,false,now,c,()),false,()):=rfl
theorem zco (self site n pat rid tgt wt fr:Int) (now:Bool) (c m:TMD) (hs:0≤site∧site≤1) (hn:1≤n∧n≤3) (hz:SzT m) (h:¬ uJ site n rid c.1 fr m):F53 ((self,site,n,pat,rid,tgt,wt,true,now,c,()),fr,m,())=some ((self,site,n,pat,rid,tgt,wt,true,now,c,()),false,()):=by
 have w1:wrap64 (4*site)=4*site:=eU (by omega) (by omega);have w2:wrap64 (4*site+n)=4*site+n:=eU (by omega) (by omega);unfold F53;simp only[Bool.not_true,cond_false,w1,w2];by_cases h1:fr<4*site
 ·simp only[h1,decide_true,cond_true]
 by_cases h2:4*site+n≤fr
 ·simp only[h1,h2,decide_true,decide_false,cond_true,cond_false]
 have hr:=yl m hz;simp only[h1,h2,decide_false,cond_false];refine aF hr ?_;by_cases h5:fV m
 case neg=>rw[dE h5];rfl
 simp only[bT h5,Bool.not_true,cond_false,qZ,bind_some];by_cases h3:m.2.1=rid
 case neg=>simp only[h3,decide_false,Bool.not_false,cond_true]
 by_cases h4:m.1=iH c.1
 case neg=>simp only[h3,h4,decide_true,decide_false,Bool.not_true,Bool.not_false,cond_true,cond_false]
 exact absurd ⟨by omega,by omega,h3,h4,h5⟩ h
theorem zal (self site n pat rid tgt wt fr:Int) (now:Bool) (c m:TMD) (hs:0≤site∧site≤1) (hn:1≤n∧n≤3) (ht:0≤tgt∧tgt<n) (hz:SzT m) (h:uJ site n rid c.1 fr m) (h8:m.1=8) (h14:m.2.2.2.2.2.2.2.2.2.1=14) :
  F53 ((self,site,n,pat,rid,tgt,wt,true,now,c,()),fr,m,())=some ((self,site,n,pat,rid,uC n tgt m.2.2.2.2.2.2.2.2.2.2.1,wt,true,true,c,()),false,()):=by
 have w1:wrap64 (4*site)=4*site:=eU (by omega) (by omega);have w2:wrap64 (4*site+n)=4*site+n:=eU (by omega) (by omega);obtain⟨h1,h2,h3,h4,h5⟩:=h;have h1:¬ fr<4*site:=by omega
 have h2:¬ 4*site+n≤fr:=by omega
 have hr:=yl m hz;rw[bT h5] at hr;have hrem:=CJ (n:=n) ht.1 (by omega) hn.1;have d4:decide (m.1=iH c.1)=true:=decide_eq_true h4;have d8:decide (m.1=8)=true:=decide_eq_true h8;have d14:decide (m.2.2.2.2.2.2.2.2.2.1=14)=true:=decide_eq_true h14;have d3:decide (m.2.1=rid)=true:=decide_eq_true h3;unfold F53;simp only[Bool.not_true,cond_false,w1,w2,h1,h2,decide_false];refine aF hr ?_;simp only[d3,qZ,bind_some,d4,d8,d14,Bool.not_true,cond_true,cond_false,hrem];unfold uC;generalize m.2.2.2.2.2.2.2.2.2.2.1=q;by_cases k1:0≤q
 ·by_cases k2:q<n
  ·simp only[k1,k2,decide_true,cond_true,bind_some,elim_inl,and_self,if_true]
  ·simp only[k1,k2,decide_true,decide_false,cond_true,cond_false,bind_some,elim_inl,and_false,if_false]
 ·simp only[k1,decide_false,cond_false,bind_some,elim_inl,false_and,if_false]
theorem zbj (self site n pat rid tgt wt fr:Int) (now:Bool) (c m:TMD) (hs:0≤site∧site≤1) (hn:1≤n∧n≤3) (hz:SzT m) (h:uJ site n rid c.1 fr m) (h8:¬ (m.1=8∧m.2.2.2.2.2.2.2.2.2.1=14)) :
  F53 ((self,site,n,pat,rid,tgt,wt,true,now,c,()),fr,m,())=some ((self,site,n,pat,rid,tgt,wt,false,now,c,()),true,()):=by
 have w1:wrap64 (4*site)=4*site:=eU (by omega) (by omega);have w2:wrap64 (4*site+n)=4*site+n:=eU (by omega) (by omega);obtain⟨h1,h2,h3,h4,h5⟩:=h;have h1:¬ fr<4*site:=by omega
 have h2:¬ 4*site+n≤fr:=by omega
 have hr:=yl m hz;rw[bT h5] at hr;have d4:decide (m.1=iH c.1)=true:=decide_eq_true h4;have d3:decide (m.2.1=rid)=true:=decide_eq_true h3;unfold F53;simp only[Bool.not_true,cond_false,w1,w2,h1,h2,decide_false];refine aF hr ?_;simp only[d3,qZ,bind_some,d4,Bool.not_true,cond_false];by_cases k1:m.1=8
 ·have k2:¬ m.2.2.2.2.2.2.2.2.2.1=14:=fun e=>h8 ⟨k1,e⟩;simp only[decide_eq_true k1,k2,decide_false,cond_true,cond_false]
 ·simp only[k1,decide_false,cond_false]
theorem zbs {n tgt q:Int} (hn:1≤n):0≤uC n tgt q∧uC n tgt q<n:=by
 unfold uC;by_cases h:0≤q∧q<n
 ·rw[if_pos h];exact h
 ·rw[if_neg h];exact⟨Int.emod_nonneg _ (by omega),Int.emod_lt_of_pos _ (by omega)⟩
def Kv (m:TMD):Prop:=SzT m∧Bnd m
theorem D6:dW [97,47]:=⟨by decide,Df (by decide) (by decide) (by decide)⟩
theorem Uk:dW [98,47]:=⟨by decide,Df (by decide) (by decide) (by decide)⟩
theorem xw:IsKey [97,47,120]:=Df (by decide) (by decide) (by decide)
theorem keyB:IsKey [98,47,120]:=Df (by decide) (by decide) (by decide)
abbrev sZ (key:List UInt8):aQ:=(1,key,[],[118],0,0,0,[],[],[],0,0,0,false,[],[],[],())
theorem Jd {key:List UInt8} (h:IsKey key):gy (sZ key):=⟨by unfold mf;simp,.inl ⟨rfl,h,by show(1:Nat)≤40;decide,⟨by show(0:Int)≤0;decide,by show(0:Int)≤1099511627776;decide⟩⟩⟩
theorem iJ {α:Type}:Sh ([]:List α):=by simp[Sh]
theorem JV:ShS []:=⟨iJ,fun x h=>by simp at h⟩
theorem KE (key:List UInt8):ShC (sZ key):=⟨iJ,iJ,iJ,iJ,JV,iJ⟩
theorem zfj:F79 ([97,47],[97,47],sZ [97,47,120],())=some (sZ [97,47,120],true,()):=by
 rw[J9 _ _ _ (KE _)];unfold ed;rw[bT ⟨Jd xw,by decide⟩,yj (p:=[97,47]) (q:=[97,47]) (k:=[97,47,120]) (e:=[]) (k':=[97,47,120]) (e':=[]) ⟨D6,D6,⟨xw,.inl rfl⟩,⟨xw,.inl rfl⟩,⟨[120],rfl,rfl⟩,.inl ⟨rfl,rfl⟩⟩];rfl
theorem zfi:F79 ([97,47],[98,47],sZ [97,47,120],())=some (sZ [98,47,120],true,()):=by
 rw[J9 _ _ _ (KE _)];unfold ed;rw[bT ⟨Jd xw,by decide⟩,yj (p:=[97,47]) (q:=[98,47]) (k:=[97,47,120]) (e:=[]) (k':=[98,47,120]) (e':=[]) ⟨D6,Uk,⟨xw,.inl rfl⟩,⟨keyB,.inl rfl⟩,⟨[120],rfl,rfl⟩,.inl ⟨rfl,rfl⟩⟩];rfl
abbrev o8:bV:=(1,[97,47],[98,47],(1,1,()),())
abbrev qp (key:List UInt8):aI:=(false,sZ key,[],[],0,0,())
theorem JZ (st wt):F43 ((o8,st,wt,()),qp [97,47,120],0,())=some (qp [97,47,120],true,()):=by
 unfold F43;refine aF (a:=([97,47],())) rfl ?_;simp only[cond_false];exact aF zfj rfl
theorem zdy (st wt):F43 ((o8,st,wt,()),qp [97,47,120],1,())=some (qp [98,47,120],true,()):=by
 unfold F43;refine aF (a:=([98,47],())) rfl ?_;simp only[cond_false];exact aF zfi rfl
abbrev clP (k:Int):CD:=(9,k,1,6,0,0,0,false,NoT,())
abbrev stP (busy:Bool) (seq:Int):Int×Bool×Bool×Int×Int×dM×Unit:=(0,busy,false,seq,0,(0,0,()),())
abbrev Ky:aI:=(false,fD,[],[],0,0,())
theorem zdg:F30 (o8,())=some (true,()):=by
 have b1:begins [97,47] [98,47]=false:=by decide
 have b2:begins [98,47] [97,47]=false:=by decide
 have d1:decide ((0:Int)≤1)=true:=rfl;have d2:decide ((1:Int)≤2)=true:=rfl;unfold F30;simp only[yA,BG,bind_some,d1,d2,D6,Uk,b1,b2,decide_true,cond_true,Bool.not_false]
theorem newP:F9 (o8,0,())=some ((true,o8,stP false 0,Ky,[clP 0],[clP 1],[clP 1],[clP 0],[clP 1],[],false,()),0,()):=by
 unfold F9;refine aF zdg ?_
 kernel_rfl
theorem mayP:F42 ((o8,stP false 0,Ky,()),qp [97,47,120],())=some (0,()):=by
 unfold F42;simp only[cond_false,bind_some,elim_inl,JZ,zdy,Bool.not_true]
theorem zdL:F15 ((o8,stP false 0,Ky,[clP 0],[clP 1],[clP 1],[clP 0],[clP 1],[],false,()),qp [97,47,120],()) =
  some (eF,false,(o8,stP true (wrap64 (0+1)),qp [97,47,120],[clP 0],[clP 1],[clP 1],[clP 0],[clP 1],[],false,()),()):=by
 unfold F15;refine aF mayP ?_;simp only[decide_true,Bool.not_true,cond_false];refine aF (JZ _ _) ?_;refine aF (G5 [] (by decide)) ?_;refine aF (vw [] (by decide)) ?_;refine aF (vw [] (by decide)) ?_
 kernel_rfl
abbrev quP (rid:Int):TMD:=(2,rid,kw,(2,1,sZ [97,47,120],()),0,[],[],0,0,0,0,eF,[],[],false,iC,kU,())
theorem zan:F34 ((o8,stP true (wrap64 (0+1)),qp [97,47,120],()),())=some (quP 0,()):=by
 unfold F34;refine aF (JZ _ _) ?_
 kernel_rfl
theorem shQu (rid:Int):ShT (quP rid):=⟨iJ,KE _,iJ,⟨iJ,fun b h=>by simp at h⟩,iJ,⟨JV,iJ⟩⟩
theorem zcm:fV (quP (wrap64 (0+1))):=⟨⟨by show(1:Int)≤2;decide,by show(2:Int)≤12;decide⟩,rfl,.inr (.inl ⟨rfl,by unfold bH;decide,by unfold uI;simp[Jd xw,bH]⟩)⟩
theorem zfk:F33 (clP 0,quP 0,())=some ([(9,wrap64 (wrap64 (4*0)+0),quP (wrap64 (0+1)),())],(9,0,1,6,wrap64 (0+1),0,0,true,quP (wrap64 (0+1)),()),()):=by
 unfold F33;refine aF (a:=(false,clP 0,())) rfl ?_;simp only[Bool.not_false,cond_true];refine aF (QP 9 0 1 6 0 0 0 NoT (quP 0) ⟨shQu 0,by simp,by simp⟩ ⟨by decide,by decide,zcm⟩) ?_;rfl
theorem zdM (p:PD):bF ([]:List PD) [p]=some [p]:=iR (by have:bI=34359738368:=rfl;simp only[length_cons,length_nil];omega)
theorem zdR:∃ P,F13 ((o8,stP true (wrap64 (0+1)),qp [97,47,120],[clP 0],[clP 1],[clP 1],[clP 0],[clP 1],[],false,()),())=some ([(9,wrap64 (wrap64 (4*0)+0),quP (wrap64 (0+1)),())],P,()):=by
 have d0:decide ((0:Int)=ofNat 0)=true:=rfl;unfold F13 Gi xK nX;simp only[cond_false,cond_true,Bool.not_false,bind_some,elim_inl,d0,zan,head?_cons,zfk,zdM,isEmpty_nil,decide_true];exact⟨_,rfl⟩
theorem zaR:F6 ()=some (true,()):=by
 obtain⟨P,hT⟩:=zdR;unfold F6;refine aF newP ?_;simp only[cond_true,decide_true,Bool.not_true,cond_false];refine aF zdL ?_;simp only[cond_true,decide_true];refine aF hT ?_
 kernel_rfl
theorem VX:∃ n,big=n+3:=⟨18446744073709551613,by rw[iT]⟩
abbrev WD:Type:=Int×Int×Int×Int×Int×Int×Int×Bool×Bool×TMD×Unit
def qG (self pat k n r:Int) (o:Bool) (c:CD) (w:WD):Prop:=∃ tgt wt wt' now q q',c=(self,k,n,pat,r,tgt,wt,o,q,())∧w=(self,k,n,pat,r,tgt,wt',o,now,q',())∧(0≤tgt∧tgt<n)∧
 (o=true→q=q'∧ShT q∧lX q∧q.2.1=r∧(now=true→wt=pat)∧(now=false→wt=wt'∧0≤wt∧wt<pat))
theorem Qs {self pat k n r:Int} {o:Bool} {c:CD} {w:WD} (h:qG self pat k n r o c w):F69 (c,())=some (o,c,())∧w.2.2.2.2.2.2.2.1=o:=by
 obtain⟨tgt,wt,wt',now,q,q',rfl,rfl,-⟩:=h;exact⟨rfl,rfl⟩
def ToC (k:Int) (p:PD) (r:Int):Prop:=∃ t,0≤t∧t<3∧p.2.1=wrap64 (wrap64 (4*k)+t)∧p.2.2.1.2.1=r
theorem ZU {self pat k n r:Int} {c:CD} {w:WD} (hpat:1≤pat∧pat≤100) (hn:1≤n∧n≤3) (h:qG self pat k n r true c w):∃ p ok c' w' out,F71 (c,())=some (p,ok,c',())∧F72 (w,())=some (w',out,())∧qG self pat k n r true c' w'∧(ok=true→ToC k p r)∧out.length≤1:=by
 obtain⟨tgt,wt,wt',now,q,q',rfl,rfl,ht,hI⟩:=h;obtain⟨rfl,h1,h2,hr,h3,h4⟩:=hI rfl;cases now with
 | true=>obtain rfl:=h3 rfl;have a1:=ZX self k n wt r tgt wt q (by rw[eU (by omega) (by omega)];omega) h2;have a2:=zbc self k n wt r tgt wt' q;exact⟨_,_,_,_,_,a1,a2,⟨tgt,0,0,false,q,q,rfl,rfl,ht,fun _=>⟨rfl,h1,h2,hr,(fun h=>by cases h),fun _=>⟨rfl,by omega,by omega⟩⟩⟩,fun _=>⟨tgt,ht.1,by omega,rfl,hr⟩,le_refl _⟩
 | false=>
  obtain⟨rfl,h5,h6⟩:=h4 rfl;have w1:wrap64 (wt+1)=wt+1:=eU (by omega) (by omega);by_cases h7:wt+1<pat
  ·have a1:=za2 self k n pat r tgt wt q (by rw[w1];exact h7);have a2:=zah self k n pat r tgt wt q (by rw[w1];exact h7);exact⟨_,_,_,_,_,a1,a2,⟨tgt,wrap64 (wt+1),wrap64 (wt+1),false,q,q,rfl,rfl,ht,fun _=>⟨rfl,h1,h2,hr,(fun h=>by cases h),fun _=>⟨rfl,by rw[w1];omega,by rw[w1];omega⟩⟩⟩,(fun h=>by cases h),zero_le _⟩
  ·have a1:=za3 self k n pat r tgt wt q hn ht (by rw[w1];omega) h2;have a2:=zai self k n pat r tgt wt q hn ht (by rw[w1];exact h7);have t1:0≤(tgt+1) % n:=Int.emod_nonneg _ (by omega);have t2:(tgt+1) % n<n:=Int.emod_lt_of_pos _ (by omega);exact⟨_,_,_,_,_,a1,a2,⟨(tgt+1) % n,0,0,false,q,q,rfl,rfl,⟨t1,t2⟩,fun _=>⟨rfl,h1,h2,hr,(fun h=>by cases h),fun _=>⟨rfl,by omega,by omega⟩⟩⟩,fun _=>⟨(tgt+1) % n,t1,by omega,rfl,hr⟩,le_refl _⟩
theorem zb4 {self pat k n r:Int} {c:CD} {w:WD} {m:TMD} (hpat:1≤pat∧pat≤100) (hn:1≤n∧n≤3) (h:qG self pat k n r false c w) (hB:Bnd m) (zm:SzT m) :
  (∃ p c' w',F70 (c,m,())=some (p,0,c',())∧F73 (w,m,())=some (w',p,0,())∧qG self pat k n (wrap64 (r+1)) true c' w'∧ToC k p (wrap64 (r+1)))∨
  (F70 (c,m,())=some (NoP,1,c,())∧F73 (w,m,())=some (w,NoP,1,())):=by
 obtain⟨tgt,wt,wt',now,q,q',rfl,rfl,ht,-⟩:=h;by_cases h:2≤m.1∧m.1≤7∧fV (m.1,wrap64 (r+1),m.2.2)
 ·have a1:=QP self k n pat r tgt wt q m hB h;have a2:=zcq self k n pat r tgt wt' now q' m zm h;have sM:ShT (m.1,wrap64 (r+1),m.2.2):=zm.1;have cM:=Iz (m:=(m.1,wrap64 (r+1),m.2.2)) zm.1 h.2.2 hB.2.1 hB.2.2;exact .inl ⟨_,_,_,a1,a2,⟨tgt,0,0,false,_,_,rfl,rfl,ht,fun _=>⟨rfl,sM,cM,rfl,(fun h=>by cases h),fun _=>⟨rfl,by omega,by omega⟩⟩⟩,⟨tgt,ht.1,by omega,rfl,rfl⟩⟩
 ·have a1:=zb5 self k n pat r tgt wt q m hB h;have a2:=zdi self k n pat r tgt wt' now q' m zm h;exact .inr ⟨a1,a2⟩
theorem zaE {self pat k n r fr:Int} {o:Bool} {c:CD} {w:WD} {m:TMD} (hs:0≤k∧k≤1) (hn:1≤n∧n≤3) (h:qG self pat k n r o c w) (hB:Bnd m) (zm:SzT m) :
  (∃ c' w',F48 (c,fr,m,())=some (NoT,false,c',())∧F53 (w,fr,m,())=some (w',false,())∧qG self pat k n r o c' w')∨
  (o=true∧fV m∧8≤m.1∧∃ c' w',F48 (c,fr,m,())=some (m,true,c',())∧F53 (w,fr,m,())=some (w',true,())∧qG self pat k n r false c' w'):=by
 obtain⟨tgt,wt,wt',now,q,q',rfl,rfl,ht,hI⟩:=h;cases o with
 | false=>exact .inl ⟨_,_,zbL self k n pat r tgt wt fr q m,zak self k n pat r tgt wt' fr now q' m,⟨tgt,wt,wt',now,q,q',rfl,rfl,ht,fun h=>by cases h⟩⟩
 | true=>
  obtain⟨rfl,h1,h2,hr,h3,h4⟩:=hI rfl;by_cases hH:uJ k n r q.1 fr m
  ·by_cases h8:m.1=8∧m.2.2.2.2.2.2.2.2.2.1=14
   ·have a1:=zbM self k n pat r tgt wt fr q m hs hn ht zm.1 hH h8.1 h8.2;have a2:=zal self k n pat r tgt wt' fr now q m hs hn ht zm hH h8.1 h8.2;exact .inl ⟨_,_,a1,a2,⟨_,pat,wt',true,q,q,rfl,rfl,zbs hn.1,fun _=>⟨rfl,h1,h2,hr,fun _=>rfl,fun h=>by cases h⟩⟩⟩
   ·have a1:=zcH self k n pat r tgt wt fr q m hs hn hB hH h8;have a2:=zbj self k n pat r tgt wt' fr now q m hs hn zm hH h8;refine .inr ⟨rfl,hH.2.2.2.2,?_,_,_,a1,a2,⟨tgt,wt,wt',now,q,q,rfl,rfl,ht,fun h=>by cases h⟩⟩;have e:=hH.2.2.2.1;have e1:=hH.2.2.2.2.1.1;by_cases hk:2≤q.1∧q.1≤7
    ·rcases ans_of hk with h|h|h|h|h<;>omega
    ·have:=zdP.2 hk;omega
  ·have a1:=zdE self k n pat r tgt wt fr q m hs hn zm.1 hH;have a2:=zco self k n pat r tgt wt' fr now q m hs hn zm hH;exact .inl ⟨_,_,a1,a2,⟨tgt,wt,wt',now,q,q,rfl,rfl,ht,hI⟩⟩
theorem GZ {p k e:List UInt8} (h:(dG p p k e).2.2.1=true):dG p p k e=(k,e,true,()):=by
 rcases BI p p k e with q|⟨k',e',hM,q⟩
 ·rw[q] at h;cases h
 ·obtain⟨-,-,-,-,⟨r,rfl,rfl⟩,hE⟩:=hM;rcases hE with⟨rfl,rfl⟩|⟨rfl,rfl⟩|⟨r',rfl,rfl⟩<;>exact q
theorem Rf {p:List UInt8} {o:aP} (h:oOk p p o=true):oTo p p o=o:=by
 unfold oTo;rw[GZ h]
theorem zb0 {p:List UInt8} {c:dC} (h:cOk p p c=true):cTo p p c=c:=by
 unfold cTo;unfold cOk at h;rcases Hf p p c.1 with e|⟨r,-,-,h3,-,-,e⟩
 ·rw[e] at h;cases h
 ·rw[e,←h3]
theorem Jj {α:Type} {ok:α→Bool} {to:α→α} {l:List α} (h:l.all ok=true) (hs:∀ v,ok v=true→to v=v):l.map to=l:=by
 have:l.map to=l.map id:=List.map_congr_left fun v hv=>hs v (all_eq_true.1 h v hv);rw[this,List.map_id]
theorem ZE {p:List UInt8} {c:aQ} (h:(ed p p c).2.1=true):(ed p p c).1=c:=by
 unfold ed at *;cases hR:dec' (gy c∧c.1≤7) with
 | false=>rw[hR] at h;cases h
 | true=>
  rw[hR] at h;simp only[cond_true] at h ⊢;cases h2:decide (c.1≤2) with
  | true=>
   rw[h2] at h;simp only[cond_true] at h ⊢;cases hr:(dG p p c.2.1 c.2.2.1).2.2.1 with
   | false=>rw[hr] at h;cases h
   | true=>rw[GZ hr];rfl
  | false=>
   rw[h2] at h;simp only[cond_false] at h ⊢;cases h3:decide (c.1=3) with
   | false=>rfl
   | true=>
    rw[h3] at h;simp only[cond_true] at h ⊢;cases a1:c.2.2.2.2.2.2.2.1.all (cOk p p) with
    | false=>rw[a1] at h;cases h
    | true=>
     cases a2:c.2.2.2.2.2.2.2.2.1.all (oOk p p) with
     | false=>rw[a1,a2] at h;cases h
     | true=>
      cases a3:c.2.2.2.2.2.2.2.2.2.1.all (oOk p p) with
      | false=>rw[a1,a2,a3] at h;cases h
      | true=>rw[Jj a1 fun v=>zb0,Jj a2 fun v=>Rf,Jj a3 fun v=>Rf];rfl
noncomputable def iU (p q:List UInt8) (w:aI):aI×Bool×Unit:=
 bif w.1 then((w.1,w.2.1,(dG p q w.2.2.1 w.2.2.2.1).1,(dG p q w.2.2.1 w.2.2.2.1).2.1,w.2.2.2.2),(dG p q w.2.2.1 w.2.2.2.1).2.2)
 else((w.1,(ed p q w.2.1).1,w.2.2),(ed p q w.2.1).2)
theorem Zl {p:List UInt8} {w:aI} (h:(iU p p w).2.1=true):(iU p p w).1=w:=by
 obtain⟨rd,c,fr,en,rest⟩:=w;cases rd with
 | true=>have h:(dG p p fr en).2.2.1=true:=h;show(true,c,(dG p p fr en).1,(dG p p fr en).2.1,rest)=_;rw[GZ h]
 | false=>have h:(ed p p c).2.1=true:=h;show(false,(ed p p c).1,fr,en,rest)=_;rw[ZE h]
def SzW (w:aI):Prop:=nG w.2.1∧St w.2.2.1∧St w.2.2.2.1
abbrev dZ (src dst:List UInt8) (k:Int):List UInt8:=if k=1 then dst else src
theorem CX {src dst:List UInt8} {k:Int} (h1:St src) (h2:St dst):St (dZ src dst k):=by unfold dZ;split<;>assumption
theorem Dw (id:Int) (src dst:List UInt8) (nn:dM) (st:dL) (wt:aI) (k:Int):F35 (((id,src,dst,nn,()),st,wt,()),k,())=some (dZ src dst k,()):=by
 unfold F35 dZ;by_cases h:k=1
 ·rw[if_pos h];simp only[decide_eq_true h,cond_true]
 ·rw[if_neg h];simp only[decide_eq_false h,cond_false]
theorem Dx (id:Int) (src dst:List UInt8) (nn:dM) (st:dL) (wt:aI) (w:aI) (k:Int) (hw:SzW w):F43 (((id,src,dst,nn,()),st,wt,()),w,k,())=some (iU src (dZ src dst k) w):=by
 unfold F43 iU;simp only[Dw,bind_some,GK,J9 _ _ _ hw.1.1];cases w.1<;>rfl
theorem Dv (id:Int) (src dst:List UInt8) (R:Int×Int×Int×Bool×Bool×Int×aI×aW×di×aW×Bool×Int×Int×List TBD×Int×Bool×Unit) (k:Int) (hk:k=0∨k=1):F40 ((id,src,dst,R),k,())=some (dZ src dst k,()):=by
 rcases hk with rfl|rfl<;>rfl
theorem JB (id:Int) (src dst:List UInt8) (R:Int×Int×Int×Bool×Bool×Int×aI×aW×di×aW×Bool×Int×Int×List TBD×Int×Bool×Unit) (w:aI) (k:Int) (hk:k=0∨k=1) (hw:SzW w) (h1:St src) (h2:St dst) :
  F39 ((id,src,dst,R),w,k,())=some (iU src (dZ src dst k) w):=by
 unfold F39 iU;simp only[Dv id src dst R k hk,bind_some,Gy _ _ _ _ h1 (CX h1 h2) hw.2.1 hw.2.2,zcp _ _ h1 (CX h1 h2) _ hw.1];cases w.1<;>rfl
theorem zcj {p q:List UInt8} {w:aI} (hq:St q) (hw:SzW w):SzW (iU p q w).1:=by
 obtain⟨rd,c,fr,en,rest⟩:=w;obtain⟨z1,z2,z3⟩:=hw;cases rd with
 | true=>exact⟨z1,G8 hq z2 z3⟩
 | false=>exact⟨za5 hq z1,z2,z3⟩
def jK (self pat k n:Int) (c:CD) (w:WD):Prop:=∃ r o,qG self pat k n r o c w
def rX (m:TMD):Prop:=Bnd m∧SzT m
theorem yF {self pat k n:Int} {c:CD} {w:WD} {m:TMD} (hpat:1≤pat∧pat≤100) (hn:1≤n∧n≤3) (h:jK self pat k n c w) (hm:rX m) :
  ∃ c' w' out out',F33 (c,m,())=some (out,c',())∧F38 (w,m,())=some (w',out',())∧jK self pat k n c' w'∧out.length≤1∧out'.length≤1:=by
 obtain⟨r,o,h⟩:=h;obtain⟨u,v⟩:=Qs h;unfold F33 F38;cases o with
 | true=>
  obtain⟨p,ok,c',w',out,a1,a2,a3,-,hl⟩:=ZU hpat hn h;refine⟨c',w',bif ok then[p] else[],out,?_,?_,⟨r,true,a3⟩,by cases ok<;>simp,hl⟩
  ·simp only[u,bind_some,Bool.not_true,cond_false,a1];cases ok<;>rfl
  ·simp only[v,cond_true,a2,bind_some]
 | false=>
  rcases zb4 hpat hn h hm.1 hm.2 with⟨p,c',w',a1,a2,a3,-⟩|⟨a1,a2⟩
  ·refine⟨c',w',[p],[p],?_,?_,⟨_,true,a3⟩,le_refl _,le_refl _⟩
   ·simp only[u,bind_some,Bool.not_false,cond_true,a1,decide_true]
   ·simp only[v,cond_false,a2,bind_some,decide_true,Bool.not_true]
  ·refine⟨c,w,[],[],?_,?_,⟨r,false,h⟩,zero_le _,zero_le _⟩
   ·simp only[u,bind_some,Bool.not_false,cond_true,a1];rfl
   ·simp only[v,cond_false,a2,bind_some];rfl
abbrev QM (k:Int) (job:lT) (cl:Int) (fr en:List UInt8) (rev most:Int):TMD:=(k,0,kw,job,cl,fr,en,rev,most,0,0,eF,[],[],false,iC,kU,())
theorem ny:St []:=by simp[St]
theorem YW:mQ []:=⟨iJ,fun x h=>by simp at h⟩
theorem Z5:zu []:=⟨iJ,fun x h=>by simp at h⟩
theorem UU (k:Int) {job:lT} (cl:Int) {fr en:List UInt8} (rev most:Int) (hj:nG job.2.2.1) (hs:job.2.2.1.2.2.2.2.2.2.2.2.2.2.2.2.2.2.2.1.length≤20) (h1:St fr) (h2:St en):rX (QM k job cl fr en rev most):=by
 have hsh:ShT (QM k job cl fr en rev most):=⟨iJ,hj.1,iJ,⟨iJ,fun b h=>by simp at h⟩,iJ,⟨JV,iJ⟩⟩
 exact⟨⟨hsh,le_trans hs (by decide),by simp⟩,hsh,hj,h1,h2,⟨iJ,fun x h=>by simp at h⟩,fun b h=>by simp at h,YW,⟨Z5,iJ⟩,⟨ny,ny,ny⟩⟩
theorem Jv:nG fD:=DZ (by simp[gU,IntKind.min,IntKind.max,IntKind.bits,signed])
theorem Ee (k cl:Int) {fr en:List UInt8} (rev most:Int) (h1:St fr) (h2:St en):rX (QM k gQ cl fr en rev most):=UU k (job:=gQ) cl rev most Jv (zero_le _) h1 h2
abbrev Ac:TMD:=QM 7 gQ 0 [] [] 0 0
theorem zbO:rX Ac:=Ee 7 0 0 0 ny ny
def zI (w:aI):Nat:=w.2.1.2.2.2.2.2.2.2.2.2.2.2.2.2.2.2.1.length
theorem Y3 (p q:List UInt8) (c:aQ):(ed p q c).1.2.2.2.2.2.2.2.2.2.2.2.2.2.2.2.1.length≤c.2.2.2.2.2.2.2.2.2.2.2.2.2.2.2.1.length:=by
 unfold ed;cases dec' (gy c∧c.1≤7) with
 | false=>exact zero_le _
 | true=>
  cases decide (c.1≤2) with
  | true=>
   cases (dG p q c.2.1 c.2.2.1).2.2.1 with
   | false=>exact zero_le _
   | true=>exact le_refl _
  | false=>
   cases decide (c.1=3) with
   | false=>exact le_refl _
   | true=>
    cases c.2.2.2.2.2.2.2.1.all (cOk p q) with
    | false=>exact zero_le _
    | true=>
     cases c.2.2.2.2.2.2.2.2.1.all (oOk p q) with
     | false=>exact zero_le _
     | true=>
      cases c.2.2.2.2.2.2.2.2.2.1.all (oOk p q) with
      | false=>exact zero_le _
      | true=>exact le_refl _
theorem za8 (p q:List UInt8) (w:aI):zI (iU p q w).1≤zI w:=by
 obtain⟨rd,c,rest⟩:=w;cases rd with
 | true=>exact le_refl _
 | false=>exact Y3 p q c
def quM (id seq:Int) (w:aI):TMD:=bif w.1 then QM 3 gQ (wrap64 (id+1)) w.2.2.1 w.2.2.2.1 w.2.2.2.2.1 w.2.2.2.2.2.1 else QM 2 (wrap64 (id+1),seq,w.2.1,()) 0 [] [] 0 0
theorem zcM {id seq:Int} {w:aI} (hw:SzW w) (hs:zI w≤20):rX (quM id seq w):=by
 unfold quM;cases w.1 with
 | true=>exact Ee 3 _ _ _ hw.2.1 hw.2.2
 | false=>exact UU 2 0 0 0 hw.1 hs ny ny
theorem Zg (id:Int) (src dst:List UInt8) (nn:dM) (site:Int) (busy won:Bool) (seq next:Int) (cnt:dM) (wt:aI) (hw:SzW wt) :
  F34 (((id,src,dst,nn,()),(site,busy,won,seq,next,cnt,()),wt,()),())=some (quM id seq (iU src (dZ src dst site) wt).1,()):=by
 unfold F34;refine aF (Dx id src dst nn _ wt wt site hw) ?_;generalize iU src (dZ src dst site) wt=z;obtain⟨⟨rd,rest⟩,ok⟩:=z;cases rd<;>rfl
section
variable (cfg:bV) (site:Int) (busy won:Bool) (seq next:Int) (cnt:dM) (want:aI) (d0 d1 lk s0 s1:CD) (wt:List dJ) (cur:Bool)
theorem p13:Gi ((cfg,(site,busy,won,seq,next,cnt,()),want,[d0],[d1],[lk],[s0],[s1],wt,cur,()),())=bif (won || cur) then(F33 (lk,Ac,())).bind fun b=>some (inl (b.1,[b.2.1],())) else some (inl ([],[lk],())):=by
 cases won<;>cases cur<;>rfl
theorem q13a (x1:List bz×List CD×Unit):xK ((cfg,(0,busy,won,seq,next,cnt,()),want,[d0],[d1],[lk],[s0],[s1],wt,cur,()),()) x1 =
  bif (busy && !won) then(F34 ((cfg,(0,busy,won,seq,next,cnt,()),want,()),())).bind fun b=>(F33 (d0,b)).bind fun b=>(bF x1.1 b.1).bind fun b_2=>some (inl (b_2,[b.2.1],[d1],())) else some (inl (x1.1,[d0],[d1],())):=by
 cases busy<;>cases won<;>rfl
theorem q13b (x1:List bz×List CD×Unit):xK ((cfg,(1,busy,won,seq,next,cnt,()),want,[d0],[d1],[lk],[s0],[s1],wt,cur,()),()) x1 =
  bif (busy && !won) then(F34 ((cfg,(1,busy,won,seq,next,cnt,()),want,()),())).bind fun b=>(F33 (d1,b)).bind fun b=>(bF x1.1 b.1).bind fun b_2=>some (inl (b_2,[d0],[b.2.1],())) else some (inl (x1.1,[d0],[d1],())):=by
 cases busy<;>cases won<;>rfl
abbrev pst (cfg:bV) (site:Int) (busy won:Bool) (seq next:Int) (cnt:dM) (want:aI):bV×dL×aI×Unit:=(cfg,(site,busy,won,seq,next,cnt,()),want,())
theorem r13n (x1:List bz×List CD×Unit) (x2:List bz×List CD×List CD×Unit):nX ((cfg,(site,busy,won,seq,next,cnt,()),want,[d0],[d1],[lk],[s0],[s1],[],cur,()),()) x1 x2=some (x2.1,(cfg,(site,busy,won,seq,next,cnt,()),want,x2.2.1,x2.2.2.1,x1.2.1,[s0],[s1],[],cur,()),()):=by
 unfold nX;simp only[isEmpty_nil,cond_true,decide_true]
theorem r13e (start:Int) (told:List TBD) {ended:Int} (h:ended≠0) (x1:List bz×List CD×Unit) (x2:List bz×List CD×List CD×Unit):nX ((cfg,(site,busy,won,seq,next,cnt,()),want,[d0],[d1],[lk],[s0],[s1],[(start,told,ended,())],cur,()),()) x1 x2=some (x2.1,(cfg,(site,busy,won,seq,next,cnt,()),want,x2.2.1,x2.2.2.1,x1.2.1,[s0],[s1],[(start,told,ended,())],cur,()),()):=by
 unfold nX;simp only[isEmpty_cons,head?_cons,getElem?_cons_zero,bind_some,decide_eq_false h,Bool.not_false,cond_true,cond_false,decide_true]
theorem r13a (start:Int) (told:List TBD) (x1:List bz×List CD×Unit) (x2:List bz×List CD×List CD×Unit) (hk:(decide (site=1) && decide (cnt.1<next))=false):nX ((cfg,(site,busy,won,seq,next,cnt,()),want,[d0],[d1],[lk],[s0],[s1],[(start,told,0,())],cur,()),()) x1 x2 =
  (F35 (pst cfg site busy won seq next cnt want,0,())).bind fun b=>(F36 (pst cfg site busy won seq next cnt want,())).bind fun b_1=>(F37 b).bind fun b_2=>(F33 (s0,QM 4 gQ b_1.1 b.1 b_2.1 next 0,())).bind fun b=>(bF x2.1 b.1).bind fun b_4=>some (b_4,(cfg,(site,busy,won,seq,next,cnt,()),want,x2.2.1,x2.2.2.1,x1.2.1,[b.2.1],[s1],[(start,told,0,())],cur,()),()):=by
 have h0:decide ((0:Int)=ofNat 0)=true:=rfl;unfold nX;cases h1:decide (site=1) with
 | false=>simp only[isEmpty_cons,head?_cons,getElem?_cons_zero,bind_some,decide_true,Bool.not_true,cond_false,h0,cond_true,elim_inl]
 | true=>rw[h1,Bool.true_and] at hk;simp only[isEmpty_cons,head?_cons,getElem?_cons_zero,bind_some,decide_true,Bool.not_true,cond_false,hk,h0,cond_true,elim_inl]
theorem r13b (start:Int) (told:List TBD) (x1:List bz×List CD×Unit) (x2:List bz×List CD×List CD×Unit) (hk:(decide (site=1) && decide (cnt.1<next))=true):nX ((cfg,(site,busy,won,seq,next,cnt,()),want,[d0],[d1],[lk],[s0],[s1],[(start,told,0,())],cur,()),()) x1 x2 =
  (F35 (pst cfg site busy won seq next cnt want,1,())).bind fun b=>(F36 (pst cfg site busy won seq next cnt want,())).bind fun b_1=>(F37 b).bind fun b_2=>(F33 (s1,QM 4 gQ b_1.1 b.1 b_2.1 next 0,())).bind fun b=>(bF x2.1 b.1).bind fun b_4=>some (b_4,(cfg,(site,busy,won,seq,next,cnt,()),want,x2.2.1,x2.2.2.1,x1.2.1,[s0],[b.2.1],[(start,told,0,())],cur,()),()):=by
 have h0:decide ((1:Int)=ofNat 0)=false:=rfl;have h3:decide ((1:Int)=ofNat (0+1))=true:=rfl;rw[and_eq_true] at hk;obtain⟨h1,h2⟩:=hk;unfold nX;simp only[isEmpty_cons,head?_cons,getElem?_cons_zero,bind_some,decide_true,Bool.not_true,cond_false,h1,h2,h0,h3,cond_true,elim_inl]
end
section
variable (id:Int) (src dst:List UInt8) (site fr cut:Int) (busy won:Bool) (seq:Int) (want:aI) (e0 e1 lw t0 t1:WD) (wat:Bool) (start next:Int) (told:List TBD) (ended:Int) (cur:Bool)
theorem p14:NK ((id,src,dst,site,fr,cut,busy,won,seq,want,(e0,e1,()),lw,(t0,t1,()),wat,start,next,told,ended,cur,()),())=bif (won || cur) then(F38 (lw,Ac,())).bind fun b=>some (inl (b.2.1,b.1,())) else some (inl ([],lw,())):=by
 cases won<;>cases cur<;>rfl
theorem q14 (k:Int) (x1:List bz×WD×Unit) {z:aI×Bool×Unit} (hz:F39 ((id,src,dst,k,fr,cut,busy,won,seq,want,(e0,e1,()),x1.2.1,(t0,t1,()),wat,start,next,told,ended,cur,()),want,k,())=some z) (hk:k=0∨k=1) :
  FY ((id,src,dst,k,fr,cut,busy,won,seq,want,(e0,e1,()),lw,(t0,t1,()),wat,start,next,told,ended,cur,()),()) x1 =
  bif (busy && !won) then(F38 (if k=0 then e0 else e1,quM id seq z.1,())).bind fun b=>(bF [] x1.1).bind fun b_1=>(bF b_1 b.2.1).bind fun b_2=>some (inl (b_2,(if k=0 then b.1 else e0,if k=0 then e1 else b.1,()),())) else some (inl (x1.1,(e0,e1,()),())):=by
 obtain⟨⟨rd,rest⟩,ok⟩:=z;rcases hk with rfl|rfl
 all_goals
  cases busy
  ·rfl
  ·cases won
   ·exact aF hz (by cases rd<;>rfl)
   ·rfl
theorem r14n (x1:List bz×WD×Unit) (x2:List bz×aW×Unit):qL ((id,src,dst,site,fr,cut,busy,won,seq,want,(e0,e1,()),lw,(t0,t1,()),false,start,next,told,ended,cur,()),()) x1 x2=some ((id,src,dst,site,fr,cut,busy,won,seq,want,x2.2.1,x1.2.1,(t0,t1,()),false,start,next,told,ended,cur,()),x2.1,()):=rfl
theorem r14e (h:ended≠0) (x1:List bz×WD×Unit) (x2:List bz×aW×Unit):qL ((id,src,dst,site,fr,cut,busy,won,seq,want,(e0,e1,()),lw,(t0,t1,()),true,start,next,told,ended,cur,()),()) x1 x2=some ((id,src,dst,site,fr,cut,busy,won,seq,want,x2.2.1,x1.2.1,(t0,t1,()),true,start,next,told,ended,cur,()),x2.1,()):=by
 unfold qL;simp only[Bool.not_true,cond_false,decide_eq_false h,Bool.not_false,cond_true]
theorem r14a (x1:List bz×WD×Unit) (x2:List bz×aW×Unit) (hk:(decide (site=1) && decide (fr<next))=false) {nm en:List UInt8} (h1:F40 ((id,src,dst,site,fr,cut,busy,won,seq,want,x2.2.1,x1.2.1,(t0,t1,()),true,start,next,told,0,cur,()),0,())=some (nm,())) (h2:F41 (nm,())=some (en,())) :
  qL ((id,src,dst,site,fr,cut,busy,won,seq,want,(e0,e1,()),lw,(t0,t1,()),true,start,next,told,0,cur,()),()) x1 x2 =
  (F38 (t0,QM 4 gQ (wrap64 (id+1)) nm en next 0,())).bind fun b=>(bF [] x2.1).bind fun b_6=>(bF b_6 b.2.1).bind fun b'=>some ((id,src,dst,site,fr,cut,busy,won,seq,want,x2.2.1,x1.2.1,(b.1,t1,()),true,start,next,told,0,cur,()),b',()):=by
 unfold qL;cases hs:decide (site=1) with
 | false=>simp only[decide_true,Bool.not_true,cond_false,bind_some,elim_inl,h1,h2];rfl
 | true=>rw[hs,Bool.true_and] at hk;simp only[decide_true,Bool.not_true,cond_false,cond_true,hk,bind_some,elim_inl,h1,h2];rfl
theorem r14b (x1:List bz×WD×Unit) (x2:List bz×aW×Unit) (hk:(decide (site=1) && decide (fr<next))=true) {nm en:List UInt8} (h1:F40 ((id,src,dst,site,fr,cut,busy,won,seq,want,x2.2.1,x1.2.1,(t0,t1,()),true,start,next,told,0,cur,()),1,())=some (nm,())) (h2:F41 (nm,())=some (en,())) :
  qL ((id,src,dst,site,fr,cut,busy,won,seq,want,(e0,e1,()),lw,(t0,t1,()),true,start,next,told,0,cur,()),()) x1 x2 =
  (F38 (t1,QM 4 gQ (wrap64 (id+1)) nm en next 0,())).bind fun b=>(bF [] x2.1).bind fun b_6=>(bF b_6 b.2.1).bind fun b'=>some ((id,src,dst,site,fr,cut,busy,won,seq,want,x2.2.1,x1.2.1,(t0,b.1,()),true,start,next,told,0,cur,()),b',()):=by
 unfold qL;rw[and_eq_true] at hk;obtain⟨hs,hk⟩:=hk;simp only[decide_true,Bool.not_true,cond_false,cond_true,hs,hk,bind_some,elim_inl,h1,h2];rfl
end
def WR (wt:List dJ) (wat:Bool) (start:Int) (told:List TBD) (ended:Int):Prop:=(wt=[]∧wat=false∧told=[]∧ended=0)∨(wt=[(start,told,ended,())]∧wat=true)
def iZ (id n0 n1 sf:Int) (src dst:List UInt8) (site fr next start:Int) (told:List TBD) (wat:Bool) (p:bD) (w:bG):Prop:=
 ∃ d0 d1 lk s0 s1 e0 e1 lw t0 t1 busy won seq cut want wt ended cur,
  p=((id,src,dst,(n0,n1,()),()),(site,busy,won,seq,next,(fr,cut,()),()),want,[d0],[d1],[lk],[s0],[s1],wt,cur,())∧
  w=(id,src,dst,site,fr,cut,busy,won,seq,want,(e0,e1,()),lw,(t0,t1,()),wat,start,next,told,ended,cur,())∧
  jK sf 6 0 n0 d0 e0∧jK sf 6 1 n1 d1 e1∧jK sf 6 1 n1 lk lw∧jK sf 6 0 n0 s0 t0∧jK sf 6 1 n1 s1 t1∧
  WR wt wat start told ended∧(site=0∨site=1)∧SzW want∧zI want≤20
theorem mD {α:Type} {a b:List α} (h:a.length≤100) (g:b.length≤100):bF a b=some (a++b):=iR (by have:bI=34359738368:=rfl;omega)
theorem ZV {id n0 n1 sf:Int} {src dst:List UInt8} {site fr next start:Int} {told:List TBD} {wat:Bool} {p:bD} {w:bG} (hn0:1≤n0∧n0≤3) (hn1:1≤n1∧n1≤3) (hs1:St src) (hs2:St dst) (h:iZ id n0 n1 sf src dst site fr next start told wat p w) :
  ∃ out p' w' out',F13 (p,())=some (out,p',())∧F14 (w,())=some (w',out',())∧iZ id n0 n1 sf src dst site fr next start told wat p' w':=by
 obtain⟨d0,d1,lk,s0,s1,e0,e1,lw,t0,t1,busy,won,seq,cut,want,wt,ended,cur,rfl,rfl,k0,k1,kl,m0,m1,hw,hsite,hz,hss⟩:=h;have hp:(1:Int)≤6∧(6:Int)≤100:=by decide
 rw[show F13 _=_ from zc5 _,show F14 _=_ from zc4 _,p13,p14];obtain⟨o1,o1',lk',lw',a1,a2,kl',la,la'⟩:∃ o1 o1' lk' lw',(bif (won || cur) then(F33 (lk,Ac,())).bind fun b=>some (inl (b.1,[b.2.1],())) else some (inl ([],[lk],())):Option ((List bz×List CD×Unit)⊕(List bz×bD×Unit)))=some (.inl (o1,[lk'],()))∧
   (bif (won || cur) then(F38 (lw,Ac,())).bind fun b=>some (inl (b.2.1,b.1,())) else some (inl ([],lw,())):Option ((List bz×WD×Unit)⊕(bG×List bz×Unit)))=some (.inl (o1',lw',()))∧jK sf 6 1 n1 lk' lw'∧o1.length≤1∧o1'.length≤1:=by
  cases won || cur with
  | false=>exact⟨_,_,_,_,rfl,rfl,kl,zero_le _,zero_le _⟩
  | true=>obtain⟨c',w',out,out',b1,b2,b3,b4,b5⟩:=yF hp hn1 kl zbO;exact⟨out,out',c',w',by simp only[cond_true,b1,bind_some],by simp only[cond_true,b2,bind_some],b3,b4,b5⟩
 rw[a1,a2];simp only[bind_some,elim_inl];have hq:=Zg id src dst (n0,n1,()) site busy won seq next (fr,cut,()) want hz
 have hgood:rX (quM id seq (iU src (dZ src dst site) want).1):=zcM (zcj (CX hs1 hs2) hz) (le_trans (za8 _ _ _) hss);have hnam:=JB id src dst (site,fr,cut,busy,won,seq,want,(e0,e1,()),lw',(t0,t1,()),wat,start,next,told,ended,cur,()) want site hsite hz hs1 hs2;obtain⟨o2,o2',d0',d1',e0',e1',b1,b2,k0',k1',lb,lb'⟩:∃ o2 o2' d0' d1' e0' e1',
   xK (((id,src,dst,(n0,n1,()),()),(site,busy,won,seq,next,(fr,cut,()),()),want,[d0],[d1],[lk],[s0],[s1],wt,cur,()),()) (o1,[lk'],())=some (.inl (o2,[d0'],[d1'],()))∧
   FY ((id,src,dst,site,fr,cut,busy,won,seq,want,(e0,e1,()),lw,(t0,t1,()),wat,start,next,told,ended,cur,()),()) (o1',lw',())=some (.inl (o2',(e0',e1',()),()))∧jK sf 6 0 n0 d0' e0'∧jK sf 6 1 n1 d1' e1'∧o2.length≤2∧o2'.length≤2:=by
  rw[q14 _ _ _ _ _ _ _ _ _ _ _ _ _ _ _ _ _ _ _ _ _ _ hnam hsite];rcases hsite with rfl|rfl
  ·rw[q13a];cases busy && !won with
   | false=>exact⟨_,_,_,_,_,_,rfl,rfl,k0,k1,le_trans la (by decide),le_trans la' (by decide)⟩
   | true=>
    obtain⟨c',w',out,out',x1,x2,x3,x4,x5⟩:=yF hp hn0 k0 hgood;refine⟨o1++out,o1'++out',c',d1,w',e1,?_,?_,x3,k1,by rw[length_append];omega,by rw[length_append];omega⟩
    ·simp only[cond_true,hq,bind_some,x1,mD (show o1.length≤100 by omega) (show out.length≤100 by omega)]
    ·simp only[cond_true,if_true,x2,bind_some,mD (show([]:List bz).length≤100 from zero_le _) (show o1'.length≤100 by omega),nil_append,mD (show o1'.length≤100 by omega) (show out'.length≤100 by omega)]
  ·rw[q13b];cases busy && !won with
   | false=>exact⟨_,_,_,_,_,_,rfl,rfl,k0,k1,le_trans la (by decide),le_trans la' (by decide)⟩
   | true=>
    obtain⟨c',w',out,out',x1,x2,x3,x4,x5⟩:=yF hp hn1 k1 hgood;refine⟨o1++out,o1'++out',d0,c',e0,w',?_,?_,k0,x3,by rw[length_append];omega,by rw[length_append];omega⟩
    ·simp only[cond_true,hq,bind_some,x1,mD (show o1.length≤100 by omega) (show out.length≤100 by omega)]
    ·have h10:¬ (1:Int)=0:=by decide
     simp only[cond_true,if_neg h10,x2,bind_some,mD (show([]:List bz).length≤100 from zero_le _) (show o1'.length≤100 by omega),nil_append,mD (show o1'.length≤100 by omega) (show out'.length≤100 by omega)]
 rw[b1,b2];simp only[bind_some,elim_inl];rcases hw with⟨rfl,rfl,h3,h4⟩|⟨rfl,rfl⟩
 ·exact⟨_,_,_,_,r13n ..,r14n ..,d0',d1',lk',s0,s1,e0',e1',lw',t0,t1,busy,won,seq,cut,want,[],ended,cur,rfl,rfl,k0',k1',kl',m0,m1,.inl ⟨rfl,rfl,h3,h4⟩,hsite,hz,hss⟩
 by_cases he:ended=0
 case neg=>exact⟨_,_,_,_,r13e _ _ _ _ _ _ _ _ _ _ _ _ _ _ _ _ he _ _,r14e _ _ _ _ _ _ _ _ _ _ _ _ _ _ _ _ _ _ _ _ he _ _,d0',d1',lk',s0,s1,e0',e1',lw',t0,t1,busy,won,seq,cut,want,_,ended,cur,rfl,rfl,k0',k1',kl',m0,m1,.inr ⟨rfl,rfl⟩,hsite,hz,hss⟩
 subst he;cases hk:decide (site=1) && decide (fr<next) with
 | false=>
  have hgp:rX (QM 4 gQ (wrap64 (id+1)) src (endOf src) next 0):=Ee 4 _ _ _ hs1 (by have:=IR (s:=src);unfold St at *;omega);obtain⟨c',w',out,out',x1,x2,x3,x4,x5⟩:=yF hp hn0 m0 hgp;refine⟨o2++out,_,_,o2'++out',(r13a _ _ _ _ _ _ _ _ _ _ _ _ _ _ _ _ _ _ hk).trans ?_,(r14a _ _ _ _ _ _ _ _ _ _ _ _ _ _ _ _ _ _ _ _ _ hk (Dv _ _ _ _ 0 (.inl rfl)) (BH _ hs1)).trans ?_,d0',d1',lk',c',s1,e0',e1',lw',w',t1,busy,won,seq,cut,want,_,0,cur,rfl,rfl,k0',k1',kl',x3,m1,.inr ⟨rfl,rfl⟩,hsite,hz,hss⟩
  ·refine aF (Dw ..) ?_;refine aF (a:=(wrap64 (id+1),())) rfl ?_;refine aF (Hm _) ?_;refine aF x1 ?_;simp only[mD (show o2.length≤100 by omega) (show out.length≤100 by omega),bind_some]
  ·refine aF x2 ?_;simp only[mD (show([]:List bz).length≤100 from zero_le _) (show o2'.length≤100 by omega),bind_some,nil_append,mD (show o2'.length≤100 by omega) (show out'.length≤100 by omega)]
 | true=>
  have hgp:rX (QM 4 gQ (wrap64 (id+1)) dst (endOf dst) next 0):=Ee 4 _ _ _ hs2 (by have:=IR (s:=dst);unfold St at *;omega);obtain⟨c',w',out,out',x1,x2,x3,x4,x5⟩:=yF hp hn1 m1 hgp;refine⟨o2++out,_,_,o2'++out',(r13b _ _ _ _ _ _ _ _ _ _ _ _ _ _ _ _ _ _ hk).trans ?_,(r14b _ _ _ _ _ _ _ _ _ _ _ _ _ _ _ _ _ _ _ _ _ hk (Dv _ _ _ _ 1 (.inr rfl)) (BH _ hs2)).trans ?_,d0',d1',lk',s0,c',e0',e1',lw',t0,w',busy,won,seq,cut,want,_,0,cur,rfl,rfl,k0',k1',kl',m0,x3,.inr ⟨rfl,rfl⟩,hsite,hz,hss⟩
  ·refine aF (Dw ..) ?_;refine aF (a:=(wrap64 (id+1),())) rfl ?_;refine aF (Hm _) ?_;refine aF x1 ?_;simp only[mD (show o2.length≤100 by omega) (show out.length≤100 by omega),bind_some]
  ·refine aF x2 ?_;simp only[mD (show([]:List bz).length≤100 from zero_le _) (show o2'.length≤100 by omega),bind_some,nil_append,mD (show o2'.length≤100 by omega) (show out'.length≤100 by omega)]
theorem IB {m:TMD} (h:fV m):pU m.2.2.2.2.2.2.2.2.2.2.2.2.1∧(m.1≠9→m.2.2.2.2.2.2.2.2.2.2.2.2.1=[]):=by
 obtain⟨hk,hkeep,hK⟩:=h;obtain⟨k,r⟩:=m;have key:k≠9→(k,r).2.2.2.2.2.2.2.2.2.2.2.2.1=[]:=by
  intro h9;rcases qc hk.1 hk.2 with e|e|e|e|e|e|e|e|e|e|e|e<;>(dsimp only at e;subst e)
  all_goals first|exact absurd rfl h9|exact(congrArg (fun m:TMD=>m.2.2.2.2.2.2.2.2.2.2.2.2.1) hkeep).symm
 refine⟨?_,key⟩;by_cases h9:k=9
 ·subst h9;unfold wY nJ at hK;simp only[reduceEq,false_and,true_and,false_or,or_false] at hK;exact hK.2.2.2.2.2
 ·rw[key h9];exact⟨fun i v hv=>by simp at hv,zero_le _⟩
theorem zad {m:TMD} (h:fV m):m.2.2.2.2.2.2.2.2.2.2.2.1.2.2.2.2.1.length≤8:=by
 obtain⟨hk,hkeep,hK⟩:=h;obtain⟨k,r⟩:=m;by_cases h8:k=8
 ·subst h8;unfold wY nJ at hK;simp only[reduceEq,false_and,true_and,false_or,or_false] at hK;exact hK.2.2.2.2.2.2.2.2.2.2.2.2.1
 ·have key:(k,r).2.2.2.2.2.2.2.2.2.2.2.1=eF:=by
   rcases qc hk.1 hk.2 with e|e|e|e|e|e|e|e|e|e|e|e<;>(dsimp only at e;subst e)
   all_goals first|exact absurd rfl h8|exact(congrArg (fun m:TMD=>m.2.2.2.2.2.2.2.2.2.2.2.1) hkeep).symm
  rw[key];exact zero_le _
theorem QI {id n0 n1 sf:Int} {src dst:List UInt8} {site fr next start:Int} {told:List TBD} {wat:Bool} {p:bD} {w:bG} {m:TMD} (hs1:St src) (hs2:St dst) (h:iZ id n0 n1 sf src dst site fr next start told wat p w) (hR:fV m) (hz:SzT m) :
  ∃ r b p' w',F49 (p,m,())=some (r,b,p',())∧F54 (w,m,())=some (w',r,b,())∧iZ id n0 n1 sf src dst site fr next start told wat p' w':=by
 obtain⟨d0,d1,lk,s0,s1,e0,e1,lw,t0,t1,busy,won,seq,cut,want,wt,ended,cur,rfl,rfl,k0,k1,kl,m0,m1,hw,hsite,hzw,hss⟩:=h;have hl:=zad hR;have hzr:y8 m.2.2.2.2.2.2.2.2.2.2.2.1:=hz.2.2.2.2.1;clear hR hz;obtain⟨xk,rid,raft,job,cl,fr',en,rev,most,err,hint,⟨re,r2,r3,r4,its,rs,r7,⟨⟩⟩,bat,xi,dn,hd,xm,⟨⟩⟩:=m;have hl:its.length≤8:=hl;have i1:F84 (dst,src,its,())=_:=Rz dst src its (by omega);have i2:F86 (dst,src,its,())=_:=Qj dst src hs2 hs1 its (by omega) hzr.2;have hzN:SzW (false,fD,[],[],0,0,()):=⟨Jv,ny,ny⟩
 by_cases he:err=0
 case neg=>
  refine⟨(err,0,false,0,[],0,0,()),true,_,_,?_,?_,d0,d1,lk,s0,s1,e0,e1,lw,t0,t1,false,won,seq,cut,(false,fD,[],[],0,0,()),wt,ended,cur,rfl,rfl,k0,k1,kl,m0,m1,hw,hsite,hzN,zero_le _⟩
  ·unfold F49;simp only[decide_eq_false he,Bool.not_false,cond_true,bind_some,elim_inl,decide_true]
  ·unfold F54;simp only[decide_eq_false he,Bool.not_false,cond_true,bind_some,elim_inl]
 subst he;by_cases hre:re=11
 ·subst hre;refine⟨eF,false,_,_,?_,?_,d0,d1,lk,s0,s1,e0,e1,lw,t0,t1,busy,true,seq,cut,want,wt,ended,cur,rfl,rfl,k0,k1,kl,m0,m1,hw,hsite,hzw,hss⟩
  ·unfold F49;simp only[decide_true,Bool.not_true,cond_true,cond_false,bind_some,map_some,elim_inr]
  ·unfold F54;simp only[decide_true,Bool.not_true,cond_true,cond_false,bind_some,elim_inr]
 by_cases hrs:rs=1
 ·subst hrs;refine⟨(re,r2,r3,r4,(mg (iOk dst src) (iTo dst src) its).1,1,r7,()),true,_,_,?_,?_,d0,d1,lk,s0,s1,e0,e1,lw,t0,t1,false,won,seq,cut,(false,fD,[],[],0,0,()),wt,ended,cur,rfl,rfl,k0,k1,kl,m0,m1,hw,hsite,hzN,zero_le _⟩
  ·unfold F49;simp only[decide_true,decide_eq_false hre,Bool.not_true,cond_true,cond_false,bind_some,i1,elim_inl]
  ·unfold F54;simp only[decide_true,decide_eq_false hre,Bool.not_true,cond_true,cond_false,bind_some,i2,elim_inl]
 ·refine⟨(re,r2,r3,r4,its,rs,r7,()),true,_,_,?_,?_,d0,d1,lk,s0,s1,e0,e1,lw,t0,t1,false,won,seq,cut,(false,fD,[],[],0,0,()),wt,ended,cur,rfl,rfl,k0,k1,kl,m0,m1,hw,hsite,hzN,zero_le _⟩
  ·unfold F49;simp only[decide_true,decide_eq_false hre,decide_eq_false hrs,Bool.not_true,cond_true,cond_false,bind_some,elim_inl]
  ·unfold F54;simp only[decide_true,decide_eq_false hre,decide_eq_false hrs,Bool.not_true,cond_false,bind_some,elim_inl]
theorem IW {self pat k n:Int} {c:CD} {w:WD} (h:jK self pat k n c w):∃ c',F32 (c,())=some (c',())∧jK self pat k n c' (w.1,w.2.1,w.2.2.1,w.2.2.2.1,w.2.2.2.2.1,w.2.2.2.2.2.1,w.2.2.2.2.2.2.1,false,w.2.2.2.2.2.2.2.2):=by
 obtain⟨r,o,tgt,wt,wt',now,q,q',rfl,rfl,ht,-⟩:=h;exact⟨_,rfl,r,false,tgt,wt,wt',now,q,q',rfl,rfl,ht,fun h=>by cases h⟩
theorem zaa {id n0 n1 sf:Int} {src dst:List UInt8} {site fr next start:Int} {told:List TBD} {wat:Bool} {p:bD} {w:bG} (v:jh) (h:iZ id n0 n1 sf src dst site fr next start told wat p w) :
  ∃ p' w' site' fr' next',F51 (p,v,())=some (p',())∧F56 (w,v,())=some (w',())∧iZ id n0 n1 sf src dst site' fr' next' start told wat p' w'∧
   ((site'=site∧fr'=fr∧next'=next)∨(site=0∧v.1=3∧site'=1∧fr'=v.2.2.2.2.2.2.2.2.1∧(wat=false→next'=next)∧(wat=true→next'=eQ start (fQ next (wrap64 (v.2.2.2.2.2.2.2.2.1+1)))))):=by
 obtain⟨d0,d1,lk,s0,s1,e0,e1,lw,t0,t1,busy,won,seq,cut,want,wt,ended,cur,rfl,rfl,k0,k1,kl,m0,m1,hw,hsite,hzw,hss⟩:=h;obtain⟨ph,v2,v3,vs,vd,v6,v7,v8,vf,vc,⟨⟩⟩:=v;unfold F51 F56;rcases hsite with rfl|rfl
 case inr=>refine⟨_,_,1,fr,next,by simp only[decide_true,cond_true],by simp only[decide_true,cond_true],⟨d0,d1,lk,s0,s1,e0,e1,lw,t0,t1,busy,false,seq,cut,want,wt,ended,false,rfl,rfl,k0,k1,kl,m0,m1,hw,.inr rfl,hzw,hss⟩,.inl ⟨rfl,rfl,rfl⟩⟩
 have h01:decide ((0:Int)=1)=false:=rfl;by_cases hp:ph=3
 case neg=>refine⟨_,_,0,fr,next,by simp only[h01,decide_eq_false hp,Bool.not_false,decide_true,cond_true,cond_false],by simp only[h01,decide_eq_false hp,Bool.not_false,cond_true,cond_false],⟨d0,d1,lk,s0,s1,e0,e1,lw,t0,t1,busy,false,seq,cut,want,wt,ended,false,rfl,rfl,k0,k1,kl,m0,m1,hw,.inl rfl,hzw,hss⟩,.inl ⟨rfl,rfl,rfl⟩⟩
 by_cases h2:vs=src
 case neg=>refine⟨_,_,0,fr,next,by simp only[h01,decide_eq_true hp,decide_eq_false h2,Bool.not_true,Bool.not_false,decide_true,cond_true,cond_false],by simp only[h01,decide_eq_true hp,decide_eq_false h2,Bool.not_true,Bool.not_false,cond_true,cond_false],⟨d0,d1,lk,s0,s1,e0,e1,lw,t0,t1,busy,false,seq,cut,want,wt,ended,false,rfl,rfl,k0,k1,kl,m0,m1,hw,.inl rfl,hzw,hss⟩,.inl ⟨rfl,rfl,rfl⟩⟩
 by_cases h3:vd=dst
 case neg=>refine⟨_,_,0,fr,next,by simp only[h01,decide_eq_true hp,decide_eq_true h2,decide_eq_false h3,Bool.not_true,Bool.not_false,decide_true,cond_true,cond_false],by simp only[h01,decide_eq_true hp,decide_eq_true h2,decide_eq_false h3,Bool.not_true,Bool.not_false,cond_true,cond_false],⟨d0,d1,lk,s0,s1,e0,e1,lw,t0,t1,busy,false,seq,cut,want,wt,ended,false,rfl,rfl,k0,k1,kl,m0,m1,hw,.inl rfl,hzw,hss⟩,.inl ⟨rfl,rfl,rfl⟩⟩
 obtain⟨c',x1,x2⟩:=IW k0;rcases hw with⟨rfl,rfl,h5,h6⟩|⟨rfl,rfl⟩
 ·exact⟨_,_,1,vf,next,by simp only[h01,decide_eq_true hp,decide_eq_true h2,decide_eq_true h3,Bool.not_true,decide_true,cond_true,cond_false,head?_cons,bind_some,x1,isEmpty_nil],by simp only[h01,decide_eq_true hp,decide_eq_true h2,decide_eq_true h3,Bool.not_true,cond_false],⟨c',d1,lk,s0,s1,_,e1,lw,t0,t1,busy,false,seq,vc,want,[],ended,false,rfl,rfl,x2,k1,kl,m0,m1,.inl ⟨rfl,rfl,h5,h6⟩,.inr rfl,hzw,hss⟩,.inr ⟨rfl,hp,rfl,rfl,fun _=>rfl,fun h=>by cases h⟩⟩
 ·exact⟨_,_,1,vf,_,by simp only[h01,decide_eq_true hp,decide_eq_true h2,decide_eq_true h3,Bool.not_true,Bool.not_false,decide_true,cond_true,cond_false,head?_cons,getElem?_cons_zero,bind_some,x1,isEmpty_cons],by simp only[h01,decide_eq_true hp,decide_eq_true h2,decide_eq_true h3,Bool.not_true,cond_true,cond_false],⟨c',d1,lk,s0,s1,_,e1,lw,t0,t1,busy,false,seq,vc,want,_,ended,false,rfl,rfl,x2,k1,kl,m0,m1,.inr ⟨rfl,rfl⟩,.inr rfl,hzw,hss⟩,.inr ⟨rfl,hp,rfl,rfl,(fun h=>by cases h),fun _=>rfl⟩⟩
noncomputable def lu (q src:List UInt8) (next:Int) (t:List TBD) (b:TBD):List TBD:=bif b.2.1.all (iOk q src) && decide (next≤b.1) then t++[(b.1,b.2.1.map (iTo q src),())] else t
def wO (k site fr next rev:Int):Int:=eQ next (bif decide (k=0) then bif decide (site=1) then fQ rev (wrap64 (fr+1)) else rev else rev)
theorem Ov {id n0 n1 sf:Int} {src dst:List UInt8} {site fr next start:Int} {told:List TBD} {wat:Bool} {p:bD} {w:bG} {m:TMD} (k:Int) (hk:k=0∨k=1) (hs1:St src) (hs2:St dst) (h:iZ id n0 n1 sf src dst site fr next start told wat p w) (hR:fV m) (hz:SzT m) (hb:told.length≤1000000) :
  ∃ p' w' told' next',F50 (p,k,m,())=some (p',())∧F55 (w,k,m,())=some (w',())∧iZ id n0 n1 sf src dst site fr next' start told' wat p' w'∧
   ((told'=told∧next'=next)∨(wat=true∧m.2.2.2.2.2.2.2.2.2.1=0∧told'=m.2.2.2.2.2.2.2.2.2.2.2.2.1.foldl (lu (dZ src dst k) src next) told∧next'=wO k site fr next m.2.2.2.2.2.2.2.1)):=by
 obtain⟨d0,d1,lk,s0,s1,e0,e1,lw,t0,t1,busy,won,seq,cut,want,wt,ended,cur,rfl,rfl,k0,k1,kl,m0,m1,hw,hsite,hzw,hss⟩:=h;obtain⟨hB,-⟩:=IB hR;have hzb:∀ b∈m.2.2.2.2.2.2.2.2.2.2.2.2.1,mQ b.2.1:=hz.2.2.2.2.2.1;clear hR hz;obtain⟨xk,rid,raft,job,cl,fr',en,rev,most,err,hint,rep,bat,xi,dn,hd,xm,⟨⟩⟩:=m;have hB:pU bat:=hB;have hzb:∀ b∈bat,mQ b.2.1:=hzb;rcases hw with⟨rfl,rfl,rfl,rfl⟩|⟨rfl,rfl⟩
 ·refine⟨_,_,[],next,?_,?_,⟨d0,d1,lk,s0,s1,e0,e1,lw,t0,t1,busy,won,seq,cut,want,[],0,cur,rfl,rfl,k0,k1,kl,m0,m1,.inl ⟨rfl,rfl,rfl,rfl⟩,hsite,hzw,hss⟩,.inl ⟨rfl,rfl⟩⟩
  ·unfold F50;simp only[isEmpty_nil,cond_true,Bool.not_true,cond_false,decide_true]
  ·rfl
 by_cases he:err=0
 case neg=>
  by_cases h9:err=9
  ·subst h9;refine⟨_,_,told,next,?_,?_,⟨d0,d1,lk,s0,s1,e0,e1,lw,t0,t1,busy,won,seq,cut,want,[(start,told,9,())],9,cur,rfl,rfl,k0,k1,kl,m0,m1,.inr ⟨rfl,rfl⟩,hsite,hzw,hss⟩,.inl ⟨rfl,rfl⟩⟩
   ·rfl
   ·rfl
  ·refine⟨_,_,told,next,?_,?_,⟨d0,d1,lk,s0,s1,e0,e1,lw,t0,t1,busy,won,seq,cut,want,[(start,told,ended,())],ended,cur,rfl,rfl,k0,k1,kl,m0,m1,.inr ⟨rfl,rfl⟩,hsite,hzw,hss⟩,.inl ⟨rfl,rfl⟩⟩
   ·unfold F50;simp only[isEmpty_cons,cond_true,cond_false,decide_eq_false he,decide_eq_false h9,Bool.not_false,decide_true]
   ·unfold F55;simp only[cond_true,cond_false,decide_eq_false he,decide_eq_false h9,Bool.not_false,Bool.not_true,bind_some,elim_inl]
 subst he;have hlen:bat.length≤64:=hB.2;have hcap:bI=34359738368:=rfl;have hit:∀ b∈bat,b.2.1.length≤1000000:=fun b hb=>by obtain⟨i,hi,rfl⟩:=List.mem_iff_getElem.1 hb;have:=(hB.1 i _ (getElem?_eq_getElem hi)).2.1.1;omega
 have hq:St (dZ src dst k):=CX hs1 hs2;have add_len:∀ (t:List TBD) b,(lu (dZ src dst k) src next t b).length≤t.length+1:=fun t b=>by unfold lu;cases b.2.1.all (iOk (dZ src dst k) src) && decide (next≤b.1)<;>simp
 have inv:∀ i (t:List TBD) b,t.length≤1000000+i→(lu (dZ src dst k) src next t b).length≤1000000+(i+1):=fun i t b h=>by have:=add_len t b;omega
 have h09:decide ((0:Int)=9)=false:=rfl;refine⟨_,_,_,_,?_,?_,⟨d0,d1,lk,s0,s1,e0,e1,lw,t0,t1,busy,won,seq,cut,want,_,ended,cur || (decide (site=0) && decide (ofNat bat.length=0)),rfl,rfl,k0,k1,kl,m0,m1,.inr ⟨rfl,rfl⟩,hsite,hzw,hss⟩,.inr ⟨rfl,rfl,rfl,rfl⟩⟩
 ·unfold F50;simp only[isEmpty_cons,cond_false,decide_true,Bool.not_true];refine IJ (mk:=fun i t=>((i:Int),([(start,t,ended,())],(1:Int)),())) (l:=bat) (g:=lu (dZ src dst k) src next)
   (K:=fun t=>(((id,src,dst,(n0,n1,()),()),(site,busy,won,seq,wO k site fr next rev,(fr,cut,()),()),want,[d0],[d1],[lk],[s0],[s1],[(start,t,ended,())],cur || (decide (site=0) && decide (ofNat bat.length=0)),()),()))
   (Inv:=fun i t=>t.length≤1000000+i) (by omega) ?_ ?_ (a:=told) (by omega)
  ·intro i t b hv ht;refine⟨?_,inv i t b ht⟩;have hi:i<bat.length:=(List.getElem?_eq_some_iff.1 hv).1;have hm:=mem_of_getElem? hv;have wk:wrap64 ((i:Int)+1)=((i+1:Nat):Int):=aX (by omega);have hit':F84 (dZ src dst k,src,b.2)=_:=Rz (dZ src dst k) src b.2.1 (hit b hm);simp only[aC,hi,decide_true,cond_true,aN,hv,bind_some,Dw,hit',wk];unfold lu mg;cases b.2.1.all (iOk (dZ src dst k) src) with
   | false=>rfl
   | true=>
    simp only[cond_true,Bool.true_and];cases decide (next≤b.1) with
    | false=>rfl
    | true=>simp only[cond_true,head?_cons,getElem?_cons_zero,bind_some,iR (show t.length + [(b.1,b.2.1.map (iTo (dZ src dst k) src),())].length≤bI by simp only[length_cons,length_nil];omega)];rfl
  ·intro t ht;simp only[aC,lt_irrefl,decide_false,cond_false];unfold wO;rcases hk with rfl|rfl<;>rcases hsite with rfl|rfl<;>cases cur<;>rfl
 ·unfold F55;simp only[h09,decide_true,Bool.not_true,cond_false,bind_some,elim_inl];refine IJ (mk:=fun i t=>((i:Int),t,())) (l:=bat) (g:=lu (dZ src dst k) src next)
   (K:=fun t=>((id,src,dst,site,fr,cut,busy,won,seq,want,(e0,e1,()),lw,(t0,t1,()),true,start,wO k site fr next rev,t,ended,cur || (decide (site=0) && decide (ofNat bat.length=0)),()),()))
   (Inv:=fun i t=>t.length≤1000000+i) (by omega) ?_ ?_ (a:=told) (by omega)
  ·intro i t b hv ht;refine⟨?_,inv i t b ht⟩;have hi:i<bat.length:=(List.getElem?_eq_some_iff.1 hv).1;have hm:=mem_of_getElem? hv;have wk:wrap64 ((i:Int)+1)=((i+1:Nat):Int):=aX (by omega);have hit':F86 (dZ src dst k,src,b.2)=_:=Qj (dZ src dst k) src hq hs1 b.2.1 (hit b hm) (hzb b hm).2;simp only[aC,hi,decide_true,cond_true,aN,hv,bind_some,Dv _ _ _ _ k hk,hit',wk];unfold lu mg;cases b.2.1.all (iOk (dZ src dst k) src) with
   | false=>rfl
   | true=>
    simp only[cond_true,Bool.true_and];cases decide (next≤b.1) with
    | false=>rfl
    | true=>simp only[cond_true,bind_some,iR (show([]:List TBD).length+t.length≤bI by simp only[length_nil];omega),nil_append,iR (show t.length + [(b.1,b.2.1.map (iTo (dZ src dst k) src),())].length≤bI by simp only[length_cons,length_nil];omega)]
  ·intro t ht;simp only[aC,lt_irrefl,decide_false,cond_false];unfold wO;rcases hk with rfl|rfl<;>rcases hsite with rfl|rfl<;>cases cur<;>cases decide (ofNat bat.length=0)<;>rfl
theorem DU {T R:Type} {step:T→Option (T⊕R)} {n:Nat} {t t':T} (h:step t=some (.inl t')):iter step (n+1) t=iter step n t':=by simp only[iter,h,bind_some,elim_inl]
theorem l7 {T R:Type} {step:T→Option (T⊕R)} {n:Nat} {t:T} {r:R} (h:step t=some (.inr r)):iter step (n+1) t=some r:=by simp only[iter,h,bind_some,elim_inr]
theorem zQ {self pat k n hf:Int} {c:CD} {w:WD} {m:TMD} (hs:0≤k∧k≤1) (hn:1≤n∧n≤3) (h:jK self pat k n c w) (hB:Bnd m) (zm:SzT m) :
  (∃ c' w',F48 (c,hf,m,())=some (NoT,false,c',())∧F53 (w,hf,m,())=some (w',false,())∧jK self pat k n c' w')∨
  (w.2.2.2.2.2.2.2.1=true∧fV m∧∃ c' w',F48 (c,hf,m,())=some (m,true,c',())∧F53 (w,hf,m,())=some (w',true,())∧jK self pat k n c' w'):=by
 obtain⟨r,o,h⟩:=h;have ho:=(Qs h).2;rcases zaE (fr:=hf) hs hn h hB zm with⟨c',w',a1,a2,a3⟩|⟨rfl,hR,-,c',w',a1,a2,a3⟩
 ·exact .inl ⟨c',w',a1,a2,r,o,a3⟩
 ·exact .inr ⟨ho,hR,c',w',a1,a2,r,false,a3⟩
theorem l02:decide ((0:Int)<2)=true:=rfl
theorem l12:decide ((1:Int)<2)=true:=rfl
theorem l22:decide ((2:Int)<2)=false:=rfl
theorem q0n:decide ((0:Int)=ofNat 0)=true:=rfl
theorem q1n:decide ((1:Int)=ofNat 0)=false:=rfl
theorem q1m:decide ((1:Int)=ofNat (0+1))=true:=rfl
theorem w01:wrap64 (0+1)=1:=rfl
theorem w11:wrap64 (1+1)=2:=rfl
theorem ix0:jf 2 (0:Int)=some 0:=rfl
theorem ix1:jf 2 (1:Int)=some 1:=rfl
theorem sJ:Nat.beq 0 0=true:=rfl
theorem sH:Nat.beq 1 0=false:=rfl
theorem sG:Nat.beq 1 (0+1)=true:=rfl
theorem iF (n:Nat):toNat (ofNat n)=n:=rfl
section
variable (x:bD×Int×TMD×Unit) (hf:Int) (m:TMD) (cfg:bV) (st:dL) (want:aI) (d0 d1 lk s0 s1 d0' d1' lk' s0' s1':CD) (wt:List dJ) (cur:Bool)
abbrev h19 (k:Int) (cfg:bV) (st:dL) (want:aI) (d0 d1 lk s0 s1:CD) (wt:List dJ) (cur:Bool):Int×bV×dL×aI×List ax×List ax×List ax×List ax×List ax×(List dJ×Int)×Bool×dD:=(k,cfg,st,want,[d0],[d1],[lk],[s0],[s1],(wt,ofNat wt.length),cur,0,0,false,0,[],0,0,())
abbrev pOf (cfg:bV) (st:dL) (want:aI) (d0 d1 lk s0 s1:CD) (wt:List dJ) (cur:Bool):bD:=(cfg,st,want,[d0],[d1],[lk],[s0],[s1],wt,cur,())
theorem s19a (hx:x.2=(hf,m,())) (h1:F48 (d0,hf,m,())=some (NoT,false,d0',())) (h2:F48 (s0,hf,m,())=some (NoT,false,s0',())):jo x (h19 0 cfg st want d0 d1 lk s0 s1 wt cur)=some (.inl (h19 1 cfg st want d0' d1 lk s0' s1 wt cur)):=by
 unfold jo;simp only[hx,l02,q0n,cond_true,head?_cons,bind_some,h1,h2,cond_false,elim_inl,iF,w01]
theorem s19b (hx:x.2=(hf,m,())) (h1:F48 (d1,hf,m,())=some (NoT,false,d1',())) (h2:F48 (s1,hf,m,())=some (NoT,false,s1',())):jo x (h19 1 cfg st want d0 d1 lk s0 s1 wt cur)=some (.inl (h19 2 cfg st want d0 d1' lk s0 s1' wt cur)):=by
 unfold jo;simp only[hx,l12,q1n,q1m,cond_true,head?_cons,bind_some,h1,h2,cond_false,elim_inl,iF,w11]
theorem s19c {r:dD} {b:Bool} {p':bD} (hx:x.2=(hf,m,())) (h1:F48 (d0,hf,m,())=some (m,true,d0',())) (h2:F49 (pOf cfg st want d0' d1 lk s0 s1 wt cur,m,())=some (r,b,p',())):jo x (h19 0 cfg st want d0 d1 lk s0 s1 wt cur)=some (.inr (r,b,p',())):=by
 unfold jo;simp only[hx,l02,q0n,cond_true,head?_cons,bind_some,h1,iF,decide_true];rw[show F49 (_,m,())=_ from h2];simp only[bind_some,decide_true,cond_true,map_some,elim_inr]
theorem s19d {r:dD} {b:Bool} {p':bD} (hx:x.2=(hf,m,())) (h1:F48 (d1,hf,m,())=some (m,true,d1',())) (h2:F49 (pOf cfg st want d0 d1' lk s0 s1 wt cur,m,())=some (r,b,p',())):jo x (h19 1 cfg st want d0 d1 lk s0 s1 wt cur)=some (.inr (r,b,p',())):=by
 unfold jo;simp only[hx,l12,q1n,q1m,cond_true,cond_false,head?_cons,bind_some,h1,iF,decide_true];rw[show F49 (_,m,())=_ from h2];simp only[bind_some,decide_true,cond_true,map_some,elim_inr]
theorem s19e {p':bD} (hx:x.2=(hf,m,())) (h1:F48 (d0,hf,m,())=some (NoT,false,d0',())) (h2:F48 (s0,hf,m,())=some (m,true,s0',())) (h3:F50 (pOf cfg st want d0' d1 lk s0' s1 wt cur,0,m,())=some (p',())):jo x (h19 0 cfg st want d0 d1 lk s0 s1 wt cur)=some (.inr (eF,false,p',())):=by
 unfold jo;simp only[hx,l02,q0n,cond_true,head?_cons,bind_some,h1,h2,cond_false,elim_inl,iF,decide_true];rw[show F50 (_,0,m,())=_ from h3];simp only[bind_some,decide_true,cond_true,map_some]
theorem s19f {p':bD} (hx:x.2=(hf,m,())) (h1:F48 (d1,hf,m,())=some (NoT,false,d1',())) (h2:F48 (s1,hf,m,())=some (m,true,s1',())) (h3:F50 (pOf cfg st want d0 d1' lk s0 s1' wt cur,1,m,())=some (p',())):jo x (h19 1 cfg st want d0 d1 lk s0 s1 wt cur)=some (.inr (eF,false,p',())):=by
 unfold jo;simp only[hx,l12,q1n,q1m,cond_true,head?_cons,bind_some,h1,h2,cond_false,elim_inl,iF,decide_true];rw[show F50 (_,1,m,())=_ from h3];simp only[bind_some,decide_true,cond_true,map_some]
theorem s19g (hx:x.2=(hf,m,())) (h1:F48 (lk,hf,m,())=some (NoT,false,lk',())):jo x (h19 2 cfg st want d0 d1 lk s0 s1 wt cur)=some (.inr (eF,false,pOf cfg st want d0 d1 lk' s0 s1 wt cur,())):=by
 unfold jo;simp only[hx,l22,cond_true,head?_cons,bind_some,h1,cond_false,iF,decide_true,map_some]
theorem s19h {p':bD} (hx:x.2=(hf,m,())) (h1:F48 (lk,hf,m,())=some (m,true,lk',())) (h2:F51 (pOf cfg st want d0 d1 lk' s0 s1 wt cur,m.2.2.2.2.2.2.2.2.2.2.2.2.2.2.2.2.1,())=some (p',())):jo x (h19 2 cfg st want d0 d1 lk s0 s1 wt cur)=some (.inr (eF,false,p',())):=by
 obtain⟨a1,a2,a3,a4,a5,a6,a7,a8,a9,a10,a11,a12,a13,a14,a15,a16,a17,⟨⟩⟩:=m;unfold jo;simp only[hx,l22,cond_true,head?_cons,bind_some,h1,cond_false,iF,decide_true];rw[show F51 (_,a17,())=_ from h2];simp only[bind_some,decide_true,cond_true,map_some]
end
section
variable (hf:Int) (m:TMD) (id:Int) (src dst:List UInt8) (site fr cut:Int) (busy won:Bool) (seq:Int) (want:aI) (D0:aW) (e0 e1 lw t0 t1 e0' e1' lw' t0' t1':WD) (Tz0:aW) (R:Bool×Int×Int×List TBD×Int×Bool×Unit)
abbrev ZW:di:=(0,0,0,0,0,0,0,false,false,NoT,())
abbrev h21 (k:Int) (D T:aW):Int×Int×Int×Bool×Int×List aT×Int×Int×Int×List UInt8×List UInt8×Int×Int×Int×Bool×Bool×Int×aI×aW×di×aW×Bool×Int×Int×List TBD×Int×Bool×aW×aW×Unit:=
 (k,0,0,false,0,[],0,0,0,[],[],0,0,0,false,false,0,(false,fD,[],[],0,0,()),(ZW,ZW,()),ZW,(ZW,ZW,()),false,0,0,[],0,false,D,T,())
abbrev wOf (id:Int) (src dst:List UInt8) (site fr cut:Int) (busy won:Bool) (seq:Int) (want:aI) (D:aW) (lw:WD) (T:aW) (R:Bool×Int×Int×List TBD×Int×Bool×Unit):bG:=(id,src,dst,site,fr,cut,busy,won,seq,want,D,lw,T,R)
theorem s21a (h1:F53 (e0,hf,m,())=some (e0',false,())) (h2:F53 (t0,hf,m,())=some (t0',false,())):jm (wOf id src dst site fr cut busy won seq want D0 lw Tz0 R,hf,m,()) (h21 0 (e0,e1,()) (t0,t1,()))=some (.inl (h21 1 (e0',e1,()) (t0',t1,()))):=by
 unfold jm;simp only[l02,ix0,sJ,cond_true,bind_some,h1,h2,cond_false,w01]
theorem s21b (h1:F53 (e1,hf,m,())=some (e1',false,())) (h2:F53 (t1,hf,m,())=some (t1',false,())):jm (wOf id src dst site fr cut busy won seq want D0 lw Tz0 R,hf,m,()) (h21 1 (e0,e1,()) (t0,t1,()))=some (.inl (h21 2 (e0,e1',()) (t0,t1',()))):=by
 unfold jm;simp only[l12,ix1,sH,sG,cond_true,bind_some,h1,h2,cond_false,w11]
theorem s21c {w':bG} {r:dD} {b:Bool} (h1:F53 (e0,hf,m,())=some (e0',true,())) (h2:F54 (wOf id src dst site fr cut busy won seq want (e0',e1,()) lw (t0,t1,()) R,m,())=some (w',r,b,())):jm (wOf id src dst site fr cut busy won seq want D0 lw Tz0 R,hf,m,()) (h21 0 (e0,e1,()) (t0,t1,()))=some (.inr (w',r,b,())):=by
 unfold jm;simp only[l02,ix0,sJ,cond_true,bind_some,h1];rw[show F54 (_,m,())=_ from h2];rfl
theorem s21d {w':bG} {r:dD} {b:Bool} (h1:F53 (e1,hf,m,())=some (e1',true,())) (h2:F54 (wOf id src dst site fr cut busy won seq want (e0,e1',()) lw (t0,t1,()) R,m,())=some (w',r,b,())):jm (wOf id src dst site fr cut busy won seq want D0 lw Tz0 R,hf,m,()) (h21 1 (e0,e1,()) (t0,t1,()))=some (.inr (w',r,b,())):=by
 unfold jm;simp only[l12,ix1,sH,sG,cond_true,cond_false,bind_some,h1];rw[show F54 (_,m,())=_ from h2];rfl
theorem s21e {w':bG} (h1:F53 (e0,hf,m,())=some (e0',false,())) (h2:F53 (t0,hf,m,())=some (t0',true,())) (h3:F55 (wOf id src dst site fr cut busy won seq want (e0',e1,()) lw (t0',t1,()) R,0,m,())=some (w',())):jm (wOf id src dst site fr cut busy won seq want D0 lw Tz0 R,hf,m,()) (h21 0 (e0,e1,()) (t0,t1,()))=some (.inr (w',eF,false,())):=by
 unfold jm;simp only[l02,ix0,sJ,cond_true,cond_false,bind_some,h1,h2];rw[show F55 (_,0,m,())=_ from h3];rfl
theorem s21f {w':bG} (h1:F53 (e1,hf,m,())=some (e1',false,())) (h2:F53 (t1,hf,m,())=some (t1',true,())) (h3:F55 (wOf id src dst site fr cut busy won seq want (e0,e1',()) lw (t0,t1',()) R,1,m,())=some (w',())):jm (wOf id src dst site fr cut busy won seq want D0 lw Tz0 R,hf,m,()) (h21 1 (e0,e1,()) (t0,t1,()))=some (.inr (w',eF,false,())):=by
 unfold jm;simp only[l12,ix1,sH,sG,cond_true,cond_false,bind_some,h1,h2];rw[show F55 (_,1,m,())=_ from h3];rfl
theorem s21g (h1:F53 (lw,hf,m,())=some (lw',false,())):jm (wOf id src dst site fr cut busy won seq want D0 lw Tz0 R,hf,m,()) (h21 2 (e0,e1,()) (t0,t1,()))=some (.inr (wOf id src dst site fr cut busy won seq want (e0,e1,()) lw' (t0,t1,()) R,eF,false,())):=by
 unfold jm;simp only[l22,cond_false,bind_some,h1,map_some]
theorem s21h {w':bG} (h1:F53 (lw,hf,m,())=some (lw',true,())) (h2:F56 (wOf id src dst site fr cut busy won seq want (e0,e1,()) lw' (t0,t1,()) R,m.2.2.2.2.2.2.2.2.2.2.2.2.2.2.2.2.1,())=some (w',())):jm (wOf id src dst site fr cut busy won seq want D0 lw Tz0 R,hf,m,()) (h21 2 (e0,e1,()) (t0,t1,()))=some (.inr (w',eF,false,())):=by
 obtain⟨a1,a2,a3,a4,a5,a6,a7,a8,a9,a10,a11,a12,a13,a14,a15,a16,a17,⟨⟩⟩:=m;unfold jm;simp only[l22,cond_false,cond_true,bind_some,h1];rw[show F56 (_,a17,())=_ from h2];rfl
end
theorem zaF {id n0 n1 sf:Int} {src dst:List UInt8} {site fr next start:Int} {told:List TBD} {wat:Bool} {p:bD} {w:bG} (hf:Int) {m:TMD} (hn0:1≤n0∧n0≤3) (hn1:1≤n1∧n1≤3) (hs1:St src) (hs2:St dst) (h:iZ id n0 n1 sf src dst site fr next start told wat p w) (hB:Bnd m) (zm:SzT m) (hb:told.length≤1000000) :
  ∃ r b p' w' site' fr' next' told',F19 (p,hf,m,())=some (r,b,p',())∧F21 (w,hf,m,())=some (w',r,b,())∧iZ id n0 n1 sf src dst site' fr' next' start told' wat p' w'∧
   ((site'=site∧fr'=fr∧next'=next∧told'=told)∨
    (∃ k,(k=0∨k=1)∧(k=0→w.2.2.2.2.2.2.2.2.2.2.2.2.1.1.2.2.2.2.2.2.2.1=true)∧fV m∧m.2.2.2.2.2.2.2.2.2.1=0∧site'=site∧fr'=fr∧told'=m.2.2.2.2.2.2.2.2.2.2.2.2.1.foldl (lu (dZ src dst k) src next) told∧next'=wO k site fr next m.2.2.2.2.2.2.2.1)∨
    (fV m∧site=0∧m.2.2.2.2.2.2.2.2.2.2.2.2.2.2.2.2.1.1=3∧site'=1∧fr'=m.2.2.2.2.2.2.2.2.2.2.2.2.2.2.2.2.1.2.2.2.2.2.2.2.2.1∧told'=told∧(wat=false→next'=next)∧(wat=true→next'=eQ start (fQ next (wrap64 (m.2.2.2.2.2.2.2.2.2.2.2.2.2.2.2.2.1.2.2.2.2.2.2.2.2.1+1)))))):=by
 obtain⟨d0,d1,lk,s0,s1,e0,e1,lw,t0,t1,busy,won,seq,cut,want,wt,ended,cur,rfl,rfl,k0,k1,kl,m0,m1,hw,hsite,hz,hss⟩:=h;obtain⟨n,hn⟩:=VX;rw[show F19 _=_ from zc2 _,show F21 _=_ from zc1 _,hn];rcases zQ (hf:=hf) (by omega) hn0 k0 hB zm with⟨d0',e0',a1,a2,k0'⟩|⟨-,hR,d0',e0',a1,a2,k0'⟩
 case inr=>obtain⟨r,b,p',w',x1,x2,x3⟩:=QI (m:=m) hs1 hs2 ⟨d0',d1,lk,s0,s1,e0',e1,lw,t0,t1,busy,won,seq,cut,want,wt,ended,cur,rfl,rfl,k0',k1,kl,m0,m1,hw,hsite,hz,hss⟩ hR zm;exact⟨r,b,p',w',site,fr,next,told,l7 (s19c _ hf m _ _ _ _ _ _ _ _ _ _ _ rfl a1 x1),l7 (s21c hf m _ _ _ _ _ _ _ _ _ _ _ _ _ _ _ _ _ _ _ a2 x2),x3,.inl ⟨rfl,rfl,rfl,rfl⟩⟩
 rcases zQ (hf:=hf) (by omega) hn0 m0 hB zm with⟨s0',t0',b1,b2,m0'⟩|⟨ho,hR,s0',t0',b1,b2,m0'⟩
 case inr=>
  obtain⟨p',w',told',next',x1,x2,x3,x4⟩:=Ov (m:=m) 0 (.inl rfl) hs1 hs2 ⟨d0',d1,lk,s0',s1,e0',e1,lw,t0',t1,busy,won,seq,cut,want,wt,ended,cur,rfl,rfl,k0',k1,kl,m0',m1,hw,hsite,hz,hss⟩ hR zm hb;refine⟨eF,false,p',w',site,fr,next',told',l7 (s19e _ hf m _ _ _ _ _ _ _ _ _ _ _ _ rfl a1 b1 x1),l7 (s21e hf m _ _ _ _ _ _ _ _ _ _ _ _ _ _ _ _ _ _ _ _ a2 b2 x2),x3,?_⟩;rcases x4 with⟨rfl,rfl⟩|⟨-,y1,y2,y3⟩
  ·exact .inl ⟨rfl,rfl,rfl,rfl⟩
  ·exact .inr (.inl ⟨0,.inl rfl,fun _=>ho,hR,y1,rfl,rfl,y2,y3⟩)
 rw[show iter _ (n+3) _=_ from DU (s19a _ hf m _ _ _ _ _ _ _ _ _ _ _ _ rfl a1 b1),show iter _ (n+3) _=_ from DU (s21a hf m _ _ _ _ _ _ _ _ _ _ _ _ _ _ _ _ _ _ _ _ a2 b2)];rcases zQ (hf:=hf) (by omega) hn1 k1 hB zm with⟨d1',e1',c1,c2,k1'⟩|⟨-,hR,d1',e1',c1,c2,k1'⟩
 case inr=>obtain⟨r,b,p',w',x1,x2,x3⟩:=QI (m:=m) hs1 hs2 ⟨d0',d1',lk,s0',s1,e0',e1',lw,t0',t1,busy,won,seq,cut,want,wt,ended,cur,rfl,rfl,k0',k1',kl,m0',m1,hw,hsite,hz,hss⟩ hR zm;exact⟨r,b,p',w',site,fr,next,told,l7 (s19d _ hf m _ _ _ _ _ _ _ _ _ _ _ rfl c1 x1),l7 (s21d hf m _ _ _ _ _ _ _ _ _ _ _ _ _ _ _ _ _ _ _ c2 x2),x3,.inl ⟨rfl,rfl,rfl,rfl⟩⟩
 rcases zQ (hf:=hf) (by omega) hn1 m1 hB zm with⟨s1',t1',f1,f2,m1'⟩|⟨ho,hR,s1',t1',f1,f2,m1'⟩
 case inr=>
  obtain⟨p',w',told',next',x1,x2,x3,x4⟩:=Ov (m:=m) 1 (.inr rfl) hs1 hs2 ⟨d0',d1',lk,s0',s1',e0',e1',lw,t0',t1',busy,won,seq,cut,want,wt,ended,cur,rfl,rfl,k0',k1',kl,m0',m1',hw,hsite,hz,hss⟩ hR zm hb;refine⟨eF,false,p',w',site,fr,next',told',l7 (s19f _ hf m _ _ _ _ _ _ _ _ _ _ _ _ rfl c1 f1 x1),l7 (s21f hf m _ _ _ _ _ _ _ _ _ _ _ _ _ _ _ _ _ _ _ _ c2 f2 x2),x3,?_⟩;rcases x4 with⟨rfl,rfl⟩|⟨-,y1,y2,y3⟩
  ·exact .inl ⟨rfl,rfl,rfl,rfl⟩
  ·exact .inr (.inl ⟨1,.inr rfl,fun h=>(by cases h),hR,y1,rfl,rfl,y2,y3⟩)
 rw[show iter _ (n+2) _=_ from DU (s19b _ hf m _ _ _ _ _ _ _ _ _ _ _ _ rfl c1 f1),show iter _ (n+2) _=_ from DU (s21b hf m _ _ _ _ _ _ _ _ _ _ _ _ _ _ _ _ _ _ _ _ c2 f2)];rcases zQ (hf:=hf) (by omega) hn1 kl hB zm with⟨lk',lw',g1,g2,kl'⟩|⟨-,hR,lk',lw',g1,g2,kl'⟩
 ·exact⟨eF,false,_,_,site,fr,next,told,l7 (s19g _ hf m _ _ _ _ _ _ _ _ _ _ _ rfl g1),l7 (s21g hf m _ _ _ _ _ _ _ _ _ _ _ _ _ _ _ _ _ _ _ g2),⟨d0',d1',lk',s0',s1',e0',e1',lw',t0',t1',busy,won,seq,cut,want,wt,ended,cur,rfl,rfl,k0',k1',kl',m0',m1',hw,hsite,hz,hss⟩,.inl ⟨rfl,rfl,rfl,rfl⟩⟩
 ·obtain⟨p',w',site',fr',next',x1,x2,x3,x4⟩:=zaa m.2.2.2.2.2.2.2.2.2.2.2.2.2.2.2.2.1 ⟨d0',d1',lk',s0',s1',e0',e1',lw',t0',t1',busy,won,seq,cut,want,wt,ended,cur,rfl,rfl,k0',k1',kl',m0',m1',hw,hsite,hz,hss⟩;refine⟨eF,false,p',w',site',fr',next',told,l7 (s19h _ hf m _ _ _ _ _ _ _ _ _ _ _ rfl g1 x1),l7 (s21h hf m _ _ _ _ _ _ _ _ _ _ _ _ _ _ _ _ _ _ _ g2 x2),x3,?_⟩;rcases x4 with⟨rfl,rfl,rfl⟩|⟨y1,y2,y3,y4,y5,y6⟩
  ·exact .inl ⟨rfl,rfl,rfl,rfl⟩
  ·exact .inr (.inr ⟨hR,y1,y2,y3,y4,rfl,y5,y6⟩)
end Go.Proofs.YtlegpimppfabgaaGreat
