/-
 Plain laws of what lies below,as this seat reaches them (by a program of the bench: port.py).
-/
import Derived.Test.YteebpcpkhojfkaaGreatCodecUse
import Derived.Test.YteebpcpkhojfkaaGreatSxS
namespace Go.Proofs.YteebpcpkhojfkaaGreat
open Go.Sx Go Classical
set_option maxRecDepth 10000
abbrev gW:Type:=Int×Int×Int×Int×List UInt8×Int×Bool×Unit
def dU (v:gW):Prop:=
 1≤v.1∧v.1≤1099511627776∧1≤v.2.2.1∧v.2.2.1≤1099511627776∧
 (if v.2.2.2.2.2.2.1=true then v.2.1=0∧v.2.2.2.1=0∧v.2.2.2.2.2.1=0∧v.2.2.2.2.1=[]
  else 1≤v.2.1∧v.2.1≤v.2.2.1∧1≤v.2.2.2.1∧v.2.2.2.1≤1099511627776∧v.2.2.2.2.1.length≤40∧ -1099511627776≤v.2.2.2.2.2.1∧v.2.2.2.2.2.1≤1099511627776)
def Lt (u v:gW):Prop:=u.1<v.1∧u.2.2.1<v.2.2.1
def uX (l:List gW):Prop:=(∀ v∈l,dU v)∧l.Pairwise Lt
theorem zaH (n:Int):yG (n,())=some (decide (1≤n∧n≤1099511627776),()):=by
 unfold yG;by_cases h:1≤n<;>simp[h]
theorem zdD (v:gW):Gt (v,())=some (decide (dU v),()):=by
 obtain⟨a,b,c,d,e,f,g,u⟩:=v;unfold Gt dU;simp only[zaH,Option.bind_some];by_cases h1:1≤a∧a≤1099511627776
 ·by_cases h2:1≤c∧c≤1099511627776
  ·cases g with
   | true=>by_cases h3:b=0<;>by_cases h4:d=0<;>by_cases h5:f=0<;>simp[h1,h2,h3,h4,h5]
   | false=>by_cases h3:1≤b<;>by_cases h4:b≤c<;>by_cases h5:1≤d∧d≤1099511627776<;>by_cases h6:(e.length:Int)≤40<;>by_cases h7 : -1099511627776≤f<;>simp[h1,h2,h3,h4,h5,h6,h7]<;>omega
  ·have:¬ (1≤c∧c≤1099511627776):=h2;simp[h1,h2];omega
 ·simp[h1];omega
theorem xu (v:gW):jI (v,())=some (decide (dU v),()):=by
 obtain⟨a,b,c,d,e,f,g,u⟩:=v;unfold jI dU;by_cases h1:a<1
 ·simp[h1];omega
 ·by_cases h2:1099511627776<a
  ·simp[h1,h2];omega
  ·by_cases h3:c<1
   ·simp[h1,h2,h3];omega
   ·by_cases h4:1099511627776<c
    ·simp[h1,h2,h3,h4];omega
    ·have a1:1≤a:=by omega
     have a2:a≤1099511627776:=by omega
     have a3:1≤c:=by omega
     have a4:c≤1099511627776:=by omega
     cases g with
     | true=>by_cases h5:b=0<;>by_cases h6:d=0<;>by_cases h7:f=0<;>simp[h1,h2,h3,h4,h5,h6,h7,a1,a2,a3,a4]
     | false=>by_cases h5:1≤b<;>by_cases h6:b≤c<;>by_cases h7:1≤d<;>by_cases h8:d≤1099511627776<;>by_cases h9:(e.length:Int)≤40<;>by_cases h10 : -1099511627776≤f<;>simp[h1,h2,h3,h4,h5,h6,h7,h8,h9,h10,a1,a2,a3,a4]<;>omega
noncomputable def nY (l:List gW) (i:Nat):Bool:=decide (∀ v,l[i]? = some v→dU v∧(0<i→∀ u,l[i-1]? = some u→Lt u v))
theorem zcp (l:List gW):(List.range l.length).all (nY l)=decide (uX l):=by
 rw[Bool.eq_iff_iff,List.all_eq_true,decide_eq_true_eq];simp only[nY,decide_eq_true_eq,List.mem_range];constructor
 ·intro h;refine⟨fun v hv=> ?_,?_⟩
  ·obtain⟨i,hi,rfl⟩:=List.getElem_of_mem hv;exact(h i hi _ (List.getElem?_eq_getElem hi)).1
  ·have adj:∀ i,i+1<l.length→∀ u v,l[i]? = some u→l[i+1]? = some v→Lt u v:=fun i hi u v hu hv=>(h (i+1) hi v hv).2 (by omega) u (by simpa using hu);have tr:∀ d i u v,l[i]? = some u→l[i+1+d]? = some v→Lt u v:=by
    intro d;induction d with
    | zero=>intro i u v hu hv;exact adj i (List.getElem?_eq_some_iff.1 hv).1 u v hu hv
    | succ d ih=>intro i u v hu hv;have hlt:=(List.getElem?_eq_some_iff.1 hv).1;have hm:=List.getElem?_eq_getElem (l:=l) (i:=i+1+d) (by omega);have h1:=ih i u _ hu hm;have h2:=adj (i+1+d) (by omega) _ v hm (by rwa[show i+1+(d+1)=i+1+d+1 from by omega] at hv);exact⟨Int.lt_trans h1.1 h2.1,Int.lt_trans h1.2 h2.2⟩
   rw[List.pairwise_iff_getElem];intro i j hi hj hij;exact tr (j-i-1) i _ _ (List.getElem?_eq_getElem hi) (by rw[show i+1+(j-i-1)=j from by omega];exact List.getElem?_eq_getElem hj)
 ·rintro⟨h1,h2⟩ i hi v hv;refine⟨h1 v (List.mem_of_getElem? hv),fun h0 u hu=> ?_⟩;rw[List.pairwise_iff_getElem] at h2;have hu':=List.getElem?_eq_some_iff.1 hu;have hv':=List.getElem?_eq_some_iff.1 hv;have:=h2 (i-1) i hu'.1 hv'.1 (by omega);rwa[hu'.2,hv'.2] at this
theorem RF (l:List gW) (hl:l.length≤9223372036854775807):yI (l,())=some (decide (uX l),()):=by
 unfold yI;refine(rV (mk:=fun i=>((i:Int),())) (nY l) (rt:=(true,())) (rf:=(false,())) hl (fun i hi=> ?_) ?_).trans ?_
 rotate_left 2
 ·rw[zcp];cases decide (uX l)<;>rfl
 ·simp only[aB,hi,decide_true,cond_true,aP,List.getElem?_eq_getElem hi,Option.bind_some,zdD];by_cases h1:dU l[i]
  ·simp only[h1,decide_true,Bool.not_true,cond_false];cases i with
   | zero=>
    have:nY l 0=true:=by simp[nY,List.getElem?_eq_getElem hi,h1]
    simp[this];rfl
   | succ i=>
    have e1:wrap64 (((i+1:Nat):Int)-1)=(i:Int):=by rw[iZ (by omega) (by omega)];omega
    have e2:(0:Int)<((i+1:Nat):Int):=by omega
    have hi':i<l.length:=by omega
    simp only[e1,e2,decide_true,cond_true,aP,List.getElem?_eq_getElem hi',Option.bind_some,aT (show i+1<9223372036854775807 by omega)];by_cases h2:Lt l[i] l[i+1]
    ·have:nY l (i+1)=true:=by simp[nY,List.getElem?_eq_getElem hi,List.getElem?_eq_getElem hi',h1,h2]
     have h2a:¬ l[i+1].1≤l[i].1:=by have:=h2.1;omega
     have h2b:¬ l[i+1].2.2.1≤l[i].2.2.1:=by have:=h2.2;omega
     simp[this,h2a,h2b]
    ·have:nY l (i+1)=false:=by simp[nY,List.getElem?_eq_getElem hi,List.getElem?_eq_getElem hi',h1,h2]
     by_cases h3:l[i+1].1≤l[i].1
     ·simp[this,h3]
     ·by_cases h4:l[i+1].2.2.1≤l[i].2.2.1
      ·simp[this,h3,h4]
      ·exact absurd ⟨by omega,by omega⟩ h2
  ·have:nY l i=false:=by simp[nY,List.getElem?_eq_getElem hi,h1]
   simp[h1,this]
 ·simp
def Xr {α:Type} (l:List α):Prop:=l.length≤1000000
theorem Xr.lt {α:Type} {l:List α} (h:Xr l):l.length≤9223372036854775807:=by unfold Xr at h;omega
def Txt (m:UInt8) (s:List UInt8):Prop:=1≤s.length∧s.length≤32∧∀ c∈s,33≤c.toNat∧c.toNat≤m.toNat
def IsKey (s:List UInt8):Prop:=Txt 126 s
def lH (a b:List UInt8):Prop:=IsKey a∧(b=[]∨(Txt 127 b∧aY a b=true))
def ui (m:UInt8) (s:List UInt8) (i:Nat):Bool:=
 match s[i]? with
 | some c=>decide (33≤c.toNat∧c.toNat≤m.toNat)
 | none=>true
theorem JI (m:UInt8) (s:List UInt8):(List.range s.length).all (ui m s)=decide (∀ c∈s,33≤c.toNat∧c.toNat≤m.toNat):=by
 rw[Bool.eq_iff_iff,List.all_eq_true,decide_eq_true_eq];constructor
 ·intro h c hc;obtain⟨i,hi,rfl⟩:=List.getElem_of_mem hc;have:=h i (List.mem_range.2 hi);unfold ui at this;rw[List.getElem?_eq_getElem hi] at this;simpa using this
 ·intro h i hi;have hi:=List.mem_range.1 hi;unfold ui;rw[List.getElem?_eq_getElem hi];simpa using h _ (List.getElem_mem hi)
theorem Qx (s:List UInt8) (m:UInt8):BN (s,m,())=some (decide (Txt m s),()):=by
 unfold BN Txt;by_cases h1:s.length<1
 ·have e:decide (Int.ofNat s.length<1)=true:=decide_eq_true (by simp;omega);have:¬ 1≤s.length:=by omega
  simp only[e,cond_true,this,false_and,decide_false]
 ·have e:decide (Int.ofNat s.length<1)=false:=decide_eq_false (by simp;omega);have h1':1≤s.length:=by omega
  by_cases h2:32<s.length
  ·have e2:decide ((32:Int)<Int.ofNat s.length)=true:=decide_eq_true (by simp;omega);have:¬ s.length≤32:=by omega
   simp only[e,e2,cond_true,cond_false,this,false_and,and_false,decide_false]
  ·have e2:decide ((32:Int)<Int.ofNat s.length)=false:=decide_eq_false (by simp;omega);have h2':s.length≤32:=by omega
   simp only[e,e2,cond_false,h1',h2',true_and];refine(rV (mk:=fun i=>((i:Int),())) (ui m s) (rt:=(true,())) (rf:=(false,())) (show s.length≤9223372036854775807 by omega) (fun i hi=> ?_) ?_).trans ?_
   ·simp only[aB,hi,decide_true,cond_true,aP,List.getElem?_eq_getElem hi,Option.bind_some,aT (show i<9223372036854775807 by omega),ui];by_cases h3:s[i].toNat<33
    ·have:¬ 33≤s[i].toNat:=by omega
     have h3':decide (ay s[i]<ay (UInt8.ofNat 33))=true:=decide_eq_true (by simp[ay];omega);simp only[h3',cond_true,this,false_and,decide_false,cond_false]
    ·have h3a:33≤s[i].toNat:=by omega
     have h3':decide (ay s[i]<ay (UInt8.ofNat 33))=false:=decide_eq_false (by simp[ay];omega);by_cases h4:m.toNat<s[i].toNat
     ·have:¬ s[i].toNat≤m.toNat:=by omega
      have h4':decide (ay m<ay s[i])=true:=decide_eq_true (by simp only[ay];omega);simp only[h3',h4',cond_true,cond_false,this,and_false,decide_false]
     ·have h4a:s[i].toNat≤m.toNat:=by omega
      have h4':decide (ay m<ay s[i])=false:=decide_eq_false (by simp only[ay];omega);simp only[h3',h4',cond_false,h3a,h4a,and_self,decide_true,cond_true]
   ·simp
   ·rw[JI];cases decide (∀ c∈s,33≤c.toNat∧c.toNat≤m.toNat)<;>rfl
theorem Qg (s:List UInt8) (m:UInt8) (hs:s.length≤140737488351232):CP (s,m,())=some (decide (Txt m s),()):=by
 unfold CP Txt;have hK:∀ {b:Bool},(bif decide ((1:Int)≤Int.ofNat s.length) then some (decide (Int.ofNat s.length≤(32:Int)),()) else some (false,()))=some (decide (1≤s.length∧s.length≤32),()):=by
  intro b;by_cases h1:1≤s.length
  ·have e:decide ((1:Int)≤Int.ofNat s.length)=true:=decide_eq_true (by simp;omega);have e2:decide (Int.ofNat s.length≤(32:Int))=decide (s.length≤32):=by rw[decide_eq_decide];simp;omega
   simp only[e,e2,cond_true,h1,true_and]
  ·have e:decide ((1:Int)≤Int.ofNat s.length)=false:=decide_eq_false (by simp;omega);simp only[e,cond_false,h1,false_and,decide_false]
 refine(rV (mk:=fun i=>((i:Int),())) (ui m s) (rt:=(decide (1≤s.length∧s.length≤32),())) (rf:=(false,())) (show s.length≤9223372036854775807 by omega) (fun i hi=> ?_) ?_).trans ?_
 ·simp only[aB,hi,decide_true,cond_true,aP,List.getElem?_eq_getElem hi,Option.bind_some,aT (show i<9223372036854775807 by omega),ui];by_cases h3:s[i].toNat<33
  ·have:¬ 33≤s[i].toNat:=by omega
   have h3':decide (ay s[i]<ay (UInt8.ofNat 33))=true:=decide_eq_true (by simp[ay];omega);simp only[h3',cond_true,this,false_and,decide_false,cond_false]
  ·have h3a:33≤s[i].toNat:=by omega
   have h3':decide (ay s[i]<ay (UInt8.ofNat 33))=false:=decide_eq_false (by simp[ay];omega);by_cases h4:m.toNat<s[i].toNat
   ·have:¬ s[i].toNat≤m.toNat:=by omega
    have h4':decide (ay m<ay s[i])=true:=decide_eq_true (by simp only[ay];omega);simp only[h3',h4',cond_true,cond_false,this,and_false,decide_false]
   ·have h4a:s[i].toNat≤m.toNat:=by omega
    have h4':decide (ay m<ay s[i])=false:=decide_eq_false (by simp only[ay];omega);simp only[h3',h4',cond_false,h3a,h4a,and_self,decide_true,cond_true]
 ·simp only[aB,Nat.lt_irrefl,decide_false,cond_false,@hK true];rfl
 ·cases hb:(List.range s.length).all (ui m s) with
  | true=>have h1:=of_decide_eq_true ((JI m s).symm.trans hb);simp only[cond_true];refine congrArg (fun b=>some (b,())) ?_;rw[Bool.eq_iff_iff];simp only[decide_eq_true_eq];exact⟨fun h=>⟨h.1,h.2,h1⟩,fun h=>⟨h.1,h.2.1⟩⟩
  | false=>have h1:=of_decide_eq_false ((JI m s).symm.trans hb);simp only[cond_false];refine congrArg (fun b=>some (b,())) ?_;rw[eq_comm,Bool.eq_false_iff];simp only[ne_eq,decide_eq_true_eq];exact fun h=>h1 h.2.2
theorem mO (s:List UInt8):iV (s,())=some (decide (IsKey s),()):=by
 unfold iV;exact aK (Qx s _) rfl
theorem jM (s:List UInt8) (hs:s.length≤140737488351232):F39 (s,())=some (decide (IsKey s),()):=by
 unfold F39;exact aK (Qg s _ hs) rfl
theorem DW (a b:List UInt8):rE (a,b,())=some (decide (lH a b),()):=by
 unfold rE lH;simp only[mO,Option.bind_some];by_cases h1:IsKey a
 ·by_cases h2:b=[]
  ·simp[h1,h2]
  ·simp only[h1,h2,decide_true,decide_false,cond_true,cond_false,false_or,true_and];refine aK (Qx b _) ?_;simp only[SB];by_cases h3:Txt (UInt8.ofNat 127) b
   ·have h3':Txt 127 b:=h3;cases h4:aY a b<;>simp[h3']
   ·have h3':¬ Txt 127 b:=h3;simp[h3']
 ·simp[h1]
theorem CZ (a b:List UInt8) (ha:a.length≤140737488351232) (hb:b.length≤140737488351232):F37 (a,b,())=some (decide (lH a b),()):=by
 unfold F37 lH;simp only[jM a ha,Option.bind_some];by_cases h1:IsKey a
 ·by_cases h2:b=[]
  ·simp[h1,h2]
  ·have e:decide (Int.ofNat b.length=0)=false:=decide_eq_false (by simp[h2]);simp only[h1,h2,e,decide_true,cond_true,cond_false,false_or,true_and];refine aK (Qg b _ hb) ?_;by_cases h3:Txt (UInt8.ofNat 127) b
   ·have h3':Txt 127 b:=h3;cases h4:aY a b<;>simp[h3']
   ·have h3':¬ Txt 127 b:=h3;simp[h3']
 ·simp[h1]
theorem IsKey.len {s:List UInt8} (h:IsKey s):s.length≤32:=h.2.1
end Go.Proofs.YteebpcpkhojfkaaGreat
