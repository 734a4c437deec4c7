/-
 Plain laws of what lies below,as this seat reaches them (by a program of the bench: port.py).
-/
import Derived.Test.YtpfjaaofpcbejaaGreatCmdLawC
import Derived.Test.YtpfjaaofpcbejaaGreatSxS
namespace Go.Proofs.YtpfjaaofpcbejaaGreat
open Go.Sx Go Classical
set_option maxRecDepth 10000
theorem zc0 {i:Nat} (h0:0 < i) (h:i < 9223372036854775807):wrap64 ((i:Int) - 1)=((i - 1:Nat):Int):=by
 rw [zaM (by omega) (by omega)];omega
theorem zcf {α:Type} {l:List α} {i:Nat} {u:α} (h0:0 < i) (hu:l[i - 1]? = some u) (p:α→Prop):(∀ w,0 < i→l[i - 1]? = some w→p w)↔p u:=
 ⟨fun h=>h u h0 hu,fun h w _ hw=>by rw [hu] at hw;cases hw;exact h⟩
theorem zbK {α:Type} {l:List α} {i:Nat} (h0:i=0) (p:α→Prop):(∀ w,0 < i→l[i - 1]? = some w→p w)↔True:=⟨fun _=>trivial,fun _ w h=>by omega⟩
def zci (x:T70D):Prop:=IsKey x.1∧zck x.2.1
def zcI (r:T51D):Prop:=0≤r.1∧r.1≤15∧zbz r.2.1∧zbz r.2.2.2.1∧zbz r.2.2.2.2.2.2.1∧0≤r.2.2.2.2.2.1∧r.2.2.2.2.2.1≤1∧r.2.2.2.2.1.length≤8∧∀ x∈r.2.2.2.2.1,zci x
theorem zjb (x:T70D):F148 (x,())=some (!dec' (zci x),()):=by
 obtain⟨k,v,⟨⟩⟩:=x
 have hv:F149 (v,())=_:=ver1 v
 unfold F148
 simp only [zdd,hv,Option.bind_some]
 unfold zci
 by_cases h1:IsKey k
 ·by_cases h2:zck v
  ·rw [decide_eq_true h1,zaN h2,show dec' (IsKey k∧zck v)=true from zaN ⟨h1,h2⟩];rfl
  ·rw [decide_eq_true h1,zaE h2,show dec' (IsKey k∧zck v)=false from zaE (fun h=>h2 h.2)];rfl
 ·rw [decide_eq_false h1,show dec' (IsKey k∧zck v)=false from zaE (fun h=>h1 h.1)];rfl
theorem zk5 (l:List T70D) (hl:Sh l):zq5 (l,())=some (!dec' (∀ c∈l,zci c),()):=by
 unfold zq5 zt8
 obtain⟨r,h1,h2⟩:=ze3 l hl (step:=fun (x_1:Int×Unit)=>bif decide (x_1.fst < Int.ofNat (List.length l)) then Option.bind (idx l x_1.fst) fun b=>Option.bind (F148 (b,())) fun b=>bif b.fst then some (Sum.inr x_1) else some (Sum.inl (wrap64 (x_1.fst+1),())) else some (Sum.inr (-1,()))) zci
  (fun i v hi hv hq=>by
   have hi':i < 9223372036854775807:=by unfold Sh at hl;omega
   simp only [zao,hi,decide_true,cond_true,zan,hv,Option.bind_some,zjb,zaN hq,Bool.not_true,cond_false,zak hi'])
  (fun i v hi hv hq=>by simp only [zao,hi,decide_true,cond_true,zan,hv,Option.bind_some,zjb,zaE hq,Bool.not_false]) (by simp)
 refine zar h1 ?_
 simp only [h2]
theorem zlq (r:T51D) (hr:Sh r.2.2.2.2.1):F104 (r,())=some (dec' (zcI r),()):=by
 obtain⟨a1,a2,a3,a4,a5,a6,a7,⟨⟩⟩:=r
 unfold F104
 simp only [nat3,zk5 a5 hr,Option.bind_some,Bool.not_not]
 apply fin
 ·repeat' first | apply zaw | apply zam | apply zaB | apply zav | apply zaG
 ·unfold zcI;simp only [Int.ofNat_eq_natCast];grind
def ziJ (r:T51D):Prop:=Sh r.2.2.2.2.1∧∀ x∈r.2.2.2.2.1,St x.1
theorem zje (r:T51D) (hr:ziJ r):F83 (r,())=some (dec' (zcI r),()):=by
 obtain⟨a1,a2,a3,a4,a5,a6,a7,⟨⟩⟩:=r
 obtain⟨hl,hs⟩:=hr
 unfold F83
 refine fin (zbu a5 hl (fun _ x=>zci x) (0≤a1∧a1≤15∧zbz a2∧zbz a4∧zbz a7∧0≤a6∧a6≤1∧a5.length≤8) (fun i v hi hv=> ?_) ?_) ?_
 ·have hi':i < 9223372036854775807:=by unfold Sh at hl;simp only at hl;omega
  have hk:=hs v (List.mem_of_getElem? hv)
  obtain⟨k,w,⟨⟩⟩:=v
  simp only [zao,hi,decide_true,cond_true,zan,hv,Option.bind_some,zbe k hk,zic,zak hi']
  apply finS
  ·repeat' first | apply za0 | apply zaQ | apply zba | apply za1 | apply za2
  ·unfold zci;grind
 ·simp only [zao,Nat.lt_irrefl,decide_false,cond_false,zbn,zcx,Option.bind_some]
  refine (congrArg (Option.map Sum.inr) (?_:_=some (dec' (0≤a1∧a1≤15∧zbz a2∧zbz a4∧zbz a7∧0≤a6∧a6≤1∧a5.length≤8),()))).trans rfl
  apply fin
  ·repeat' first | apply zaw | apply zam | apply zaB | apply zav | apply zaG
  ·simp only [Int.ofNat_eq_natCast];grind
 ·unfold zcI;rw [zkC (p:=zci)];grind
def ze4 (l:List T94D) (m:Int):Prop:=∀ (i:Nat) v,l[i]? = some v→1≤v.1∧v.1≤m∧za7 v.2.1∧zcI v.2.2.1∧∀ w,0 < i→l[i - 1]? = some w→w.1 < v.1
def zj9 (l:List T94D):Prop:=Sh l∧∀ s∈l,ziJ s.2.2.1
theorem zuQ (l:List T94D) (m:Int) (hs:ShS l):F180 (l,m,())=some (dec' (ze4 l m),()):=by
 obtain⟨hl,hs⟩:=hs
 unfold F180
 refine fin (zbu l hl (fun i v=>1≤v.1∧v.1≤m∧za7 v.2.1∧zcI v.2.2.1∧∀ w,0 < i→l[i - 1]? = some w→w.1 < v.1) True (fun i v hi hv=> ?_) ?_) ?_
 ·have hi':i < 9223372036854775807:=by unfold Sh at hl;omega
  have hr:F104 (v.2.2.1,())=_:=zlq v.2.2.1 (hs v (List.mem_of_getElem? hv))
  rcases Nat.eq_zero_or_pos i with h0 | h0
  ·have e0:decide ((0:Int) < (i:Int))=false:=decide_eq_false (by omega)
   have e00:decide ((i:Int)=0)=true:=decide_eq_true (by omega)
   have hp:(∀ w,0 < i→l[i - 1]? = some w→w.1 < v.1)=True:=propext (zbK (l:=l) h0 (fun w=>w.1 < v.1))
   simp only [hp]
   simp only [zao,hi,decide_true,cond_true,zan,hv,Option.bind_some,zak hi',e0,cond_false,pos1,zbv,hr]
   apply finS
   ·repeat' first | apply za0 | apply zaQ | apply zba | apply za1 | apply za2
   ·grind
  ·obtain⟨u,hu⟩:∃ u,l[i - 1]? = some u:=⟨_,List.getElem?_eq_getElem (show i - 1 < l.length by omega)⟩
   have e0:decide ((0:Int) < (i:Int))=true:=decide_eq_true (by omega)
   have e00:decide ((i:Int)=0)=false:=decide_eq_false (by omega)
   have hp:(∀ w,0 < i→l[i - 1]? = some w→w.1 < v.1)=(u.1 < v.1):=propext (zcf h0 hu (fun w=>w.1 < v.1))
   simp only [hp]
   simp only [zao,hi,decide_true,cond_true,zan,hv,Option.bind_some,zak hi',e0,zc0 h0 hi',hu,pos1,zbv,hr]
   apply finS
   ·repeat' first | apply za0 | apply zaQ | apply zba | apply za1 | apply za2
   ·grind
 ·simp
 ·unfold ze4;exact and_iff_left trivial
theorem zlr (l:List T94D) (m:Int) (hs:zj9 l):F130 (l,m,())=some (dec' (ze4 l m),()):=by
 obtain⟨hl,hs⟩:=hs
 unfold F130
 refine fin (zbu l hl (fun i v=>1≤v.1∧v.1≤m∧za7 v.2.1∧zcI v.2.2.1∧∀ w,0 < i→l[i - 1]? = some w→w.1 < v.1) True (fun i v hi hv=> ?_) ?_) ?_
 ·have hi':i < 9223372036854775807:=by unfold Sh at hl;omega
  have hr:F83 (v.2.2.1,())=_:=zje v.2.2.1 (hs v (List.mem_of_getElem? hv))
  rcases Nat.eq_zero_or_pos i with h0 | h0
  ·have e0:decide ((0:Int) < (i:Int))=false:=decide_eq_false (by omega)
   have e00:decide ((i:Int)=0)=true:=decide_eq_true (by omega)
   have hp:(∀ w,0 < i→l[i - 1]? = some w→w.1 < v.1)=True:=propext (zbK (l:=l) h0 (fun w=>w.1 < v.1))
   simp only [hp]
   simp only [zao,hi,decide_true,cond_true,zan,hv,Option.bind_some,zak hi',e0,cond_false,zdT,zbn,hr]
   apply finS
   ·repeat' first | apply za0 | apply zaQ | apply zba | apply za1 | apply za2
   ·grind
  ·obtain⟨u,hu⟩:∃ u,l[i - 1]? = some u:=⟨_,List.getElem?_eq_getElem (show i - 1 < l.length by omega)⟩
   have e0:decide ((0:Int) < (i:Int))=true:=decide_eq_true (by omega)
   have e00:decide ((i:Int)=0)=false:=decide_eq_false (by omega)
   have hp:(∀ w,0 < i→l[i - 1]? = some w→w.1 < v.1)=(u.1 < v.1):=propext (zcf h0 hu (fun w=>w.1 < v.1))
   simp only [hp]
   simp only [zao,hi,decide_true,cond_true,zan,hv,Option.bind_some,zak hi',e0,zc0 h0 hi',hu,zdT,zbn,hr]
   apply finS
   ·repeat' first | apply za0 | apply zaQ | apply zba | apply za1 | apply za2
   ·grind
 ·simp
 ·unfold ze4;exact and_iff_left trivial
def zec (l:List zai):Prop:=(∀ (i:Nat) v,l[i]? = some v→za7 v.1∧1≤v.2.1∧v.2.1≤1000∧0≤v.2.2.1∧v.2.2.1≤1000∧∀ w,0 < i→l[i - 1]? = some w→w.1 < v.1)∧l.length≤64
theorem zpV (l:List zai) (hl:Sh l):F181 (l,())=some (dec' (zec l),()):=by
 unfold F181
 refine fin (zbu l hl (fun i v=>za7 v.1∧1≤v.2.1∧v.2.1≤1000∧0≤v.2.2.1∧v.2.2.1≤1000∧∀ w,0 < i→l[i - 1]? = some w→w.1 < v.1) (l.length≤64) (fun i v hi hv=> ?_) ?_) ?_
 ·have hi':i < 9223372036854775807:=by unfold Sh at hl;omega
  rcases Nat.eq_zero_or_pos i with h0 | h0
  ·have e0:decide ((0:Int) < (i:Int))=false:=decide_eq_false (by omega)
   have e00:decide ((i:Int)=0)=true:=decide_eq_true (by omega)
   have hp:(∀ w,0 < i→l[i - 1]? = some w→w.1 < v.1)=True:=propext (zbK (l:=l) h0 (fun w=>w.1 < v.1))
   simp only [hp]
   simp only [zao,hi,decide_true,cond_true,zan,hv,Option.bind_some,zak hi',e0,cond_false,pos1,zbv]
   apply finS
   ·repeat' first | apply za0 | apply zaQ | apply zba | apply za1 | apply za2
   ·grind
  ·obtain⟨u,hu⟩:∃ u,l[i - 1]? = some u:=⟨_,List.getElem?_eq_getElem (show i - 1 < l.length by omega)⟩
   have e0:decide ((0:Int) < (i:Int))=true:=decide_eq_true (by omega)
   have e00:decide ((i:Int)=0)=false:=decide_eq_false (by omega)
   have hp:(∀ w,0 < i→l[i - 1]? = some w→w.1 < v.1)=(u.1 < v.1):=propext (zcf h0 hu (fun w=>w.1 < v.1))
   simp only [hp]
   simp only [zao,hi,decide_true,cond_true,zan,hv,Option.bind_some,zak hi',e0,zc0 h0 hi',hu,pos1,zbv]
   apply finS
   ·repeat' first | apply za0 | apply zaQ | apply zba | apply za1 | apply za2
   ·grind
 ·simp only [zao,Nat.lt_irrefl,decide_false,cond_false]
  exact congrArg (fun z=>some (Sum.inr (z,()))) (zbt (by simp;omega)).symm
 ·exact Iff.rfl
theorem zhF (l:List zai) (hl:Sh l):F131 (l,())=some (dec' (zec l),()):=by
 unfold F131
 refine fin (zbu l hl (fun i v=>za7 v.1∧1≤v.2.1∧v.2.1≤1000∧0≤v.2.2.1∧v.2.2.1≤1000∧∀ w,0 < i→l[i - 1]? = some w→w.1 < v.1) (l.length≤64) (fun i v hi hv=> ?_) ?_) ?_
 ·have hi':i < 9223372036854775807:=by unfold Sh at hl;omega
  rcases Nat.eq_zero_or_pos i with h0 | h0
  ·have e0:decide ((0:Int) < (i:Int))=false:=decide_eq_false (by omega)
   have e00:decide ((i:Int)=0)=true:=decide_eq_true (by omega)
   have hp:(∀ w,0 < i→l[i - 1]? = some w→w.1 < v.1)=True:=propext (zbK (l:=l) h0 (fun w=>w.1 < v.1))
   simp only [hp]
   simp only [zao,hi,decide_true,cond_true,zan,hv,Option.bind_some,zak hi',e0,cond_false,zdT,zbn]
   apply finS
   ·repeat' first | apply za0 | apply zaQ | apply zba | apply za1 | apply za2
   ·grind
  ·obtain⟨u,hu⟩:∃ u,l[i - 1]? = some u:=⟨_,List.getElem?_eq_getElem (show i - 1 < l.length by omega)⟩
   have e0:decide ((0:Int) < (i:Int))=true:=decide_eq_true (by omega)
   have e00:decide ((i:Int)=0)=false:=decide_eq_false (by omega)
   have hp:(∀ w,0 < i→l[i - 1]? = some w→w.1 < v.1)=(u.1 < v.1):=propext (zcf h0 hu (fun w=>w.1 < v.1))
   simp only [hp]
   simp only [zao,hi,decide_true,cond_true,zan,hv,Option.bind_some,zak hi',e0,zc0 h0 hi',hu,zdT,zbn]
   apply finS
   ·repeat' first | apply za0 | apply zaQ | apply zba | apply za1 | apply za2
   ·grind
 ·simp only [zao,Nat.lt_irrefl,decide_false,cond_false]
  exact congrArg (fun z=>some (Sum.inr (z,()))) (zbt (by simp;omega)).symm
 ·exact Iff.rfl
def zt2 (l:List T70D):Prop:=∀ (i:Nat) v,l[i]? = some v→IsKey v.1∧zck v.2.1∧v.2.1.2.2.2.2.2.2.1=false∧∀ w,0 < i→l[i - 1]? = some w→zaY w.1 v.1=true
def zkb (c:T28D):Prop:=(c.2.1=[]∨IsKey c.2.1)∧(c.2.2.1=[]∨IsKey c.2.2.1)∧c.2.2.2.2.2.2.2.2.2.2.2.2.2.2.1.length≤8∧zt2 c.2.2.2.2.2.2.2.2.2.2.2.2.2.2.1
theorem zu6 (c:T28D) (hl:Sh c.2.2.2.2.2.2.2.2.2.2.2.2.2.2.1):F173 (c,())=some (dec' (zkb c),()):=by
 obtain⟨a1,k,en,a4,a5,a6,a7,a8,a9,a10,a11,a12,a13,a14,l,a16,a17,⟨⟩⟩:=c
 have hl:Sh l:=hl
 unfold F173
 simp only [zdd,Option.bind_some]
 generalize hL:zaT (Int×Unit) (Bool×Unit) _ big (0,())=L
 have eL:L=some (dec' (zt2 l),()):=by
  rw [←hL]
  refine fin (zbu l hl (fun i v=>IsKey v.1∧zck v.2.1∧v.2.1.2.2.2.2.2.2.1=false∧∀ w,0 < i→l[i - 1]? = some w→zaY w.1 v.1=true) True (fun i v hi hv=> ?_) ?_) ?_
  ·have hi':i < 9223372036854775807:=by unfold Sh at hl;omega
   have hr:F149 v.2=_:=ver1 v.2.1
   rcases Nat.eq_zero_or_pos i with h0 | h0
   ·have e0:decide ((0:Int) < (i:Int))=false:=decide_eq_false (by omega)
    have e00:decide ((i:Int)=0)=true:=decide_eq_true (by omega)
    have hp:(∀ w,0 < i→l[i - 1]? = some w→zaY w.1 v.1=true)=True:=propext (zbK (l:=l) h0 (fun w=>zaY w.1 v.1=true))
    simp only [hp]
    simp only [zao,hi,decide_true,cond_true,zan,hv,Option.bind_some,zak hi',e0,cond_false,hr]
    apply finS
    ·repeat' first | apply za0 | apply zaQ | apply zba | apply za1 | apply za2
    ·grind
   ·obtain⟨u,hu⟩:∃ u,l[i - 1]? = some u:=⟨_,List.getElem?_eq_getElem (show i - 1 < l.length by omega)⟩
    have e0:decide ((0:Int) < (i:Int))=true:=decide_eq_true (by omega)
    have e00:decide ((i:Int)=0)=false:=decide_eq_false (by omega)
    have hp:(∀ w,0 < i→l[i - 1]? = some w→zaY w.1 v.1=true)=(zaY u.1 v.1=true):=propext (zcf h0 hu (fun w=>zaY w.1 v.1=true))
    simp only [hp]
    simp only [zao,hi,decide_true,cond_true,zan,hv,Option.bind_some,zak hi',e0,zc0 h0 hi',hu,hr]
    apply finS
    ·repeat' first | apply za0 | apply zaQ | apply zba | apply za1 | apply za2
    ·grind
  ·simp
  ·unfold zt2;exact and_iff_left trivial
 rw [eL]
 unfold zkb
 have n1:decide ((8:Int) < Int.ofNat l.length) = !decide (l.length≤8):=by
  by_cases h:l.length≤8
  ·rw [decide_eq_true h];exact decide_eq_false (by simp;omega)
  ·rw [decide_eq_false h];exact decide_eq_true (by simp;omega)
 simp only [n1]
 by_cases h1:k=[] <;> by_cases h2:IsKey k <;> by_cases h3:en=[] <;> by_cases h4:IsKey en <;> by_cases h5:l.length≤8 <;> simp [h1,h2,h3,h4,h5]
def zt0 (rev to:Int) (l:List T70D):Prop:=∀ (i:Nat) v,l[i]? = some v→IsKey v.1∧zck v.2.1∧rev < v.2.1.1∧v.2.1.1≤to∧∀ w,0 < i→l[i - 1]? = some w→w.2.1.1≤v.2.1.1∧(w.2.1.1=v.2.1.1→zaY w.1 v.1=true)
def zj7 (c:T28D):Prop:=za7 c.2.2.2.2.2.2.1∧za7 c.2.2.2.2.2.2.2.2.2.2.2.2.1∧c.2.2.2.2.2.2.1 < c.2.2.2.2.2.2.2.2.2.2.2.2.1∧c.2.2.2.2.2.2.2.2.2.2.2.2.2.2.1.length≤64∧zt0 c.2.2.2.2.2.2.1 c.2.2.2.2.2.2.2.2.2.2.2.2.1 c.2.2.2.2.2.2.2.2.2.2.2.2.2.2.1
theorem zuK (c:T28D) (hl:Sh c.2.2.2.2.2.2.2.2.2.2.2.2.2.2.1):F174 (c,())=some (dec' (zj7 c),()):=by
 obtain⟨a1,k,en,a4,a5,a6,rev,a8,a9,a10,a11,a12,to,a14,l,a16,a17,⟨⟩⟩:=c
 have hl:Sh l:=hl
 unfold F174
 simp only [pos2,Option.bind_some]
 generalize hL:zaT (Int×Unit) (Bool×Unit) _ big (0,())=L
 have eL:L=some (dec' (zt0 rev to l),()):=by
  rw [←hL]
  refine fin (zbu l hl (fun i v=>IsKey v.1∧zck v.2.1∧rev < v.2.1.1∧v.2.1.1≤to∧∀ w,0 < i→l[i - 1]? = some w→w.2.1.1≤v.2.1.1∧(w.2.1.1=v.2.1.1→zaY w.1 v.1=true)) True (fun i v hi hv=> ?_) ?_) ?_
  ·have hi':i < 9223372036854775807:=by unfold Sh at hl;omega
   have hr:F149 v.2=_:=ver1 v.2.1
   rcases Nat.eq_zero_or_pos i with h0 | h0
   ·have e0:decide ((0:Int) < (i:Int))=false:=decide_eq_false (by omega)
    have e00:decide ((i:Int)=0)=true:=decide_eq_true (by omega)
    have hp:(∀ w,0 < i→l[i - 1]? = some w→w.2.1.1≤v.2.1.1∧(w.2.1.1=v.2.1.1→zaY w.1 v.1=true))=True:=propext (zbK (l:=l) h0 (fun w=>w.2.1.1≤v.2.1.1∧(w.2.1.1=v.2.1.1→zaY w.1 v.1=true)))
    simp only [hp]
    simp only [zao,hi,decide_true,cond_true,zan,hv,Option.bind_some,zak hi',e00,zdd,hr]
    apply finS
    ·repeat' first | apply za0 | apply zaQ | apply zba | apply za1 | apply za2
    ·grind
   ·obtain⟨u,hu⟩:∃ u,l[i - 1]? = some u:=⟨_,List.getElem?_eq_getElem (show i - 1 < l.length by omega)⟩
    have e0:decide ((0:Int) < (i:Int))=true:=decide_eq_true (by omega)
    have e00:decide ((i:Int)=0)=false:=decide_eq_false (by omega)
    have hp:(∀ w,0 < i→l[i - 1]? = some w→w.2.1.1≤v.2.1.1∧(w.2.1.1=v.2.1.1→zaY w.1 v.1=true))=(u.2.1.1≤v.2.1.1∧(u.2.1.1=v.2.1.1→zaY u.1 v.1=true)):=propext (zcf h0 hu (fun w=>w.2.1.1≤v.2.1.1∧(w.2.1.1=v.2.1.1→zaY w.1 v.1=true)))
    simp only [hp]
    simp only [zao,hi,decide_true,cond_true,zan,hv,Option.bind_some,zak hi',e00,cond_false,zc0 h0 hi',hu,zdd,hr]
    apply finS
    ·repeat' first | apply za0 | apply zaQ | apply zba | apply za1 | apply za2
    ·grind
  ·simp
  ·unfold zt0;exact and_iff_left trivial
 rw [eL]
 apply fin
 ·repeat' first | apply zaw | apply zam | apply zaB | apply zav | apply zaG
 ·unfold zj7;simp only [Int.ofNat_eq_natCast];grind
end Go.Proofs.YtpfjaaofpcbejaaGreat
