/-
 Plain laws of what lies below,as this seat reaches them (by a program of the bench: port.py).
-/
import Derived.Test.YtpfjaaofpcbejaaGreatTalkLawA
import Derived.Test.YtpfjaaofpcbejaaGreatSxS
namespace Go.Proofs.YtpfjaaofpcbejaaGreat
open Go.Sx Go Classical
set_option maxRecDepth 10000
def zeQ (m:TMD):TMD:=
 if m.1=1 then (m.1,0,m.2.2.1,zef,0,[],[],0,0,0,0,zbH,[],[],false,zbq,zbM,())
 else if m.1=2 then (m.1,m.2.1,zd2,m.2.2.2.1,0,[],[],0,0,0,0,zbH,[],[],false,zbq,zbM,())
 else if m.1=3 then (m.1,m.2.1,zd2,zef,m.2.2.2.2.1,m.2.2.2.2.2.1,m.2.2.2.2.2.2.1,m.2.2.2.2.2.2.2.1,m.2.2.2.2.2.2.2.2.1,0,0,zbH,[],[],false,zbq,zbM,())
 else if m.1=4 then (m.1,m.2.1,zd2,zef,m.2.2.2.2.1,m.2.2.2.2.2.1,m.2.2.2.2.2.2.1,m.2.2.2.2.2.2.2.1,0,0,0,zbH,[],[],false,zbq,zbM,())
 else if m.1=5 then (m.1,m.2.1,zd2,zef,0,m.2.2.2.2.2.1,m.2.2.2.2.2.2.1,m.2.2.2.2.2.2.2.1,0,0,0,zbH,[],[],false,zbq,zbM,())
 else if m.1=6 then (m.1,m.2.1,zd2,zef,0,[],[],m.2.2.2.2.2.2.2.1,0,0,0,zbH,[],[],false,zbq,zbM,())
 else if m.1=7 then (m.1,m.2.1,zd2,zef,0,[],[],0,0,0,0,zbH,[],[],false,zbq,zbM,())
 else if m.1=8 then (m.1,m.2.1,zd2,zef,0,[],[],0,0,m.2.2.2.2.2.2.2.2.2.1,m.2.2.2.2.2.2.2.2.2.2.1,m.2.2.2.2.2.2.2.2.2.2.2.1,[],[],false,zbq,zbM,())
 else if m.1=9 then (m.1,m.2.1,zd2,zef,0,[],[],m.2.2.2.2.2.2.2.1,0,m.2.2.2.2.2.2.2.2.2.1,0,zbH,m.2.2.2.2.2.2.2.2.2.2.2.2.1,[],false,zbq,zbM,())
 else if m.1=10 then (m.1,m.2.1,zd2,zef,0,[],[],0,0,m.2.2.2.2.2.2.2.2.2.1,0,zbH,[],m.2.2.2.2.2.2.2.2.2.2.2.2.2.1,m.2.2.2.2.2.2.2.2.2.2.2.2.2.2.1,zbq,zbM,())
 else if m.1=11 then (m.1,m.2.1,zd2,zef,0,[],[],0,0,m.2.2.2.2.2.2.2.2.2.1,0,zbH,[],[],false,m.2.2.2.2.2.2.2.2.2.2.2.2.2.2.2.1,zbM,())
 else (m.1,m.2.1,zd2,zef,0,[],[],m.2.2.2.2.2.2.2.1,0,0,0,zbH,[],[],false,zbq,m.2.2.2.2.2.2.2.2.2.2.2.2.2.2.2.2.1,())
theorem zet {k:Int} (h1:1≤k) (h2:k≤12):k=1∨k=2∨k=3∨k=4∨k=5∨k=6∨k=7∨k=8∨k=9∨k=10∨k=11∨k=12:=by omega
theorem ztu (m:TMD) (h:1≤m.1∧m.1≤12):F65 (m,())=some (zeQ m,()):=by
 obtain⟨k,r⟩:=m
 rcases zet h.1 h.2 with h | h | h | h | h | h | h | h | h | h | h | h <;> (dsimp only at h;subst h;rfl)
theorem ztQ (m:TMD) (h:1≤m.1∧m.1≤12):F78 (m,())=some (zeQ m,()):=by
 obtain⟨k,r⟩:=m
 rcases zet h.1 h.2 with h | h | h | h | h | h | h | h | h | h | h | h <;> (dsimp only at h;subst h;rfl)
theorem zdY {p:Prop} [Decidable p] {a b:TMD} (ha:ShT a) (hb:ShT b):ShT (if p then a else b):=by
 by_cases h:p
 ·rw [if_pos h];exact ha
 ·rw [if_neg h];exact hb
theorem zlI {m:TMD} (h:ShT m):ShT (zeQ m):=by
 have z:∀ {α:Type},Sh ([]:List α):=fun {_}=>by simp [Sh]
 have zB:ShB []:=⟨z,fun b hb=>by simp at hb⟩
 have zH:ShH zbq:=⟨⟨z,fun b hb=>by simp at hb⟩,z⟩
 obtain⟨h1,h2,h3,h4,h5,h6⟩:=h
 unfold zeQ
 exact zdY ⟨h1,shNo,z,zB,z,zH⟩ (zdY ⟨z,h2,z,zB,z,zH⟩ (zdY ⟨z,shNo,z,zB,z,zH⟩ (zdY ⟨z,shNo,z,zB,z,zH⟩ (zdY ⟨z,shNo,z,zB,z,zH⟩ (zdY ⟨z,shNo,z,zB,z,zH⟩ (zdY ⟨z,shNo,z,zB,z,zH⟩ (zdY ⟨z,shNo,h3,zB,z,zH⟩ (zdY ⟨z,shNo,z,h4,z,zH⟩ (zdY ⟨z,shNo,z,zB,h5,zH⟩ (zdY ⟨z,shNo,z,zB,z,h6⟩ ⟨z,shNo,z,zB,z,zH⟩))))))))))
def zdG (l:List T70D) (m:Int):Prop:=(l.length:Int)≤m∧∀ x∈l,zci x
theorem zlj (x:T70D):F150 (x,())=some (!dec' (zci x),()):=by
 obtain⟨k,v,⟨⟩⟩:=x
 have hv:F151 ([v],())=some (decide (zg7 [v]),()):=zjE [v] (by simp)
 have hi:zg7 [v]↔zck v:=by unfold zg7;simp
 unfold F150
 simp only [zdd,hv,Option.bind_some]
 unfold zci
 by_cases h1:IsKey k
 ·by_cases h2:zck v
  ·rw [decide_eq_true h1,decide_eq_true (hi.2 h2),show dec' (IsKey k∧zck v)=true from zaN ⟨h1,h2⟩];rfl
  ·rw [decide_eq_true h1,decide_eq_false (fun h=>h2 (hi.1 h)),show dec' (IsKey k∧zck v)=false from zaE (fun h=>h2 h.2)];rfl
 ·rw [decide_eq_false h1,show dec' (IsKey k∧zck v)=false from zaE (fun h=>h1 h.1)];rfl
theorem zj4 (l:List T70D) (hl:Sh l):zq4 (l,())=some (!dec' (∀ c∈l,zci c),()):=by
 unfold zq4 zt7
 obtain⟨r,h1,h2⟩:=ze3 l hl (step:=fun (x_1:Int×Unit)=>bif decide (x_1.fst < Int.ofNat (List.length l)) then Option.bind (idx l x_1.fst) fun b=>Option.bind (F150 (b,())) fun b=>bif b.fst then some (Sum.inr x_1) else some (Sum.inl (wrap64 (x_1.fst+1),())) else some (Sum.inr (-1,()))) zci
  (fun i v hi hv hq=>by
   have hi':i < 9223372036854775807:=by unfold Sh at hl;omega
   simp only [zao,hi,decide_true,cond_true,zan,hv,Option.bind_some,zlj,zaN hq,Bool.not_true,cond_false,zak hi'])
  (fun i v hi hv hq=>by simp only [zao,hi,decide_true,cond_true,zan,hv,Option.bind_some,zlj,zaE hq,Bool.not_false]) (by simp)
 refine zar h1 ?_
 simp only [h2]
theorem ziQ (l:List T70D) (m:Int) (hl:Sh l):F106 (l,m,())=some (dec' (zdG l m),()):=by
 unfold F106
 simp only [zj4 l hl,Option.bind_some,Bool.not_not]
 apply fin
 ·repeat' first | apply zaw | apply zam | apply zaB | apply zav
 ·unfold zdG;simp only [Int.ofNat_eq_natCast];grind
theorem zhD (l:List T70D) (m:Int) (hz:zbi l):F85 (l,m,())=some (dec' (zdG l m),()):=by
 obtain⟨hl,hs⟩:=hz
 unfold F85
 refine fin (zbu l hl (fun _ x=>zci x) ((l.length:Int)≤m) (fun i v hi hv=> ?_) ?_) ?_
 ·have hi':i < 9223372036854775807:=by unfold Sh at hl;omega
  have hk:=hs v (List.mem_of_getElem? hv)
  obtain⟨k,w,⟨⟩⟩:=v
  simp only [zao,hi,decide_true,cond_true,zan,hv,Option.bind_some,zbe k hk,zic,zak hi']
  apply finS
  ·repeat' first | apply za0 | apply zaQ | apply zba | apply za1 | apply za2
  ·unfold zci;grind
 ·simp only [zao,Nat.lt_irrefl,decide_false,cond_false]
  exact congrArg (fun z=>some (Sum.inr (z,()))) (zbt (p:=(l.length:Int)≤m) (q:=Int.ofNat l.length≤m) Iff.rfl).symm
 ·unfold zdG;rw [zkC (p:=zci)];exact And.comm
theorem ze9 (n a b:Int):F67 (n,a,b,())=some (dec' (a≤n∧n≤b),()):=zbv n a b
theorem zeq (n a b:Int):F80 (n,a,b,())=some (dec' (a≤n∧n≤b),()):=zbv n a b
def zdi (l:List TBD):Prop:=(∀ (i:Nat) v,l[i]? = some v→za7 v.1∧zdG v.2.1 48∧∀ w,0 < i→l[i - 1]? = some w→w.1 < v.1)∧l.length≤64
theorem zkh (l:List TBD) (hs:ShB l):F105 (l,())=some (dec' (zdi l),()):=by
 obtain⟨hl,hs⟩:=hs
 unfold F105
 refine fin (zbu l hl (fun i v=>za7 v.1∧zdG v.2.1 48∧∀ w,0 < i→l[i - 1]? = some w→w.1 < v.1) (l.length≤64) (fun i v hi hv=> ?_) ?_) ?_
 ·have hi':i < 9223372036854775807:=by unfold Sh at hl;omega
  have hr:F106 (v.2.1,48,())=_:=ziQ v.2.1 48 (hs v (List.mem_of_getElem? hv))
  rcases Nat.eq_zero_or_pos i with h0 | h0
  ·have e0:decide ((0:Int) < (i:Int))=false:=decide_eq_false (by omega)
   have hp:(∀ w,0 < i→l[i - 1]? = some w→w.1 < v.1)=True:=propext (zbK (l:=l) h0 (fun w=>w.1 < v.1))
   simp only [hp]
   simp only [zao,hi,decide_true,cond_true,zan,hv,Option.bind_some,zak hi',e0,cond_false,ze9,hr]
   apply finS
   ·repeat' first | apply za0 | apply zaQ | apply zba | apply za1 | apply za2
   ·unfold za7;grind
  ·obtain⟨u,hu⟩:∃ u,l[i - 1]? = some u:=⟨_,List.getElem?_eq_getElem (show i - 1 < l.length by omega)⟩
   have e0:decide ((0:Int) < (i:Int))=true:=decide_eq_true (by omega)
   have hp:(∀ w,0 < i→l[i - 1]? = some w→w.1 < v.1)=(u.1 < v.1):=propext (zcf h0 hu (fun w=>w.1 < v.1))
   simp only [hp]
   simp only [zao,hi,decide_true,cond_true,zan,hv,Option.bind_some,zak hi',e0,zc0 h0 hi',hu,ze9,hr]
   apply finS
   ·repeat' first | apply za0 | apply zaQ | apply zba | apply za1 | apply za2
   ·unfold za7;grind
 ·simp only [zao,Nat.lt_irrefl,decide_false,cond_false]
  exact congrArg (fun z=>some (Sum.inr (z,()))) (zbt (p:=l.length≤64) (q:=Int.ofNat l.length≤64) (by simp only [Int.ofNat_eq_natCast];omega)).symm
 ·unfold zdi;exact Iff.rfl
theorem zjd (l:List TBD) (hl:Sh l) (hs:∀ b∈l,zbi b.2.1):F84 (l,())=some (dec' (zdi l),()):=by
 unfold F84
 refine fin (zbu l hl (fun i v=>za7 v.1∧zdG v.2.1 48∧∀ w,0 < i→l[i - 1]? = some w→w.1 < v.1) (l.length≤64) (fun i v hi hv=> ?_) ?_) ?_
 ·have hi':i < 9223372036854775807:=by unfold Sh at hl;omega
  have hr:F85 (v.2.1,48,())=_:=zhD v.2.1 48 (hs v (List.mem_of_getElem? hv))
  rcases Nat.eq_zero_or_pos i with h0 | h0
  ·have e0:decide ((0:Int) < (i:Int))=false:=decide_eq_false (by omega)
   have hp:(∀ w,0 < i→l[i - 1]? = some w→w.1 < v.1)=True:=propext (zbK (l:=l) h0 (fun w=>w.1 < v.1))
   simp only [hp]
   simp only [zao,hi,decide_true,cond_true,zan,hv,Option.bind_some,zak hi',e0,cond_false,zeq,hr]
   apply finS
   ·repeat' first | apply za0 | apply zaQ | apply zba | apply za1 | apply za2
   ·unfold za7;grind
  ·obtain⟨u,hu⟩:∃ u,l[i - 1]? = some u:=⟨_,List.getElem?_eq_getElem (show i - 1 < l.length by omega)⟩
   have e0:decide ((0:Int) < (i:Int))=true:=decide_eq_true (by omega)
   have hp:(∀ w,0 < i→l[i - 1]? = some w→w.1 < v.1)=(u.1 < v.1):=propext (zcf h0 hu (fun w=>w.1 < v.1))
   simp only [hp]
   simp only [zao,hi,decide_true,cond_true,zan,hv,Option.bind_some,zak hi',e0,zc0 h0 hi',hu,zeq,hr]
   apply finS
   ·repeat' first | apply za0 | apply zaQ | apply zba | apply za1 | apply za2
   ·unfold za7;grind
 ·simp only [zao,Nat.lt_irrefl,decide_false,cond_false]
  exact congrArg (fun z=>some (Sum.inr (z,()))) (zbt (p:=l.length≤64) (q:=Int.ofNat l.length≤64) (by simp only [Int.ofNat_eq_natCast];omega)).symm
 ·unfold zdi;exact Iff.rfl
theorem zpJ (h:T55D):F107 (h,())=some (dec' (h=zbq),()):=by
 obtain⟨a1,a2,a3,a4,⟨⟩⟩:=h
 unfold F107
 apply fin
 ·repeat' first | apply zaw | apply zam | apply zaB | apply zav
 ·simp only [Prod.mk.injEq,Int.ofNat_eq_natCast]
  constructor
  ·intro h;refine⟨?_,?_,?_,?_,trivial⟩ <;> (have h3:∀ {α:Type} (l:List α),(l.length:Int)=0→l=[]:=fun l hl=>List.length_eq_zero_iff.1 (by omega)) <;> grind
  ·rintro ⟨rfl,rfl,rfl,rfl,-⟩;simp
theorem zsV (h:T55D) (hs:ShH h):F86 (h,())=some (dec' (h=zbq),()):=by
 unfold F86
 exact zar (zhG h zbq hs) rfl
end Go.Proofs.YtpfjaaofpcbejaaGreat
