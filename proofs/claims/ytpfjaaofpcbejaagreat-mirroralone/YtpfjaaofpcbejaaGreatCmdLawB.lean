/-
 Plain laws of what lies below,as this seat reaches them (by a program of the bench: port.py).
-/
import Derived.Test.YtpfjaaofpcbejaaGreatCmdLawA
import Derived.Test.YtpfjaaofpcbejaaGreatSxS
namespace Go.Proofs.YtpfjaaofpcbejaaGreat
open Go.Sx Go Classical
set_option maxRecDepth 10000
noncomputable abbrev stR (i:Nat) (p:Prop):Option ((Int×Unit)⊕(Bool×Unit)):=some (bif dec' p then .inl (((i+1:Nat):Int),()) else .inr (false,()))
theorem za0 (i:Nat):(some (.inl (((i+1:Nat):Int),())):Option ((Int×Unit)⊕(Bool×Unit)))=stR i True:=by rw [stR,zaN trivial];rfl
theorem zaQ (i:Nat):(some (.inr (false,())):Option ((Int×Unit)⊕(Bool×Unit)))=stR i False:=by rw [stR,zaE id];rfl
theorem zdl {i:Nat} {p q:Prop} (h:p↔q):stR i p=stR i q:=by rw [propext h]
theorem finS {i:Nat} {X:Option ((Int×Unit)⊕(Bool×Unit))} {p q:Prop} (h:X=stR i p) (h2:p↔q):X=stR i q:=h.trans (zdl h2)
theorem zba {i:Nat} {p q r:Prop} {_:Decidable p} {X Y:Option ((Int×Unit)⊕(Bool×Unit))} (hx:X=stR i q) (hy:Y=stR i r):(bif decide p then X else Y)=stR i ((p→q)∧(¬ p→r)):=by
 by_cases hp:p
 ·rw [decide_eq_true hp,cond_true,hx];exact zdl (by grind)
 ·rw [decide_eq_false hp,cond_false,hy];exact zdl (by grind)
theorem za1 {i:Nat} {p q r:Prop} {_:Decidable p} {X Y:Option ((Int×Unit)⊕(Bool×Unit))} (hx:X=stR i q) (hy:Y=stR i r):(bif !decide p then X else Y)=stR i ((¬ p→q)∧(p→r)):=by
 by_cases hp:p
 ·rw [decide_eq_true hp,Bool.not_true,cond_false,hy];exact zdl (by grind)
 ·rw [decide_eq_false hp,Bool.not_false,cond_true,hx];exact zdl (by grind)
theorem za2 {i:Nat} {b:Bool} {q r:Prop} {X Y:Option ((Int×Unit)⊕(Bool×Unit))} (hx:X=stR i q) (hy:Y=stR i r):(bif b then X else Y)=stR i ((b=true→q)∧(b=false→r)):=by
 cases b
 ·rw [cond_false,hy];exact zdl (by grind)
 ·rw [cond_true,hx];exact zdl (by grind)
theorem zbu {α:Type} (l:List α) (hl:Sh l) {step:Int×Unit→Option ((Int×Unit)⊕(Bool×Unit))} (q:Nat→α→Prop) (rt:Prop)
  (h:∀ (i:Nat) v,i < l.length→l[i]? = some v→step ((i:Int),())=stR i (q i v)) (hK:step ((l.length:Int),())=some (.inr (dec' rt,()))) :
  zaT (Int×Unit) (Bool×Unit) step big (0,())=some (dec' ((∀ i v,l[i]? = some v→q i v)∧rt),()):=by
 have hl':l.length≤9223372036854775807:=by unfold Sh at hl;omega
 refine (zcR (mk:=fun i=>((i:Int),())) (fun i=>dec' (∀ v,l[i]? = some v→q i v)) (rt:=(dec' rt,())) (rf:=(false,())) hl' (fun i hi=> ?_) hK).trans ?_
 ·have e:=List.getElem?_eq_getElem hi
  rw [h i _ hi e]
  by_cases hq:q i l[i]
  ·have:∀ v,l[i]? = some v→q i v:=by intro v hv;rw [e] at hv;cases hv;exact hq
   rw [stR,zaN hq,zaN this]
  ·have:¬ ∀ v,l[i]? = some v→q i v:=fun h=>hq (h _ e)
   rw [stR,zaE hq,zaE this]
 ·by_cases ha:∀ i v,l[i]? = some v→q i v
  ·have:(List.range l.length).all (fun i=>dec' (∀ v,l[i]? = some v→q i v))=true:=List.all_eq_true.2 fun i _=>zaN (ha i)
   rw [this]
   exact congrArg (fun z=>some (z,())) (zbt (d:=propDecidable _) (by grind))
  ·have:(List.range l.length).all (fun i=>dec' (∀ v,l[i]? = some v→q i v))=false:=by
    rw [Bool.eq_false_iff]
    intro h
    refine ha fun i v hv=> ?_
    have hi:i < l.length:=(List.getElem?_eq_some_iff.1 hv).1
    exact @of_decide_eq_true _ (propDecidable _) (List.all_eq_true.1 h i (List.mem_range.2 hi)) v hv
   rw [this]
   exact congrArg (fun z=>some (z,())) (zaE (by grind)).symm
theorem ze3 {α:Type} (l:List α) (hl:Sh l) {step:Int×Unit→Option ((Int×Unit)⊕(Int×Unit))} (q:α→Prop)
  (h1:∀ (i:Nat) v,i < l.length→l[i]? = some v→q v→step ((i:Int),())=some (.inl (((i+1:Nat):Int),())))
  (h2:∀ (i:Nat) v,i < l.length→l[i]? = some v→¬ q v→step ((i:Int),())=some (.inr ((i:Int),()))) (hK:step ((l.length:Int),())=some (.inr (-1,()))) :
  ∃ r,zaT (Int×Unit) (Int×Unit) step big (0,())=some (r,())∧decide (0≤r) = !dec' (∀ v∈l,q v):=by
 unfold Sh at hl
 obtain⟨r,h3,h4⟩:=zds (step:=step) (n:=big) (t:=(0,())) (I:=fun t=>∃ i:Nat,t=((i:Int),())∧i≤l.length∧∀ j v,j < i→l[j]? = some v→q v) (μ:=fun t=>l.length - t.1.toNat)
  (Q:=fun _ r=>decide (0≤r.1) = !dec' (∀ v∈l,q v)) (fun t ht=>by
   obtain⟨i,rfl,hi,hj⟩:=ht
   by_cases hlt:i < l.length
   ·have e:=List.getElem?_eq_getElem hlt
    by_cases hq:q l[i]
    ·refine .inr ⟨_,h1 i _ hlt e hq,⟨i+1,rfl,hlt,fun j v hjl hv=> ?_⟩,?_,fun r h=>h⟩
     ·by_cases hji:j=i
      ·subst hji;rw [e] at hv;cases hv;exact hq
      ·exact hj j v (by omega) hv
     ·simp only [Int.toNat_natCast];omega
    ·refine .inl ⟨_,h2 i _ hlt e hq,?_⟩
     have:¬ ∀ v∈l,q v:=fun h=>hq (h _ (List.getElem_mem hlt))
     rw [zaE this]
     exact decide_eq_true (by show (0:Int)≤(i:Int);omega)
   ·have:i=l.length:=by omega
    subst this
    refine .inl ⟨_,hK,?_⟩
    have:∀ v∈l,q v:=fun v hv=>by
     obtain⟨j,hj2,rfl⟩:=List.getElem_of_mem hv
     exact hj j _ hj2 (List.getElem?_eq_getElem hj2)
    rw [zaN this]
    rfl) ⟨0,rfl,Nat.zero_le _,fun j v hj=>by omega⟩ (by rw [zcH];simp only [Int.toNat_zero];omega)
 obtain⟨r,⟨⟩⟩:=r
 exact⟨r,h3,h4⟩
def zbz (n:Int):Prop:=0≤n∧n≤1099511627776
def za7 (n:Int):Prop:=1≤n∧n≤1099511627776
def zg6 (s:List UInt8):Prop:=s.length≤8∧IsKey s
theorem zbv (n a b:Int):F144 (n,a,b,())=some (dec' (a≤n∧n≤b),()):=by
 unfold F144
 apply fin
 ·repeat' first | apply zaw | apply zam | apply zaB | apply zav
 ·grind
theorem zbn (n a b:Int):F126 (n,a,b,())=some (dec' (a≤n∧n≤b),()):=zbv n a b
theorem zdT (n:Int):F127 (n,())=some (dec' (za7 n),()):=by
 unfold F127
 exact zar (zbn n _ _) rfl
theorem zcx (n:Int):F129 (n,())=some (dec' (zbz n),()):=by
 unfold F129
 exact zar (zbn n _ _) rfl
theorem zpC (n:Int):F176 (n,())=some (!dec' (za7 n),()):=by
 unfold F176
 exact zar (zbv n _ _) rfl
theorem zpO (n:Int):F177 (n,())=some (!dec' (zbz n),()):=by
 unfold F177
 exact zar (zbv n _ _) rfl
theorem zgl (l:List Int) (hl:Sh l):F145 (l,())=some (dec' (∀ n∈l,za7 n),()):=by
 unfold F145 zua zt6
 obtain⟨r,h1,h2⟩:=ze3 l hl (step:=fun (x_1:Int×Unit)=>bif decide (x_1.fst < Int.ofNat (List.length l)) then Option.bind (idx l x_1.fst) fun b=>Option.bind (F176 (b,())) fun b=>bif b.fst then some (Sum.inr x_1) else some (Sum.inl (wrap64 (x_1.fst+1),())) else some (Sum.inr (-1,()))) za7
  (fun i v hi hv hq=>by
   have hi':i < 9223372036854775807:=by unfold Sh at hl;omega
   simp only [zao,hi,decide_true,cond_true,zan,hv,Option.bind_some,zpC,zaN hq,Bool.not_true,cond_false,zak hi'])
  (fun i v hi hv hq=>by simp only [zao,hi,decide_true,cond_true,zan,hv,Option.bind_some,zpC,zaE hq,Bool.not_false]) (by simp)
 refine zar (zar h1 rfl) ?_
 simp only [h2,Bool.not_not]
theorem zfg (l:List Int) (hl:Sh l):F146 (l,())=some (dec' (∀ n∈l,zbz n),()):=by
 unfold F146 zt9 zt5
 obtain⟨r,h1,h2⟩:=ze3 l hl (step:=fun (x_1:Int×Unit)=>bif decide (x_1.fst < Int.ofNat (List.length l)) then Option.bind (idx l x_1.fst) fun b=>Option.bind (F177 (b,())) fun b=>bif b.fst then some (Sum.inr x_1) else some (Sum.inl (wrap64 (x_1.fst+1),())) else some (Sum.inr (-1,()))) zbz
  (fun i v hi hv hq=>by
   have hi':i < 9223372036854775807:=by unfold Sh at hl;omega
   simp only [zao,hi,decide_true,cond_true,zan,hv,Option.bind_some,zpO,zaN hq,Bool.not_true,cond_false,zak hi'])
  (fun i v hi hv hq=>by simp only [zao,hi,decide_true,cond_true,zan,hv,Option.bind_some,zpO,zaE hq,Bool.not_false]) (by simp)
 refine zar (zar h1 rfl) ?_
 simp only [h2,Bool.not_not]
theorem pos1 (a:Int):F145 ([a],())=some (dec' (za7 a),()):=
 fin (zgl [a] (by simp [Sh])) (by simp)
theorem pos2 (a b:Int):F145 ([a,b],())=some (dec' (za7 a∧za7 b),()):=
 fin (zgl [a,b] (by simp [Sh])) (by simp)
theorem nat1 (a:Int):F146 ([a],())=some (dec' (zbz a),()):=
 fin (zfg [a] (by simp [Sh])) (by simp)
theorem nat3 (a b c:Int):F146 ([a,b,c],())=some (dec' (zbz a∧zbz b∧zbz c),()):=
 fin (zfg [a,b,c] (by simp [Sh])) (by simp)
theorem nat6 (a b c d e f:Int):F146 ([a,b,c,d,e,f],())=some (dec' (zbz a∧zbz b∧zbz c∧zbz d∧zbz e∧zbz f),()):=
 fin (zfg [a,b,c,d,e,f] (by simp [Sh])) (by simp)
abbrev St (s:List UInt8):Prop:=s.length≤140737488351232
theorem pre_eq (s:List UInt8):F40 (s,())=some (dec' (zg6 s),()):=by
 unfold F40
 simp only [zdd,Option.bind_some]
 apply fin
 ·repeat' first | apply zaw | apply zam | apply zaB | apply zav
 ·unfold zg6;simp only [Int.ofNat_eq_natCast];grind
theorem zgk (s:List UInt8) (hs:St s):F38 (s,())=some (dec' (zg6 s),()):=by
 unfold F38
 simp only [zbe s hs,Option.bind_some]
 apply fin
 ·repeat' first | apply zaw | apply zam | apply zaB | apply zav
 ·unfold zg6;simp only [Int.ofNat_eq_natCast];grind
theorem ver1 (v:VerD):F149 (v,())=some (dec' (zck v),()):=by
 unfold F149
 refine fin (zar (zjE [v] (by simp)) rfl) ?_
 unfold zg7
 simp
theorem put_eq (k v:List UInt8) (l:Int):F186 (k,v,l,())=some (dec' (IsKey k∧v.length≤40∧zbz l),()):=by
 unfold F186
 simp only [zdd,nat1,Option.bind_some]
 apply fin
 ·repeat' first | apply zaw | apply zam | apply zaB | apply zav
 ·simp only [Int.ofNat_eq_natCast];grind
def ziL (c:T96D):Prop:=IsKey c.1∧0≤c.2.2.1∧c.2.2.1≤2∧((1≤c.2.1∧c.2.1≤4∧c.2.2.2.2.1=[]∧ -1099511627776≤c.2.2.2.1∧c.2.2.2.1≤1099511627776)∨(c.2.1=5∧c.2.2.2.1=0∧c.2.2.2.2.1.length≤40))
theorem cmp_eq (c:T96D):F193 (c,())=some (dec' (ziL c),()):=by
 obtain⟨k,w,s,n,v,⟨⟩⟩:=c
 unfold F193
 simp only [zdd,zbv,Option.bind_some]
 apply fin
 ·repeat' first | apply zaw | apply zam | apply zaB | apply zav | apply zaG
 ·unfold ziL;simp only [Int.ofNat_eq_natCast];grind
theorem znq (c:T96D):F192 (c,())=some (!dec' (ziL c),()):=by
 unfold F192
 exact zar (cmp_eq c) rfl
theorem znd (l:List T96D) (hl:Sh l):zq1 (l,())=some (!dec' (∀ c∈l,ziL c),()):=by
 unfold zq1 zt4
 obtain⟨r,h1,h2⟩:=ze3 l hl (step:=fun (x_1:Int×Unit)=>bif decide (x_1.fst < Int.ofNat (List.length l)) then Option.bind (idx l x_1.fst) fun b=>Option.bind (F192 (b,())) fun b=>bif b.fst then some (Sum.inr x_1) else some (Sum.inl (wrap64 (x_1.fst+1),())) else some (Sum.inr (-1,()))) ziL
  (fun i v hi hv hq=>by
   have hi':i < 9223372036854775807:=by unfold Sh at hl;omega
   simp only [zao,hi,decide_true,cond_true,zan,hv,Option.bind_some,znq,zaN hq,Bool.not_true,cond_false,zak hi'])
  (fun i v hi hv hq=>by simp only [zao,hi,decide_true,cond_true,zan,hv,Option.bind_some,znq,zaE hq,Bool.not_false]) (by simp)
 refine zar h1 ?_
 simp only [h2]
def zh0 (l:List T96D):Prop:=(∀ c∈l,ziL c)∧l.length≤4
theorem zkC {α:Type} {l:List α} {p:α→Prop}:(∀ (i:Nat) v,l[i]? = some v→p v)↔∀ v∈l,p v:=
 ⟨fun h v hv=>by obtain⟨i,hi,rfl⟩:=List.getElem_of_mem hv;exact h i _ (List.getElem?_eq_getElem hi),fun h i v hv=>h v (List.mem_of_getElem? hv)⟩
end Go.Proofs.YtpfjaaofpcbejaaGreat
