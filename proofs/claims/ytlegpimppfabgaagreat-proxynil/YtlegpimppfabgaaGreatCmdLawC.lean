/-
 Plain laws of what lies below,as this seat reaches them (by a program of the bench: port.py).
-/
import Derived.Test.YtlegpimppfabgaaGreatCmdLawB
import Derived.Test.YtlegpimppfabgaaGreatSxS
namespace Go.Proofs.YtlegpimppfabgaaGreat
open Go.Sx Go Classical
set_option maxRecDepth 10000
theorem zbT {α T R:Type} (l:List α) (hl:Sh l) {step:T→Option (T⊕R)} (q:α→Prop) (mk:Nat→T) (idxOf:T→Nat) (hmk:∀ i,idxOf (mk i)=i) (out:Nat→R) (no:R)
  (h1:∀ (i:Nat) v,i < l.length→l[i]? = some v→q v→step (mk i)=some (.inl (mk (i+1))))
  (h2:∀ (i:Nat) v,i < l.length→l[i]? = some v→¬ q v→step (mk i)=some (.inr (out i))) (hK:step (mk l.length)=some (.inr no)) :
  ∃ z,iter step big (mk 0)=some z∧((z=no∧∀ v∈l,q v)∨((∃ i,z=out i)∧¬ ∀ v∈l,q v)):=by
 unfold Sh at hl
 exact pV (step:=step) (n:=big) (t:=mk 0) (I:=fun t=>∃ i:Nat,t=mk i∧i≤l.length∧∀ j v,j < i→l[j]? = some v→q v) (μ:=fun t=>l.length - idxOf t)
  (Q:=fun _ z=>(z=no∧∀ v∈l,q v)∨((∃ i,z=out i)∧¬ ∀ v∈l,q v)) (fun t ht=>by
   obtain⟨i,rfl,hi,hj⟩:=ht
   by_cases hlt:i < l.length
   ·have e:=List.getElem?_eq_getElem hlt
    by_cases hq:q l[i]
    ·refine .inr ⟨_,h1 i _ hlt e hq,⟨i+1,rfl,hlt,fun j v hjl hv=> ?_⟩,?_,fun r h=>h⟩
     ·by_cases hji:j=i
      ·subst hji;rw [e] at hv;cases hv;exact hq
      ·exact hj j v (by omega) hv
     ·simp only [hmk];omega
    ·exact .inl ⟨_,h2 i _ hlt e hq,.inr ⟨⟨i,rfl⟩,fun h=>hq (h _ (List.getElem_mem hlt))⟩⟩
   ·have:i=l.length:=by omega
    subst this
    refine .inl ⟨_,hK,.inl ⟨rfl,fun v hv=> ?_⟩⟩
    obtain⟨j,hj2,rfl⟩:=List.getElem_of_mem hv
    exact hj j _ hj2 (List.getElem?_eq_getElem hj2)) ⟨0,rfl,Nat.zero_le _,fun j v hj=>by omega⟩ (by rw [jZ];simp only [hmk];omega)
def jS (o:au):Prop:=(o.1=1∧o.2.2.1=[]∧IsKey o.2.1∧o.2.2.2.1.length≤40∧dH o.2.2.2.2.1)∨((o.1=2∨o.1=3)∧o.2.2.2.1=[]∧o.2.2.2.2.1=0∧fM o.2.1 o.2.2.1)
theorem ze0 (o:au):xP (o,())=some (dec' (jS o),()):=by
 obtain⟨k,a,b,v,n,⟨⟩⟩:=o
 unfold xP
 simp only [put_eq,pR,Option.bind_some]
 apply fin
 ·repeat' first | apply dE | apply dC | apply dF | apply dD
 ·unfold jS;grind
def QF (o:au):Prop:=St o.2.1∧St o.2.2.1∧St o.2.2.2.1
def InP (a b k:List UInt8):Prop:=fM a b∧IsKey k∧(k=a∨(bC a k=true∧bC k b=true))
theorem zfJ (a b k:List UInt8):uC (a,b,k,())=some (dec' (InP a b k),()):=by
 unfold uC
 simp only [pR,iI,Option.bind_some,KJ]
 apply fin
 ·repeat' first | apply dE | apply dC | apply dF | apply EY | apply dD | apply gq | apply CW
 ·unfold InP;grind
def Meet (a b:au):Prop:=a.1≠3∧b.1≠3∧(InP a.2.1 a.2.2.1 b.2.1∨InP b.2.1 b.2.2.1 a.2.1)
def qH (a b:au):Prop:=a.1≠3∧b.1≠3∧(a.2.1=b.2.1∨InP a.2.1 a.2.2.1 b.2.1∨InP b.2.1 b.2.2.1 a.2.1)
theorem MB (a b:au):xO (a,b,())=some (dec' (qH a b),()):=by
 unfold xO
 simp only [zfJ,Option.bind_some]
 apply fin
 ·repeat' first | apply dE | apply dC | apply dF | apply EY | apply dD | apply gq | apply CW
 ·unfold qH;grind
theorem KU {o:au} (h:jS o):fM o.2.1 o.2.2.1∧IsKey o.2.1:=by
 rcases h with h | h
 ·exact⟨⟨h.2.2.1,.inl h.2.1⟩,h.2.2.1⟩
 ·exact⟨h.2.2.2,h.2.2.2.1⟩
theorem KY {a b:au} (ha:jS a) (hb:jS b):qH a b↔Meet a b:=by
 have h1:=KU ha
 have h2:=KU hb
 unfold qH Meet InP
 grind
def jI (l:List au):Prop:=(∀ (i:Nat) v,l[i]? = some v→jS v∧∀ (j:Nat) w,j < i→l[j]? = some w→¬ Meet w v)∧l.length≤4
theorem zbU (l:List au) (hl:Sh l) (o:au):xg (l,o,())=some (!dec' (∀ w∈l,¬ qH w o),o,()):=by
 unfold xg Aq
 obtain⟨z,h1,h2⟩:=zbT l hl (step:=fun (x_1:Int×au)=>bif decide (x_1.fst < Int.ofNat (List.length l)) then Option.bind (idx l x_1.fst) fun b=>Option.bind (ui (b,x_1.snd,())) fun b=>bif b.fst then some (Sum.inr (x_1.fst,b.snd)) else some (Sum.inl (wrap64 (x_1.fst+1),b.snd.fst)) else some (Sum.inr (-1,x_1.snd,())))
  (fun w=>¬ qH w o) (fun i=>((i:Int),o)) (fun t=>t.1.toNat) (fun i=>by simp) (fun i=>((i:Int),o,())) (-1,o,())
  (fun i v hi hv hq=>by
   have hi':i < 9223372036854775807:=by unfold Sh at hl;omega
   unfold ui
   simp only [aO,hi,decide_true,cond_true,aZ,hv,Option.bind_some,MB,dU hq,cond_false,bY hi'])
  (fun i v hi hv hq=>by
   unfold ui
   simp only [aO,hi,decide_true,cond_true,aZ,hv,Option.bind_some,MB,dV (Classical.not_not.1 hq)]) (by simp)
 refine aS h1 ?_
 rcases h2 with ⟨rfl,h2⟩ | ⟨⟨i,rfl⟩,h2⟩
 ·rw [dV h2];rfl
 ·rw [dU h2]
  have:decide ((0:Int)≤(i:Int))=true:=decide_eq_true (by omega)
  simp only [this,Bool.not_false]
theorem Nc (l:List au) (hl:Sh l):uF (l,())=some (dec' (jI l),()):=by
 unfold uF
 refine fin (rX l hl (fun i v=>jS v∧∀ w∈l.take i,¬ qH w v) (l.length≤4) (fun i v hi hv=> ?_) ?_) ?_
 ·have hi':i < 9223372036854775807:=by unfold Sh at hl;omega
  have e2:iG l 0 (i:Int)=some (l.take i):=IA (by omega)
  have ht:Sh (l.take i):=by unfold Sh at hl ⊢;rw [List.length_take];omega
  simp only [aO,hi,decide_true,cond_true,aZ,hv,Option.bind_some,ze0,e2,zbU _ ht,bY hi']
  apply lm
  ·repeat' first | apply kF | apply kC | apply kJ | apply kG | apply kH
  ·grind
 ·simp only [aO,Nat.lt_irrefl,decide_false,cond_false]
  exact congrArg (fun z=>some (Sum.inr (z,()))) (jY (by simp;omega)).symm
 ·unfold jI
  refine and_congr ?_ Iff.rfl
  constructor
  ·intro h i v hv
   refine⟨(h i v hv).1,fun j w hj hw=> ?_⟩
   have:=(h i v hv).2 w (List.mem_iff_getElem?.2 ⟨j,by rw [List.getElem?_take,if_pos hj];exact hw⟩)
   rwa [KY (h j w hw).1 (h i v hv).1] at this
  ·intro h i v hv
   refine⟨(h i v hv).1,fun w hw=> ?_⟩
   obtain⟨j,hj⟩:=List.mem_iff_getElem?.1 hw
   rw [List.getElem?_take] at hj
   by_cases hji:j < i
   ·rw [if_pos hji] at hj
    rw [KY (h j w hj).1 (h i v hv).1]
    exact (h i v hv).2 j w hji hj
   ·rw [if_neg hji] at hj;cases hj
end Go.Proofs.YtlegpimppfabgaaGreat
