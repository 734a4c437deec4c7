/-
 Plain laws of what lies below,as this seat reaches them (by a program of the bench: port.py).
-/
import Derived.Test.YtpfjaaofpcbejaaGreatCmdLawB
import Derived.Test.YtpfjaaofpcbejaaGreatSxS
namespace Go.Proofs.YtpfjaaofpcbejaaGreat
open Go.Sx Go Classical
set_option maxRecDepth 10000
theorem all_loopG {R:Type} {n:Nat} (hn:n≤9223372036854775806) {step:Int×Unit→Option ((Int×Unit)⊕R)} (q:Nat→Prop) (rt rf:R)
  (h:∀ i:Nat,i < n→step ((i:Int),())=some (bif dec' (q i) then .inl (((i+1:Nat):Int),()) else .inr rf)) (hK:step ((n:Int),())=some (.inr rt)) :
  iterE (Int×Unit) R step big (0,())=some (bif dec' (∀ i,i < n→q i) then rt else rf):=by
 refine (iter_all (mk:=fun i=>((i:Int),())) (fun i=>dec' (q i)) (rt:=rt) (rf:=rf) (by omega) (fun i hi=> ?_) hK).trans ?_
 ·rw [h i hi]
 ·have:(List.range n).all (fun i=>dec' (q i))=dec' (∀ i,i < n→q i):=by
   by_cases ha:∀ i,i < n→q i
   ·rw [dec_true ha]
    exact List.all_eq_true.2 fun i hi=>dec_true (ha i (List.mem_range.1 hi))
   ·rw [dec_false ha,Bool.eq_false_iff]
    intro h
    exact ha fun i hi=> @of_decide_eq_true _ (propDecidable _) (List.all_eq_true.1 h i (List.mem_range.2 hi))
  rw [this]
theorem any_loopG {α T R:Type} (l:List α) (hl:Sh l) {step:T→Option (T⊕R)} (q:α→Prop) (mk:Nat→T) (idxOf:T→Nat) (hmk:∀ i,idxOf (mk i)=i) (out:Nat→R) (no:R)
  (h1:∀ (i:Nat) v,i < l.length→l[i]? = some v→q v→step (mk i)=some (.inl (mk (i+1))))
  (h2:∀ (i:Nat) v,i < l.length→l[i]? = some v→¬ q v→step (mk i)=some (.inr (out i))) (hK:step (mk l.length)=some (.inr no)) :
  ∃ z,iter step big (mk 0)=some z∧((z=no∧∀ v∈l,q v)∨((∃ i,z=out i)∧¬ ∀ v∈l,q v)):=by
 unfold Sh at hl
 exact iter_inv (step:=step) (n:=big) (t:=mk 0) (I:=fun t=>∃ i:Nat,t=mk i∧i≤l.length∧∀ j v,j < i→l[j]? = some v→q v) (μ:=fun t=>l.length - idxOf t)
  (Q:=fun _ z=>(z=no∧∀ v∈l,q v)∨((∃ i,z=out i)∧¬ ∀ v∈l,q v)) (fun t ht=>by
   obtain⟨i,rfl,hi,hj⟩:=ht
   by_cases hlt:i < l.length
   ·have e:=List.getElem?_eq_getElem hlt
    by_cases hq:q l[i]
    ·refine .inr ⟨_,h1 i _ hlt e hq,⟨i+1,rfl,hlt,fun j v hjl hv=> ?_⟩,?_,fun r h=>h⟩
     ·by_cases hji:j=i
      ·subst hji;rw [e] at hv;cases hv;exact hq
      ·exact hj j v (by omega) hv
     ·simp only [hmk];omega
    ·exact .inl ⟨_,h2 i _ hlt e hq,.inr ⟨⟨i,rfl⟩,fun h=>hq (h _ (List.getElem_mem hlt))⟩⟩
   ·have:i=l.length:=by omega
    subst this
    refine .inl ⟨_,hK,.inl ⟨rfl,fun v hv=> ?_⟩⟩
    obtain⟨j,hj2,rfl⟩:=List.getElem_of_mem hv
    exact hj j _ hj2 (List.getElem?_eq_getElem hj2)) ⟨0,rfl,Nat.zero_le _,fun j v hj=>by omega⟩ (by rw [big_eq];simp only [hmk];omega)
theorem rCmps_eq (l:List T96D) (hl:Sh l) (hk:∀ c∈l,St c.1):F163 (l,())=some (dec' (CmpsOk l),()):=by
 unfold F163
 refine fin (all_loop l hl (fun _ c=>CmpOk c) (l.length≤4) (fun i v hi hv=> ?_) ?_) ?_
 ·have hi':i < 9223372036854775807:=by unfold Sh at hl;omega
  have hs:=hk v (List.mem_of_getElem? hv)
  obtain⟨k,w,s,n,t,⟨⟩⟩:=v
  have e1:(bif decide (1≤w) then bif decide (w≤4) then bif decide (Int.ofNat (List.length t)=0) then some (Sum.inl (dec' (-1099511627776≤n∧n≤1099511627776),())) else some (Sum.inl (false,())) else some (Sum.inl (false,())) else some (Sum.inl (false,())):Option ((Bool×Unit)⊕((Int×Unit)⊕(Bool×Unit))))=some (Sum.inl (dec' (1≤w∧w≤4∧t=[]∧ -1099511627776≤n∧n≤1099511627776),())):=by
   by_cases h1:1≤w <;> by_cases h2:w≤4 <;> by_cases h3:t=[] <;> simp [h1,h2,h3]
  have e2:(bif decide (w=5) then bif decide (n=0) then some (Sum.inl (decide (Int.ofNat (List.length t)≤40),())) else some (Sum.inl (false,())) else some (Sum.inl (false,())):Option ((Bool×Unit)⊕((Int×Unit)⊕(Bool×Unit))))=some (Sum.inl (dec' (w=5∧n=0∧t.length≤40),())):=by
   by_cases h1:w=5 <;> by_cases h2:n=0 <;> simp [h1,h2] <;> omega
  simp only [lt_len,hi,decide_true,cond_true,idx_nat,hv,Option.bind_some,e1,e2,Sum.elim_inl,refKey_eq k hs,rWithin_eq,wrap64_nat hi']
  apply finS
  ·repeat' first | apply stR_true | apply stR_false | apply cs_step | apply cs_stepN | apply cs_stepB
  ·unfold CmpOk;grind
 ·simp only [lt_len,Nat.lt_irrefl,decide_false,cond_false]
  exact congrArg (fun z=>some (Sum.inr (z,()))) (dec_iff (by simp;omega)).symm
 ·unfold CmpsOk;rw [mem_get (p:=CmpOk)]
def OpOk (o:T48D):Prop:=(o.1=1∧o.2.2.1=[]∧IsKey o.2.1∧o.2.2.2.1.length≤40∧Nat40 o.2.2.2.2.1)∨((o.1=2∨o.1=3)∧o.2.2.2.1=[]∧o.2.2.2.2.1=0∧IsRange o.2.1 o.2.2.1)
theorem op_eq (o:T48D):F196 (o,())=some (dec' (OpOk o),()):=by
 obtain⟨k,a,b,v,n,⟨⟩⟩:=o
 unfold F196
 simp only [put_eq,range_eq,Option.bind_some]
 apply fin
 ·repeat' first | apply base_true | apply base_false | apply base_dec | apply cond_step
 ·unfold OpOk;grind
def SzOp (o:T48D):Prop:=St o.2.1∧St o.2.2.1∧St o.2.2.2.1
theorem rOp_eq (o:T48D) (ho:SzOp o):F183 (o,())=some (dec' (OpOk o),()):=by
 obtain⟨k,a,b,v,n,⟨⟩⟩:=o
 obtain⟨h1,h2,h3⟩:=ho
 unfold F183
 simp only [refKey_eq a h1,refRange_eq a b h1 h2,rNatural_eq,Option.bind_some]
 apply fin
 ·repeat' first | apply base_true | apply base_false | apply base_dec | apply cond_step
 ·unfold OpOk
  have e1:(Int.ofNat b.length=0)↔b=[]:=by simp
  have e2:(Int.ofNat v.length=0)↔v=[]:=by simp
  rw [e1,e2];simp only [Int.ofNat_eq_natCast];grind
def InP (a b k:List UInt8):Prop:=IsRange a b∧IsKey k∧(k=a∨(strlt a k=true∧strlt k b=true))
theorem in_eq (a b k:List UInt8):F201 (a,b,k,())=some (dec' (InP a b k),()):=by
 unfold F201
 simp only [range_eq,key_eq,Option.bind_some,strlt_gt]
 apply fin
 ·repeat' first | apply base_true | apply base_false | apply base_dec | apply base_b | apply cond_step | apply cond_stepN | apply cond_stepB
 ·unfold InP;grind
theorem ge_iff (k a:List UInt8):strlt k a=false↔(k=a∨strlt a k=true):=by
 rcases strlt_tri k a with h | h | h
 ·have h2:=strlt_asymm h
  have h3:k≠a:=fun e=>by rw [e,strlt_irrefl] at h;cases h
  simp [h,h2,h3]
 ·subst h;simp [strlt_irrefl]
 ·have h2:=strlt_asymm h
  simp [h,h2]
theorem rIn_eq (a b k:List UInt8) (ha:St a) (hb:St b) (hk:St k):F190 (a,b,k,())=some (dec' (InP a b k),()):=by
 unfold F190
 simp only [refRange_eq a b ha hb,refKey_eq k hk,Option.bind_some]
 apply fin
 ·repeat' first | apply base_true | apply base_false | apply base_dec | apply base_b | apply cond_step | apply cond_stepN | apply cond_stepB
 ·have e1:(Int.ofNat b.length=0)↔b=[]:=by simp
  have e2:=ge_iff k a
  have e3:=strlt_nil k
  unfold InP IsRange
  rw [e1]
  simp only [Bool.not_eq_true',Bool.not_eq_false',e2]
  by_cases hb:b=[]
  ·subst hb;grind
  ·grind
def Meet (a b:T48D):Prop:=a.1≠3∧b.1≠3∧(InP a.2.1 a.2.2.1 b.2.1∨InP b.2.1 b.2.2.1 a.2.1)
def MeetP (a b:T48D):Prop:=a.1≠3∧b.1≠3∧(a.2.1=b.2.1∨InP a.2.1 a.2.2.1 b.2.1∨InP b.2.1 b.2.2.1 a.2.1)
theorem meet_eq (a b:T48D):F199 (a,b,())=some (dec' (MeetP a b),()):=by
 unfold F199
 simp only [in_eq,Option.bind_some]
 apply fin
 ·repeat' first | apply base_true | apply base_false | apply base_dec | apply base_b | apply cond_step | apply cond_stepN | apply cond_stepB
 ·unfold MeetP;grind
theorem rMeet_eq (a b:T48D) (ha:SzOp a) (hb:SzOp b):F184 (a,b,())=some (dec' (Meet a b),()):=by
 unfold F184
 simp only [rIn_eq _ _ _ ha.1 ha.2.1 hb.1,rIn_eq _ _ _ hb.1 hb.2.1 ha.1,Option.bind_some]
 apply fin
 ·repeat' first | apply base_true | apply base_false | apply base_dec | apply base_b | apply cond_step | apply cond_stepN | apply cond_stepB
 ·unfold Meet;grind
theorem op_range {o:T48D} (h:OpOk o):IsRange o.2.1 o.2.2.1∧IsKey o.2.1:=by
 rcases h with h | h
 ·exact⟨⟨h.2.2.1,.inl h.2.1⟩,h.2.2.1⟩
 ·exact⟨h.2.2.2,h.2.2.2.1⟩
theorem meet_iff {a b:T48D} (ha:OpOk a) (hb:OpOk b):MeetP a b↔Meet a b:=by
 have h1:=op_range ha
 have h2:=op_range hb
 unfold MeetP Meet InP
 grind
def OpsOk (l:List T48D):Prop:=(∀ (i:Nat) v,l[i]? = some v→OpOk v∧∀ (j:Nat) w,j < i→l[j]? = some w→¬ Meet w v)∧l.length≤4
theorem anyOps_eq (l:List T48D) (hl:Sh l) (o:T48D):F197a (l,o,())=some (!dec' (∀ w∈l,¬ MeetP w o),o,()):=by
 unfold F197a F200a
 obtain⟨z,h1,h2⟩:=any_loopG l hl (step:=fun (x_1:Int×T48D)=>bif decide (x_1.fst < Int.ofNat (List.length l)) then Option.bind (idx l x_1.fst) fun b=>Option.bind (F198a (b,x_1.snd,())) fun b=>bif b.fst then some (Sum.inr (x_1.fst,b.snd)) else some (Sum.inl (wrap64 (x_1.fst+1),b.snd.fst)) else some (Sum.inr (-1,x_1.snd,())))
  (fun w=>¬ MeetP w o) (fun i=>((i:Int),o)) (fun t=>t.1.toNat) (fun i=>by simp) (fun i=>((i:Int),o,())) (-1,o,())
  (fun i v hi hv hq=>by
   have hi':i < 9223372036854775807:=by unfold Sh at hl;omega
   unfold F198a
   simp only [lt_len,hi,decide_true,cond_true,idx_nat,hv,Option.bind_some,meet_eq,dec_false hq,cond_false,wrap64_nat hi'])
  (fun i v hi hv hq=>by
   unfold F198a
   simp only [lt_len,hi,decide_true,cond_true,idx_nat,hv,Option.bind_some,meet_eq,dec_true (Classical.not_not.1 hq)]) (by simp)
 refine bind_of h1 ?_
 rcases h2 with ⟨rfl,h2⟩ | ⟨⟨i,rfl⟩,h2⟩
 ·rw [dec_true h2];rfl
 ·rw [dec_false h2]
  have:decide ((0:Int)≤(i:Int))=true:=decide_eq_true (by omega)
  simp only [this,Bool.not_false]
theorem ops_eq (l:List T48D) (hl:Sh l):F194 (l,())=some (dec' (OpsOk l),()):=by
 unfold F194
 refine fin (all_loop l hl (fun i v=>OpOk v∧∀ w∈l.take i,¬ MeetP w v) (l.length≤4) (fun i v hi hv=> ?_) ?_) ?_
 ·have hi':i < 9223372036854775807:=by unfold Sh at hl;omega
  have e2:sliceO l 0 (i:Int)=some (l.take i):=sliceO_take (by omega)
  have ht:Sh (l.take i):=by unfold Sh at hl ⊢;rw [List.length_take];omega
  simp only [lt_len,hi,decide_true,cond_true,idx_nat,hv,Option.bind_some,op_eq,e2,anyOps_eq _ ht,wrap64_nat hi']
  apply finS
  ·repeat' first | apply stR_true | apply stR_false | apply cs_step | apply cs_stepN | apply cs_stepB
  ·grind
 ·simp only [lt_len,Nat.lt_irrefl,decide_false,cond_false]
  exact congrArg (fun z=>some (Sum.inr (z,()))) (dec_iff (by simp;omega)).symm
 ·unfold OpsOk
  refine and_congr ?_ Iff.rfl
  constructor
  ·intro h i v hv
   refine⟨(h i v hv).1,fun j w hj hw=> ?_⟩
   have:=(h i v hv).2 w (List.mem_iff_getElem?.2 ⟨j,by rw [List.getElem?_take,if_pos hj];exact hw⟩)
   rwa [meet_iff (h j w hw).1 (h i v hv).1] at this
  ·intro h i v hv
   refine⟨(h i v hv).1,fun w hw=> ?_⟩
   obtain⟨j,hj⟩:=List.mem_iff_getElem?.1 hw
   rw [List.getElem?_take] at hj
   by_cases hji:j < i
   ·rw [if_pos hji] at hj
    rw [meet_iff (h j w hj).1 (h i v hv).1]
    exact (h i v hv).2 j w hji hj
   ·rw [if_neg hji] at hj;cases hj
theorem rOps_eq (l:List T48D) (hl:Sh l) (hs:∀ o∈l,SzOp o):F164 (l,())=some (dec' (OpsOk l),()):=by
 unfold F164
 refine fin (all_loop l hl (fun i v=>OpOk v∧∀ j,j < i→∀ w,l[j]? = some w→¬ Meet w v) (l.length≤4) (fun i v hi hv=> ?_) ?_) ?_
 ·have hi':i < 9223372036854775807:=by unfold Sh at hl;omega
  have hz:=hs v (List.mem_of_getElem? hv)
  have inner:=all_loopG (n:=i) (by omega) (step:=fun (x_2:Int×Unit)=>bif decide (x_2.fst < (i:Int)) then Option.bind (idx l x_2.fst) fun b=>Option.bind (idx l (i:Int)) fun b_1=>Option.bind (F184 (b,b_1,())) fun b=>bif b.fst then some (Sum.inr (Sum.inr (false,()))) else some (Sum.inl (wrap64 (x_2.fst+1),())) else some (Sum.inr (Sum.inl (wrap64 ((i:Int)+1),()))))
   (fun j=>∀ w,l[j]? = some w→¬ Meet w v) (Sum.inl (wrap64 ((i:Int)+1),())) (Sum.inr (false,())) (fun j hj=>by
    obtain⟨w,hw⟩:∃ w,l[j]? = some w:=⟨_,List.getElem?_eq_getElem (show j < l.length by omega)⟩
    have hwz:=hs w (List.mem_of_getElem? hw)
    have e:decide ((j:Int) < (i:Int))=true:=decide_eq_true (by omega)
    simp only [e,cond_true,idx_nat,hw,hv,Option.bind_some,rMeet_eq w v hwz hz,wrap64_nat (show j < 9223372036854775807 by omega)]
    by_cases hm:Meet w v
    ·rw [dec_true hm,dec_false (fun h=>h w rfl hm)];rfl
    ·rw [dec_false hm,dec_true (fun u hu=>by cases hu;exact hm)];rfl)
   (by simp)
  simp only [lt_len,hi,decide_true,cond_true,idx_nat,hv,Option.bind_some,rOp_eq v hz]
  simp only [idx_nat,hv,Option.bind_some] at inner
  rw [inner,wrap64_nat hi']
  by_cases h1:OpOk v
  ·rw [dec_true h1]
   simp only [Bool.not_true,cond_false]
   exact stR_iff ⟨fun h=>⟨h1,h⟩,fun h=>h.2⟩
  ·rw [dec_false h1]
   simp only [Bool.not_false,cond_true]
   rw [stR_false i]
   exact stR_iff ⟨False.elim,fun h=>h1 h.1⟩
 ·simp only [lt_len,Nat.lt_irrefl,decide_false,cond_false]
  exact congrArg (fun z=>some (Sum.inr (z,()))) (dec_iff (by simp;omega)).symm
 ·unfold OpsOk
  refine and_congr ?_ Iff.rfl
  exact⟨fun h i v hv=>⟨(h i v hv).1,fun j w hj hw=>(h i v hv).2 j hj w hw⟩,fun h i v hv=>⟨(h i v hv).1,fun j hj w hw=>(h i v hv).2 j w hj hw⟩⟩
end Go.Proofs.YtpfjaaofpcbejaaGreat
