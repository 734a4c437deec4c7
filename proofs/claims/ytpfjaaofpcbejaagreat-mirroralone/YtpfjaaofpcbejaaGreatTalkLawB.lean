/-
 Plain laws of what lies below,as this seat reaches them (by a program of the bench: port.py).
-/
import Derived.Test.YtpfjaaofpcbejaaGreatTalkLawA
import Derived.Test.YtpfjaaofpcbejaaGreatSxS
namespace Go.Proofs.YtpfjaaofpcbejaaGreat
open Go.Sx Go Classical
set_option maxRecDepth 10000
def keepT (m:TMD):TMD:=
 if m.1=1 then (m.1,0,m.2.2.1,NoJob,0,[],[],0,0,0,0,NoReply,[],[],false,NoHand,NoMove,())
 else if m.1=2 then (m.1,m.2.1,NoMsg,m.2.2.2.1,0,[],[],0,0,0,0,NoReply,[],[],false,NoHand,NoMove,())
 else if m.1=3 then (m.1,m.2.1,NoMsg,NoJob,m.2.2.2.2.1,m.2.2.2.2.2.1,m.2.2.2.2.2.2.1,m.2.2.2.2.2.2.2.1,m.2.2.2.2.2.2.2.2.1,0,0,NoReply,[],[],false,NoHand,NoMove,())
 else if m.1=4 then (m.1,m.2.1,NoMsg,NoJob,m.2.2.2.2.1,m.2.2.2.2.2.1,m.2.2.2.2.2.2.1,m.2.2.2.2.2.2.2.1,0,0,0,NoReply,[],[],false,NoHand,NoMove,())
 else if m.1=5 then (m.1,m.2.1,NoMsg,NoJob,0,m.2.2.2.2.2.1,m.2.2.2.2.2.2.1,m.2.2.2.2.2.2.2.1,0,0,0,NoReply,[],[],false,NoHand,NoMove,())
 else if m.1=6 then (m.1,m.2.1,NoMsg,NoJob,0,[],[],m.2.2.2.2.2.2.2.1,0,0,0,NoReply,[],[],false,NoHand,NoMove,())
 else if m.1=7 then (m.1,m.2.1,NoMsg,NoJob,0,[],[],0,0,0,0,NoReply,[],[],false,NoHand,NoMove,())
 else if m.1=8 then (m.1,m.2.1,NoMsg,NoJob,0,[],[],0,0,m.2.2.2.2.2.2.2.2.2.1,m.2.2.2.2.2.2.2.2.2.2.1,m.2.2.2.2.2.2.2.2.2.2.2.1,[],[],false,NoHand,NoMove,())
 else if m.1=9 then (m.1,m.2.1,NoMsg,NoJob,0,[],[],m.2.2.2.2.2.2.2.1,0,m.2.2.2.2.2.2.2.2.2.1,0,NoReply,m.2.2.2.2.2.2.2.2.2.2.2.2.1,[],false,NoHand,NoMove,())
 else if m.1=10 then (m.1,m.2.1,NoMsg,NoJob,0,[],[],0,0,m.2.2.2.2.2.2.2.2.2.1,0,NoReply,[],m.2.2.2.2.2.2.2.2.2.2.2.2.2.1,m.2.2.2.2.2.2.2.2.2.2.2.2.2.2.1,NoHand,NoMove,())
 else if m.1=11 then (m.1,m.2.1,NoMsg,NoJob,0,[],[],0,0,m.2.2.2.2.2.2.2.2.2.1,0,NoReply,[],[],false,m.2.2.2.2.2.2.2.2.2.2.2.2.2.2.2.1,NoMove,())
 else (m.1,m.2.1,NoMsg,NoJob,0,[],[],m.2.2.2.2.2.2.2.1,0,0,0,NoReply,[],[],false,NoHand,m.2.2.2.2.2.2.2.2.2.2.2.2.2.2.2.2.1,())
theorem kinds12 {k:Int} (h1:1≤k) (h2:k≤12):k=1∨k=2∨k=3∨k=4∨k=5∨k=6∨k=7∨k=8∨k=9∨k=10∨k=11∨k=12:=by omega
theorem keepT_eq (m:TMD) (h:1≤m.1∧m.1≤12):F65 (m,())=some (keepT m,()):=by
 obtain⟨k,r⟩:=m
 rcases kinds12 h.1 h.2 with h | h | h | h | h | h | h | h | h | h | h | h <;> (dsimp only at h;subst h;rfl)
theorem bareT_eq (m:TMD) (h:1≤m.1∧m.1≤12):F78 (m,())=some (keepT m,()):=by
 obtain⟨k,r⟩:=m
 rcases kinds12 h.1 h.2 with h | h | h | h | h | h | h | h | h | h | h | h <;> (dsimp only at h;subst h;rfl)
theorem ite_sh {p:Prop} [Decidable p] {a b:TMD} (ha:ShT a) (hb:ShT b):ShT (if p then a else b):=by
 by_cases h:p
 ·rw [if_pos h];exact ha
 ·rw [if_neg h];exact hb
theorem keepT_sh {m:TMD} (h:ShT m):ShT (keepT m):=by
 have z:∀ {α:Type},Sh ([]:List α):=fun {_}=>by simp [Sh]
 have zB:ShB []:=⟨z,fun b hb=>by simp at hb⟩
 have zH:ShH NoHand:=⟨⟨z,fun b hb=>by simp at hb⟩,z⟩
 obtain⟨h1,h2,h3,h4,h5,h6⟩:=h
 unfold keepT
 exact ite_sh ⟨h1,shNo,z,zB,z,zH⟩ (ite_sh ⟨z,h2,z,zB,z,zH⟩ (ite_sh ⟨z,shNo,z,zB,z,zH⟩ (ite_sh ⟨z,shNo,z,zB,z,zH⟩ (ite_sh ⟨z,shNo,z,zB,z,zH⟩ (ite_sh ⟨z,shNo,z,zB,z,zH⟩ (ite_sh ⟨z,shNo,z,zB,z,zH⟩ (ite_sh ⟨z,shNo,h3,zB,z,zH⟩ (ite_sh ⟨z,shNo,z,h4,z,zH⟩ (ite_sh ⟨z,shNo,z,zB,h5,zH⟩ (ite_sh ⟨z,shNo,z,zB,z,h6⟩ ⟨z,shNo,z,zB,z,zH⟩))))))))))
def ItemsOk (l:List T70D) (m:Int):Prop:=(l.length:Int)≤m∧∀ x∈l,ItemOk x
theorem titem_eq (x:T70D):F150 (x,())=some (!dec' (ItemOk x),()):=by
 obtain⟨k,v,⟨⟩⟩:=x
 have hv:F151 ([v],())=some (decide (IsHist [v]),()):=hRight_eq [v] (by simp)
 have hi:IsHist [v]↔VerOk v:=by unfold IsHist;simp
 unfold F150
 simp only [key_eq,hv,Option.bind_some]
 unfold ItemOk
 by_cases h1:IsKey k
 ·by_cases h2:VerOk v
  ·rw [decide_eq_true h1,decide_eq_true (hi.2 h2),show dec' (IsKey k∧VerOk v)=true from dec_true ⟨h1,h2⟩];rfl
  ·rw [decide_eq_true h1,decide_eq_false (fun h=>h2 (hi.1 h)),show dec' (IsKey k∧VerOk v)=false from dec_false (fun h=>h2 h.2)];rfl
 ·rw [decide_eq_false h1,show dec' (IsKey k∧VerOk v)=false from dec_false (fun h=>h1 h.1)];rfl
theorem anyTItems_eq (l:List T70D) (hl:Sh l):F147b (l,())=some (!dec' (∀ c∈l,ItemOk c),()):=by
 unfold F147b F178b
 obtain⟨r,h1,h2⟩:=any_loop l hl (step:=fun (x_1:Int×Unit)=>bif decide (x_1.fst < Int.ofNat (List.length l)) then Option.bind (idx l x_1.fst) fun b=>Option.bind (F150 (b,())) fun b=>bif b.fst then some (Sum.inr x_1) else some (Sum.inl (wrap64 (x_1.fst+1),())) else some (Sum.inr (-1,()))) ItemOk
  (fun i v hi hv hq=>by
   have hi':i < 9223372036854775807:=by unfold Sh at hl;omega
   simp only [lt_len,hi,decide_true,cond_true,idx_nat,hv,Option.bind_some,titem_eq,dec_true hq,Bool.not_true,cond_false,wrap64_nat hi'])
  (fun i v hi hv hq=>by simp only [lt_len,hi,decide_true,cond_true,idx_nat,hv,Option.bind_some,titem_eq,dec_false hq,Bool.not_false]) (by simp)
 refine bind_of h1 ?_
 simp only [h2]
theorem titems_eq (l:List T70D) (m:Int) (hl:Sh l):F106 (l,m,())=some (dec' (ItemsOk l m),()):=by
 unfold F106
 simp only [anyTItems_eq l hl,Option.bind_some,Bool.not_not]
 apply fin
 ·repeat' first | apply base_true | apply base_false | apply base_dec | apply cond_step
 ·unfold ItemsOk;simp only [Int.ofNat_eq_natCast];grind
theorem rTItems_eq (l:List T70D) (m:Int) (hz:SzItems l):F85 (l,m,())=some (dec' (ItemsOk l m),()):=by
 obtain⟨hl,hs⟩:=hz
 unfold F85
 refine fin (all_loop l hl (fun _ x=>ItemOk x) ((l.length:Int)≤m) (fun i v hi hv=> ?_) ?_) ?_
 ·have hi':i < 9223372036854775807:=by unfold Sh at hl;omega
  have hk:=hs v (List.mem_of_getElem? hv)
  obtain⟨k,w,⟨⟩⟩:=v
  simp only [lt_len,hi,decide_true,cond_true,idx_nat,hv,Option.bind_some,refKey_eq k hk,rVer_eq,wrap64_nat hi']
  apply finS
  ·repeat' first | apply stR_true | apply stR_false | apply cs_step | apply cs_stepN | apply cs_stepB
  ·unfold ItemOk;grind
 ·simp only [lt_len,Nat.lt_irrefl,decide_false,cond_false]
  exact congrArg (fun z=>some (Sum.inr (z,()))) (dec_iff (p:=(l.length:Int)≤m) (q:=Int.ofNat l.length≤m) Iff.rfl).symm
 ·unfold ItemsOk;rw [mem_get (p:=ItemOk)];exact And.comm
theorem twithin_eq (n a b:Int):F67 (n,a,b,())=some (dec' (a≤n∧n≤b),()):=within_eq n a b
theorem rTwithin_eq (n a b:Int):F80 (n,a,b,())=some (dec' (a≤n∧n≤b),()):=within_eq n a b
def BatchesOk (l:List TBD):Prop:=(∀ (i:Nat) v,l[i]? = some v→Pos40 v.1∧ItemsOk v.2.1 48∧∀ w,0 < i→l[i - 1]? = some w→w.1 < v.1)∧l.length≤64
theorem tbatches_eq (l:List TBD) (hs:ShB l):F105 (l,())=some (dec' (BatchesOk l),()):=by
 obtain⟨hl,hs⟩:=hs
 unfold F105
 refine fin (all_loop l hl (fun i v=>Pos40 v.1∧ItemsOk v.2.1 48∧∀ w,0 < i→l[i - 1]? = some w→w.1 < v.1) (l.length≤64) (fun i v hi hv=> ?_) ?_) ?_
 ·have hi':i < 9223372036854775807:=by unfold Sh at hl;omega
  have hr:F106 (v.2.1,48,())=_:=titems_eq v.2.1 48 (hs v (List.mem_of_getElem? hv))
  rcases Nat.eq_zero_or_pos i with h0 | h0
  ·have e0:decide ((0:Int) < (i:Int))=false:=decide_eq_false (by omega)
   have hp:(∀ w,0 < i→l[i - 1]? = some w→w.1 < v.1)=True:=propext (prev_none (l:=l) h0 (fun w=>w.1 < v.1))
   simp only [hp]
   simp only [lt_len,hi,decide_true,cond_true,idx_nat,hv,Option.bind_some,wrap64_nat hi',e0,cond_false,twithin_eq,hr]
   apply finS
   ·repeat' first | apply stR_true | apply stR_false | apply cs_step | apply cs_stepN | apply cs_stepB
   ·unfold Pos40;grind
  ·obtain⟨u,hu⟩:∃ u,l[i - 1]? = some u:=⟨_,List.getElem?_eq_getElem (show i - 1 < l.length by omega)⟩
   have e0:decide ((0:Int) < (i:Int))=true:=decide_eq_true (by omega)
   have hp:(∀ w,0 < i→l[i - 1]? = some w→w.1 < v.1)=(u.1 < v.1):=propext (prev_iff h0 hu (fun w=>w.1 < v.1))
   simp only [hp]
   simp only [lt_len,hi,decide_true,cond_true,idx_nat,hv,Option.bind_some,wrap64_nat hi',e0,prev_eq h0 hi',hu,twithin_eq,hr]
   apply finS
   ·repeat' first | apply stR_true | apply stR_false | apply cs_step | apply cs_stepN | apply cs_stepB
   ·unfold Pos40;grind
 ·simp only [lt_len,Nat.lt_irrefl,decide_false,cond_false]
  exact congrArg (fun z=>some (Sum.inr (z,()))) (dec_iff (p:=l.length≤64) (q:=Int.ofNat l.length≤64) (by simp only [Int.ofNat_eq_natCast];omega)).symm
 ·unfold BatchesOk;exact Iff.rfl
theorem rTbatches_eq (l:List TBD) (hl:Sh l) (hs:∀ b∈l,SzItems b.2.1):F84 (l,())=some (dec' (BatchesOk l),()):=by
 unfold F84
 refine fin (all_loop l hl (fun i v=>Pos40 v.1∧ItemsOk v.2.1 48∧∀ w,0 < i→l[i - 1]? = some w→w.1 < v.1) (l.length≤64) (fun i v hi hv=> ?_) ?_) ?_
 ·have hi':i < 9223372036854775807:=by unfold Sh at hl;omega
  have hr:F85 (v.2.1,48,())=_:=rTItems_eq v.2.1 48 (hs v (List.mem_of_getElem? hv))
  rcases Nat.eq_zero_or_pos i with h0 | h0
  ·have e0:decide ((0:Int) < (i:Int))=false:=decide_eq_false (by omega)
   have hp:(∀ w,0 < i→l[i - 1]? = some w→w.1 < v.1)=True:=propext (prev_none (l:=l) h0 (fun w=>w.1 < v.1))
   simp only [hp]
   simp only [lt_len,hi,decide_true,cond_true,idx_nat,hv,Option.bind_some,wrap64_nat hi',e0,cond_false,rTwithin_eq,hr]
   apply finS
   ·repeat' first | apply stR_true | apply stR_false | apply cs_step | apply cs_stepN | apply cs_stepB
   ·unfold Pos40;grind
  ·obtain⟨u,hu⟩:∃ u,l[i - 1]? = some u:=⟨_,List.getElem?_eq_getElem (show i - 1 < l.length by omega)⟩
   have e0:decide ((0:Int) < (i:Int))=true:=decide_eq_true (by omega)
   have hp:(∀ w,0 < i→l[i - 1]? = some w→w.1 < v.1)=(u.1 < v.1):=propext (prev_iff h0 hu (fun w=>w.1 < v.1))
   simp only [hp]
   simp only [lt_len,hi,decide_true,cond_true,idx_nat,hv,Option.bind_some,wrap64_nat hi',e0,prev_eq h0 hi',hu,rTwithin_eq,hr]
   apply finS
   ·repeat' first | apply stR_true | apply stR_false | apply cs_step | apply cs_stepN | apply cs_stepB
   ·unfold Pos40;grind
 ·simp only [lt_len,Nat.lt_irrefl,decide_false,cond_false]
  exact congrArg (fun z=>some (Sum.inr (z,()))) (dec_iff (p:=l.length≤64) (q:=Int.ofNat l.length≤64) (by simp only [Int.ofNat_eq_natCast];omega)).symm
 ·unfold BatchesOk;exact Iff.rfl
theorem noHand_eq (h:T55D):F107 (h,())=some (dec' (h=NoHand),()):=by
 obtain⟨a1,a2,a3,a4,⟨⟩⟩:=h
 unfold F107
 apply fin
 ·repeat' first | apply base_true | apply base_false | apply base_dec | apply cond_step
 ·simp only [Prod.mk.injEq,Int.ofNat_eq_natCast]
  constructor
  ·intro h;refine⟨?_,?_,?_,?_,trivial⟩ <;> (have h3:∀ {α:Type} (l:List α),(l.length:Int)=0→l=[]:=fun l hl=>List.length_eq_zero_iff.1 (by omega)) <;> grind
  ·rintro ⟨rfl,rfl,rfl,rfl,-⟩;simp
theorem rNone_eq (h:T55D) (hs:ShH h):F86 (h,())=some (dec' (h=NoHand),()):=by
 unfold F86
 exact bind_of (rHand_same h NoHand hs) rfl
end Go.Proofs.YtpfjaaofpcbejaaGreat
