/-
 Plain laws of what lies below,as this seat reaches them (by a program of the bench: port.py).
-/
import Derived.Test.YtpfjaaofpcbejaaGreatCmdLawC
import Derived.Test.YtpfjaaofpcbejaaGreatSxS
namespace Go.Proofs.YtpfjaaofpcbejaaGreat
open Go.Sx Go Classical
set_option maxRecDepth 10000
theorem prev_eq {i:Nat} (h0:0 < i) (h:i < 9223372036854775807):wrap64 ((i:Int) - 1)=((i - 1:Nat):Int):=by
 rw [wrap64_eq (by omega) (by omega)];omega
theorem prev_iff {α:Type} {l:List α} {i:Nat} {u:α} (h0:0 < i) (hu:l[i - 1]? = some u) (p:α→Prop):(∀ w,0 < i→l[i - 1]? = some w→p w)↔p u:=
 ⟨fun h=>h u h0 hu,fun h w _ hw=>by rw [hu] at hw;cases hw;exact h⟩
theorem prev_none {α:Type} {l:List α} {i:Nat} (h0:i=0) (p:α→Prop):(∀ w,0 < i→l[i - 1]? = some w→p w)↔True:=⟨fun _=>trivial,fun _ w h=>by omega⟩
def ItemOk (x:T70D):Prop:=IsKey x.1∧VerOk x.2.1
def ReplyOk (r:T51D):Prop:=0≤r.1∧r.1≤15∧Nat40 r.2.1∧Nat40 r.2.2.2.1∧Nat40 r.2.2.2.2.2.2.1∧0≤r.2.2.2.2.2.1∧r.2.2.2.2.2.1≤1∧r.2.2.2.2.1.length≤8∧∀ x∈r.2.2.2.2.1,ItemOk x
theorem reply1_eq (x:T70D):F148 (x,())=some (!dec' (ItemOk x),()):=by
 obtain⟨k,v,⟨⟩⟩:=x
 have hv:F149 (v,())=_:=ver1 v
 unfold F148
 simp only [key_eq,hv,Option.bind_some]
 unfold ItemOk
 by_cases h1:IsKey k
 ·by_cases h2:VerOk v
  ·rw [decide_eq_true h1,dec_true h2,show dec' (IsKey k∧VerOk v)=true from dec_true ⟨h1,h2⟩];rfl
  ·rw [decide_eq_true h1,dec_false h2,show dec' (IsKey k∧VerOk v)=false from dec_false (fun h=>h2 h.2)];rfl
 ·rw [decide_eq_false h1,show dec' (IsKey k∧VerOk v)=false from dec_false (fun h=>h1 h.1)];rfl
theorem anyItems_eq (l:List T70D) (hl:Sh l):F147a (l,())=some (!dec' (∀ c∈l,ItemOk c),()):=by
 unfold F147a F178a
 obtain⟨r,h1,h2⟩:=any_loop l hl (step:=fun (x_1:Int×Unit)=>bif decide (x_1.fst < Int.ofNat (List.length l)) then Option.bind (idx l x_1.fst) fun b=>Option.bind (F148 (b,())) fun b=>bif b.fst then some (Sum.inr x_1) else some (Sum.inl (wrap64 (x_1.fst+1),())) else some (Sum.inr (-1,()))) ItemOk
  (fun i v hi hv hq=>by
   have hi':i < 9223372036854775807:=by unfold Sh at hl;omega
   simp only [lt_len,hi,decide_true,cond_true,idx_nat,hv,Option.bind_some,reply1_eq,dec_true hq,Bool.not_true,cond_false,wrap64_nat hi'])
  (fun i v hi hv hq=>by simp only [lt_len,hi,decide_true,cond_true,idx_nat,hv,Option.bind_some,reply1_eq,dec_false hq,Bool.not_false]) (by simp)
 refine bind_of h1 ?_
 simp only [h2]
theorem reply_eq (r:T51D) (hr:Sh r.2.2.2.2.1):F104 (r,())=some (dec' (ReplyOk r),()):=by
 obtain⟨a1,a2,a3,a4,a5,a6,a7,⟨⟩⟩:=r
 unfold F104
 simp only [nat3,anyItems_eq a5 hr,Option.bind_some,Bool.not_not]
 apply fin
 ·repeat' first | apply base_true | apply base_false | apply base_dec | apply cond_step | apply cond_stepN
 ·unfold ReplyOk;simp only [Int.ofNat_eq_natCast];grind
def SzReply (r:T51D):Prop:=Sh r.2.2.2.2.1∧∀ x∈r.2.2.2.2.1,St x.1
theorem rReply_eq (r:T51D) (hr:SzReply r):F83 (r,())=some (dec' (ReplyOk r),()):=by
 obtain⟨a1,a2,a3,a4,a5,a6,a7,⟨⟩⟩:=r
 obtain⟨hl,hs⟩:=hr
 unfold F83
 refine fin (all_loop a5 hl (fun _ x=>ItemOk x) (0≤a1∧a1≤15∧Nat40 a2∧Nat40 a4∧Nat40 a7∧0≤a6∧a6≤1∧a5.length≤8) (fun i v hi hv=> ?_) ?_) ?_
 ·have hi':i < 9223372036854775807:=by unfold Sh at hl;simp only at hl;omega
  have hk:=hs v (List.mem_of_getElem? hv)
  obtain⟨k,w,⟨⟩⟩:=v
  simp only [lt_len,hi,decide_true,cond_true,idx_nat,hv,Option.bind_some,refKey_eq k hk,rVer_eq,wrap64_nat hi']
  apply finS
  ·repeat' first | apply stR_true | apply stR_false | apply cs_step | apply cs_stepN | apply cs_stepB
  ·unfold ItemOk;grind
 ·simp only [lt_len,Nat.lt_irrefl,decide_false,cond_false,rWithin_eq,rNatural_eq,Option.bind_some]
  refine (congrArg (Option.map Sum.inr) (?_:_=some (dec' (0≤a1∧a1≤15∧Nat40 a2∧Nat40 a4∧Nat40 a7∧0≤a6∧a6≤1∧a5.length≤8),()))).trans rfl
  apply fin
  ·repeat' first | apply base_true | apply base_false | apply base_dec | apply cond_step | apply cond_stepN
  ·simp only [Int.ofNat_eq_natCast];grind
 ·unfold ReplyOk;rw [mem_get (p:=ItemOk)];grind
def SessOk (l:List T94D) (m:Int):Prop:=∀ (i:Nat) v,l[i]? = some v→1≤v.1∧v.1≤m∧Pos40 v.2.1∧ReplyOk v.2.2.1∧∀ w,0 < i→l[i - 1]? = some w→w.1 < v.1
def SzSess (l:List T94D):Prop:=Sh l∧∀ s∈l,SzReply s.2.2.1
theorem sess_eq (l:List T94D) (m:Int) (hs:ShS l):F180 (l,m,())=some (dec' (SessOk l m),()):=by
 obtain⟨hl,hs⟩:=hs
 unfold F180
 refine fin (all_loop l hl (fun i v=>1≤v.1∧v.1≤m∧Pos40 v.2.1∧ReplyOk v.2.2.1∧∀ w,0 < i→l[i - 1]? = some w→w.1 < v.1) True (fun i v hi hv=> ?_) ?_) ?_
 ·have hi':i < 9223372036854775807:=by unfold Sh at hl;omega
  have hr:F104 (v.2.2.1,())=_:=reply_eq v.2.2.1 (hs v (List.mem_of_getElem? hv))
  rcases Nat.eq_zero_or_pos i with h0 | h0
  ·have e0:decide ((0:Int) < (i:Int))=false:=decide_eq_false (by omega)
   have e00:decide ((i:Int)=0)=true:=decide_eq_true (by omega)
   have hp:(∀ w,0 < i→l[i - 1]? = some w→w.1 < v.1)=True:=propext (prev_none (l:=l) h0 (fun w=>w.1 < v.1))
   simp only [hp]
   simp only [lt_len,hi,decide_true,cond_true,idx_nat,hv,Option.bind_some,wrap64_nat hi',e0,cond_false,pos1,within_eq,hr]
   apply finS
   ·repeat' first | apply stR_true | apply stR_false | apply cs_step | apply cs_stepN | apply cs_stepB
   ·grind
  ·obtain⟨u,hu⟩:∃ u,l[i - 1]? = some u:=⟨_,List.getElem?_eq_getElem (show i - 1 < l.length by omega)⟩
   have e0:decide ((0:Int) < (i:Int))=true:=decide_eq_true (by omega)
   have e00:decide ((i:Int)=0)=false:=decide_eq_false (by omega)
   have hp:(∀ w,0 < i→l[i - 1]? = some w→w.1 < v.1)=(u.1 < v.1):=propext (prev_iff h0 hu (fun w=>w.1 < v.1))
   simp only [hp]
   simp only [lt_len,hi,decide_true,cond_true,idx_nat,hv,Option.bind_some,wrap64_nat hi',e0,prev_eq h0 hi',hu,pos1,within_eq,hr]
   apply finS
   ·repeat' first | apply stR_true | apply stR_false | apply cs_step | apply cs_stepN | apply cs_stepB
   ·grind
 ·simp
 ·unfold SessOk;exact and_iff_left trivial
theorem rSess_eq (l:List T94D) (m:Int) (hs:SzSess l):F130 (l,m,())=some (dec' (SessOk l m),()):=by
 obtain⟨hl,hs⟩:=hs
 unfold F130
 refine fin (all_loop l hl (fun i v=>1≤v.1∧v.1≤m∧Pos40 v.2.1∧ReplyOk v.2.2.1∧∀ w,0 < i→l[i - 1]? = some w→w.1 < v.1) True (fun i v hi hv=> ?_) ?_) ?_
 ·have hi':i < 9223372036854775807:=by unfold Sh at hl;omega
  have hr:F83 (v.2.2.1,())=_:=rReply_eq v.2.2.1 (hs v (List.mem_of_getElem? hv))
  rcases Nat.eq_zero_or_pos i with h0 | h0
  ·have e0:decide ((0:Int) < (i:Int))=false:=decide_eq_false (by omega)
   have e00:decide ((i:Int)=0)=true:=decide_eq_true (by omega)
   have hp:(∀ w,0 < i→l[i - 1]? = some w→w.1 < v.1)=True:=propext (prev_none (l:=l) h0 (fun w=>w.1 < v.1))
   simp only [hp]
   simp only [lt_len,hi,decide_true,cond_true,idx_nat,hv,Option.bind_some,wrap64_nat hi',e0,cond_false,rOne_eq,rWithin_eq,hr]
   apply finS
   ·repeat' first | apply stR_true | apply stR_false | apply cs_step | apply cs_stepN | apply cs_stepB
   ·grind
  ·obtain⟨u,hu⟩:∃ u,l[i - 1]? = some u:=⟨_,List.getElem?_eq_getElem (show i - 1 < l.length by omega)⟩
   have e0:decide ((0:Int) < (i:Int))=true:=decide_eq_true (by omega)
   have e00:decide ((i:Int)=0)=false:=decide_eq_false (by omega)
   have hp:(∀ w,0 < i→l[i - 1]? = some w→w.1 < v.1)=(u.1 < v.1):=propext (prev_iff h0 hu (fun w=>w.1 < v.1))
   simp only [hp]
   simp only [lt_len,hi,decide_true,cond_true,idx_nat,hv,Option.bind_some,wrap64_nat hi',e0,prev_eq h0 hi',hu,rOne_eq,rWithin_eq,hr]
   apply finS
   ·repeat' first | apply stR_true | apply stR_false | apply cs_step | apply cs_stepN | apply cs_stepB
   ·grind
 ·simp
 ·unfold SessOk;exact and_iff_left trivial
def LeasesOk (l:List T113D):Prop:=(∀ (i:Nat) v,l[i]? = some v→Pos40 v.1∧1≤v.2.1∧v.2.1≤1000∧0≤v.2.2.1∧v.2.2.1≤1000∧∀ w,0 < i→l[i - 1]? = some w→w.1 < v.1)∧l.length≤64
theorem leases_eq (l:List T113D) (hl:Sh l):F181 (l,())=some (dec' (LeasesOk l),()):=by
 unfold F181
 refine fin (all_loop l hl (fun i v=>Pos40 v.1∧1≤v.2.1∧v.2.1≤1000∧0≤v.2.2.1∧v.2.2.1≤1000∧∀ w,0 < i→l[i - 1]? = some w→w.1 < v.1) (l.length≤64) (fun i v hi hv=> ?_) ?_) ?_
 ·have hi':i < 9223372036854775807:=by unfold Sh at hl;omega
  rcases Nat.eq_zero_or_pos i with h0 | h0
  ·have e0:decide ((0:Int) < (i:Int))=false:=decide_eq_false (by omega)
   have e00:decide ((i:Int)=0)=true:=decide_eq_true (by omega)
   have hp:(∀ w,0 < i→l[i - 1]? = some w→w.1 < v.1)=True:=propext (prev_none (l:=l) h0 (fun w=>w.1 < v.1))
   simp only [hp]
   simp only [lt_len,hi,decide_true,cond_true,idx_nat,hv,Option.bind_some,wrap64_nat hi',e0,cond_false,pos1,within_eq]
   apply finS
   ·repeat' first | apply stR_true | apply stR_false | apply cs_step | apply cs_stepN | apply cs_stepB
   ·grind
  ·obtain⟨u,hu⟩:∃ u,l[i - 1]? = some u:=⟨_,List.getElem?_eq_getElem (show i - 1 < l.length by omega)⟩
   have e0:decide ((0:Int) < (i:Int))=true:=decide_eq_true (by omega)
   have e00:decide ((i:Int)=0)=false:=decide_eq_false (by omega)
   have hp:(∀ w,0 < i→l[i - 1]? = some w→w.1 < v.1)=(u.1 < v.1):=propext (prev_iff h0 hu (fun w=>w.1 < v.1))
   simp only [hp]
   simp only [lt_len,hi,decide_true,cond_true,idx_nat,hv,Option.bind_some,wrap64_nat hi',e0,prev_eq h0 hi',hu,pos1,within_eq]
   apply finS
   ·repeat' first | apply stR_true | apply stR_false | apply cs_step | apply cs_stepN | apply cs_stepB
   ·grind
 ·simp only [lt_len,Nat.lt_irrefl,decide_false,cond_false]
  exact congrArg (fun z=>some (Sum.inr (z,()))) (dec_iff (by simp;omega)).symm
 ·exact Iff.rfl
theorem rLeases_eq (l:List T113D) (hl:Sh l):F131 (l,())=some (dec' (LeasesOk l),()):=by
 unfold F131
 refine fin (all_loop l hl (fun i v=>Pos40 v.1∧1≤v.2.1∧v.2.1≤1000∧0≤v.2.2.1∧v.2.2.1≤1000∧∀ w,0 < i→l[i - 1]? = some w→w.1 < v.1) (l.length≤64) (fun i v hi hv=> ?_) ?_) ?_
 ·have hi':i < 9223372036854775807:=by unfold Sh at hl;omega
  rcases Nat.eq_zero_or_pos i with h0 | h0
  ·have e0:decide ((0:Int) < (i:Int))=false:=decide_eq_false (by omega)
   have e00:decide ((i:Int)=0)=true:=decide_eq_true (by omega)
   have hp:(∀ w,0 < i→l[i - 1]? = some w→w.1 < v.1)=True:=propext (prev_none (l:=l) h0 (fun w=>w.1 < v.1))
   simp only [hp]
   simp only [lt_len,hi,decide_true,cond_true,idx_nat,hv,Option.bind_some,wrap64_nat hi',e0,cond_false,rOne_eq,rWithin_eq]
   apply finS
   ·repeat' first | apply stR_true | apply stR_false | apply cs_step | apply cs_stepN | apply cs_stepB
   ·grind
  ·obtain⟨u,hu⟩:∃ u,l[i - 1]? = some u:=⟨_,List.getElem?_eq_getElem (show i - 1 < l.length by omega)⟩
   have e0:decide ((0:Int) < (i:Int))=true:=decide_eq_true (by omega)
   have e00:decide ((i:Int)=0)=false:=decide_eq_false (by omega)
   have hp:(∀ w,0 < i→l[i - 1]? = some w→w.1 < v.1)=(u.1 < v.1):=propext (prev_iff h0 hu (fun w=>w.1 < v.1))
   simp only [hp]
   simp only [lt_len,hi,decide_true,cond_true,idx_nat,hv,Option.bind_some,wrap64_nat hi',e0,prev_eq h0 hi',hu,rOne_eq,rWithin_eq]
   apply finS
   ·repeat' first | apply stR_true | apply stR_false | apply cs_step | apply cs_stepN | apply cs_stepB
   ·grind
 ·simp only [lt_len,Nat.lt_irrefl,decide_false,cond_false]
  exact congrArg (fun z=>some (Sum.inr (z,()))) (dec_iff (by simp;omega)).symm
 ·exact Iff.rfl
def PageL (l:List T70D):Prop:=∀ (i:Nat) v,l[i]? = some v→IsKey v.1∧VerOk v.2.1∧v.2.1.2.2.2.2.2.2.1=false∧∀ w,0 < i→l[i - 1]? = some w→strlt w.1 v.1=true
def PageOk (c:T28D):Prop:=(c.2.1=[]∨IsKey c.2.1)∧(c.2.2.1=[]∨IsKey c.2.2.1)∧c.2.2.2.2.2.2.2.2.2.2.2.2.2.2.1.length≤8∧PageL c.2.2.2.2.2.2.2.2.2.2.2.2.2.2.1
theorem page_eq (c:T28D) (hl:Sh c.2.2.2.2.2.2.2.2.2.2.2.2.2.2.1):F173 (c,())=some (dec' (PageOk c),()):=by
 obtain⟨a1,k,en,a4,a5,a6,a7,a8,a9,a10,a11,a12,a13,a14,l,a16,a17,⟨⟩⟩:=c
 have hl:Sh l:=hl
 unfold F173
 simp only [key_eq,Option.bind_some]
 generalize hL:iterE (Int×Unit) (Bool×Unit) _ big (0,())=L
 have eL:L=some (dec' (PageL l),()):=by
  rw [←hL]
  refine fin (all_loop l hl (fun i v=>IsKey v.1∧VerOk v.2.1∧v.2.1.2.2.2.2.2.2.1=false∧∀ w,0 < i→l[i - 1]? = some w→strlt w.1 v.1=true) True (fun i v hi hv=> ?_) ?_) ?_
  ·have hi':i < 9223372036854775807:=by unfold Sh at hl;omega
   have hr:F149 v.2=_:=ver1 v.2.1
   rcases Nat.eq_zero_or_pos i with h0 | h0
   ·have e0:decide ((0:Int) < (i:Int))=false:=decide_eq_false (by omega)
    have e00:decide ((i:Int)=0)=true:=decide_eq_true (by omega)
    have hp:(∀ w,0 < i→l[i - 1]? = some w→strlt w.1 v.1=true)=True:=propext (prev_none (l:=l) h0 (fun w=>strlt w.1 v.1=true))
    simp only [hp]
    simp only [lt_len,hi,decide_true,cond_true,idx_nat,hv,Option.bind_some,wrap64_nat hi',e0,cond_false,hr]
    apply finS
    ·repeat' first | apply stR_true | apply stR_false | apply cs_step | apply cs_stepN | apply cs_stepB
    ·grind
   ·obtain⟨u,hu⟩:∃ u,l[i - 1]? = some u:=⟨_,List.getElem?_eq_getElem (show i - 1 < l.length by omega)⟩
    have e0:decide ((0:Int) < (i:Int))=true:=decide_eq_true (by omega)
    have e00:decide ((i:Int)=0)=false:=decide_eq_false (by omega)
    have hp:(∀ w,0 < i→l[i - 1]? = some w→strlt w.1 v.1=true)=(strlt u.1 v.1=true):=propext (prev_iff h0 hu (fun w=>strlt w.1 v.1=true))
    simp only [hp]
    simp only [lt_len,hi,decide_true,cond_true,idx_nat,hv,Option.bind_some,wrap64_nat hi',e0,prev_eq h0 hi',hu,hr]
    apply finS
    ·repeat' first | apply stR_true | apply stR_false | apply cs_step | apply cs_stepN | apply cs_stepB
    ·grind
  ·simp
  ·unfold PageL;exact and_iff_left trivial
 rw [eL]
 unfold PageOk
 have n1:decide ((8:Int) < Int.ofNat l.length) = !decide (l.length≤8):=by
  by_cases h:l.length≤8
  ·rw [decide_eq_true h];exact decide_eq_false (by simp;omega)
  ·rw [decide_eq_false h];exact decide_eq_true (by simp;omega)
 simp only [n1]
 by_cases h1:k=[] <;> by_cases h2:IsKey k <;> by_cases h3:en=[] <;> by_cases h4:IsKey en <;> by_cases h5:l.length≤8 <;> simp [h1,h2,h3,h4,h5]
def TailL (rev to:Int) (l:List T70D):Prop:=∀ (i:Nat) v,l[i]? = some v→IsKey v.1∧VerOk v.2.1∧rev < v.2.1.1∧v.2.1.1≤to∧∀ w,0 < i→l[i - 1]? = some w→w.2.1.1≤v.2.1.1∧(w.2.1.1=v.2.1.1→strlt w.1 v.1=true)
def TailOk (c:T28D):Prop:=Pos40 c.2.2.2.2.2.2.1∧Pos40 c.2.2.2.2.2.2.2.2.2.2.2.2.1∧c.2.2.2.2.2.2.1 < c.2.2.2.2.2.2.2.2.2.2.2.2.1∧c.2.2.2.2.2.2.2.2.2.2.2.2.2.2.1.length≤64∧TailL c.2.2.2.2.2.2.1 c.2.2.2.2.2.2.2.2.2.2.2.2.1 c.2.2.2.2.2.2.2.2.2.2.2.2.2.2.1
theorem tail_eq (c:T28D) (hl:Sh c.2.2.2.2.2.2.2.2.2.2.2.2.2.2.1):F174 (c,())=some (dec' (TailOk c),()):=by
 obtain⟨a1,k,en,a4,a5,a6,rev,a8,a9,a10,a11,a12,to,a14,l,a16,a17,⟨⟩⟩:=c
 have hl:Sh l:=hl
 unfold F174
 simp only [pos2,Option.bind_some]
 generalize hL:iterE (Int×Unit) (Bool×Unit) _ big (0,())=L
 have eL:L=some (dec' (TailL rev to l),()):=by
  rw [←hL]
  refine fin (all_loop l hl (fun i v=>IsKey v.1∧VerOk v.2.1∧rev < v.2.1.1∧v.2.1.1≤to∧∀ w,0 < i→l[i - 1]? = some w→w.2.1.1≤v.2.1.1∧(w.2.1.1=v.2.1.1→strlt w.1 v.1=true)) True (fun i v hi hv=> ?_) ?_) ?_
  ·have hi':i < 9223372036854775807:=by unfold Sh at hl;omega
   have hr:F149 v.2=_:=ver1 v.2.1
   rcases Nat.eq_zero_or_pos i with h0 | h0
   ·have e0:decide ((0:Int) < (i:Int))=false:=decide_eq_false (by omega)
    have e00:decide ((i:Int)=0)=true:=decide_eq_true (by omega)
    have hp:(∀ w,0 < i→l[i - 1]? = some w→w.2.1.1≤v.2.1.1∧(w.2.1.1=v.2.1.1→strlt w.1 v.1=true))=True:=propext (prev_none (l:=l) h0 (fun w=>w.2.1.1≤v.2.1.1∧(w.2.1.1=v.2.1.1→strlt w.1 v.1=true)))
    simp only [hp]
    simp only [lt_len,hi,decide_true,cond_true,idx_nat,hv,Option.bind_some,wrap64_nat hi',e00,key_eq,hr]
    apply finS
    ·repeat' first | apply stR_true | apply stR_false | apply cs_step | apply cs_stepN | apply cs_stepB
    ·grind
   ·obtain⟨u,hu⟩:∃ u,l[i - 1]? = some u:=⟨_,List.getElem?_eq_getElem (show i - 1 < l.length by omega)⟩
    have e0:decide ((0:Int) < (i:Int))=true:=decide_eq_true (by omega)
    have e00:decide ((i:Int)=0)=false:=decide_eq_false (by omega)
    have hp:(∀ w,0 < i→l[i - 1]? = some w→w.2.1.1≤v.2.1.1∧(w.2.1.1=v.2.1.1→strlt w.1 v.1=true))=(u.2.1.1≤v.2.1.1∧(u.2.1.1=v.2.1.1→strlt u.1 v.1=true)):=propext (prev_iff h0 hu (fun w=>w.2.1.1≤v.2.1.1∧(w.2.1.1=v.2.1.1→strlt w.1 v.1=true)))
    simp only [hp]
    simp only [lt_len,hi,decide_true,cond_true,idx_nat,hv,Option.bind_some,wrap64_nat hi',e00,cond_false,prev_eq h0 hi',hu,key_eq,hr]
    apply finS
    ·repeat' first | apply stR_true | apply stR_false | apply cs_step | apply cs_stepN | apply cs_stepB
    ·grind
  ·simp
  ·unfold TailL;exact and_iff_left trivial
 rw [eL]
 apply fin
 ·repeat' first | apply base_true | apply base_false | apply base_dec | apply cond_step | apply cond_stepN
 ·unfold TailOk;simp only [Int.ofNat_eq_natCast];grind
end Go.Proofs.YtpfjaaofpcbejaaGreat
