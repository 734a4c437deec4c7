/-
 Plain laws of what lies below,as this seat reaches them (by a program of the bench: port.py).
-/
import Derived.Test.YtpfjaaofpcbejaaGreatCmdLawE
import Derived.Test.YtpfjaaofpcbejaaGreatSxS
namespace Go.Proofs.YtpfjaaofpcbejaaGreat
open Go.Sx Go Classical
set_option maxRecDepth 10000
def SzItems (l:List T70D):Prop:=Sh l∧∀ x∈l,St x.1
theorem rPage_eq (c:T28D) (hz:SzItems c.2.2.2.2.2.2.2.2.2.2.2.2.2.2.1) (hk:St c.2.1) (he:St c.2.2.1):F165 (c,())=some (dec' (PageOk c),()):=by
 obtain⟨a1,k,en,a4,a5,a6,a7,a8,a9,a10,a11,a12,a13,a14,l,a16,a17,⟨⟩⟩:=c
 obtain⟨hl,hs⟩:Sh l∧∀ x∈l,St x.1:=hz
 have hk:St k:=hk
 have he:St en:=he
 unfold F165
 refine fin (all_loop l hl (fun i v=>IsKey v.1∧VerOk v.2.1∧v.2.1.2.2.2.2.2.2.1=false∧∀ w,0 < i→l[i - 1]? = some w→strlt w.1 v.1=true) ((k=[]∨IsKey k)∧(en=[]∨IsKey en)∧l.length≤8) (fun i v hi hv=> ?_) ?_) ?_
 ·have hi':i < 9223372036854775807:=by unfold Sh at hl;omega
  have hr:F128 v.2=_:=rVer_eq v.2.1
  have hk1:=refKey_eq v.1 (hs v (List.mem_of_getElem? hv))
  rcases Nat.eq_zero_or_pos i with h0 | h0
  ·have e0:decide ((0:Int) < (i:Int))=false:=decide_eq_false (by omega)
   have hp:(∀ w,0 < i→l[i - 1]? = some w→strlt w.1 v.1=true)=True:=propext (prev_none (l:=l) h0 (fun w=>strlt w.1 v.1=true))
   simp only [hp]
   simp only [lt_len,hi,decide_true,cond_true,idx_nat,hv,Option.bind_some,wrap64_nat hi',e0,cond_false,hr,hk1]
   apply finS
   ·repeat' first | apply stR_true | apply stR_false | apply cs_step | apply cs_stepN | apply cs_stepB
   ·grind
  ·obtain⟨u,hu⟩:∃ u,l[i - 1]? = some u:=⟨_,List.getElem?_eq_getElem (show i - 1 < l.length by omega)⟩
   have e0:decide ((0:Int) < (i:Int))=true:=decide_eq_true (by omega)
   have hp:(∀ w,0 < i→l[i - 1]? = some w→strlt w.1 v.1=true)=(strlt u.1 v.1=true):=propext (prev_iff h0 hu (fun w=>strlt w.1 v.1=true))
   simp only [hp]
   simp only [lt_len,hi,decide_true,cond_true,idx_nat,hv,Option.bind_some,wrap64_nat hi',e0,prev_eq h0 hi',hu,hr,hk1]
   apply finS
   ·repeat' first | apply stR_true | apply stR_false | apply cs_step | apply cs_stepN | apply cs_stepB
   ·grind
 ·simp only [lt_len,Nat.lt_irrefl,decide_false,cond_false,refKey_eq k hk,refKey_eq en he,Option.bind_some]
  refine (congrArg (Option.map Sum.inr) (?_:_=some (dec' ((k=[]∨IsKey k)∧(en=[]∨IsKey en)∧l.length≤8),()))).trans rfl
  apply fin
  ·repeat' first | apply base_true | apply base_false | apply base_dec | apply cond_step | apply cond_stepN
  ·simp only [Int.ofNat_eq_natCast]
   by_cases c1:k=[] <;> by_cases c2:en=[] <;> grind
 ·unfold PageOk PageL;grind
theorem rTail_eq (c:T28D) (hz:SzItems c.2.2.2.2.2.2.2.2.2.2.2.2.2.2.1):F166 (c,())=some (dec' (TailOk c),()):=by
 obtain⟨a1,k,en,a4,a5,a6,rev,a8,a9,a10,a11,a12,to,a14,l,a16,a17,⟨⟩⟩:=c
 obtain⟨hl,hs⟩:Sh l∧∀ x∈l,St x.1:=hz
 unfold F166
 refine fin (all_loop l hl (fun i v=>IsKey v.1∧VerOk v.2.1∧rev < v.2.1.1∧v.2.1.1≤to∧∀ w,0 < i→l[i - 1]? = some w→w.2.1.1≤v.2.1.1∧(w.2.1.1=v.2.1.1→strlt w.1 v.1=true)) (Pos40 rev∧Pos40 to∧rev < to∧l.length≤64) (fun i v hi hv=> ?_) ?_) ?_
 ·have hi':i < 9223372036854775807:=by unfold Sh at hl;omega
  have hr:F128 v.2=_:=rVer_eq v.2.1
  have hk1:=refKey_eq v.1 (hs v (List.mem_of_getElem? hv))
  rcases Nat.eq_zero_or_pos i with h0 | h0
  ·have e0:decide ((0:Int) < (i:Int))=false:=decide_eq_false (by omega)
   have hp:(∀ w,0 < i→l[i - 1]? = some w→w.2.1.1≤v.2.1.1∧(w.2.1.1=v.2.1.1→strlt w.1 v.1=true))=True:=propext (prev_none (l:=l) h0 (fun w=>w.2.1.1≤v.2.1.1∧(w.2.1.1=v.2.1.1→strlt w.1 v.1=true)))
   simp only [hp]
   simp only [lt_len,hi,decide_true,cond_true,idx_nat,hv,Option.bind_some,wrap64_nat hi',e0,cond_false,hr,hk1]
   apply finS
   ·repeat' first | apply stR_true | apply stR_false | apply cs_step | apply cs_stepN | apply cs_stepB
   ·grind
  ·obtain⟨u,hu⟩:∃ u,l[i - 1]? = some u:=⟨_,List.getElem?_eq_getElem (show i - 1 < l.length by omega)⟩
   have e0:decide ((0:Int) < (i:Int))=true:=decide_eq_true (by omega)
   have hp:(∀ w,0 < i→l[i - 1]? = some w→w.2.1.1≤v.2.1.1∧(w.2.1.1=v.2.1.1→strlt w.1 v.1=true))=(u.2.1.1≤v.2.1.1∧(u.2.1.1=v.2.1.1→strlt u.1 v.1=true)):=propext (prev_iff h0 hu (fun w=>w.2.1.1≤v.2.1.1∧(w.2.1.1=v.2.1.1→strlt w.1 v.1=true)))
   simp only [hp]
   simp only [lt_len,hi,decide_true,cond_true,idx_nat,hv,Option.bind_some,wrap64_nat hi',e0,prev_eq h0 hi',hu,hr,hk1]
   apply finS
   ·repeat' first | apply stR_true | apply stR_false | apply cs_step | apply cs_stepN | apply cs_stepB
   ·grind
 ·simp only [lt_len,Nat.lt_irrefl,decide_false,cond_false,rOne_eq,Option.bind_some]
  refine (congrArg (Option.map Sum.inr) (?_:_=some (dec' (Pos40 rev∧Pos40 to∧rev < to∧l.length≤64),()))).trans rfl
  apply fin
  ·repeat' first | apply base_true | apply base_false | apply base_dec | apply cond_step | apply cond_stepN
  ·simp only [Int.ofNat_eq_natCast];grind
 ·unfold TailOk TailL;grind
theorem handed_eq (s:List T94D) (l:List T113D) (hs:ShS s) (hl:Sh l):F152 (s,l,())=some (dec' (SessOk s 15∧LeasesOk l),()):=by
 unfold F152
 simp only [sess_eq s 15 hs,leases_eq l hl,Option.bind_some]
 apply fin
 ·repeat' first | apply base_true | apply base_false | apply base_dec | apply cond_step | apply cond_stepN
 ·grind
def KindOk (c:T28D):Prop:=
 (c.1=1∧IsKey c.2.1∧c.2.2.2.1.length≤40∧Nat40 c.2.2.2.2.1)∨(c.1=2∧IsRange c.2.1 c.2.2.1)∨(c.1=3∧CmpsOk c.2.2.2.2.2.2.2.1∧OpsOk c.2.2.2.2.2.2.2.2.1∧OpsOk c.2.2.2.2.2.2.2.2.2.1)∨
 (c.1=4∧Pos40 c.2.2.2.2.2.2.1)∨(c.1=5∧Pos40 c.2.2.2.2.1∧1≤c.2.2.2.2.2.1∧c.2.2.2.2.2.1≤1000)∨((c.1=6∨c.1=7)∧Pos40 c.2.2.2.2.1)∨c.1=8∨(c.1=9∧c.2.2.2.2.1≠0∧ -1099511627776≤c.2.2.2.2.1∧c.2.2.2.2.1≤1099511627776)∨
 (Pos40 c.2.2.2.2.2.2.2.2.2.2.1∧((c.1=10∧IsPre c.2.1)∨c.1=11∨c.1=16∨(Pos40 c.2.2.2.2.2.2.2.2.2.2.2.1∧((c.1=12∧Pos40 c.2.2.2.2.2.2.1∧IsPre c.2.1∧IsPre c.2.2.1)∨(c.1=13∧PageOk c)∨(c.1=14∧TailOk c)∨
  (c.1=15∧Pos40 c.2.2.2.2.2.2.1∧SessOk c.2.2.2.2.2.2.2.2.2.2.2.2.2.2.2.1 15∧LeasesOk c.2.2.2.2.2.2.2.2.2.2.2.2.2.2.2.2.1)))))
def RightC (c:T28D):Prop:=BareOk True c∧KindOk c
theorem txn_eq (c:T28D) (hc:ShC c):F187 (c,())=some (dec' (CmpsOk c.2.2.2.2.2.2.2.1∧OpsOk c.2.2.2.2.2.2.2.2.1∧OpsOk c.2.2.2.2.2.2.2.2.2.1),()):=by
 obtain⟨h8,h9,h10,h15,h16,h17⟩:=hc
 unfold F187
 simp only [anyCmps_eq _ h8,ops_eq _ h9,ops_eq _ h10,Option.bind_some,Bool.not_not]
 apply fin
 ·repeat' first | apply base_true | apply base_false | apply base_dec | apply cond_step | apply cond_stepN
 ·unfold CmpsOk;simp only [Int.ofNat_eq_natCast];grind
theorem client_eq (c:T28D) (hc:ShC c) (h10:c.1 < 10):F172 (c,())=some (dec' (KindOk c),()):=by
 have ht:=txn_eq c hc
 obtain⟨k,a2,a3,a4,a5,a6,a7,a8,a9,a10,a11,a12,a13,a14,a15,a16,a17,⟨⟩⟩:=c
 unfold F172
 simp only [put_eq,range_eq,ht,pos1,within_eq,Option.bind_some]
 simp only at h10
 rcases kinds k with h | h | h | h | h | h | h | h | h | h | h | h | h | h | h | h | h
 iterate 9
  ·subst h
   simp only [Int.reduceEq,decide_true,decide_false,cond_true,cond_false]
   apply fin
   ·repeat' first | apply base_true | apply base_false | apply base_dec | apply cond_step | apply cond_stepN
   ·simp only [KindOk,Int.reduceEq,false_and,true_and,false_or,or_false,and_false,or_self]
    try grind
 iterate 7
  ·exact absurd h10 (by omega)
 ·have f:∀ n:Int,1≤n→n≤16→(k=n)=False:=fun n h1 h2=>eq_false (by omega)
  simp only [f 1 (by omega) (by omega),f 2 (by omega) (by omega),f 3 (by omega) (by omega),f 4 (by omega) (by omega),f 5 (by omega) (by omega),f 6 (by omega) (by omega),f 7 (by omega) (by omega),f 8 (by omega) (by omega),f 9 (by omega) (by omega),f 10 (by omega) (by omega),f 11 (by omega) (by omega),f 12 (by omega) (by omega),f 13 (by omega) (by omega),f 14 (by omega) (by omega),f 15 (by omega) (by omega),f 16 (by omega) (by omega),KindOk,decide_false,cond_false,false_and,or_self,and_false]
theorem right_eq (c:T28D) (hc:ShC c):F143 (c,())=some (dec' (RightC c),()):=by
 obtain⟨b,hb,hsb,hiff⟩:=keep_eq c hc
 have hS:F92 (b,c,())=some (dec' (BareOk (c.1≤16) c),()):=fin (cmd_same b c hsb) hiff
 clear hiff hsb
 have hcl:=client_eq c hc
 have hpg:=page_eq c hc.2.2.2.1
 have htl:=tail_eq c hc.2.2.2.1
 have hhd:=handed_eq c.2.2.2.2.2.2.2.2.2.2.2.2.2.2.2.1 c.2.2.2.2.2.2.2.2.2.2.2.2.2.2.2.2.1 hc.2.2.2.2.1 hc.2.2.2.2.2
 obtain⟨k,a2,a3,a4,a5,a6,a7,a8,a9,a10,a11,a12,a13,a14,a15,a16,a17,⟨⟩⟩:=c
 simp only at hcl hhd
 unfold F143
 simp only [hb,hS,pos1,pos2,pre_eq,hpg,htl,hhd,Option.bind_some]
 clear hb hS
 unfold RightC
 rcases kinds k with h | h | h | h | h | h | h | h | h | h | h | h | h | h | h | h | h
 iterate 9
  ·subst h
   rw [hcl (by omega)]
   simp only [Int.reduceEq,Int.reduceLT,Int.reduceLE,decide_true,decide_false,cond_true,cond_false,Option.bind_some]
   apply fin
   ·repeat' first | apply base_true | apply base_false | apply base_dec | apply cond_step | apply cond_stepN
   ·grind
 iterate 7
  ·subst h
   simp only [Int.reduceEq,Int.reduceLT,Int.reduceLE,decide_true,decide_false,cond_true,cond_false]
   apply fin
   ·repeat' first | apply base_true | apply base_false | apply base_dec | apply cond_step | apply cond_stepN
   ·simp only [KindOk,Int.reduceEq,false_and,true_and,false_or,or_false,and_false,or_self,ne_eq]
    grind
 ·have f:∀ n:Int,1≤n→n≤16→(k=n)=False:=fun n h1 h2=>eq_false (by omega)
  have hK:KindOk (k,a2,a3,a4,a5,a6,a7,a8,a9,a10,a11,a12,a13,a14,a15,a16,a17,())=False:=by
   simp only [f 1 (by omega) (by omega),f 2 (by omega) (by omega),f 3 (by omega) (by omega),f 4 (by omega) (by omega),f 5 (by omega) (by omega),f 6 (by omega) (by omega),f 7 (by omega) (by omega),f 8 (by omega) (by omega),f 9 (by omega) (by omega),f 10 (by omega) (by omega),f 11 (by omega) (by omega),f 12 (by omega) (by omega),f 13 (by omega) (by omega),f 14 (by omega) (by omega),f 15 (by omega) (by omega),f 16 (by omega) (by omega),KindOk,false_and,or_self,and_false]
  rw [hK] at hcl ⊢
  by_cases h9:k < 10
  ·rw [hcl h9]
   simp only [h9,decide_true,cond_true]
   apply fin
   ·repeat' first | apply base_true | apply base_false | apply base_dec | apply cond_step | apply cond_stepN
   ·grind
  ·simp only [h9,decide_false,cond_false,f 10 (by omega) (by omega),f 11 (by omega) (by omega),f 12 (by omega) (by omega),f 13 (by omega) (by omega),f 14 (by omega) (by omega),f 15 (by omega) (by omega),f 16 (by omega) (by omega)]
   apply fin
   ·repeat' first | apply base_true | apply base_false | apply base_dec | apply cond_step | apply cond_stepN
   ·grind
def SzCmd (c:T28D):Prop:=ShC c∧LnC c∧St c.2.1∧St c.2.2.1∧(∀ x∈c.2.2.2.2.2.2.2.1,St x.1)∧(∀ o∈c.2.2.2.2.2.2.2.2.1,SzOp o)∧(∀ o∈c.2.2.2.2.2.2.2.2.2.1,SzOp o)∧SzItems c.2.2.2.2.2.2.2.2.2.2.2.2.2.2.1∧SzSess c.2.2.2.2.2.2.2.2.2.2.2.2.2.2.2.1
theorem bind_cond {A B:Type} (b:Bool) (X Y:Option A) (f:A→Option B):Option.bind (bif b then X else Y) f=bif b then Option.bind X f else Option.bind Y f:=by cases b <;> rfl
theorem rRight_eq (c:T28D) (hc:SzCmd c):F125 (c,())=some (dec' (RightC c),()):=by
 obtain⟨h1,h2,h3,h4,h5,h6,h7,h8,h9⟩:=hc
 have hb:=bare_eq c h2
 have hpg:=rPage_eq c h8 h3 h4
 have htl:=rTail_eq c h8
 have hcm:=rCmps_eq _ h1.1 h5
 have ho1:=rOps_eq _ h1.2.1 h6
 have ho2:=rOps_eq _ h1.2.2.1 h7
 have hse:=rSess_eq _ 15 h9
 have hle:=rLeases_eq _ h1.2.2.2.2.2
 have hk:=refKey_eq c.2.1 h3
 have hr:=refRange_eq c.2.1 c.2.2.1 h3 h4
 have hp1:=rPre_eq c.2.1 h3
 have hp2:=rPre_eq c.2.2.1 h4
 obtain⟨k,a2,a3,a4,a5,a6,a7,a8,a9,a10,a11,a12,a13,a14,a15,a16,a17,⟨⟩⟩:=c
 simp only at hcm ho1 ho2 hse hle hk hr hp1 hp2
 unfold F125
 simp only [hb,rOne_eq,rNatural_eq,rWithin_eq,hpg,htl,hcm,ho1,ho2,hse,hle,hk,hr,hp1,hp2,Option.bind_some]
 unfold RightC
 by_cases hB:BareOk True (k,a2,a3,a4,a5,a6,a7,a8,a9,a10,a11,a12,a13,a14,a15,a16,a17,())
 ·simp only [hB,true_and,dec_true trivial,Bool.not_true,cond_false]
  by_cases hE:Pos40 a11 <;> by_cases hT:Pos40 a12
  all_goals
   rcases kinds k with h | h | h | h | h | h | h | h | h | h | h | h | h | h | h | h | h
   iterate 16
    ·subst h
     simp only [hE,hT,bind_cond,Int.reduceEq,Int.reduceLE,decide_true,decide_false,cond_true,cond_false,Bool.not_true,Bool.not_false,Option.bind_some,Sum.elim_inl,Sum.elim_inr]
     try
      apply fin
      ·repeat' first | apply base_true | apply base_false | apply base_dec | apply cond_step | apply cond_stepN
      ·simp only [KindOk,Int.reduceEq,false_and,true_and,false_or,or_false,and_false,or_self,ne_eq,hE,hT]
       try grind
   ·have f:∀ n:Int,1≤n→n≤16→(k=n)=False:=fun n h1 h2=>eq_false (by omega)
    have hK:KindOk (k,a2,a3,a4,a5,a6,a7,a8,a9,a10,a11,a12,a13,a14,a15,a16,a17,())=False:=by
     simp only [f 1 (by omega) (by omega),f 2 (by omega) (by omega),f 3 (by omega) (by omega),f 4 (by omega) (by omega),f 5 (by omega) (by omega),f 6 (by omega) (by omega),f 7 (by omega) (by omega),f 8 (by omega) (by omega),f 9 (by omega) (by omega),f 10 (by omega) (by omega),f 11 (by omega) (by omega),f 12 (by omega) (by omega),f 13 (by omega) (by omega),f 14 (by omega) (by omega),f 15 (by omega) (by omega),f 16 (by omega) (by omega),KindOk,false_and,or_self,and_false]
    rw [hK]
    simp only [hE,hT,bind_cond,f 1 (by omega) (by omega),f 2 (by omega) (by omega),f 3 (by omega) (by omega),f 4 (by omega) (by omega),f 5 (by omega) (by omega),f 6 (by omega) (by omega),f 7 (by omega) (by omega),f 8 (by omega) (by omega),f 9 (by omega) (by omega),f 10 (by omega) (by omega),f 11 (by omega) (by omega),f 12 (by omega) (by omega),f 13 (by omega) (by omega),f 14 (by omega) (by omega),f 15 (by omega) (by omega),f 16 (by omega) (by omega),decide_true,decide_false,cond_true,cond_false,Bool.not_true,Bool.not_false,Option.bind_some,Sum.elim_inl,Sum.elim_inr]
    cases decide (10≤k) <;> cases decide (12≤k) <;> cases decide (k≤15) <;> rfl
 ·simp only [hB,false_and]
  rw [dec_false (p:=False) id]
  simp only [Bool.not_false,cond_true,Option.bind_some,Sum.elim_inr]
def JobOk (j:T33D):Prop:=RightC j.2.2.1∧((j.1=0∧j.2.1=0∧8≤j.2.2.1.1)∨(1≤j.1∧j.1≤31∧Pos40 j.2.1∧j.2.2.1.1 < 8))
theorem job_eq (j:T33D) (hj:ShC j.2.2.1):F102 (j,())=some (dec' (JobOk j),()):=by
 obtain⟨cl,sq,c,⟨⟩⟩:=j
 have hr:=right_eq c hj
 unfold F102
 simp only [hr,within_eq,pos1,Option.bind_some]
 apply fin
 ·repeat' first | apply base_true | apply base_false | apply base_dec | apply cond_step | apply cond_stepN
 ·unfold JobOk;grind
theorem rJob_eq (j:T33D) (hj:SzCmd j.2.2.1):F81 (j,())=some (dec' (JobOk j),()):=by
 obtain⟨cl,sq,c,⟨⟩⟩:=j
 have hr:=rRight_eq c hj
 unfold F81
 simp only [hr,rWithin_eq,rOne_eq,Option.bind_some]
 apply fin
 ·repeat' first | apply base_true | apply base_false | apply base_dec | apply cond_step | apply cond_stepN
 ·unfold JobOk;grind
def MoveOk (m:T53D):Prop:=0≤m.1∧m.1≤4∧Nat40 m.2.1∧Nat40 m.2.2.1∧(m.2.2.2.1=[]∨IsPre m.2.2.2.1)∧(m.2.2.2.2.1=[]∨IsPre m.2.2.2.2.1)∧Nat40 m.2.2.2.2.2.1∧(m.2.2.2.2.2.2.1=[]∨IsKey m.2.2.2.2.2.2.1)∧Nat40 m.2.2.2.2.2.2.2.1∧Nat40 m.2.2.2.2.2.2.2.2.1∧Nat40 m.2.2.2.2.2.2.2.2.2.1
def SzMove (m:T53D):Prop:=St m.2.2.2.1∧St m.2.2.2.2.1∧St m.2.2.2.2.2.2.1
theorem move1_eq (s:List UInt8):F153a (s,())=some (dec' (s=[]∨IsPre s),()):=by
 unfold F153a
 simp only [pre_eq,Option.bind_some]
 apply fin
 ·repeat' first | apply base_true | apply base_false | apply base_dec | apply cond_step | apply cond_stepN
 ·grind
theorem move2_eq (s:List UInt8):F153b (s,())=some (dec' (s=[]∨IsKey s),()):=by
 unfold F153b
 simp only [key_eq,Option.bind_some]
 apply fin
 ·repeat' first | apply base_true | apply base_false | apply base_dec | apply cond_step | apply cond_stepN
 ·grind
theorem move_eq (m:T53D):F109 (m,())=some (dec' (MoveOk m),()):=by
 obtain⟨a1,a2,a3,a4,a5,a6,a7,a8,a9,a10,⟨⟩⟩:=m
 unfold F109
 simp only [nat6,move1_eq,move2_eq,Option.bind_some]
 apply fin
 ·repeat' first | apply base_true | apply base_false | apply base_dec | apply cond_step | apply cond_stepN
 ·unfold MoveOk;grind
theorem rMove_eq (m:T53D) (hm:SzMove m):F88 (m,())=some (dec' (MoveOk m),()):=by
 obtain⟨a1,a2,a3,a4,a5,a6,a7,a8,a9,a10,⟨⟩⟩:=m
 obtain⟨h4,h5,h7⟩:=hm
 unfold F88
 simp only [rWithin_eq,rNatural_eq,rPre_eq a4 h4,rPre_eq a5 h5,refKey_eq a7 h7,Option.bind_some]
 apply fin
 ·repeat' first | apply base_true | apply base_false | apply base_dec | apply cond_step | apply cond_stepN
 ·unfold MoveOk
  by_cases c1:a4=[] <;> by_cases c2:a5=[] <;> by_cases c3:a7=[] <;> grind
def HandOk (h:T55D):Prop:=Pos40 h.1∧Nat40 h.2.1∧SessOk h.2.2.1 15∧LeasesOk h.2.2.2.1
def SzHand (h:T55D):Prop:=SzSess h.2.2.1∧Sh h.2.2.2.1
theorem hand_eq (h:T55D) (hh:ShH h):F108 (h,())=some (dec' (HandOk h),()):=by
 obtain⟨a1,a2,a3,a4,⟨⟩⟩:=h
 have e:=handed_eq a3 a4 hh.1 hh.2
 unfold F108
 simp only [pos1,nat1,e,Option.bind_some]
 apply fin
 ·repeat' first | apply base_true | apply base_false | apply base_dec | apply cond_step | apply cond_stepN
 ·unfold HandOk;grind
theorem rHand_eq (h:T55D) (hh:SzHand h):F87 (h,())=some (dec' (HandOk h),()):=by
 obtain⟨a1,a2,a3,a4,⟨⟩⟩:=h
 have e1:=rSess_eq a3 15 hh.1
 have e2:=rLeases_eq a4 hh.2
 unfold F87
 simp only [rOne_eq,rNatural_eq,e1,e2,Option.bind_some]
 apply fin
 ·repeat' first | apply base_true | apply base_false | apply base_dec | apply cond_step | apply cond_stepN
 ·unfold HandOk;grind
end Go.Proofs.YtpfjaaofpcbejaaGreat
