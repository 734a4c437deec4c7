/-
 Plain laws of what lies below,as this seat reaches them (by a program of the bench: port.py).
-/
import Derived.Test.YtpfjaaofpcbejaaGreatCmdLawE
import Derived.Test.YtpfjaaofpcbejaaGreatSxS
namespace Go.Proofs.YtpfjaaofpcbejaaGreat
open Go.Sx Go Classical
set_option maxRecDepth 10000
def zbi (l:List T70D):Prop:=Sh l∧∀ x∈l,St x.1
theorem zsU (c:T28D) (hz:zbi c.2.2.2.2.2.2.2.2.2.2.2.2.2.2.1) (hk:St c.2.1) (he:St c.2.2.1):F165 (c,())=some (dec' (zkb c),()):=by
 obtain⟨a1,k,en,a4,a5,a6,a7,a8,a9,a10,a11,a12,a13,a14,l,a16,a17,⟨⟩⟩:=c
 obtain⟨hl,hs⟩:Sh l∧∀ x∈l,St x.1:=hz
 have hk:St k:=hk
 have he:St en:=he
 unfold F165
 refine fin (zbu l hl (fun i v=>IsKey v.1∧zck v.2.1∧v.2.1.2.2.2.2.2.2.1=false∧∀ w,0 < i→l[i - 1]? = some w→zaY w.1 v.1=true) ((k=[]∨IsKey k)∧(en=[]∨IsKey en)∧l.length≤8) (fun i v hi hv=> ?_) ?_) ?_
 ·have hi':i < 9223372036854775807:=by unfold Sh at hl;omega
  have hr:F128 v.2=_:=zic v.2.1
  have hk1:=zbe v.1 (hs v (List.mem_of_getElem? hv))
  rcases Nat.eq_zero_or_pos i with h0 | h0
  ·have e0:decide ((0:Int) < (i:Int))=false:=decide_eq_false (by omega)
   have hp:(∀ w,0 < i→l[i - 1]? = some w→zaY w.1 v.1=true)=True:=propext (zbK (l:=l) h0 (fun w=>zaY w.1 v.1=true))
   simp only [hp]
   simp only [zao,hi,decide_true,cond_true,zan,hv,Option.bind_some,zak hi',e0,cond_false,hr,hk1]
   apply finS
   ·repeat' first | apply za0 | apply zaQ | apply zba | apply za1 | apply za2
   ·grind
  ·obtain⟨u,hu⟩:∃ u,l[i - 1]? = some u:=⟨_,List.getElem?_eq_getElem (show i - 1 < l.length by omega)⟩
   have e0:decide ((0:Int) < (i:Int))=true:=decide_eq_true (by omega)
   have hp:(∀ w,0 < i→l[i - 1]? = some w→zaY w.1 v.1=true)=(zaY u.1 v.1=true):=propext (zcf h0 hu (fun w=>zaY w.1 v.1=true))
   simp only [hp]
   simp only [zao,hi,decide_true,cond_true,zan,hv,Option.bind_some,zak hi',e0,zc0 h0 hi',hu,hr,hk1]
   apply finS
   ·repeat' first | apply za0 | apply zaQ | apply zba | apply za1 | apply za2
   ·grind
 ·simp only [zao,Nat.lt_irrefl,decide_false,cond_false,zbe k hk,zbe en he,Option.bind_some]
  refine (congrArg (Option.map Sum.inr) (?_:_=some (dec' ((k=[]∨IsKey k)∧(en=[]∨IsKey en)∧l.length≤8),()))).trans rfl
  apply fin
  ·repeat' first | apply zaw | apply zam | apply zaB | apply zav | apply zaG
  ·simp only [Int.ofNat_eq_natCast]
   by_cases c1:k=[] <;> by_cases c2:en=[] <;> grind
 ·unfold zkb zt2;grind
theorem zsS (c:T28D) (hz:zbi c.2.2.2.2.2.2.2.2.2.2.2.2.2.2.1):F166 (c,())=some (dec' (zj7 c),()):=by
 obtain⟨a1,k,en,a4,a5,a6,rev,a8,a9,a10,a11,a12,to,a14,l,a16,a17,⟨⟩⟩:=c
 obtain⟨hl,hs⟩:Sh l∧∀ x∈l,St x.1:=hz
 unfold F166
 refine fin (zbu l hl (fun i v=>IsKey v.1∧zck v.2.1∧rev < v.2.1.1∧v.2.1.1≤to∧∀ w,0 < i→l[i - 1]? = some w→w.2.1.1≤v.2.1.1∧(w.2.1.1=v.2.1.1→zaY w.1 v.1=true)) (za7 rev∧za7 to∧rev < to∧l.length≤64) (fun i v hi hv=> ?_) ?_) ?_
 ·have hi':i < 9223372036854775807:=by unfold Sh at hl;omega
  have hr:F128 v.2=_:=zic v.2.1
  have hk1:=zbe v.1 (hs v (List.mem_of_getElem? hv))
  rcases Nat.eq_zero_or_pos i with h0 | h0
  ·have e0:decide ((0:Int) < (i:Int))=false:=decide_eq_false (by omega)
   have hp:(∀ w,0 < i→l[i - 1]? = some w→w.2.1.1≤v.2.1.1∧(w.2.1.1=v.2.1.1→zaY w.1 v.1=true))=True:=propext (zbK (l:=l) h0 (fun w=>w.2.1.1≤v.2.1.1∧(w.2.1.1=v.2.1.1→zaY w.1 v.1=true)))
   simp only [hp]
   simp only [zao,hi,decide_true,cond_true,zan,hv,Option.bind_some,zak hi',e0,cond_false,hr,hk1]
   apply finS
   ·repeat' first | apply za0 | apply zaQ | apply zba | apply za1 | apply za2
   ·grind
  ·obtain⟨u,hu⟩:∃ u,l[i - 1]? = some u:=⟨_,List.getElem?_eq_getElem (show i - 1 < l.length by omega)⟩
   have e0:decide ((0:Int) < (i:Int))=true:=decide_eq_true (by omega)
   have hp:(∀ w,0 < i→l[i - 1]? = some w→w.2.1.1≤v.2.1.1∧(w.2.1.1=v.2.1.1→zaY w.1 v.1=true))=(u.2.1.1≤v.2.1.1∧(u.2.1.1=v.2.1.1→zaY u.1 v.1=true)):=propext (zcf h0 hu (fun w=>w.2.1.1≤v.2.1.1∧(w.2.1.1=v.2.1.1→zaY w.1 v.1=true)))
   simp only [hp]
   simp only [zao,hi,decide_true,cond_true,zan,hv,Option.bind_some,zak hi',e0,zc0 h0 hi',hu,hr,hk1]
   apply finS
   ·repeat' first | apply za0 | apply zaQ | apply zba | apply za1 | apply za2
   ·grind
 ·simp only [zao,Nat.lt_irrefl,decide_false,cond_false,zdT,Option.bind_some]
  refine (congrArg (Option.map Sum.inr) (?_:_=some (dec' (za7 rev∧za7 to∧rev < to∧l.length≤64),()))).trans rfl
  apply fin
  ·repeat' first | apply zaw | apply zam | apply zaB | apply zav | apply zaG
  ·simp only [Int.ofNat_eq_natCast];grind
 ·unfold zj7 zt0;grind
theorem zjD (s:List T94D) (l:List zai) (hs:ShS s) (hl:Sh l):F152 (s,l,())=some (dec' (ze4 s 15∧zec l),()):=by
 unfold F152
 simp only [zuQ s 15 hs,zpV l hl,Option.bind_some]
 apply fin
 ·repeat' first | apply zaw | apply zam | apply zaB | apply zav | apply zaG
 ·grind
def zcJ (c:T28D):Prop:=
 (c.1=1∧IsKey c.2.1∧c.2.2.2.1.length≤40∧zbz c.2.2.2.2.1)∨(c.1=2∧zb4 c.2.1 c.2.2.1)∨(c.1=3∧zh0 c.2.2.2.2.2.2.2.1∧zg5 c.2.2.2.2.2.2.2.2.1∧zg5 c.2.2.2.2.2.2.2.2.2.1)∨
 (c.1=4∧za7 c.2.2.2.2.2.2.1)∨(c.1=5∧za7 c.2.2.2.2.1∧1≤c.2.2.2.2.2.1∧c.2.2.2.2.2.1≤1000)∨((c.1=6∨c.1=7)∧za7 c.2.2.2.2.1)∨c.1=8∨(c.1=9∧c.2.2.2.2.1≠0∧ -1099511627776≤c.2.2.2.2.1∧c.2.2.2.2.1≤1099511627776)∨
 (za7 c.2.2.2.2.2.2.2.2.2.2.1∧((c.1=10∧zg6 c.2.1)∨c.1=11∨c.1=16∨(za7 c.2.2.2.2.2.2.2.2.2.2.2.1∧((c.1=12∧za7 c.2.2.2.2.2.2.1∧zg6 c.2.1∧zg6 c.2.2.1)∨(c.1=13∧zkb c)∨(c.1=14∧zj7 c)∨
  (c.1=15∧za7 c.2.2.2.2.2.2.1∧ze4 c.2.2.2.2.2.2.2.2.2.2.2.2.2.2.2.1 15∧zec c.2.2.2.2.2.2.2.2.2.2.2.2.2.2.2.2.1)))))
def ze7 (c:T28D):Prop:=zfI True c∧zcJ c
theorem zwg (c:T28D) (hc:ShC c):F187 (c,())=some (dec' (zh0 c.2.2.2.2.2.2.2.1∧zg5 c.2.2.2.2.2.2.2.2.1∧zg5 c.2.2.2.2.2.2.2.2.2.1),()):=by
 obtain⟨h8,h9,h10,h15,h16,h17⟩:=hc
 unfold F187
 simp only [znd _ h8,zum _ h9,zum _ h10,Option.bind_some,Bool.not_not]
 apply fin
 ·repeat' first | apply zaw | apply zam | apply zaB | apply zav | apply zaG
 ·unfold zh0;simp only [Int.ofNat_eq_natCast];grind
theorem zqr (c:T28D) (hc:ShC c) (h10:c.1 < 10):F172 (c,())=some (dec' (zcJ c),()):=by
 have ht:=zwg c hc
 obtain⟨k,a2,a3,a4,a5,a6,a7,a8,a9,a10,a11,a12,a13,a14,a15,a16,a17,⟨⟩⟩:=c
 unfold F172
 simp only [put_eq,zfP,ht,pos1,zbv,Option.bind_some]
 simp only at h10
 rcases kinds k with h | h | h | h | h | h | h | h | h | h | h | h | h | h | h | h | h
 iterate 9
  ·subst h
   simp only [Int.reduceEq,decide_true,decide_false,cond_true,cond_false]
   apply fin
   ·repeat' first | apply zaw | apply zam | apply zaB | apply zav | apply zaG
   ·simp only [zcJ,Int.reduceEq,false_and,true_and,false_or,or_false,and_false,or_self]
    try grind
 iterate 7
  ·exact absurd h10 (by omega)
 ·have f:∀ n:Int,1≤n→n≤16→(k=n)=False:=fun n h1 h2=>eq_false (by omega)
  simp only [f 1 (by omega) (by omega),f 2 (by omega) (by omega),f 3 (by omega) (by omega),f 4 (by omega) (by omega),f 5 (by omega) (by omega),f 6 (by omega) (by omega),f 7 (by omega) (by omega),f 8 (by omega) (by omega),f 9 (by omega) (by omega),f 10 (by omega) (by omega),f 11 (by omega) (by omega),f 12 (by omega) (by omega),f 13 (by omega) (by omega),f 14 (by omega) (by omega),f 15 (by omega) (by omega),f 16 (by omega) (by omega),zcJ,decide_false,cond_false,false_and,or_self,and_false]
theorem right_eq (c:T28D) (hc:ShC c):F143 (c,())=some (dec' (ze7 c),()):=by
 obtain⟨b,hb,hsb,hiff⟩:=zvr c hc
 have hS:F92 (b,c,())=some (dec' (zfI (c.1≤16) c),()):=fin (zfX b c hsb) hiff
 clear hiff hsb
 have hcl:=zqr c hc
 have hpg:=zu6 c hc.2.2.2.1
 have htl:=zuK c hc.2.2.2.1
 have hhd:=zjD c.2.2.2.2.2.2.2.2.2.2.2.2.2.2.2.1 c.2.2.2.2.2.2.2.2.2.2.2.2.2.2.2.2.1 hc.2.2.2.2.1 hc.2.2.2.2.2
 obtain⟨k,a2,a3,a4,a5,a6,a7,a8,a9,a10,a11,a12,a13,a14,a15,a16,a17,⟨⟩⟩:=c
 simp only at hcl hhd
 unfold F143
 simp only [hb,hS,pos1,pos2,pre_eq,hpg,htl,hhd,Option.bind_some]
 clear hb hS
 unfold ze7
 rcases kinds k with h | h | h | h | h | h | h | h | h | h | h | h | h | h | h | h | h
 iterate 9
  ·subst h
   rw [hcl (by omega)]
   simp only [Int.reduceEq,Int.reduceLT,Int.reduceLE,decide_true,decide_false,cond_true,cond_false,Option.bind_some]
   apply fin
   ·repeat' first | apply zaw | apply zam | apply zaB | apply zav | apply zaG
   ·grind
 iterate 7
  ·subst h
   simp only [Int.reduceEq,Int.reduceLT,Int.reduceLE,decide_true,decide_false,cond_true,cond_false]
   apply fin
   ·repeat' first | apply zaw | apply zam | apply zaB | apply zav | apply zaG
   ·simp only [zcJ,Int.reduceEq,false_and,true_and,false_or,or_false,and_false,or_self,ne_eq]
    grind
 ·have f:∀ n:Int,1≤n→n≤16→(k=n)=False:=fun n h1 h2=>eq_false (by omega)
  have hK:zcJ (k,a2,a3,a4,a5,a6,a7,a8,a9,a10,a11,a12,a13,a14,a15,a16,a17,())=False:=by
   simp only [f 1 (by omega) (by omega),f 2 (by omega) (by omega),f 3 (by omega) (by omega),f 4 (by omega) (by omega),f 5 (by omega) (by omega),f 6 (by omega) (by omega),f 7 (by omega) (by omega),f 8 (by omega) (by omega),f 9 (by omega) (by omega),f 10 (by omega) (by omega),f 11 (by omega) (by omega),f 12 (by omega) (by omega),f 13 (by omega) (by omega),f 14 (by omega) (by omega),f 15 (by omega) (by omega),f 16 (by omega) (by omega),zcJ,false_and,or_self,and_false]
  rw [hK] at hcl ⊢
  by_cases h9:k < 10
  ·rw [hcl h9]
   simp only [h9,decide_true,cond_true]
   apply fin
   ·repeat' first | apply zaw | apply zam | apply zaB | apply zav | apply zaG
   ·grind
  ·simp only [h9,decide_false,cond_false,f 10 (by omega) (by omega),f 11 (by omega) (by omega),f 12 (by omega) (by omega),f 13 (by omega) (by omega),f 14 (by omega) (by omega),f 15 (by omega) (by omega),f 16 (by omega) (by omega)]
   apply fin
   ·repeat' first | apply zaw | apply zam | apply zaB | apply zav | apply zaG
   ·grind
def znh (c:T28D):Prop:=ShC c∧LnC c∧St c.2.1∧St c.2.2.1∧(∀ x∈c.2.2.2.2.2.2.2.1,St x.1)∧(∀ o∈c.2.2.2.2.2.2.2.2.1,SzOp o)∧(∀ o∈c.2.2.2.2.2.2.2.2.2.1,SzOp o)∧zbi c.2.2.2.2.2.2.2.2.2.2.2.2.2.2.1∧zj9 c.2.2.2.2.2.2.2.2.2.2.2.2.2.2.2.1
theorem zjX {A B:Type} (b:Bool) (X Y:Option A) (f:A→Option B):Option.bind (bif b then X else Y) f=bif b then Option.bind X f else Option.bind Y f:=by cases b <;> rfl
theorem zpp (c:T28D) (hc:znh c):F125 (c,())=some (dec' (ze7 c),()):=by
 obtain⟨h1,h2,h3,h4,h5,h6,h7,h8,h9⟩:=hc
 have hb:=bare_eq c h2
 have hpg:=zsU c h8 h3 h4
 have htl:=zsS c h8
 have hcm:=zs4 _ h1.1 h5
 have ho1:=zpq _ h1.2.1 h6
 have ho2:=zpq _ h1.2.2.1 h7
 have hse:=zlr _ 15 h9
 have hle:=zhF _ h1.2.2.2.2.2
 have hk:=zbe c.2.1 h3
 have hr:=zdp c.2.1 c.2.2.1 h3 h4
 have hp1:=zgk c.2.1 h3
 have hp2:=zgk c.2.2.1 h4
 obtain⟨k,a2,a3,a4,a5,a6,a7,a8,a9,a10,a11,a12,a13,a14,a15,a16,a17,⟨⟩⟩:=c
 simp only at hcm ho1 ho2 hse hle hk hr hp1 hp2
 unfold F125
 simp only [hb,zdT,zcx,zbn,hpg,htl,hcm,ho1,ho2,hse,hle,hk,hr,hp1,hp2,Option.bind_some]
 unfold ze7
 by_cases hB:zfI True (k,a2,a3,a4,a5,a6,a7,a8,a9,a10,a11,a12,a13,a14,a15,a16,a17,())
 ·simp only [hB,true_and,zaN trivial,Bool.not_true,cond_false]
  by_cases hE:za7 a11 <;> by_cases hT:za7 a12
  all_goals
   rcases kinds k with h | h | h | h | h | h | h | h | h | h | h | h | h | h | h | h | h
   iterate 16
    ·subst h
     simp only [hE,hT,zjX,Int.reduceEq,Int.reduceLE,decide_true,decide_false,cond_true,cond_false,Bool.not_true,Bool.not_false,Option.bind_some,Sum.elim_inl,Sum.elim_inr]
     try
      apply fin
      ·repeat' first | apply zaw | apply zam | apply zaB | apply zav | apply zaG
      ·simp only [zcJ,Int.reduceEq,false_and,true_and,false_or,or_false,and_false,or_self,ne_eq,hE,hT]
       try grind
   ·have f:∀ n:Int,1≤n→n≤16→(k=n)=False:=fun n h1 h2=>eq_false (by omega)
    have hK:zcJ (k,a2,a3,a4,a5,a6,a7,a8,a9,a10,a11,a12,a13,a14,a15,a16,a17,())=False:=by
     simp only [f 1 (by omega) (by omega),f 2 (by omega) (by omega),f 3 (by omega) (by omega),f 4 (by omega) (by omega),f 5 (by omega) (by omega),f 6 (by omega) (by omega),f 7 (by omega) (by omega),f 8 (by omega) (by omega),f 9 (by omega) (by omega),f 10 (by omega) (by omega),f 11 (by omega) (by omega),f 12 (by omega) (by omega),f 13 (by omega) (by omega),f 14 (by omega) (by omega),f 15 (by omega) (by omega),f 16 (by omega) (by omega),zcJ,false_and,or_self,and_false]
    rw [hK]
    simp only [hE,hT,zjX,f 1 (by omega) (by omega),f 2 (by omega) (by omega),f 3 (by omega) (by omega),f 4 (by omega) (by omega),f 5 (by omega) (by omega),f 6 (by omega) (by omega),f 7 (by omega) (by omega),f 8 (by omega) (by omega),f 9 (by omega) (by omega),f 10 (by omega) (by omega),f 11 (by omega) (by omega),f 12 (by omega) (by omega),f 13 (by omega) (by omega),f 14 (by omega) (by omega),f 15 (by omega) (by omega),f 16 (by omega) (by omega),decide_true,decide_false,cond_true,cond_false,Bool.not_true,Bool.not_false,Option.bind_some,Sum.elim_inl,Sum.elim_inr]
    cases decide (10≤k) <;> cases decide (12≤k) <;> cases decide (k≤15) <;> rfl
 ·simp only [hB,false_and]
  rw [zaE (p:=False) id]
  simp only [Bool.not_false,cond_true,Option.bind_some,Sum.elim_inr]
def zni (j:T33D):Prop:=ze7 j.2.2.1∧((j.1=0∧j.2.1=0∧8≤j.2.2.1.1)∨(1≤j.1∧j.1≤31∧za7 j.2.1∧j.2.2.1.1 < 8))
theorem zw0 (j:T33D) (hj:ShC j.2.2.1):F102 (j,())=some (dec' (zni j),()):=by
 obtain⟨cl,sq,c,⟨⟩⟩:=j
 have hr:=right_eq c hj
 unfold F102
 simp only [hr,zbv,pos1,Option.bind_some]
 apply fin
 ·repeat' first | apply zaw | apply zam | apply zaB | apply zav | apply zaG
 ·unfold zni;grind
theorem zuY (j:T33D) (hj:znh j.2.2.1):F81 (j,())=some (dec' (zni j),()):=by
 obtain⟨cl,sq,c,⟨⟩⟩:=j
 have hr:=zpp c hj
 unfold F81
 simp only [hr,zbn,zdT,Option.bind_some]
 apply fin
 ·repeat' first | apply zaw | apply zam | apply zaB | apply zav | apply zaG
 ·unfold zni;grind
def zkd (m:T53D):Prop:=0≤m.1∧m.1≤4∧zbz m.2.1∧zbz m.2.2.1∧(m.2.2.2.1=[]∨zg6 m.2.2.2.1)∧(m.2.2.2.2.1=[]∨zg6 m.2.2.2.2.1)∧zbz m.2.2.2.2.2.1∧(m.2.2.2.2.2.2.1=[]∨IsKey m.2.2.2.2.2.2.1)∧zbz m.2.2.2.2.2.2.2.1∧zbz m.2.2.2.2.2.2.2.2.1∧zbz m.2.2.2.2.2.2.2.2.2.1
def zhX (m:T53D):Prop:=St m.2.2.2.1∧St m.2.2.2.2.1∧St m.2.2.2.2.2.2.1
theorem zti (s:List UInt8):znk (s,())=some (dec' (s=[]∨zg6 s),()):=by
 unfold znk
 simp only [pre_eq,Option.bind_some]
 apply fin
 ·repeat' first | apply zaw | apply zam | apply zaB | apply zav | apply zaG
 ·grind
theorem zth (s:List UInt8):zq3 (s,())=some (dec' (s=[]∨IsKey s),()):=by
 unfold zq3
 simp only [zdd,Option.bind_some]
 apply fin
 ·repeat' first | apply zaw | apply zam | apply zaB | apply zav | apply zaG
 ·grind
theorem zvj (m:T53D):F109 (m,())=some (dec' (zkd m),()):=by
 obtain⟨a1,a2,a3,a4,a5,a6,a7,a8,a9,a10,⟨⟩⟩:=m
 unfold F109
 simp only [nat6,zti,zth,Option.bind_some]
 apply fin
 ·repeat' first | apply zaw | apply zam | apply zaB | apply zav | apply zaG
 ·unfold zkd;grind
theorem zsX (m:T53D) (hm:zhX m):F88 (m,())=some (dec' (zkd m),()):=by
 obtain⟨a1,a2,a3,a4,a5,a6,a7,a8,a9,a10,⟨⟩⟩:=m
 obtain⟨h4,h5,h7⟩:=hm
 unfold F88
 simp only [zbn,zcx,zgk a4 h4,zgk a5 h5,zbe a7 h7,Option.bind_some]
 apply fin
 ·repeat' first | apply zaw | apply zam | apply zaB | apply zav | apply zaG
 ·unfold zkd
  by_cases c1:a4=[] <;> by_cases c2:a5=[] <;> by_cases c3:a7=[] <;> grind
def zhZ (h:T55D):Prop:=za7 h.1∧zbz h.2.1∧ze4 h.2.2.1 15∧zec h.2.2.2.1
def zqQ (h:T55D):Prop:=zj9 h.2.2.1∧Sh h.2.2.2.1
theorem zvF (h:T55D) (hh:ShH h):F108 (h,())=some (dec' (zhZ h),()):=by
 obtain⟨a1,a2,a3,a4,⟨⟩⟩:=h
 have e:=zjD a3 a4 hh.1 hh.2
 unfold F108
 simp only [pos1,nat1,e,Option.bind_some]
 apply fin
 ·repeat' first | apply zaw | apply zam | apply zaB | apply zav | apply zaG
 ·unfold zhZ;grind
theorem zs3 (h:T55D) (hh:zqQ h):F87 (h,())=some (dec' (zhZ h),()):=by
 obtain⟨a1,a2,a3,a4,⟨⟩⟩:=h
 have e1:=zlr a3 15 hh.1
 have e2:=zhF a4 hh.2
 unfold F87
 simp only [zdT,zcx,e1,e2,Option.bind_some]
 apply fin
 ·repeat' first | apply zaw | apply zam | apply zaB | apply zav | apply zaG
 ·unfold zhZ;grind
end Go.Proofs.YtpfjaaofpcbejaaGreat
