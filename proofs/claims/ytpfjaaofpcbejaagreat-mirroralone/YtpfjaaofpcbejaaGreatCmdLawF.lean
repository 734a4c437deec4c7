/-
 Plain laws of what lies below,as this seat reaches them (by a program of the bench: port.py).
-/
import Derived.Test.YtpfjaaofpcbejaaGreatCmdLawE
import Derived.Test.YtpfjaaofpcbejaaGreatSxS
namespace Go.Proofs.YtpfjaaofpcbejaaGreat
open Go.Sx Go Classical
set_option maxRecDepth 10000
def gp (l:List ae):Prop:=Sh l∧∀ x∈l,St x.1
theorem zgw (c:bH) (hz:gp c.2.2.2.2.2.2.2.2.2.2.2.2.2.2.1) (hk:St c.2.1) (he:St c.2.2.1):wI (c,())=some (dec' (yA c),()):=by
 obtain⟨a1,k,en,a4,a5,a6,a7,a8,a9,a10,a11,a12,a13,a14,l,a16,a17,⟨⟩⟩:=c
 obtain⟨hl,hs⟩:Sh l∧∀ x∈l,St x.1:=hz
 have hk:St k:=hk
 have he:St en:=he
 unfold wI
 refine fin (jo l hl (fun i v=>IsKey v.1∧fA v.2.1∧v.2.1.2.2.2.2.2.2.1=false∧∀ w,0 < i→l[i - 1]? = some w→bu w.1 v.1=true) ((k=[]∨IsKey k)∧(en=[]∨IsKey en)∧l.length≤8) (fun i v hi hv=> ?_) ?_) ?_
 ·have hi':i < 9223372036854775807:=by unfold Sh at hl;omega
  have hr:nZ v.2=_:=BR v.2.1
  have hk1:=jm v.1 (hs v (List.mem_of_getElem? hv))
  rcases Nat.eq_zero_or_pos i with h0 | h0
  ·have e0:decide ((0:Int) < (i:Int))=false:=decide_eq_false (by omega)
   have hp:(∀ w,0 < i→l[i - 1]? = some w→bu w.1 v.1=true)=True:=propext (mG (l:=l) h0 (fun w=>bu w.1 v.1=true))
   simp only [hp]
   simp only [aI,hi,decide_true,cond_true,aS,hv,Option.bind_some,bF hi',e0,cond_false,hr,hk1]
   apply fJ
   ·repeat' first | apply fE | apply eY | apply fH | apply fF | apply fG
   ·grind
  ·obtain⟨u,hu⟩:∃ u,l[i - 1]? = some u:=⟨_,List.getElem?_eq_getElem (show i - 1 < l.length by omega)⟩
   have e0:decide ((0:Int) < (i:Int))=true:=decide_eq_true (by omega)
   have hp:(∀ w,0 < i→l[i - 1]? = some w→bu w.1 v.1=true)=(bu u.1 v.1=true):=propext (mQ h0 hu (fun w=>bu w.1 v.1=true))
   simp only [hp]
   simp only [aI,hi,decide_true,cond_true,aS,hv,Option.bind_some,bF hi',e0,mZ h0 hi',hu,hr,hk1]
   apply fJ
   ·repeat' first | apply fE | apply eY | apply fH | apply fF | apply fG
   ·grind
 ·simp only [aI,Nat.lt_irrefl,decide_false,cond_false,jm k hk,jm en he,Option.bind_some]
  refine (congrArg (Option.map Sum.inr) (?_:_=some (dec' ((k=[]∨IsKey k)∧(en=[]∨IsKey en)∧l.length≤8),()))).trans rfl
  apply fin
  ·repeat' first | apply bZ | apply bU | apply cu | apply bY | apply dS
  ·simp only [Int.ofNat_eq_natCast]
   by_cases c1:k=[] <;> by_cases c2:en=[] <;> grind
 ·unfold yA Dj;grind
theorem zgv (c:bH) (hz:gp c.2.2.2.2.2.2.2.2.2.2.2.2.2.2.1):wH (c,())=some (dec' (yu c),()):=by
 obtain⟨a1,k,en,a4,a5,a6,rev,a8,a9,a10,a11,a12,to,a14,l,a16,a17,⟨⟩⟩:=c
 obtain⟨hl,hs⟩:Sh l∧∀ x∈l,St x.1:=hz
 unfold wH
 refine fin (jo l hl (fun i v=>IsKey v.1∧fA v.2.1∧rev < v.2.1.1∧v.2.1.1≤to∧∀ w,0 < i→l[i - 1]? = some w→w.2.1.1≤v.2.1.1∧(w.2.1.1=v.2.1.1→bu w.1 v.1=true)) (bJ rev∧bJ to∧rev < to∧l.length≤64) (fun i v hi hv=> ?_) ?_) ?_
 ·have hi':i < 9223372036854775807:=by unfold Sh at hl;omega
  have hr:nZ v.2=_:=BR v.2.1
  have hk1:=jm v.1 (hs v (List.mem_of_getElem? hv))
  rcases Nat.eq_zero_or_pos i with h0 | h0
  ·have e0:decide ((0:Int) < (i:Int))=false:=decide_eq_false (by omega)
   have hp:(∀ w,0 < i→l[i - 1]? = some w→w.2.1.1≤v.2.1.1∧(w.2.1.1=v.2.1.1→bu w.1 v.1=true))=True:=propext (mG (l:=l) h0 (fun w=>w.2.1.1≤v.2.1.1∧(w.2.1.1=v.2.1.1→bu w.1 v.1=true)))
   simp only [hp]
   simp only [aI,hi,decide_true,cond_true,aS,hv,Option.bind_some,bF hi',e0,cond_false,hr,hk1]
   apply fJ
   ·repeat' first | apply fE | apply eY | apply fH | apply fF | apply fG
   ·grind
  ·obtain⟨u,hu⟩:∃ u,l[i - 1]? = some u:=⟨_,List.getElem?_eq_getElem (show i - 1 < l.length by omega)⟩
   have e0:decide ((0:Int) < (i:Int))=true:=decide_eq_true (by omega)
   have hp:(∀ w,0 < i→l[i - 1]? = some w→w.2.1.1≤v.2.1.1∧(w.2.1.1=v.2.1.1→bu w.1 v.1=true))=(u.2.1.1≤v.2.1.1∧(u.2.1.1=v.2.1.1→bu u.1 v.1=true)):=propext (mQ h0 hu (fun w=>w.2.1.1≤v.2.1.1∧(w.2.1.1=v.2.1.1→bu w.1 v.1=true)))
   simp only [hp]
   simp only [aI,hi,decide_true,cond_true,aS,hv,Option.bind_some,bF hi',e0,mZ h0 hi',hu,hr,hk1]
   apply fJ
   ·repeat' first | apply fE | apply eY | apply fH | apply fF | apply fG
   ·grind
 ·simp only [aI,Nat.lt_irrefl,decide_false,cond_false,pV,Option.bind_some]
  refine (congrArg (Option.map Sum.inr) (?_:_=some (dec' (bJ rev∧bJ to∧rev < to∧l.length≤64),()))).trans rfl
  apply fin
  ·repeat' first | apply bZ | apply bU | apply cu | apply bY | apply dS
  ·simp only [Int.ofNat_eq_natCast];grind
 ·unfold yu Df;grind
theorem MO (s:List dJ) (l:List ay) (hs:ShS s) (hl:Sh l):tu (s,l,())=some (dec' (oL s 15∧uz l),()):=by
 unfold tu
 simp only [zhw s 15 hs,zel l hl,Option.bind_some]
 apply fin
 ·repeat' first | apply bZ | apply bU | apply cu | apply bY | apply dS
 ·grind
def jA (c:bH):Prop:=
 (c.1=1∧IsKey c.2.1∧c.2.2.2.1.length≤40∧dF c.2.2.2.2.1)∨(c.1=2∧jM c.2.1 c.2.2.1)∨(c.1=3∧uT c.2.2.2.2.2.2.2.1∧lU c.2.2.2.2.2.2.2.2.1∧lU c.2.2.2.2.2.2.2.2.2.1)∨
 (c.1=4∧bJ c.2.2.2.2.2.2.1)∨(c.1=5∧bJ c.2.2.2.2.1∧1≤c.2.2.2.2.2.1∧c.2.2.2.2.2.1≤1000)∨((c.1=6∨c.1=7)∧bJ c.2.2.2.2.1)∨c.1=8∨(c.1=9∧c.2.2.2.2.1≠0∧ -1099511627776≤c.2.2.2.2.1∧c.2.2.2.2.1≤1099511627776)∨
 (bJ c.2.2.2.2.2.2.2.2.2.2.1∧((c.1=10∧lV c.2.1)∨c.1=11∨c.1=16∨(bJ c.2.2.2.2.2.2.2.2.2.2.2.1∧((c.1=12∧bJ c.2.2.2.2.2.2.1∧lV c.2.1∧lV c.2.2.1)∨(c.1=13∧yA c)∨(c.1=14∧yu c)∨
  (c.1=15∧bJ c.2.2.2.2.2.2.1∧oL c.2.2.2.2.2.2.2.2.2.2.2.2.2.2.2.1 15∧uz c.2.2.2.2.2.2.2.2.2.2.2.2.2.2.2.2.1)))))
def oM (c:bH):Prop:=qc True c∧jA c
theorem zis (c:bH) (hc:ShC c):zx (c,())=some (dec' (uT c.2.2.2.2.2.2.2.1∧lU c.2.2.2.2.2.2.2.2.1∧lU c.2.2.2.2.2.2.2.2.2.1),()):=by
 obtain⟨h8,h9,h10,h15,h16,h17⟩:=hc
 unfold zx
 simp only [zcg _ h8,Pm _ h9,Pm _ h10,Option.bind_some,Bool.not_not]
 apply fin
 ·repeat' first | apply bZ | apply bU | apply cu | apply bY | apply dS
 ·unfold uT;simp only [Int.ofNat_eq_natCast];grind
theorem zeF (c:bH) (hc:ShC c) (h10:c.1 < 10):zG (c,())=some (dec' (jA c),()):=by
 have ht:=zis c hc
 obtain⟨k,a2,a3,a4,a5,a6,a7,a8,a9,a10,a11,a12,a13,a14,a15,a16,a17,⟨⟩⟩:=c
 unfold zG
 simp only [put_eq,BC,ht,qx,kU,Option.bind_some]
 simp only at h10
 rcases kinds k with h | h | h | h | h | h | h | h | h | h | h | h | h | h | h | h | h
 iterate 9
  ·subst h
   simp only [Int.reduceEq,decide_true,decide_false,cond_true,cond_false]
   apply fin
   ·repeat' first | apply bZ | apply bU | apply cu | apply bY | apply dS
   ·simp only [jA,Int.reduceEq,false_and,true_and,false_or,or_false,and_false,or_self]
    try grind
 iterate 7
  ·exact absurd h10 (by omega)
 ·have f:∀ n:Int,1≤n→n≤16→(k=n)=False:=fun n h1 h2=>eq_false (by omega)
  simp only [f 1 (by omega) (by omega),f 2 (by omega) (by omega),f 3 (by omega) (by omega),f 4 (by omega) (by omega),f 5 (by omega) (by omega),f 6 (by omega) (by omega),f 7 (by omega) (by omega),f 8 (by omega) (by omega),f 9 (by omega) (by omega),f 10 (by omega) (by omega),f 11 (by omega) (by omega),f 12 (by omega) (by omega),f 13 (by omega) (by omega),f 14 (by omega) (by omega),f 15 (by omega) (by omega),f 16 (by omega) (by omega),jA,decide_false,cond_false,false_and,or_self,and_false]
theorem right_eq (c:bH) (hc:ShC c):zX (c,())=some (dec' (oM c),()):=by
 obtain⟨b,hb,hsb,hiff⟩:=zhV c hc
 have hS:F92 (b,c,())=some (dec' (qc (c.1≤16) c),()):=fin (BL b c hsb) hiff
 clear hiff hsb
 have hcl:=zeF c hc
 have hpg:=zhL c hc.2.2.2.1
 have htl:=zht c hc.2.2.2.1
 have hhd:=MO c.2.2.2.2.2.2.2.2.2.2.2.2.2.2.2.1 c.2.2.2.2.2.2.2.2.2.2.2.2.2.2.2.2.1 hc.2.2.2.2.1 hc.2.2.2.2.2
 obtain⟨k,a2,a3,a4,a5,a6,a7,a8,a9,a10,a11,a12,a13,a14,a15,a16,a17,⟨⟩⟩:=c
 simp only at hcl hhd
 unfold zX
 simp only [hb,hS,qx,SI,pre_eq,hpg,htl,hhd,Option.bind_some]
 clear hb hS
 unfold oM
 rcases kinds k with h | h | h | h | h | h | h | h | h | h | h | h | h | h | h | h | h
 iterate 9
  ·subst h
   rw [hcl (by omega)]
   simp only [Int.reduceEq,Int.reduceLT,Int.reduceLE,decide_true,decide_false,cond_true,cond_false,Option.bind_some]
   apply fin
   ·repeat' first | apply bZ | apply bU | apply cu | apply bY | apply dS
   ·grind
 iterate 7
  ·subst h
   simp only [Int.reduceEq,Int.reduceLT,Int.reduceLE,decide_true,decide_false,cond_true,cond_false]
   apply fin
   ·repeat' first | apply bZ | apply bU | apply cu | apply bY | apply dS
   ·simp only [jA,Int.reduceEq,false_and,true_and,false_or,or_false,and_false,or_self,ne_eq]
    grind
 ·have f:∀ n:Int,1≤n→n≤16→(k=n)=False:=fun n h1 h2=>eq_false (by omega)
  have hK:jA (k,a2,a3,a4,a5,a6,a7,a8,a9,a10,a11,a12,a13,a14,a15,a16,a17,())=False:=by
   simp only [f 1 (by omega) (by omega),f 2 (by omega) (by omega),f 3 (by omega) (by omega),f 4 (by omega) (by omega),f 5 (by omega) (by omega),f 6 (by omega) (by omega),f 7 (by omega) (by omega),f 8 (by omega) (by omega),f 9 (by omega) (by omega),f 10 (by omega) (by omega),f 11 (by omega) (by omega),f 12 (by omega) (by omega),f 13 (by omega) (by omega),f 14 (by omega) (by omega),f 15 (by omega) (by omega),f 16 (by omega) (by omega),jA,false_and,or_self,and_false]
  rw [hK] at hcl ⊢
  by_cases h9:k < 10
  ·rw [hcl h9]
   simp only [h9,decide_true,cond_true]
   apply fin
   ·repeat' first | apply bZ | apply bU | apply cu | apply bY | apply dS
   ·grind
  ·simp only [h9,decide_false,cond_false,f 10 (by omega) (by omega),f 11 (by omega) (by omega),f 12 (by omega) (by omega),f 13 (by omega) (by omega),f 14 (by omega) (by omega),f 15 (by omega) (by omega),f 16 (by omega) (by omega)]
   apply fin
   ·repeat' first | apply bZ | apply bU | apply cu | apply bY | apply dS
   ·grind
def vC (c:bH):Prop:=ShC c∧LnC c∧St c.2.1∧St c.2.2.1∧(∀ x∈c.2.2.2.2.2.2.2.1,St x.1)∧(∀ o∈c.2.2.2.2.2.2.2.2.1,vU o)∧(∀ o∈c.2.2.2.2.2.2.2.2.2.1,vU o)∧gp c.2.2.2.2.2.2.2.2.2.2.2.2.2.2.1∧yx c.2.2.2.2.2.2.2.2.2.2.2.2.2.2.2.1
theorem Na {A B:Type} (b:Bool) (X Y:Option A) (f:A→Option B):Option.bind (bif b then X else Y) f=bif b then Option.bind X f else Option.bind Y f:=by cases b <;> rfl
theorem zd6 (c:bH) (hc:vC c):Ae (c,())=some (dec' (oM c),()):=by
 obtain⟨h1,h2,h3,h4,h5,h6,h7,h8,h9⟩:=hc
 have hb:=bare_eq c h2
 have hpg:=zgw c h8 h3 h4
 have htl:=zgv c h8
 have hcm:=zgD _ h1.1 h5
 have ho1:=OC _ h1.2.1 h6
 have ho2:=OC _ h1.2.2.1 h7
 have hse:=Ny _ 15 h9
 have hle:=KT _ h1.2.2.2.2.2
 have hk:=jm c.2.1 h3
 have hr:=AQ c.2.1 c.2.2.1 h3 h4
 have hp1:=xR c.2.1 h3
 have hp2:=xR c.2.2.1 h4
 obtain⟨k,a2,a3,a4,a5,a6,a7,a8,a9,a10,a11,a12,a13,a14,a15,a16,a17,⟨⟩⟩:=c
 simp only at hcm ho1 ho2 hse hle hk hr hp1 hp2
 unfold Ae
 simp only [hb,pV,xe,lF,hpg,htl,hcm,ho1,ho2,hse,hle,hk,hr,hp1,hp2,Option.bind_some]
 unfold oM
 by_cases hB:qc True (k,a2,a3,a4,a5,a6,a7,a8,a9,a10,a11,a12,a13,a14,a15,a16,a17,())
 ·simp only [hB,true_and,dL trivial,Bool.not_true,cond_false]
  by_cases hE:bJ a11 <;> by_cases hT:bJ a12
  all_goals
   rcases kinds k with h | h | h | h | h | h | h | h | h | h | h | h | h | h | h | h | h
   iterate 16
    ·subst h
     simp only [hE,hT,Na,Int.reduceEq,Int.reduceLE,decide_true,decide_false,cond_true,cond_false,Bool.not_true,Bool.not_false,Option.bind_some,Sum.elim_inl,Sum.elim_inr]
     try
      apply fin
      ·repeat' first | apply bZ | apply bU | apply cu | apply bY | apply dS
      ·simp only [jA,Int.reduceEq,false_and,true_and,false_or,or_false,and_false,or_self,ne_eq,hE,hT]
       try grind
   ·have f:∀ n:Int,1≤n→n≤16→(k=n)=False:=fun n h1 h2=>eq_false (by omega)
    have hK:jA (k,a2,a3,a4,a5,a6,a7,a8,a9,a10,a11,a12,a13,a14,a15,a16,a17,())=False:=by
     simp only [f 1 (by omega) (by omega),f 2 (by omega) (by omega),f 3 (by omega) (by omega),f 4 (by omega) (by omega),f 5 (by omega) (by omega),f 6 (by omega) (by omega),f 7 (by omega) (by omega),f 8 (by omega) (by omega),f 9 (by omega) (by omega),f 10 (by omega) (by omega),f 11 (by omega) (by omega),f 12 (by omega) (by omega),f 13 (by omega) (by omega),f 14 (by omega) (by omega),f 15 (by omega) (by omega),f 16 (by omega) (by omega),jA,false_and,or_self,and_false]
    rw [hK]
    simp only [hE,hT,Na,f 1 (by omega) (by omega),f 2 (by omega) (by omega),f 3 (by omega) (by omega),f 4 (by omega) (by omega),f 5 (by omega) (by omega),f 6 (by omega) (by omega),f 7 (by omega) (by omega),f 8 (by omega) (by omega),f 9 (by omega) (by omega),f 10 (by omega) (by omega),f 11 (by omega) (by omega),f 12 (by omega) (by omega),f 13 (by omega) (by omega),f 14 (by omega) (by omega),f 15 (by omega) (by omega),f 16 (by omega) (by omega),decide_true,decide_false,cond_true,cond_false,Bool.not_true,Bool.not_false,Option.bind_some,Sum.elim_inl,Sum.elim_inr]
    cases decide (10≤k) <;> cases decide (12≤k) <;> cases decide (k≤15) <;> rfl
 ·simp only [hB,false_and]
  rw [dK (p:=False) id]
  simp only [Bool.not_false,cond_true,Option.bind_some,Sum.elim_inr]
def vF (j:mi):Prop:=oM j.2.2.1∧((j.1=0∧j.2.1=0∧8≤j.2.2.1.1)∨(1≤j.1∧j.1≤31∧bJ j.2.1∧j.2.2.1.1 < 8))
theorem ziQ (j:mi) (hj:ShC j.2.2.1):Aw (j,())=some (dec' (vF j),()):=by
 obtain⟨cl,sq,c,⟨⟩⟩:=j
 have hr:=right_eq c hj
 unfold Aw
 simp only [hr,kU,qx,Option.bind_some]
 apply fin
 ·repeat' first | apply bZ | apply bU | apply cu | apply bY | apply dS
 ·unfold vF;grind
theorem zhE (j:mi) (hj:vC j.2.2.1):F81 (j,())=some (dec' (vF j),()):=by
 obtain⟨cl,sq,c,⟨⟩⟩:=j
 have hr:=zd6 c hj
 unfold F81
 simp only [hr,lF,pV,Option.bind_some]
 apply fin
 ·repeat' first | apply bZ | apply bU | apply cu | apply bY | apply dS
 ·unfold vF;grind
def yB (m:aH):Prop:=0≤m.1∧m.1≤4∧dF m.2.1∧dF m.2.2.1∧(m.2.2.2.1=[]∨lV m.2.2.2.1)∧(m.2.2.2.2.1=[]∨lV m.2.2.2.2.1)∧dF m.2.2.2.2.2.1∧(m.2.2.2.2.2.2.1=[]∨IsKey m.2.2.2.2.2.2.1)∧dF m.2.2.2.2.2.2.2.1∧dF m.2.2.2.2.2.2.2.2.1∧dF m.2.2.2.2.2.2.2.2.2.1
def uP (m:aH):Prop:=St m.2.2.2.1∧St m.2.2.2.2.1∧St m.2.2.2.2.2.2.1
theorem zgM (s:List UInt8):vH (s,())=some (dec' (s=[]∨lV s),()):=by
 unfold vH
 simp only [pre_eq,Option.bind_some]
 apply fin
 ·repeat' first | apply bZ | apply bU | apply cu | apply bY | apply dS
 ·grind
theorem zgL (s:List UInt8):yQ (s,())=some (dec' (s=[]∨IsKey s),()):=by
 unfold yQ
 simp only [kF,Option.bind_some]
 apply fin
 ·repeat' first | apply bZ | apply bU | apply cu | apply bY | apply dS
 ·grind
theorem zhQ (m:aH):Ap (m,())=some (dec' (yB m),()):=by
 obtain⟨a1,a2,a3,a4,a5,a6,a7,a8,a9,a10,⟨⟩⟩:=m
 unfold Ap
 simp only [nat6,zgM,zgL,Option.bind_some]
 apply fin
 ·repeat' first | apply bZ | apply bU | apply cu | apply bY | apply dS
 ·unfold yB;grind
theorem zgz (m:aH) (hm:uP m):F88 (m,())=some (dec' (yB m),()):=by
 obtain⟨a1,a2,a3,a4,a5,a6,a7,a8,a9,a10,⟨⟩⟩:=m
 obtain⟨h4,h5,h7⟩:=hm
 unfold F88
 simp only [lF,xe,xR a4 h4,xR a5 h5,jm a7 h7,Option.bind_some]
 apply fin
 ·repeat' first | apply bZ | apply bU | apply cu | apply bY | apply dS
 ·unfold yB
  by_cases c1:a4=[] <;> by_cases c2:a5=[] <;> by_cases c3:a7=[] <;> grind
def uS (h:dO):Prop:=bJ h.1∧dF h.2.1∧oL h.2.2.1 15∧uz h.2.2.2.1
def Hz (h:dO):Prop:=yx h.2.2.1∧Sh h.2.2.2.1
theorem zh8 (h:dO) (hh:ShH h):Aq (h,())=some (dec' (uS h),()):=by
 obtain⟨a1,a2,a3,a4,⟨⟩⟩:=h
 have e:=MO a3 a4 hh.1 hh.2
 unfold Aq
 simp only [qx,TG,e,Option.bind_some]
 apply fin
 ·repeat' first | apply bZ | apply bU | apply cu | apply bY | apply dS
 ·unfold uS;grind
theorem zgC (h:dO) (hh:Hz h):F87 (h,())=some (dec' (uS h),()):=by
 obtain⟨a1,a2,a3,a4,⟨⟩⟩:=h
 have e1:=Ny a3 15 hh.1
 have e2:=KT a4 hh.2
 unfold F87
 simp only [pV,xe,e1,e2,Option.bind_some]
 apply fin
 ·repeat' first | apply bZ | apply bU | apply cu | apply bY | apply dS
 ·unfold uS;grind
end Go.Proofs.YtpfjaaofpcbejaaGreat
