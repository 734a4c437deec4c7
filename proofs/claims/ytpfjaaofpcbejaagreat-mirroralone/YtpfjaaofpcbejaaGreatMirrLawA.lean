/-
 Mirr: what a mirror and the document's begin as;few acts;what is asked for.
-/
import Derived.Test.YtpfjaaofpcbejaaGreatRemPlain
namespace Go.Proofs.YtpfjaaofpcbejaaGreat
open Go.Sx Go Classical
set_option maxRecDepth 10000
theorem zg7 {T R:Type} {step:T→Option (T⊕R)} {n:Nat} {I:Nat→T→Prop} (P:Nat→Prop) {rt rf:R} (hr:rf≠rt) (hn:n≤9223372036854775807)
  (h:∀ k t,k < n→I k t→step t=some (.inr rf)∨∃ t',step t=some (.inl t')∧I (k+1) t'∧P k) (hK:∀ t,I n t→step t=some (.inr rt)) {t:T} (h0:I 0 t) :
  ∃ z,iter step big t=some z∧(z=rt∨z=rf)∧(z=rt→∀ k,k < n→P k):=by
 have main:∀ d k t m,k+d=n→d < m→I k t→∃ z,iter step m t=some z∧(z=rt∨z=rf)∧(z=rt→∀ j,k≤j→j < n→P j):=by
  intro d
  induction d with
  | zero=>
   intro k t m hk hm ht
   cases m with
   | zero=>omega
   | succ m=>
    rw [Nat.add_zero] at hk
    subst hk
    exact⟨rt,by simp [iter,hK t ht],.inl rfl,fun _ j h1 h2=>by omega⟩
  | succ d ih=>
   intro k t m hk hm ht
   cases m with
   | zero=>omega
   | succ m=>
    rcases h k t (by omega) ht with h1 | ⟨t',h1,h2,hp⟩
    ·exact⟨rf,by simp [iter,h1],.inr rfl,fun e=>absurd e hr⟩
    ·obtain⟨z,e,hz,hq⟩:=ih (k+1) t' m (by omega) (by omega) h2
     refine⟨z,by simp [iter,h1,e],hz,fun e j h3 h4=> ?_⟩
     by_cases hj:j=k
     ·rw [hj];exact hp
     ·exact hq e j (by omega) h4
 obtain⟨z,e,hz,hq⟩:=main n 0 t big (by omega) (by rw [jy];omega) h0
 exact⟨z,e,hz,fun h k hk=>hq h k (Nat.zero_le _) hk⟩
theorem DN:∃ n,big=n+3:=⟨18446744073709551613,by rw [jy]⟩
abbrev sK:TMD:=(7,0,iU,jc,0,[],[],0,0,0,0,iR,[],[],false,eQ,gu,())
theorem zab (s p:List UInt8):F39 (s,p,())=some (begins s p,()):=by
 unfold F39
 by_cases h:p.length≤s.length
 ·have e:decide (Int.ofNat p.length≤Int.ofNat s.length)=true:=decide_eq_true (by simpa using h)
  simp only [e,cond_true,AP h,Option.bind_some,begins]
 ·have e:decide (Int.ofNat p.length≤Int.ofNat s.length)=false:=decide_eq_false (by simpa using h)
  simp only [e,cond_false,Lp h]
def CE (s d:List UInt8):Prop:=gX s∧gX d∧begins s d=false∧begins d s=false
def zl (ep:Int) (s d:List UInt8) (n0 n1:Int):Prop:=1≤ep∧ep≤1099511627776∧CE s d∧1≤n0∧n0≤3∧1≤n1∧n1≤3
theorem apart_eq (s d:List UInt8) (hs:s.length≤140737488351232) (hd:d.length≤140737488351232):F19 (s,d,())=some (decide (CE s d),()):=by
 unfold F19 CE
 simp only [Es s hs,Es d hd,zab,Option.bind_some]
 by_cases h1:gX s <;> by_cases h2:gX d <;> cases h3:begins s d <;> cases h4:begins d s <;> simp [h1,h2]
theorem zgP (ep:Int) (s d:List UInt8) (n0 n1:Int) (hs:s.length≤140737488351232) (hd:d.length≤140737488351232):F6 (ep,s,d,(n0,n1,()),0,())=some (decide (zl ep s d n0 n1),()):=by
 unfold F6 zl
 simp only [apart_eq s d hs hd,Option.bind_some]
 by_cases h1:1≤ep <;> by_cases h2:ep≤1099511627776 <;> by_cases h3:CE s d <;> by_cases h4:1≤n0 <;> by_cases h5:n0≤3 <;> by_cases h6:1≤n1 <;> by_cases h7:n1≤3 <;> simp [h1,h2,h3,h4,h5,h6,h7]
abbrev zk (ep:Int) (s d:List UInt8) (n0 n1:Int):dm:=((ep,s,d,(n0,n1,()),()),0,[(11,0,n0,8,0,0,0,false,NoT,())],[(11,1,n1,8,0,0,0,false,NoT,())],NoT,false,gu,0,[],[],false,false,[],false,())
theorem zcx {ep:Int} {s d:List UInt8} {n0 n1:Int} (h:zl ep s d n0 n1):F20 ((ep,s,d,(n0,n1,()),()),())=some (true,()):=by
 obtain⟨h1,h2,⟨h3,h4,h5,h6⟩,-⟩:=h
 unfold F20
 simp only [MF,zac,Option.bind_some,h1,h2,h3,h4,h5,h6,decide_true,cond_true,Bool.not_false]
theorem OL {ep:Int} {s d:List UInt8} {n0 n1:Int} (h:zl ep s d n0 n1):F7 ((ep,s,d,(n0,n1,()),()),0,())=some ((true,zk ep s d n0 n1),0,()):=by
 have hr:=zcx h
 obtain⟨h1,h2,-,h7,h8,h9,h10⟩:=h
 have e0:wrap64 (0*1000000)=0:=rfl
 have e1:wrap64 (0+1)=1:=rfl
 have d0:decide ((0:Int)=0)=true:=rfl
 have d1:decide ((0:Int) < 0)=false:=rfl
 have d2:decide ((500000:Int) < 0)=false:=rfl
 have a0:=OJ (self:=11) (site:=0) (n:=n0) (pat:=8) (rid:=0) (by unfold D7;omega)
 have a1:=OJ (self:=11) (site:=1) (n:=n1) (pat:=8) (rid:=0) (by unfold D7;omega)
 unfold F7
 simp only [hr,Option.bind_some,Bool.not_true,cond_false,d1,d2,e0,e1,a0,a1,cond_true,decide_true,Sum.elim_inl]
theorem zgy (ep:Int) (s d:List UInt8) (n0 n1:Int):F8 (ep,s,d,(n0,n1,()),0,())=some ((ep,s,d,0,((11,0,n0,8,0,0,0,false,false,NoT,()),(11,1,n1,8,0,0,0,false,false,NoT,()),()),NoT,false,gu,0,false,false,[],false,[],0,false,false,false,eQ,false,()),()):=by
 obtain⟨n,hn⟩:=DN
 unfold F8
 rw [hn]
 rfl
end Go.Proofs.YtpfjaaofpcbejaaGreat
