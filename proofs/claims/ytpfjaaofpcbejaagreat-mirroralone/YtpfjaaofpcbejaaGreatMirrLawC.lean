/-
 Mirr: what is asked for next,by a mirror and by the document's.
-/
import Derived.Test.YtpfjaaofpcbejaaGreatMirrLawB
namespace Go.Proofs.YtpfjaaofpcbejaaGreat
open Go.Sx Go Classical
set_option maxRecDepth 10000
abbrev lC (k:Int) (key en:List UInt8) (rev ep try' to':Int) (dn:Bool) (its:List ae):bH:=(k,key,en,[],0,0,rev,[],[],[],ep,try',to',dn,its,[],[],())
abbrev mD (c:bH):TMD:=(2,0,iU,(0,0,c,()),0,[],[],0,0,0,0,iR,[],[],false,eQ,gu,())
abbrev D8 (k:Int) (fr en:List UInt8) (rev:Int):TMD:=(k,0,iU,jc,0,fr,en,rev,0,0,0,iR,[],[],false,eQ,gu,())
def yM (m:TMD):Prop:=Bnd m∧SzT m
theorem gz {α:Type}:Sh ([]:List α):=by simp [Sh]
theorem gy:St []:=by simp [St]
theorem pK:gp []:=⟨gz,fun x h=>by simp at h⟩
theorem Ha:ShS []:=⟨gz,fun x h=>by simp at h⟩
theorem Fe:yx []:=⟨gz,fun x h=>by simp at h⟩
theorem Pe (k:Int) {key en:List UInt8} (rev ep try' to':Int) (dn:Bool) {its:List ae} (h1:St key) (h2:St en) (h3:gp its):vC (lC k key en rev ep try' to' dn its):=
 ⟨⟨gz,gz,gz,h3.1,Ha,gz⟩,⟨by simp,by simp,by simp,by simp,by simp⟩,h1,h2,fun x h=>by simp at h,fun x h=>by simp at h,fun x h=>by simp at h,h3,Fe⟩
theorem zhu:vC Iz:=Pe 0 0 0 0 0 false gy gy pK
theorem rG (k:Int) {key en:List UInt8} (rev ep try' to':Int) (dn:Bool) {its:List ae} (h1:St key) (h2:St en) (h3:gp its):yM (mD (lC k key en rev ep try' to' dn its)):=by
 have hc:=Pe k rev ep try' to' dn h1 h2 h3
 have hs:ShT (mD (lC k key en rev ep try' to' dn its)):=⟨gz,hc.1,gz,⟨gz,fun b h=>by simp at h⟩,gz,⟨Ha,gz⟩⟩
 exact⟨⟨hs,by simp,by simp⟩,hs,hc,gy,gy,⟨gz,fun x h=>by simp at h⟩,fun b h=>by simp at h,pK,⟨Fe,gz⟩,⟨gy,gy,gy⟩⟩
theorem BV (k:Int) {fr en:List UInt8} (rev:Int) (h1:St fr) (h2:St en):yM (D8 k fr en rev):=by
 have hs:ShT (D8 k fr en rev):=⟨gz,zhu.1,gz,⟨gz,fun b h=>by simp at h⟩,gz,⟨Ha,gz⟩⟩
 exact⟨⟨hs,by simp,by simp⟩,hs,zhu,h1,h2,⟨gz,fun x h=>by simp at h⟩,fun b h=>by simp at h,pK,⟨Fe,gz⟩,⟨gy,gy,gy⟩⟩
theorem GM:yM NoT:=BV 0 0 gy gy
theorem Gl:yM sK:=BV 7 0 gy gy
def PgR (pg:List (List ae×Bool×Unit)) (has dn:Bool) (l:List ae):Prop:=(has=false∧pg=[])∨(has=true∧pg=[(l,dn,())]∧gp l)
def TlR (tl:List (List ae×Int×Unit)) (has:Bool) (l:List ae) (up:Int):Prop:=(has=false∧tl=[])∨(has=true∧tl=[(l,up,())]∧gp l)
theorem zep {l:List ae} (h:gp l) (hl:0 < l.length):∃ v,idx l (wrap64 (Int.ofNat l.length - 1))=some v∧St v.1:=by
 have hs:=h.1
 unfold Sh at hs
 have e:wrap64 (Int.ofNat l.length - 1)=((l.length - 1:Nat):Int):=by
  rw [dU (by simp;omega) (by simp;omega)]
  simp
  omega
 rw [e,aS]
 obtain⟨v,hv⟩:∃ v,l[l.length - 1]? = some v:=⟨_,List.getElem?_eq_getElem (by omega)⟩
 exact⟨v,hv,h.2 v (List.mem_of_getElem? hv)⟩
theorem ND (cfg:lw) (ord:Int) (t0 t1:List CD) (asked:TMD) (known:Bool) (ph vep tr:Int) (vsrc vdst:List UInt8) (vpin:Int) (cur:List UInt8) (ckpt vf vc pin:Int) (its:List ae) (dn:Bool) (R:List (List ae×Int×Unit)×Bool×Bool×List dO×Bool×Unit) :
  F45 ((cfg,ord,t0,t1,asked,known,(ph,vep,tr,vsrc,vdst,vpin,cur,ckpt,vf,vc,()),pin,[(its,dn,())],R),()) =
   bif decide ((0:Int) < Int.ofNat its.length) then Option.bind (idx its (wrap64 (Int.ofNat its.length - 1))) fun w=>some (mD (lC 13 cur w.1 0 vep tr 0 dn its),1,(cfg,ord,t0,t1,asked,known,(ph,vep,tr,vsrc,vdst,vpin,cur,ckpt,vf,vc,()),pin,[(its,dn,())],R),())
   else some (mD (lC 13 cur cur 0 vep tr 0 dn its),1,(cfg,ord,t0,t1,asked,known,(ph,vep,tr,vsrc,vdst,vpin,cur,ckpt,vf,vc,()),pin,[(its,dn,())],R),()):=by kernel_rfl
theorem zei {ep n0 n1:Int} {src dst:List UInt8} {t0 t1:List CD} {to':DU} {asked:TMD} {known:Bool} {v:aH} {pin:Int} {pg:List (List ae×Bool×Unit)} {tl:List (List ae×Int×Unit)} {again fen fen' over has dn htl hh:Bool} {hand:List dO} {hand':dO} {its tls:List ae} {up:Int}
  (hp:PgR pg has dn its) (ht:TlR tl htl tls up) (hv:uP v) (h1:St src) (h2:St dst) :
  ∃ q s,F24 (((ep,src,dst,(n0,n1,()),()),0,t0,t1,asked,known,v,pin,pg,tl,again,fen,hand,over,()),())=some (q,s,((ep,src,dst,(n0,n1,()),()),0,t0,t1,asked,known,v,pin,pg,tl,again,fen,hand,over,()),())∧
   F27 ((ep,src,dst,0,to',asked,known,v,pin,has,dn,its,htl,tls,up,again,fen',hh,hand',over,()),())=some (q,s,())∧yM q∧(s=0∨s=1):=by
 obtain⟨ph,vep,tr,vsrc,vdst,vpin,cur,ckpt,vf,vc,⟨⟩⟩:=v
 obtain⟨-,-,hcur⟩:=hv
 have hcur:St cur:=hcur
 have o2:decide ((0:Int)=2)=false:=rfl
 have o1:decide ((0:Int)=1)=false:=rfl
 have hend:St (endOf src):=by have:=zez (s:=src);unfold St at *;omega
 unfold F24 F27
 cases known with
 | false=>refine⟨sK,1,?_,?_,Gl,.inr rfl⟩ <;> simp only [Bool.not_false,cond_true]
 | true=>
 by_cases h3:ph=3
 ·have d3:decide (ph=3)=true:=decide_eq_true h3
  refine⟨NoT,0,?_,?_,GM,.inl rfl⟩ <;> simp only [d3,Bool.not_true,cond_false,cond_true,Option.bind_some,Sum.elim_inl]
 have d3:decide (ph=3)=false:=decide_eq_false h3
 by_cases he:ep < vep
 ·have de:decide (ep < vep)=true:=decide_eq_true he
  refine⟨NoT,0,?_,?_,GM,.inl rfl⟩ <;> simp only [d3,de,Bool.not_true,cond_false,cond_true,Int.reduceEq,decide_false,Option.bind_some,Sum.elim_inl]
 have de:decide (ep < vep)=false:=decide_eq_false he
 by_cases h4:ph=4
 ·subst h4
  have e4:decide ((4:Int)=4)=true:=rfl
  have e40:decide ((4:Int)=0)=false:=rfl
  by_cases hw:vep=ep
  ·have dw:decide (vep=ep)=true:=decide_eq_true hw
   cases over with
   | true=>
    refine⟨NoT,0,?_,?_,GM,.inl rfl⟩ <;> simp only [F43,de,dw,Bool.not_true,Bool.not_false,cond_false,cond_true,Int.reduceEq,decide_true,decide_false,Option.bind_some,Sum.elim_inl]
   | false=>
    refine⟨mD (lC 11 [] [] 0 ep 0 0 false []),0,?_,?_,rG _ _ _ _ _ _ gy gy pK,.inl rfl⟩ <;> simp only [F43,F61,F51,de,dw,Bool.not_true,Bool.not_false,cond_false,cond_true,Int.reduceEq,decide_true,decide_false,Option.bind_some,Sum.elim_inl]
  ·have dw:decide (vep=ep)=false:=decide_eq_false hw
   by_cases hpin:pin=0
   ·have dp:decide (pin=0)=true:=decide_eq_true hpin
    refine⟨sK,0,?_,?_,Gl,.inl rfl⟩ <;> simp only [F44,de,dw,dp,Bool.not_true,Bool.not_false,cond_false,cond_true,Int.reduceEq,decide_true,decide_false,Option.bind_some,Sum.elim_inl]
   ·have dp:decide (pin=0)=false:=decide_eq_false hpin
    refine⟨mD (lC 12 src dst pin ep 1 0 false []),1,?_,?_,rG _ _ _ _ _ _ h1 h2 pK,.inr rfl⟩ <;> simp only [F44,F61,F51,de,dw,dp,Bool.not_true,Bool.not_false,cond_false,cond_true,Int.reduceEq,decide_true,decide_false,Option.bind_some,Sum.elim_inl]
 have d4:decide (ph=4)=false:=decide_eq_false h4
 by_cases hb:ph=0∨again=true
 ·have key:∀ {T:Type} (X Y:T),(bif decide (ph=0) then X else bif again then X else Y)=X:=fun X Y=>by
   by_cases h0:ph=0
   ·rw [decide_eq_true h0];rfl
   ·rw [decide_eq_false h0,(hb.resolve_left h0:again=true)];rfl
  by_cases hpin:pin=0
  ·have dp:decide (pin=0)=true:=decide_eq_true hpin
   refine⟨sK,0,?_,?_,Gl,.inl rfl⟩
   ·simp only [F44,d3,de,d4,dp,Bool.not_true,cond_false,cond_true,Int.reduceEq,decide_false,Option.bind_some,key]
   ·simp only [d3,de,d4,dp,Bool.not_true,Bool.not_false,cond_false,cond_true,Int.reduceEq,decide_false,Option.bind_some,Sum.elim_inl,key]
  ·have dp:decide (pin=0)=false:=decide_eq_false hpin
   have key2:(bif decide (ph=0) then (some (Sum.inl (true,())):Option ((Bool×Unit)⊕(TMD×Int×Unit))) else some (Sum.inl (again,())))=some (Sum.inl (true,())):=by
    by_cases h0:ph=0
    ·rw [decide_eq_true h0];rfl
    ·rw [decide_eq_false h0,(hb.resolve_left h0:again=true)];rfl
   have key3:(bif decide (ph=0) then (some (Sum.inl (false,())):Option ((Bool×Unit)⊕(TMD×Int×Unit))) else bif again then some (Sum.inl (false,())) else some (Sum.inl (false,())))=some (Sum.inl (false,())):=by
    cases decide (ph=0) <;> cases again <;> rfl
   by_cases hw:vep=ep
   ·have dw:decide (vep=ep)=true:=decide_eq_true hw
    refine⟨mD (lC 12 src dst pin ep (wrap64 (tr+1)) 0 false []),1,?_,?_,rG _ _ _ _ _ _ h1 h2 pK,.inr rfl⟩
    ·simp only [F44,F61,d3,de,d4,dw,dp,Bool.not_true,cond_false,cond_true,Int.reduceEq,decide_false,Option.bind_some,Sum.elim_inl,key]
    ·simp only [F51,d3,de,d4,dw,dp,Bool.not_true,Bool.not_false,cond_false,cond_true,Int.reduceEq,decide_false,Option.bind_some,Sum.elim_inl,key2,key3]
   ·have dw:decide (vep=ep)=false:=decide_eq_false hw
    refine⟨mD (lC 12 src dst pin ep 1 0 false []),1,?_,?_,rG _ _ _ _ _ _ h1 h2 pK,.inr rfl⟩
    ·simp only [F44,F61,d3,de,d4,dw,dp,Bool.not_true,cond_false,Int.reduceEq,decide_false,Option.bind_some,Sum.elim_inl,key]
    ·simp only [F51,d3,de,d4,dw,dp,Bool.not_true,Bool.not_false,cond_false,cond_true,Int.reduceEq,decide_false,Option.bind_some,Sum.elim_inl,key2,key3]
 have h0:¬ ph=0:=fun h=>hb (.inl h)
 have d0:decide (ph=0)=false:=decide_eq_false h0
 obtain rfl:again=false:=by cases again with | false=>rfl | true=>exact absurd (.inr rfl) hb
 by_cases hq:ph=1
 ·subst hq
  have e1:decide ((1:Int)=1)=true:=rfl
  rcases hp with ⟨rfl,rfl⟩ | ⟨rfl,rfl,hi⟩
  ·refine⟨D8 5 src cur vpin,0,?_,?_,BV _ _ h1 hcur,.inl rfl⟩ <;> simp only [F45,de,List.isEmpty_nil,Bool.not_true,Bool.not_false,cond_false,cond_true,Int.reduceEq,decide_true,decide_false,Option.bind_some,Sum.elim_inl,bn]
  ·by_cases hl:0 < its.length
   ·obtain⟨w,hw,hs⟩:=zep hi hl
    have dl:decide ((0:Int) < Int.ofNat its.length)=true:=decide_eq_true (by rw [show Int.ofNat its.length=(its.length:Int) from rfl];omega)
    refine⟨mD (lC 13 cur w.1 0 vep tr 0 dn its),1,?_,?_,rG _ _ _ _ _ _ hcur hs hi,.inr rfl⟩
    ·simp only [de,ND,dl,hw,Bool.not_true,cond_false,cond_true,Int.reduceEq,decide_true,decide_false,Option.bind_some]
    ·simp only [F51,de,dl,hw,Bool.not_true,Bool.not_false,cond_false,cond_true,Int.reduceEq,decide_true,decide_false,Option.bind_some,Sum.elim_inl]
   ·have dl:decide ((0:Int) < Int.ofNat its.length)=false:=decide_eq_false (by rw [show Int.ofNat its.length=(its.length:Int) from rfl];omega)
    refine⟨mD (lC 13 cur cur 0 vep tr 0 dn its),1,?_,?_,rG _ _ _ _ _ _ hcur hcur hi,.inr rfl⟩
    ·simp only [de,ND,dl,Bool.not_true,cond_false,cond_true,Int.reduceEq,decide_true,decide_false,Option.bind_some]
    ·simp only [F51,de,dl,Bool.not_true,Bool.not_false,cond_false,cond_true,Int.reduceEq,decide_true,decide_false,Option.bind_some,Sum.elim_inl]
 have d1:decide (ph=1)=false:=decide_eq_false hq
 rcases ht with ⟨rfl,rfl⟩ | ⟨rfl,rfl,hi⟩
 ·refine⟨D8 4 src (endOf src) (wrap64 (ckpt+1)),0,?_,?_,BV _ _ h1 hend,.inl rfl⟩ <;> simp only [F46,za4,zad src h1,d3,de,d4,d0,d1,List.isEmpty_nil,Bool.not_true,Bool.not_false,cond_false,Int.reduceEq,decide_false,Option.bind_some,Sum.elim_inl,tk8,aV]
 ·refine⟨mD (lC 14 [] [] ckpt vep tr up false tls),1,?_,?_,rG _ _ _ _ _ _ gy gy hi,.inr rfl⟩ <;> simp only [F46,F62,F61,F51,d3,de,d4,d0,d1,List.isEmpty_cons,List.head?_cons,Bool.not_true,Bool.not_false,cond_false,cond_true,Int.reduceEq,decide_false,Option.bind_some,Sum.elim_inl,Sum.elim_inr,tk8,aV]
end Go.Proofs.YtpfjaaofpcbejaaGreat
