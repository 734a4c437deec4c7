/-
 Mirr: what is asked for next,by a mirror and by the document's.
-/
import Derived.Test.YtpfjaaofpcbejaaGreatMirrLawB
namespace Go.Proofs.YtpfjaaofpcbejaaGreat
open Go.Sx Go Classical
set_option maxRecDepth 10000
abbrev CmdM (k:Int) (key en:List UInt8) (rev ep try' to':Int) (dn:Bool) (its:List T70D):T28D:=(k,key,en,[],0,0,rev,[],[],[],ep,try',to',dn,its,[],[],())
abbrev AskM (c:T28D):TMD:=(2,0,zd2,(0,0,c,()),0,[],[],0,0,0,0,zbH,[],[],false,zbq,zbM,())
abbrev GetM (k:Int) (fr en:List UInt8) (rev:Int):TMD:=(k,0,zd2,zef,0,fr,en,rev,0,0,0,zbH,[],[],false,zbq,zbM,())
def zqZ (m:TMD):Prop:=Bnd m∧SzT m
theorem zcW {α:Type}:Sh ([]:List α):=by simp [Sh]
theorem zcV:St []:=by simp [St]
theorem zbS:zbi []:=⟨zcW,fun x h=>by simp at h⟩
theorem znI:ShS []:=⟨zcW,fun x h=>by simp at h⟩
theorem zf4:zj9 []:=⟨zcW,fun x h=>by simp at h⟩
theorem zuh (k:Int) {key en:List UInt8} (rev ep try' to':Int) (dn:Bool) {its:List T70D} (h1:St key) (h2:St en) (h3:zbi its):znh (CmdM k key en rev ep try' to' dn its):=
 ⟨⟨zcW,zcW,zcW,h3.1,znI,zcW⟩,⟨by simp,by simp,by simp,by simp,by simp⟩,h1,h2,fun x h=>by simp at h,fun x h=>by simp at h,fun x h=>by simp at h,h3,zf4⟩
theorem zuL:znh zwa:=zuh 0 0 0 0 0 false zcV zcV zbS
theorem zeu (k:Int) {key en:List UInt8} (rev ep try' to':Int) (dn:Bool) {its:List T70D} (h1:St key) (h2:St en) (h3:zbi its):zqZ (AskM (CmdM k key en rev ep try' to' dn its)):=by
 have hc:=zuh k rev ep try' to' dn h1 h2 h3
 have hs:ShT (AskM (CmdM k key en rev ep try' to' dn its)):=⟨zcW,hc.1,zcW,⟨zcW,fun b h=>by simp at h⟩,zcW,⟨znI,zcW⟩⟩
 exact⟨⟨hs,by simp,by simp⟩,hs,hc,zcV,zcV,⟨zcW,fun x h=>by simp at h⟩,fun b h=>by simp at h,zbS,⟨zf4,zcW⟩,⟨zcV,zcV,zcV⟩⟩
theorem zir (k:Int) {fr en:List UInt8} (rev:Int) (h1:St fr) (h2:St en):zqZ (GetM k fr en rev):=by
 have hs:ShT (GetM k fr en rev):=⟨zcW,zuL.1,zcW,⟨zcW,fun b h=>by simp at h⟩,zcW,⟨znI,zcW⟩⟩
 exact⟨⟨hs,by simp,by simp⟩,hs,zuL,h1,h2,⟨zcW,fun x h=>by simp at h⟩,fun b h=>by simp at h,zbS,⟨zf4,zcW⟩,⟨zcV,zcV,zcV⟩⟩
theorem zkJ:zqZ NoT:=zir 0 0 zcV zcV
theorem ziq:zqZ zld:=zir 7 0 zcV zcV
def PgR (pg:List (List T70D×Bool×Unit)) (has dn:Bool) (l:List T70D):Prop:=(has=false∧pg=[])∨(has=true∧pg=[(l,dn,())]∧zbi l)
def TlR (tl:List (List T70D×Int×Unit)) (has:Bool) (l:List T70D) (up:Int):Prop:=(has=false∧tl=[])∨(has=true∧tl=[(l,up,())]∧zbi l)
theorem zpZ {l:List T70D} (h:zbi l) (hl:0 < l.length):∃ v,idx l (wrap64 (Int.ofNat l.length - 1))=some v∧St v.1:=by
 have hs:=h.1
 unfold Sh at hs
 have e:wrap64 (Int.ofNat l.length - 1)=((l.length - 1:Nat):Int):=by
  rw [zaM (by simp;omega) (by simp;omega)]
  simp
  omega
 rw [e,zan]
 obtain⟨v,hv⟩:∃ v,l[l.length - 1]? = some v:=⟨_,List.getElem?_eq_getElem (by omega)⟩
 exact⟨v,hv,h.2 v (List.mem_of_getElem? hv)⟩
theorem zlu (cfg:Y24D) (ord:Int) (t0 t1:List CD) (asked:TMD) (known:Bool) (ph vep tr:Int) (vsrc vdst:List UInt8) (vpin:Int) (cur:List UInt8) (ckpt vf vc pin:Int) (its:List T70D) (dn:Bool) (R:List (List T70D×Int×Unit)×Bool×Bool×List T55D×Bool×Unit) :
  F45 ((cfg,ord,t0,t1,asked,known,(ph,vep,tr,vsrc,vdst,vpin,cur,ckpt,vf,vc,()),pin,[(its,dn,())],R),()) =
   bif decide ((0:Int) < Int.ofNat its.length) then Option.bind (idx its (wrap64 (Int.ofNat its.length - 1))) fun w=>some (AskM (CmdM 13 cur w.1 0 vep tr 0 dn its),1,(cfg,ord,t0,t1,asked,known,(ph,vep,tr,vsrc,vdst,vpin,cur,ckpt,vf,vc,()),pin,[(its,dn,())],R),())
   else some (AskM (CmdM 13 cur cur 0 vep tr 0 dn its),1,(cfg,ord,t0,t1,asked,known,(ph,vep,tr,vsrc,vdst,vpin,cur,ckpt,vf,vc,()),pin,[(its,dn,())],R),()):=by kernel_rfl
theorem zpL {ep n0 n1:Int} {src dst:List UInt8} {t0 t1:List CD} {to':Y59D} {asked:TMD} {known:Bool} {v:T53D} {pin:Int} {pg:List (List T70D×Bool×Unit)} {tl:List (List T70D×Int×Unit)} {again fen fen' over has dn htl hh:Bool} {hand:List T55D} {hand':T55D} {its tls:List T70D} {up:Int}
  (hp:PgR pg has dn its) (ht:TlR tl htl tls up) (hv:zhX v) (h1:St src) (h2:St dst) :
  ∃ q s,F24 (((ep,src,dst,(n0,n1,()),()),0,t0,t1,asked,known,v,pin,pg,tl,again,fen,hand,over,()),())=some (q,s,((ep,src,dst,(n0,n1,()),()),0,t0,t1,asked,known,v,pin,pg,tl,again,fen,hand,over,()),())∧
   F27 ((ep,src,dst,0,to',asked,known,v,pin,has,dn,its,htl,tls,up,again,fen',hh,hand',over,()),())=some (q,s,())∧zqZ q∧(s=0∨s=1):=by
 obtain⟨ph,vep,tr,vsrc,vdst,vpin,cur,ckpt,vf,vc,⟨⟩⟩:=v
 obtain⟨-,-,hcur⟩:=hv
 have hcur:St cur:=hcur
 have o2:decide ((0:Int)=2)=false:=rfl
 have o1:decide ((0:Int)=1)=false:=rfl
 have hend:St (endOf src):=by have:=zqk (s:=src);unfold St at *;omega
 unfold F24 F27
 cases known with
 | false=>refine⟨zld,1,?_,?_,ziq,.inr rfl⟩ <;> simp only [Bool.not_false,cond_true]
 | true=>
 by_cases h3:ph=3
 ·have d3:decide (ph=3)=true:=decide_eq_true h3
  refine⟨NoT,0,?_,?_,zkJ,.inl rfl⟩ <;> simp only [d3,Bool.not_true,cond_false,cond_true,Option.bind_some,Sum.elim_inl]
 have d3:decide (ph=3)=false:=decide_eq_false h3
 by_cases he:ep < vep
 ·have de:decide (ep < vep)=true:=decide_eq_true he
  refine⟨NoT,0,?_,?_,zkJ,.inl rfl⟩ <;> simp only [d3,de,Bool.not_true,cond_false,cond_true,Int.reduceEq,decide_true,decide_false,Option.bind_some,Sum.elim_inl]
 have de:decide (ep < vep)=false:=decide_eq_false he
 by_cases h4:ph=4
 ·subst h4
  have e4:decide ((4:Int)=4)=true:=rfl
  have e40:decide ((4:Int)=0)=false:=rfl
  by_cases hw:vep=ep
  ·have dw:decide (vep=ep)=true:=decide_eq_true hw
   cases over with
   | true=>
    refine⟨NoT,0,?_,?_,zkJ,.inl rfl⟩ <;> simp only [F43,d3,de,o2,e4,dw,Bool.not_true,Bool.not_false,cond_false,cond_true,Int.reduceEq,decide_true,decide_false,Option.bind_some,Sum.elim_inl]
   | false=>
    refine⟨AskM (CmdM 11 [] [] 0 ep 0 0 false []),0,?_,?_,zeu _ _ _ _ _ _ zcV zcV zbS,.inl rfl⟩ <;> simp only [F43,F61,F51,d3,de,o2,e4,dw,Bool.not_true,Bool.not_false,cond_false,cond_true,Int.reduceEq,decide_true,decide_false,Option.bind_some,Sum.elim_inl]
  ·have dw:decide (vep=ep)=false:=decide_eq_false hw
   by_cases hpin:pin=0
   ·have dp:decide (pin=0)=true:=decide_eq_true hpin
    refine⟨zld,0,?_,?_,ziq,.inl rfl⟩ <;> simp only [F44,d3,de,o2,e4,e40,dw,dp,Bool.not_true,Bool.not_false,cond_false,cond_true,Int.reduceEq,decide_true,decide_false,Option.bind_some,Sum.elim_inl]
   ·have dp:decide (pin=0)=false:=decide_eq_false hpin
    refine⟨AskM (CmdM 12 src dst pin ep 1 0 false []),1,?_,?_,zeu _ _ _ _ _ _ h1 h2 zbS,.inr rfl⟩ <;> simp only [F44,F61,F51,d3,de,o2,e4,e40,dw,dp,Bool.not_true,Bool.not_false,cond_false,cond_true,Int.reduceEq,decide_true,decide_false,Option.bind_some,Sum.elim_inl]
 have d4:decide (ph=4)=false:=decide_eq_false h4
 by_cases hb:ph=0∨again=true
 ·have key:∀ {T:Type} (X Y:T),(bif decide (ph=0) then X else bif again then X else Y)=X:=fun X Y=>by
   by_cases h0:ph=0
   ·rw [decide_eq_true h0];rfl
   ·rw [decide_eq_false h0,(hb.resolve_left h0:again=true)];rfl
  by_cases hpin:pin=0
  ·have dp:decide (pin=0)=true:=decide_eq_true hpin
   refine⟨zld,0,?_,?_,ziq,.inl rfl⟩
   ·simp only [F44,d3,de,o2,d4,dp,Bool.not_true,Bool.not_false,cond_false,cond_true,Int.reduceEq,decide_true,decide_false,Option.bind_some,Sum.elim_inl,key]
   ·simp only [d3,de,o2,d4,dp,Bool.not_true,Bool.not_false,cond_false,cond_true,Int.reduceEq,decide_true,decide_false,Option.bind_some,Sum.elim_inl,key]
  ·have dp:decide (pin=0)=false:=decide_eq_false hpin
   have key2:(bif decide (ph=0) then (some (Sum.inl (true,())):Option ((Bool×Unit)⊕(TMD×Int×Unit))) else some (Sum.inl (again,())))=some (Sum.inl (true,())):=by
    by_cases h0:ph=0
    ·rw [decide_eq_true h0];rfl
    ·rw [decide_eq_false h0,(hb.resolve_left h0:again=true)];rfl
   have key3:(bif decide (ph=0) then (some (Sum.inl (false,())):Option ((Bool×Unit)⊕(TMD×Int×Unit))) else bif again then some (Sum.inl (false,())) else some (Sum.inl (false,())))=some (Sum.inl (false,())):=by
    cases decide (ph=0) <;> cases again <;> rfl
   by_cases hw:vep=ep
   ·have dw:decide (vep=ep)=true:=decide_eq_true hw
    refine⟨AskM (CmdM 12 src dst pin ep (wrap64 (tr+1)) 0 false []),1,?_,?_,zeu _ _ _ _ _ _ h1 h2 zbS,.inr rfl⟩
    ·simp only [F44,F61,d3,de,o2,d4,dw,dp,Bool.not_true,Bool.not_false,cond_false,cond_true,Int.reduceEq,decide_true,decide_false,Option.bind_some,Sum.elim_inl,key]
    ·simp only [F51,d3,de,o2,d4,dw,dp,Bool.not_true,Bool.not_false,cond_false,cond_true,Int.reduceEq,decide_true,decide_false,Option.bind_some,Sum.elim_inl,key2,key3]
   ·have dw:decide (vep=ep)=false:=decide_eq_false hw
    refine⟨AskM (CmdM 12 src dst pin ep 1 0 false []),1,?_,?_,zeu _ _ _ _ _ _ h1 h2 zbS,.inr rfl⟩
    ·simp only [F44,F61,d3,de,o2,d4,dw,dp,Bool.not_true,Bool.not_false,cond_false,cond_true,Int.reduceEq,decide_true,decide_false,Option.bind_some,Sum.elim_inl,key]
    ·simp only [F51,d3,de,o2,d4,dw,dp,Bool.not_true,Bool.not_false,cond_false,cond_true,Int.reduceEq,decide_true,decide_false,Option.bind_some,Sum.elim_inl,key2,key3]
 have h0:¬ ph=0:=fun h=>hb (.inl h)
 have d0:decide (ph=0)=false:=decide_eq_false h0
 obtain rfl:again=false:=by cases again with | false=>rfl | true=>exact absurd (.inr rfl) hb
 by_cases hq:ph=1
 ·subst hq
  have e1:decide ((1:Int)=1)=true:=rfl
  rcases hp with ⟨rfl,rfl⟩ | ⟨rfl,rfl,hi⟩
  ·refine⟨GetM 5 src cur vpin,0,?_,?_,zir _ _ h1 hcur,.inl rfl⟩ <;> simp only [F45,d3,de,o2,d4,d0,e1,List.isEmpty_nil,Bool.not_true,Bool.not_false,cond_false,cond_true,Int.reduceEq,decide_true,decide_false,Option.bind_some,Sum.elim_inl]
  ·by_cases hl:0 < its.length
   ·obtain⟨w,hw,hs⟩:=zpZ hi hl
    have dl:decide ((0:Int) < Int.ofNat its.length)=true:=decide_eq_true (by rw [show Int.ofNat its.length=(its.length:Int) from rfl];omega)
    refine⟨AskM (CmdM 13 cur w.1 0 vep tr 0 dn its),1,?_,?_,zeu _ _ _ _ _ _ hcur hs hi,.inr rfl⟩
    ·simp only [d3,de,o2,d4,d0,e1,zlu,dl,hw,Bool.not_true,Bool.not_false,cond_false,cond_true,Int.reduceEq,decide_true,decide_false,Option.bind_some]
    ·simp only [F51,d3,de,o2,d4,d0,e1,dl,hw,Bool.not_true,Bool.not_false,cond_false,cond_true,Int.reduceEq,decide_true,decide_false,Option.bind_some,Sum.elim_inl]
   ·have dl:decide ((0:Int) < Int.ofNat its.length)=false:=decide_eq_false (by rw [show Int.ofNat its.length=(its.length:Int) from rfl];omega)
    refine⟨AskM (CmdM 13 cur cur 0 vep tr 0 dn its),1,?_,?_,zeu _ _ _ _ _ _ hcur hcur hi,.inr rfl⟩
    ·simp only [d3,de,o2,d4,d0,e1,zlu,dl,Bool.not_true,Bool.not_false,cond_false,cond_true,Int.reduceEq,decide_true,decide_false,Option.bind_some]
    ·simp only [F51,d3,de,o2,d4,d0,e1,dl,Bool.not_true,Bool.not_false,cond_false,cond_true,Int.reduceEq,decide_true,decide_false,Option.bind_some,Sum.elim_inl]
 have d1:decide (ph=1)=false:=decide_eq_false hq
 rcases ht with ⟨rfl,rfl⟩ | ⟨rfl,rfl,hi⟩
 ·refine⟨GetM 4 src (endOf src) (wrap64 (ckpt+1)),0,?_,?_,zir _ _ h1 hend,.inl rfl⟩ <;> simp only [F46,zkR,zfn src h1,d3,de,o2,o1,d4,d0,d1,List.isEmpty_nil,Bool.not_true,Bool.not_false,cond_false,cond_true,Int.reduceEq,decide_true,decide_false,Option.bind_some,Sum.elim_inl]
 ·refine⟨AskM (CmdM 14 [] [] ckpt vep tr up false tls),1,?_,?_,zeu _ _ _ _ _ _ zcV zcV hi,.inr rfl⟩ <;> simp only [F46,F62,F61,F51,d3,de,o2,o1,d4,d0,d1,List.isEmpty_cons,List.head?_cons,Bool.not_true,Bool.not_false,cond_false,cond_true,Int.reduceEq,decide_true,decide_false,Option.bind_some,Sum.elim_inl,Sum.elim_inr]
end Go.Proofs.YtpfjaaofpcbejaaGreat
