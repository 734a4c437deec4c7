/-
 Plain laws of what lies below,as this seat reaches them (by a program of the bench: port.py).
-/
import Derived.Test.YtpfjaaofpcbejaaGreatCallLawD
import Derived.Test.YtpfjaaofpcbejaaGreatSxS
namespace Go.Proofs.YtpfjaaofpcbejaaGreat
open Go.Sx Go Classical
set_option maxRecDepth 10000
theorem NU {s:List UInt8} (h1:1≤s.length) (h2:s.length≤32) (h3:s.all (fun c=>decide (33≤c.toNat) && decide (c.toNat≤126))=true):IsKey s:=
 ⟨h1,h2,fun c hc=>by simpa using List.all_eq_true.1 h3 c hc⟩
def gX (s:List UInt8):Prop:=s.length≤8∧IsKey s
theorem MF (s:List UInt8):F40 (s,())=some (decide (gX s),()):=by
 unfold F40 gX
 by_cases h:s.length≤8
 ·have e:decide (Int.ofNat s.length≤8)=true:=decide_eq_true (by simp;omega)
  simp only [e,cond_true,kF,Option.bind_some,h,true_and]
 ·have e:decide (Int.ofNat s.length≤8)=false:=decide_eq_false (by simp;omega)
  simp only [e,cond_false,h,false_and,decide_false]
theorem Es (s:List UInt8) (hs:s.length≤140737488351232):F38 (s,())=some (decide (gX s),()):=by
 unfold F38 gX
 by_cases h:s.length≤8
 ·have e:decide (Int.ofNat s.length≤8)=true:=decide_eq_true (by simp;omega)
  simp only [e,cond_true,jm s hs,Option.bind_some,h,true_and]
 ·have e:decide (Int.ofNat s.length≤8)=false:=decide_eq_false (by simp;omega)
  simp only [e,cond_false,h,false_and,decide_false]
theorem zaa (s p:List UInt8):F60 (s,p,())=some (begins s p,()):=by
 unfold F60
 by_cases h:p.length≤s.length
 ·have e:decide (Int.ofNat p.length≤Int.ofNat s.length)=true:=decide_eq_true (by simpa using h)
  simp only [e,cond_true,AP h,Option.bind_some,begins]
 ·have e:decide (Int.ofNat p.length≤Int.ofNat s.length)=false:=decide_eq_false (by simpa using h)
  simp only [e,cond_false,Lp h]
theorem zac (s p:List UInt8):F41 (s,p,())=some (begins s p,()):=by
 unfold F41
 simp [zaa]
def Under (p k:List UInt8):Prop:=gX p∧IsKey k∧begins k p=true
theorem Under.le {p k:List UInt8} (h:Under p k):p.length≤k.length:=by
 obtain⟨r,rfl⟩:=zir.1 h.2.2
 simp
noncomputable def endOf (s:List UInt8):List UInt8:=
 if gX s then s.set (s.length - 1) (Sx.byteOf (IntKind.wrap IntKind.u8 (aQ (s.getD (s.length - 1) 0)+aQ (UInt8.ofNat 1)))) else []
theorem zet {α:Type} (l:List α) (i:Nat) (h:i < l.length):gZ l (i:Int)=some i:=by
 unfold gZ
 have:(0:Int)≤(i:Int)∧(i:Int) < (l.length:Int):=⟨by omega,by omega⟩
 simp [this]
theorem za4 (s:List UInt8):F63 (s,())=some (endOf s,()):=by
 unfold F63 endOf
 simp only [MF,Option.bind_some]
 by_cases h:gX s
 ·have h1:=h.2.1
  have h2:=h.2.len
  have e:wrap64 (Int.ofNat s.length - 1)=((s.length - 1:Nat):Int):=by rw [MI,dU (by omega) (by omega)];omega
  have hlt:s.length - 1 < s.length:=by omega
  simp only [h,decide_true,Bool.not_true,cond_false,if_true,e,zet s _ hlt,Option.bind_some,List.getElem?_eq_getElem hlt,List.getD_eq_getElem?_getD,Option.getD_some]
 ·simp [h]
theorem zad (s:List UInt8) (hs:s.length≤140737488351232):F52 (s,())=some (endOf s,()):=by
 unfold F52 endOf
 simp only [Es s hs,Option.bind_some]
 by_cases h:gX s
 ·have h1:=h.2.1
  have h2:=h.2.len
  have e:wrap64 (Int.ofNat s.length - 1)=((s.length - 1:Nat):Int):=by rw [MI,dU (by omega) (by omega)];omega
  have hlt:s.length - 1 < s.length:=by omega
  have hsl:jP s 0 ((s.length - 1:Nat):Int)=some (s.take (s.length - 1)):=AP (by omega)
  simp only [h,decide_true,Bool.not_true,cond_false,if_true,e,hsl,aS,Option.bind_some,List.getElem?_eq_getElem hlt,List.getD_eq_getElem?_getD,Option.getD_some]
  rw [oG (by simp [dG];omega)]
  simp only [Option.bind_some]
  congr 2
  rw [List.set_eq_take_append_cons_drop,if_pos hlt,show s.length - 1+1=s.length from by omega,List.drop_length]
 ·simp [h]
theorem jM.len {a b:List UInt8} (h:jM a b):b.length≤32:=by
 rcases h.2 with rfl | h
 ·simp
 ·exact h.1.2.1
theorem zez {s:List UInt8}:(endOf s).length≤s.length:=by
 unfold endOf
 split <;> simp
theorem wrap_u8 {x:Int} (h1:0≤x) (h2:x≤255):IntKind.wrap .u8 x=x:=by
 simp only [IntKind.wrap,IntKind.bits,IntKind.signed]
 simp
 omega
theorem zhP (c:UInt8) (h:c.toNat≤126):c < Sx.byteOf (IntKind.wrap IntKind.u8 (aQ c+aQ (UInt8.ofNat 1))):=by
 have e:aQ c+aQ (UInt8.ofNat 1)=((c.toNat+1:Nat):Int):=rfl
 have e2:IntKind.wrap IntKind.u8 ((c.toNat+1:Nat):Int)=((c.toNat+1:Nat):Int):=wrap_u8 (by omega) (by omega)
 rw [e,e2,UInt8.lt_iff_toNat_lt]
 simp [Sx.byteOf]
 omega
theorem Ll {p:List UInt8} (h:gX p):∃ p0 c c',p=p0++[c]∧endOf p=p0++[c']∧c < c':=by
 have hne:p≠[]:=by
  intro e
  have:=h.2.1
  rw [e] at this
  exact absurd this (by simp)
 have hp:=List.dropLast_concat_getLast hne
 refine⟨p.dropLast,p.getLast hne,_,hp.symm,?_,zhP (p.getLast hne) (h.2.2.2 _ (List.getLast_mem hne)).2⟩
 unfold endOf
 rw [if_pos h]
 generalize hq:p.dropLast=q at hp
 generalize hc:p.getLast hne=c at hp
 subst hp
 simp [List.getD_eq_getElem?_getD]
theorem Oc {p:List UInt8} (h:gX p):endOf p≠[]:=by
 obtain⟨p0,c,c',_,e,_⟩:=Ll h
 rw [e];simp
theorem MW {p:List UInt8} (h:gX p) (r:List UInt8):endOf p≠p++r:=by
 obtain⟨p0,c,c',e1,e2,h3⟩:=Ll h
 rw [e2,e1]
 intro h
 have h:=List.append_cancel_left (h.trans (List.append_assoc _ _ _))
 obtain rfl:=(List.cons.inj h).1
 exact absurd h3 (by simp)
theorem MC {p:List UInt8} (h:gX p) (r:List UInt8):p++r≠[]:=by
 intro e
 have:=h.2.1
 rw [(List.append_eq_nil_iff.1 e).1] at this
 exact absurd this (by simp)
def Ends (p q e e':List UInt8):Prop:=(e=[]∧e'=[])∨(e=endOf p∧e'=endOf q)∨∃ r,e=p++r∧e'=q++r
def Moves (p q k e k' e':List UInt8):Prop:=gX p∧gX q∧jM k e∧jM k' e'∧(∃ r,k=p++r∧k'=q++r)∧Ends p q e e'
theorem Moves.symm {p q k e k' e':List UInt8} (h:Moves p q k e k' e'):Moves q p k' e' k e:=by
 obtain⟨h1,h2,h3,h4,⟨r,h5,h6⟩,h7⟩:=h
 refine⟨h2,h1,h4,h3,⟨r,h6,h5⟩,?_⟩
 rcases h7 with ⟨a,b⟩ | ⟨a,b⟩ | ⟨r,a,b⟩
 ·exact .inl ⟨b,a⟩
 ·exact .inr (.inl ⟨b,a⟩)
 ·exact .inr (.inr ⟨r,b,a⟩)
theorem Moves.trans {p q s k e k' e' k'' e'':List UInt8} (h:Moves p q k e k' e') (g:Moves q s k' e' k'' e''):Moves p s k e k'' e'':=by
 obtain⟨h1,h2,h3,h4,⟨r,h5,h6⟩,h7⟩:=h
 obtain⟨g1,g2,g3,g4,⟨r2,g5,g6⟩,g7⟩:=g
 obtain rfl:=List.append_cancel_left (h6.symm.trans g5)
 refine⟨h1,g2,h3,g4,⟨r,h5,g6⟩,?_⟩
 rcases h7 with ⟨a,b⟩ | ⟨a,b⟩ | ⟨t,a,b⟩
 ·rcases g7 with ⟨c,d⟩ | ⟨c,d⟩ | ⟨u,c,d⟩
  ·exact .inl ⟨a,d⟩
  ·exact absurd (c.symm.trans b) (Oc h2)
  ·exact absurd (c.symm.trans b) (MC h2 u)
 ·rcases g7 with ⟨c,d⟩ | ⟨c,d⟩ | ⟨u,c,d⟩
  ·exact absurd (b.symm.trans c) (Oc h2)
  ·exact .inr (.inl ⟨a,d⟩)
  ·exact absurd (b.symm.trans c) (MW h2 u)
 ·rcases g7 with ⟨c,d⟩ | ⟨c,d⟩ | ⟨u,c,d⟩
  ·exact absurd (b.symm.trans c) (MC h2 t)
  ·exact absurd (c.symm.trans b) (MW h2 t)
  ·obtain rfl:=List.append_cancel_left (b.symm.trans c)
   exact .inr (.inr ⟨t,a,d⟩)
end Go.Proofs.YtpfjaaofpcbejaaGreat
