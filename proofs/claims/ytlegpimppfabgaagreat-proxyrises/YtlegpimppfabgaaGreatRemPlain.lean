/-
 Plain laws of what lies below,as this seat reaches them (by a program of the bench: port.py).
-/
import Derived.Test.YtlegpimppfabgaaGreatTalkLawE
import Derived.Test.YtlegpimppfabgaaGreatSxS
namespace Go.Proofs.YtlegpimppfabgaaGreat
open Go.Sx Go Classical
set_option maxRecDepth 10000
theorem CO {s:List UInt8} (h1:1≤s.length) (h2:s.length≤32) (h3:s.all (fun c=>decide (33≤c.toNat) && decide (c.toNat≤126))=true):IsKey s:=
 ⟨h1,h2,fun c hc=>by simpa using List.all_eq_true.1 h3 c hc⟩
def dP (s:List UInt8):Prop:=s.length≤8∧IsKey s
theorem yw (s:List UInt8):F67 (s,())=some (decide (dP s),()):=by
 unfold F67 dP;by_cases h:s.length≤8
 ·have e:decide (Int.ofNat s.length≤8)=true:=decide_eq_true (by simp;omega);simp only[e,cond_true,jQ,Option.bind_some,h,true_and]
 ·have e:decide (Int.ofNat s.length≤8)=false:=decide_eq_false (by simp;omega);simp only[e,cond_false,h,false_and,decide_false]
theorem xR (s:List UInt8) (hs:s.length≤140737488351232):F76 (s,())=some (decide (dP s),()):=by
 unfold F76 dP;by_cases h:s.length≤8
 ·have e:decide (Int.ofNat s.length≤8)=true:=decide_eq_true (by simp;omega);simp only[e,cond_true,jg s hs,Option.bind_some,h,true_and]
 ·have e:decide (Int.ofNat s.length≤8)=false:=decide_eq_false (by simp;omega);simp only[e,cond_false,h,false_and,decide_false]
theorem Xi (s p:List UInt8):F93 (s,p,())=some (begins s p,()):=by
 unfold F93;by_cases h:p.length≤s.length
 ·have e:decide (Int.ofNat p.length≤Int.ofNat s.length)=true:=decide_eq_true (by simpa using h);simp only[e,cond_true,xW h,Option.bind_some,begins]
 ·have e:decide (Int.ofNat p.length≤Int.ofNat s.length)=false:=decide_eq_false (by simpa using h);simp only[e,cond_false,Hw h]
theorem Nv (s p:List UInt8):F97 (s,p,())=some (begins s p,()):=by
 unfold F97;by_cases h:p.length≤s.length
 ·have e:decide (Int.ofNat p.length≤Int.ofNat s.length)=true:=decide_eq_true (by simpa using h);simp only[e,cond_true,xW h,Option.bind_some,begins]
 ·have e:decide (Int.ofNat p.length≤Int.ofNat s.length)=false:=decide_eq_false (by simpa using h);simp only[e,cond_false,Hw h]
theorem Bl (s p:List UInt8):F68 (s,p,())=some (begins s p,()):=by
 unfold F68;simp[Xi]
def Under (p k:List UInt8):Prop:=dP p∧IsKey k∧begins k p=true
theorem Xy (p k:List UInt8):FO (p,k,())=some (decide (Under p k),()):=by
 unfold FO Under;simp only[yw,jQ,Bl,Option.bind_some];by_cases h1:dP p<;>by_cases h2:IsKey k<;>simp[h1,h2]
theorem Xk (p k:List UInt8) (hp:p.length≤140737488351232) (hk:k.length≤140737488351232):FQ (p,k,())=some (decide (Under p k),()):=by
 unfold FQ Under;simp only[xR p hp,jg k hk,Nv,Option.bind_some];by_cases h1:dP p<;>by_cases h2:IsKey k<;>simp[h1,h2]
noncomputable def dL (p q k:List UInt8):List UInt8×Bool×Unit:=
 if Under p k∧dP q∧IsKey (q++k.drop p.length) then(q++k.drop p.length,true,()) else([],false,())
theorem Under.le {p k:List UInt8} (h:Under p k):p.length≤k.length:=by
 obtain⟨r,rfl⟩:=zcG.1 h.2.2;simp
theorem GN (p q k:List UInt8):xK (p,q,k,())=some (dL p q k):=by
 unfold xK dL;simp only[Xy,yw,Option.bind_some];by_cases h1:Under p k
 ·by_cases h2:dP q
  ·have hle:=h1.le;have hk:=h1.2.1.len;have hq:=h2.2.len;simp only[h1,h2,decide_true,Bool.not_true,cond_false,BC hle,Option.bind_some,true_and];rw[iP (by simp[bT];omega)];simp only[Option.bind_some,jQ];by_cases h3:IsKey (q++k.drop p.length)<;>simp[h3]
  ·simp[h1,h2]
 ·simp[h1]
theorem Gf (p q k:List UInt8) (hp:p.length≤140737488351232) (hq:q.length≤140737488351232) (hk:k.length≤140737488351232):F96 (p,q,k,())=some (dL p q k):=by
 unfold F96 dL;simp only[Xk p k hp hk,xR q hq,Option.bind_some];by_cases h1:Under p k
 ·by_cases h2:dP q
  ·have hle:=h1.le;have hk':=h1.2.1.len;have hq':=h2.2.len;simp only[h1,h2,decide_true,Bool.not_true,cond_false,BC hle,Option.bind_some,true_and];rw[iP (by simp[bT];omega)];simp only[Option.bind_some];rw[jg _ (by simp;omega)];by_cases h3:IsKey (q++k.drop p.length)<;>simp[h3]
  ·simp[h1,h2]
 ·simp[h1]
noncomputable def endOf (s:List UInt8):List UInt8:=
 if dP s then s.set (s.length-1) (Sx.byteOf (IntKind.wrap IntKind.u8 (aA (s.getD (s.length-1) 0)+aA (UInt8.ofNat 1)))) else[]
theorem BP {α:Type} (l:List α) (i:Nat) (h:i<l.length):fC l (i:Int)=some i:=by
 unfold fC;have:(0:Int)≤(i:Int)∧(i:Int)<(l.length:Int):=⟨by omega,by omega⟩
 simp[this]
theorem GR (s:List UInt8):F37 (s,())=some (endOf s,()):=by
 unfold F37 endOf;simp only[yw,Option.bind_some];by_cases h:dP s
 ·have h1:=h.2.1;have h2:=h.2.len;have e:wrap64 (Int.ofNat s.length-1)=((s.length-1:Nat):Int):=by rw[PX,dW (by omega) (by omega)];omega
  have hlt:s.length-1<s.length:=by omega
  simp only[h,decide_true,Bool.not_true,cond_false,if_true,e,BP s _ hlt,Option.bind_some,List.getElem?_eq_getElem hlt,List.getD_eq_getElem?_getD,Option.getD_some]
 ·simp[h]
theorem Bo (s:List UInt8) (hs:s.length≤140737488351232):F41 (s,())=some (endOf s,()):=by
 unfold F41 endOf;simp only[xR s hs,Option.bind_some];by_cases h:dP s
 ·have h1:=h.2.1;have h2:=h.2.len;have e:wrap64 (Int.ofNat s.length-1)=((s.length-1:Nat):Int):=by rw[PX,dW (by omega) (by omega)];omega
  have hlt:s.length-1<s.length:=by omega
  have hsl:gQ s 0 ((s.length-1:Nat):Int)=some (s.take (s.length-1)):=xW (by omega);simp only[h,decide_true,Bool.not_true,cond_false,if_true,e,hsl,aI,Option.bind_some,List.getElem?_eq_getElem hlt,List.getD_eq_getElem?_getD,Option.getD_some];rw[iP (by simp[bT];omega)];simp only[Option.bind_some];congr 2;rw[List.set_eq_take_append_cons_drop,if_pos hlt,show s.length-1+1=s.length from by omega,List.drop_length]
 ·simp[h]
noncomputable def dC (p q k e:List UInt8):List UInt8×List UInt8×Bool×Unit:=
 if (dL p q k).2.1=true∧dZ k e then
  if e=[] then((dL p q k).1,[],true,())
  else if e=endOf p then(if dZ (dL p q k).1 (endOf q) then((dL p q k).1,endOf q,true,()) else([],[],false,()))
  else if begins e p=true then(if dZ (dL p q k).1 (q++e.drop p.length) then((dL p q k).1,q++e.drop p.length,true,()) else([],[],false,()))
  else([],[],false,())
 else([],[],false,())
theorem Cm {p q k:List UInt8} (h:(dL p q k).2.1=true):Under p k∧dP q∧IsKey (q++k.drop p.length)∧(dL p q k).1=q++k.drop p.length:=by
 unfold dL at h ⊢;by_cases hc:Under p k∧dP q∧IsKey (q++k.drop p.length)
 ·rw[if_pos hc];exact⟨hc.1,hc.2.1,hc.2.2,rfl⟩
 ·rw[if_neg hc] at h;exact Bool.noConfusion h
theorem dZ.len {a b:List UInt8} (h:dZ a b):b.length≤32:=by
 rcases h.2 with rfl|h
 ·simp
 ·exact h.1.2.1
theorem Gl (p q k e:List UInt8):F78 (p,q,k,e,())=some (dC p q k e):=by
 unfold F78 dC;simp only[GN,Option.bind_some,qK];cases h1:(dL p q k).2.1 with
 | false=>simp
 | true=>
  obtain⟨k1,k2,k3,k4⟩:=Cm h1;have hq:=k2.2.len;by_cases h2:dZ k e
  ·have he:=h2.len;simp only[h2,decide_true,Bool.not_true,cond_false,and_self,if_true];by_cases h3:e=[]
   ·simp[h3]
   ·simp only[h3,decide_false,cond_false,GR,Option.bind_some,if_false];by_cases h4:e=endOf p
    ·simp only[h4,decide_true,Bool.not_true,cond_false,Option.bind_some,Sum.elim_inl,if_true,qK];by_cases h5:dZ (dL p q k).1 (endOf q)<;>simp[h5]
    ·simp only[h4,decide_false,Bool.not_false,cond_true,Bl,Option.bind_some,if_false];cases h5:begins e p with
     | false=>simp
     | true=>
      have hle:p.length≤e.length:=by obtain⟨r,rfl⟩:=zcG.1 h5;simp
      simp only[Bool.not_true,cond_false,BC hle,Option.bind_some,if_true];rw[iP (by simp[bT];omega)];simp only[Option.bind_some,Sum.elim_inl,qK];by_cases h6:dZ (dL p q k).1 (q++e.drop p.length)<;>simp[h6]
  ·simp[h2]
theorem Iq {s:List UInt8}:(endOf s).length≤s.length:=by
 unfold endOf;split<;>simp
theorem F5 (p q k e:List UInt8) (hp:p.length≤140737488351232) (hq0:q.length≤140737488351232) (hk:k.length≤140737488351232) (he0:e.length≤140737488351232):F74 (p,q,k,e,())=some (dC p q k e):=by
 unfold F74 dC;simp only[Gf p q k hp hq0 hk,Option.bind_some,qG k e hk he0];cases h1:(dL p q k).2.1 with
 | false=>simp
 | true=>
  obtain⟨k1,k2,k3,k4⟩:=Cm h1;have hq:=k2.2.len;have hk1:(dL p q k).1.length≤140737488351232:=by rw[k4];have:=k3.len;omega
  by_cases h2:dZ k e
  ·have he:=h2.len;simp only[h2,decide_true,Bool.not_true,cond_false,and_self,if_true];by_cases h3:e=[]
   ·simp[h3]
   ·simp only[h3,decide_false,cond_false,Bo p hp,Bo q hq0,Option.bind_some,if_false];by_cases h4:e=endOf p
    ·simp only[h4,decide_true,cond_true,Option.bind_some,Sum.elim_inl,if_true];rw[qG _ _ hk1 (by have:= @Iq q;omega)];by_cases h5:dZ (dL p q k).1 (endOf q)<;>simp[h5]
    ·simp only[h4,decide_false,cond_false,Nv,Option.bind_some,if_false];cases h5:begins e p with
     | false=>simp
     | true=>
      have hle:p.length≤e.length:=by obtain⟨r,rfl⟩:=zcG.1 h5;simp
      simp only[cond_true,BC hle,Option.bind_some,if_true];rw[iP (by simp[bT];omega)];simp only[Option.bind_some,Sum.elim_inl];rw[qG _ _ hk1 (by simp;omega)];by_cases h6:dZ (dL p q k).1 (q++e.drop p.length)<;>simp[h6]
  ·simp[h2]
theorem wrap_u8 {x:Int} (h1:0≤x) (h2:x≤255):IntKind.wrap .u8 x=x:=by
 simp only[IntKind.wrap,IntKind.bits,IntKind.signed];simp;omega
theorem zb7 (c:UInt8) (h:c.toNat≤126):c<Sx.byteOf (IntKind.wrap IntKind.u8 (aA c+aA (UInt8.ofNat 1))):=by
 have e:aA c+aA (UInt8.ofNat 1)=((c.toNat+1:Nat):Int):=rfl;have e2:IntKind.wrap IntKind.u8 ((c.toNat+1:Nat):Int)=((c.toNat+1:Nat):Int):=wrap_u8 (by omega) (by omega);rw[e,e2,UInt8.lt_iff_toNat_lt];simp[Sx.byteOf];omega
theorem Hl {p:List UInt8} (h:dP p):∃ p0 c c',p=p0++[c]∧endOf p=p0++[c']∧c<c':=by
 have hne:p≠[]:=by intro e;have:=h.2.1;rw[e] at this;exact absurd this (by simp)
 have hp:=List.dropLast_concat_getLast hne;refine⟨p.dropLast,p.getLast hne,_,hp.symm,?_,zb7 (p.getLast hne) (h.2.2.2 _ (List.getLast_mem hne)).2⟩;unfold endOf;rw[if_pos h];generalize hq:p.dropLast=q at hp;generalize hc:p.getLast hne=c at hp;subst hp;simp[List.getD_eq_getElem?_getD]
theorem CS {p:List UInt8} (h:dP p):endOf p≠[]:=by
 obtain⟨p0,c,c',_,e,_⟩:=Hl h;rw[e];simp
theorem Ir {p:List UInt8} (h:dP p) (r:List UInt8):endOf p≠p++r:=by
 obtain⟨p0,c,c',e1,e2,h3⟩:=Hl h;rw[e2,e1];intro h;have h:=List.append_cancel_left (h.trans (List.append_assoc _ _ _));obtain rfl:=(List.cons.inj h).1;exact absurd h3 (by simp)
theorem QI {p:List UInt8} (h:dP p) (s:List UInt8):aU (p++s) (endOf p)=true:=by
 obtain⟨p0,c,c',e1,e2,h3⟩:=Hl h;rw[e2,e1,List.append_assoc,Gu,List.singleton_append,sW];simp[h3]
theorem BN {p:List UInt8} (h:dP p) (r:List UInt8):p++r≠[]:=by
 intro e;have:=h.2.1;rw[(List.append_eq_nil_iff.1 e).1] at this;exact absurd this (by simp)
def Ends (p q e e':List UInt8):Prop:=(e=[]∧e'=[])∨(e=endOf p∧e'=endOf q)∨∃ r,e=p++r∧e'=q++r
def Moves (p q k e k' e':List UInt8):Prop:=dP p∧dP q∧dZ k e∧dZ k' e'∧(∃ r,k=p++r∧k'=q++r)∧Ends p q e e'
theorem Moves.symm {p q k e k' e':List UInt8} (h:Moves p q k e k' e'):Moves q p k' e' k e:=by
 obtain⟨h1,h2,h3,h4,⟨r,h5,h6⟩,h7⟩:=h;refine⟨h2,h1,h4,h3,⟨r,h6,h5⟩,?_⟩;rcases h7 with⟨a,b⟩|⟨a,b⟩|⟨r,a,b⟩
 ·exact .inl ⟨b,a⟩
 ·exact .inr (.inl ⟨b,a⟩)
 ·exact .inr (.inr ⟨r,b,a⟩)
theorem Moves.trans {p q s k e k' e' k'' e'':List UInt8} (h:Moves p q k e k' e') (g:Moves q s k' e' k'' e''):Moves p s k e k'' e'':=by
 obtain⟨h1,h2,h3,h4,⟨r,h5,h6⟩,h7⟩:=h;obtain⟨g1,g2,g3,g4,⟨r2,g5,g6⟩,g7⟩:=g;obtain rfl:=List.append_cancel_left (h6.symm.trans g5);refine⟨h1,g2,h3,g4,⟨r,h5,g6⟩,?_⟩;rcases h7 with⟨a,b⟩|⟨a,b⟩|⟨t,a,b⟩
 ·rcases g7 with⟨c,d⟩|⟨c,d⟩|⟨u,c,d⟩
  ·exact .inl ⟨a,d⟩
  ·exact absurd (c.symm.trans b) (CS h2)
  ·exact absurd (c.symm.trans b) (BN h2 u)
 ·rcases g7 with⟨c,d⟩|⟨c,d⟩|⟨u,c,d⟩
  ·exact absurd (b.symm.trans c) (CS h2)
  ·exact .inr (.inl ⟨a,d⟩)
  ·exact absurd (b.symm.trans c) (Ir h2 u)
 ·rcases g7 with⟨c,d⟩|⟨c,d⟩|⟨u,c,d⟩
  ·exact absurd (b.symm.trans c) (BN h2 t)
  ·exact absurd (c.symm.trans b) (Ir h2 t)
  ·obtain rfl:=List.append_cancel_left (b.symm.trans c);exact .inr (.inr ⟨t,a,d⟩)
theorem O6 (p r:List UInt8):begins (p++r) p=true:=zcG.2 ⟨r,rfl⟩
theorem yf {p q k e k' e':List UInt8} (h:Moves p q k e k' e'):dC p q k e=(k',e',true,()):=by
 obtain⟨h1,h2,h3,h4,⟨r,rfl,rfl⟩,h7⟩:=h;have hk:dL p q (p++r)=(q++r,true,()):=by
  unfold dL;have:(p++r).drop p.length=r:=by simp
  rw[this];exact if_pos ⟨⟨h1,h3.1,O6 p r⟩,h2,h4.1⟩
 unfold dC;rw[hk,if_pos ⟨rfl,h3⟩];rcases h7 with⟨rfl,rfl⟩|⟨rfl,rfl⟩|⟨t,rfl,rfl⟩
 ·rw[if_pos rfl]
 ·rw[if_neg (CS h1),if_pos rfl,if_pos h4]
 ·rw[if_neg (BN h1 t),if_neg (fun h=>Ir h1 t h.symm),if_pos (O6 p t)];have:(p++t).drop p.length=t:=by simp
  rw[this,if_pos h4]
theorem Bq (p q k e:List UInt8):dC p q k e=([],[],false,())∨∃ k' e',Moves p q k e k' e'∧dC p q k e=(k',e',true,()):=by
 by_cases h1:(dL p q k).2.1=true∧dZ k e
 ·obtain⟨⟨k1,k2,k3⟩,k4,k5,k6⟩:=Cm h1.1;obtain⟨r,rfl⟩:=zcG.1 k3;have hd:(p++r).drop p.length=r:=by simp
  rw[hd] at k5 k6;by_cases h2:e=[]
  ·subst h2;exact .inr ⟨_,_,⟨k1,k4,h1.2,⟨k5,.inl rfl⟩,⟨r,rfl,rfl⟩,.inl ⟨rfl,rfl⟩⟩,yf ⟨k1,k4,h1.2,⟨k5,.inl rfl⟩,⟨r,rfl,rfl⟩,.inl ⟨rfl,rfl⟩⟩⟩
  ·by_cases h3:e=endOf p
   ·by_cases h4:dZ (q++r) (endOf q)
    ·have hM:Moves p q (p++r) e (q++r) (endOf q):=⟨k1,k4,h1.2,h4,⟨r,rfl,rfl⟩,.inr (.inl ⟨h3,rfl⟩)⟩
     exact .inr ⟨_,_,hM,yf hM⟩
    ·left;unfold dC;rw[if_pos h1,if_neg h2,if_pos h3,k6,if_neg h4]
   ·cases h4:begins e p with
    | true=>
     obtain⟨t,rfl⟩:=zcG.1 h4;by_cases h5:dZ (q++r) (q++t)
     ·have hM:Moves p q (p++r) (p++t) (q++r) (q++t):=⟨k1,k4,h1.2,h5,⟨r,rfl,rfl⟩,.inr (.inr ⟨t,rfl,rfl⟩)⟩
      exact .inr ⟨_,_,hM,yf hM⟩
     ·left;unfold dC;have hd2:(p++t).drop p.length=t:=by simp
      rw[if_pos h1,if_neg h2,if_neg h3,if_pos h4,hd2,k6,if_neg h5]
    | false=>left;unfold dC;rw[if_pos h1,if_neg h2,if_neg h3,if_neg (by rw[h4];exact Bool.noConfusion)]
 ·left;unfold dC;rw[if_neg h1]
end Go.Proofs.YtlegpimppfabgaaGreat
