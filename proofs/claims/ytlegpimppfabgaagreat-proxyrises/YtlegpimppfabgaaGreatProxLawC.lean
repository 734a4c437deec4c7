/-
 Prox: what is wanted,by a proxy and by the document's;how it is begun;what is asked for.
-/
import Derived.Test.YtlegpimppfabgaaGreatProxLawB
namespace Go.Proofs.YtlegpimppfabgaaGreat
open Go.Sx Go Classical
set_option maxRecDepth 10000
theorem Gw {p k e:List UInt8} (h:(dC p p k e).2.2.1=true):dC p p k e=(k,e,true,()):=by
 rcases Bq p p k e with q|⟨k',e',hM,q⟩
 ·rw[q] at h;cases h
 ·obtain⟨-,-,-,-,⟨r,rfl,rfl⟩,hE⟩:=hM;rcases hE with⟨rfl,rfl⟩|⟨rfl,rfl⟩|⟨r',rfl,rfl⟩<;>exact q
theorem QD {p:List UInt8} {o:aK} (h:oOk p p o=true):oTo p p o=o:=by
 unfold oTo;rw[Gw h]
theorem zbA {p:List UInt8} {c:dm} (h:cOk p p c=true):cTo p p c=c:=by
 unfold cTo;unfold cOk at h;rcases GL p p c.1 with e|⟨r,-,-,h3,-,-,e⟩
 ·rw[e] at h;cases h
 ·rw[e,←h3]
theorem IZ {α:Type} {ok:α→Bool} {to:α→α} {l:List α} (h:l.all ok=true) (hs:∀ v,ok v=true→to v=v):l.map to=l:=by
 have:l.map to=l.map id:=List.map_congr_left fun v hv=>hs v (List.all_eq_true.1 h v hv);rw[this,List.map_id]
theorem Zb {p:List UInt8} {c:aJ} (h:(dU p p c).2.1=true):(dU p p c).1=c:=by
 unfold dU at *;cases hR:dec' (gq c∧c.1≤7) with
 | false=>rw[hR] at h;cases h
 | true=>
  rw[hR] at h;simp only[cond_true] at h ⊢;cases h2:decide (c.1≤2) with
  | true=>
   rw[h2] at h;simp only[cond_true] at h ⊢;cases hr:(dC p p c.2.1 c.2.2.1).2.2.1 with
   | false=>rw[hr] at h;cases h
   | true=>rw[Gw hr];rfl
  | false=>
   rw[h2] at h;simp only[cond_false] at h ⊢;cases h3:decide (c.1=3) with
   | false=>rfl
   | true=>
    rw[h3] at h;simp only[cond_true] at h ⊢;cases a1:c.2.2.2.2.2.2.2.1.all (cOk p p) with
    | false=>rw[a1] at h;cases h
    | true=>
     cases a2:c.2.2.2.2.2.2.2.2.1.all (oOk p p) with
     | false=>rw[a1,a2] at h;cases h
     | true=>
      cases a3:c.2.2.2.2.2.2.2.2.2.1.all (oOk p p) with
      | false=>rw[a1,a2,a3] at h;cases h
      | true=>rw[IZ a1 fun v=>zbA,IZ a2 fun v=>QD,IZ a3 fun v=>QD];rfl
noncomputable def iQ (p q:List UInt8) (w:aT):aT×Bool×Unit:=
 bif w.1 then((w.1,w.2.1,(dC p q w.2.2.1 w.2.2.2.1).1,(dC p q w.2.2.1 w.2.2.2.1).2.1,w.2.2.2.2),(dC p q w.2.2.1 w.2.2.2.1).2.2)
 else((w.1,(dU p q w.2.1).1,w.2.2),(dU p q w.2.1).2)
theorem YU {p:List UInt8} {w:aT} (h:(iQ p p w).2.1=true):(iQ p p w).1=w:=by
 obtain⟨rd,c,fr,en,rest⟩:=w;cases rd with
 | true=>have h:(dC p p fr en).2.2.1=true:=h;show(true,c,(dC p p fr en).1,(dC p p fr en).2.1,rest)=_;rw[Gw h]
 | false=>have h:(dU p p c).2.1=true:=h;show(false,(dU p p c).1,fr,en,rest)=_;rw[Zb h]
def SzW (w:aT):Prop:=ng w.2.1∧St w.2.2.1∧St w.2.2.2.1
abbrev dS (src dst:List UInt8) (k:Int):List UInt8:=if k=1 then dst else src
theorem Cj {src dst:List UInt8} {k:Int} (h1:St src) (h2:St dst):St (dS src dst k):=by unfold dS;split<;>assumption
theorem Dc (id:Int) (src dst:List UInt8) (nn:dI) (st:iw) (wt:aT) (k:Int):F35 (((id,src,dst,nn,()),st,wt,()),k,())=some (dS src dst k,()):=by
 unfold F35 dS;by_cases h:k=1
 ·rw[if_pos h];simp only[decide_eq_true h,cond_true]
 ·rw[if_neg h];simp only[decide_eq_false h,cond_false]
theorem Df (id:Int) (src dst:List UInt8) (nn:dI) (st:iw) (wt:aT) (w:aT) (k:Int) (hw:SzW w):F43 (((id,src,dst,nn,()),st,wt,()),w,k,())=some (iQ src (dS src dst k) w):=by
 unfold F43 iQ;simp only[Dc,Option.bind_some,Gl,JQ _ _ _ hw.1.1];cases w.1<;>rfl
theorem C9 (id:Int) (src dst:List UInt8) (R:Int×Int×Int×Bool×Bool×Int×aT×cu×ed×cu×Bool×Int×Int×List TBD×Int×Bool×Unit) (k:Int) (hk:k=0∨k=1):F40 ((id,src,dst,R),k,())=some (dS src dst k,()):=by
 rcases hk with rfl|rfl<;>rfl
theorem Jn (id:Int) (src dst:List UInt8) (R:Int×Int×Int×Bool×Bool×Int×aT×cu×ed×cu×Bool×Int×Int×List TBD×Int×Bool×Unit) (w:aT) (k:Int) (hk:k=0∨k=1) (hw:SzW w) (h1:St src) (h2:St dst) :
  F39 ((id,src,dst,R),w,k,())=some (iQ src (dS src dst k) w):=by
 unfold F39 iQ;simp only[C9 id src dst R k hk,Option.bind_some,F5 _ _ _ _ h1 (Cj h1 h2) hw.2.1 hw.2.2,zbZ _ _ h1 (Cj h1 h2) _ hw.1];cases w.1<;>rfl
theorem zbT {p q:List UInt8} {w:aT} (hq:St q) (hw:SzW w):SzW (iQ p q w).1:=by
 obtain⟨rd,c,fr,en,rest⟩:=w;obtain⟨z1,z2,z3⟩:=hw;cases rd with
 | true=>exact⟨z1,GG hq z2 z3⟩
 | false=>exact⟨zaH hq z1,z2,z3⟩
theorem zbu {c:aJ} (h:F28 (c,())=some (true,())):c.2.2.2.2.2.2.2.1.length≤10∧c.2.2.2.2.2.2.2.2.1.length≤10∧c.2.2.2.2.2.2.2.2.2.1.length≤10:=by
 obtain⟨k,a2,a3,a4,a5,a6,a7,a8,a9,a10,a11,a12,a13,a14,a15,a16,a17,⟨⟩⟩:=c;unfold F28 at h;by_cases c1:(10:Int)<Int.ofNat a8.length
 ·simp only[c1,decide_true,cond_true] at h;exact absurd h (by simp)
 by_cases c2:(10:Int)<Int.ofNat a9.length
 ·simp only[c1,c2,decide_true,decide_false,cond_true,cond_false] at h;exact absurd h (by simp)
 by_cases c3:(10:Int)<Int.ofNat a10.length
 ·simp only[c1,c2,c3,decide_true,decide_false,cond_true,cond_false] at h;exact absurd h (by simp)
 simp only[Int.ofNat_eq_natCast] at c1 c2 c3;exact⟨by show a8.length≤10;omega,by show a9.length≤10;omega,by show a10.length≤10;omega⟩
end Go.Proofs.YtlegpimppfabgaaGreat
