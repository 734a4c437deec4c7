/-
 Prox: a tick,of a proxy and of the document's,side by side.
-/
import Derived.Test.YtlegpimppfabgaaGreatProxLawC
namespace Go.Proofs.YtlegpimppfabgaaGreat
open Go.Sx Go Classical
set_option maxRecDepth 10000
def jG (self pat k n:Int) (c:CD) (w:WD):Prop:=∃ r o,qp self pat k n r o c w
def rH (m:TMD):Prop:=Bnd m∧SzT m
theorem yC {self pat k n:Int} {c:CD} {w:WD} {m:TMD} (hpat:1≤pat∧pat≤100) (hn:1≤n∧n≤3) (h:jG self pat k n c w) (hm:rH m) :
  ∃ c' w' out out',F33 (c,m,())=some (out,c',())∧F38 (w,m,())=some (w',out',())∧jG self pat k n c' w'∧out.length≤1∧out'.length≤1:=by
 obtain⟨r,o,h⟩:=h;obtain⟨u,v⟩:=PW h;unfold F33 F38;cases o with
 | true=>
  obtain⟨p,ok,c',w',out,a1,a2,a3,-,hl⟩:=Zp hpat hn h;refine⟨c',w',bif ok then[p] else[],out,?_,?_,⟨r,true,a3⟩,by cases ok<;>simp,hl⟩
  ·simp only[u,Option.bind_some,Bool.not_true,cond_false,a1];cases ok<;>rfl
  ·simp only[v,cond_true,a2,Option.bind_some]
 | false=>
  rcases zbF hpat hn h hm.1 hm.2 with⟨p,c',w',a1,a2,a3,-⟩|⟨a1,a2⟩
  ·refine⟨c',w',[p],[p],?_,?_,⟨_,true,a3⟩,Nat.le_refl _,Nat.le_refl _⟩
   ·simp only[u,Option.bind_some,Bool.not_false,cond_true,a1,decide_true]
   ·simp only[v,cond_false,a2,Option.bind_some,decide_true,Bool.not_true]
  ·refine⟨c,w,[],[],?_,?_,⟨r,false,h⟩,Nat.zero_le _,Nat.zero_le _⟩
   ·simp only[u,Option.bind_some,Bool.not_false,cond_true,a1];rfl
   ·simp only[v,cond_false,a2,Option.bind_some];rfl
abbrev QM (k:Int) (job:lK) (cl:Int) (fr en:List UInt8) (rev most:Int):TMD:=(k,0,jW,job,cl,fr,en,rev,most,0,0,dX,[],[],false,gZ,jT,())
theorem mX:St []:=by simp[St]
theorem Yv:mG []:=⟨iE,fun x h=>by simp at h⟩
theorem Zw:zk []:=⟨iE,fun x h=>by simp at h⟩
theorem Uo (k:Int) {job:lK} (cl:Int) {fr en:List UInt8} (rev most:Int) (hj:ng job.2.2.1) (hs:job.2.2.1.2.2.2.2.2.2.2.2.2.2.2.2.2.2.2.1.length≤20) (h1:St fr) (h2:St en):rH (QM k job cl fr en rev most):=by
 have hsh:ShT (QM k job cl fr en rev most):=⟨iE,hj.1,iE,⟨iE,fun b h=>by simp at h⟩,iE,⟨JF,iE⟩⟩
 exact⟨⟨hsh,Nat.le_trans hs (by decide),by simp⟩,hsh,hj,h1,h2,⟨iE,fun x h=>by simp at h⟩,fun b h=>by simp at h,Yv,⟨Zw,iE⟩,⟨mX,mX,mX⟩⟩
theorem Ji:ng fB:=DC (by simp[gJ,IntKind.min,IntKind.max,IntKind.bits,IntKind.signed])
theorem DV (k cl:Int) {fr en:List UInt8} (rev most:Int) (h1:St fr) (h2:St en):rH (QM k gI cl fr en rev most):=Uo k (job:=gI) cl rev most Ji (Nat.zero_le _) h1 h2
abbrev zL:TMD:=QM 7 gI 0 [] [] 0 0
theorem zbq:rH zL:=DV 7 0 0 0 mX mX
def zu (w:aT):Nat:=w.2.1.2.2.2.2.2.2.2.2.2.2.2.2.2.2.2.1.length
theorem YC (p q:List UInt8) (c:aJ):(dU p q c).1.2.2.2.2.2.2.2.2.2.2.2.2.2.2.2.1.length≤c.2.2.2.2.2.2.2.2.2.2.2.2.2.2.2.1.length:=by
 unfold dU;cases dec' (gq c∧c.1≤7) with
 | false=>exact Nat.zero_le _
 | true=>
  cases decide (c.1≤2) with
  | true=>
   cases (dC p q c.2.1 c.2.2.1).2.2.1 with
   | false=>exact Nat.zero_le _
   | true=>exact Nat.le_refl _
  | false=>
   cases decide (c.1=3) with
   | false=>exact Nat.le_refl _
   | true=>
    cases c.2.2.2.2.2.2.2.1.all (cOk p q) with
    | false=>exact Nat.zero_le _
    | true=>
     cases c.2.2.2.2.2.2.2.2.1.all (oOk p q) with
     | false=>exact Nat.zero_le _
     | true=>
      cases c.2.2.2.2.2.2.2.2.2.1.all (oOk p q) with
      | false=>exact Nat.zero_le _
      | true=>exact Nat.le_refl _
theorem zaK (p q:List UInt8) (w:aT):zu (iQ p q w).1≤zu w:=by
 obtain⟨rd,c,rest⟩:=w;cases rd with
 | true=>exact Nat.le_refl _
 | false=>exact YC p q c
def quM (id seq:Int) (w:aT):TMD:=bif w.1 then QM 3 gI (wrap64 (id+1)) w.2.2.1 w.2.2.2.1 w.2.2.2.2.1 w.2.2.2.2.2.1 else QM 2 (wrap64 (id+1),seq,w.2.1,()) 0 [] [] 0 0
theorem zck {id seq:Int} {w:aT} (hw:SzW w) (hs:zu w≤20):rH (quM id seq w):=by
 unfold quM;cases w.1 with
 | true=>exact DV 3 _ _ _ hw.2.1 hw.2.2
 | false=>exact Uo 2 0 0 0 hw.1 hs mX mX
theorem YO (id:Int) (src dst:List UInt8) (nn:dI) (site:Int) (busy won:Bool) (seq next:Int) (cnt:dI) (wt:aT) (hw:SzW wt) :
  F34 (((id,src,dst,nn,()),(site,busy,won,seq,next,cnt,()),wt,()),())=some (quM id seq (iQ src (dS src dst site) wt).1,()):=by
 unfold F34;refine aB (Df id src dst nn _ wt wt site hw) ?_;generalize iQ src (dS src dst site) wt=z;obtain⟨⟨rd,rest⟩,ok⟩:=z;cases rd<;>rfl
section
variable (cfg:eQ) (site:Int) (busy won:Bool) (seq next:Int) (cnt:dI) (want:aT) (d0 d1 lk s0 s1:CD) (wt:List fD) (cur:Bool)
theorem p13:FK ((cfg,(site,busy,won,seq,next,cnt,()),want,[d0],[d1],[lk],[s0],[s1],wt,cur,()),())=bif (won || cur) then(F33 (lk,zL,())).bind fun b=>some (Sum.inl (b.1,[b.2.1],())) else some (Sum.inl ([],[lk],())):=by
 cases won<;>cases cur<;>rfl
theorem q13a (x1:List bg×List CD×Unit):xG ((cfg,(0,busy,won,seq,next,cnt,()),want,[d0],[d1],[lk],[s0],[s1],wt,cur,()),()) x1 =
  bif (busy && !won) then(F34 ((cfg,(0,busy,won,seq,next,cnt,()),want,()),())).bind fun b=>(F33 (d0,b)).bind fun b=>(bn x1.1 b.1).bind fun b_2=>some (Sum.inl (b_2,[b.2.1],[d1],())) else some (Sum.inl (x1.1,[d0],[d1],())):=by
 cases busy<;>cases won<;>rfl
theorem q13b (x1:List bg×List CD×Unit):xG ((cfg,(1,busy,won,seq,next,cnt,()),want,[d0],[d1],[lk],[s0],[s1],wt,cur,()),()) x1 =
  bif (busy && !won) then(F34 ((cfg,(1,busy,won,seq,next,cnt,()),want,()),())).bind fun b=>(F33 (d1,b)).bind fun b=>(bn x1.1 b.1).bind fun b_2=>some (Sum.inl (b_2,[d0],[b.2.1],())) else some (Sum.inl (x1.1,[d0],[d1],())):=by
 cases busy<;>cases won<;>rfl
abbrev pst (cfg:eQ) (site:Int) (busy won:Bool) (seq next:Int) (cnt:dI) (want:aT):eQ×iw×aT×Unit:=(cfg,(site,busy,won,seq,next,cnt,()),want,())
theorem r13n (x1:List bg×List CD×Unit) (x2:List bg×List CD×List CD×Unit):nP ((cfg,(site,busy,won,seq,next,cnt,()),want,[d0],[d1],[lk],[s0],[s1],[],cur,()),()) x1 x2=some (x2.1,(cfg,(site,busy,won,seq,next,cnt,()),want,x2.2.1,x2.2.2.1,x1.2.1,[s0],[s1],[],cur,()),()):=by
 unfold nP;simp only[List.isEmpty_nil,cond_true,decide_true]
theorem r13e (start:Int) (told:List TBD) {ended:Int} (h:ended≠0) (x1:List bg×List CD×Unit) (x2:List bg×List CD×List CD×Unit):nP ((cfg,(site,busy,won,seq,next,cnt,()),want,[d0],[d1],[lk],[s0],[s1],[(start,told,ended,())],cur,()),()) x1 x2=some (x2.1,(cfg,(site,busy,won,seq,next,cnt,()),want,x2.2.1,x2.2.2.1,x1.2.1,[s0],[s1],[(start,told,ended,())],cur,()),()):=by
 unfold nP;simp only[List.isEmpty_cons,List.head?_cons,List.getElem?_cons_zero,Option.bind_some,decide_eq_false h,Bool.not_false,cond_true,cond_false,decide_true]
theorem r13a (start:Int) (told:List TBD) (x1:List bg×List CD×Unit) (x2:List bg×List CD×List CD×Unit) (hk:(decide (site=1) && decide (cnt.1<next))=false):nP ((cfg,(site,busy,won,seq,next,cnt,()),want,[d0],[d1],[lk],[s0],[s1],[(start,told,0,())],cur,()),()) x1 x2 =
  (F35 (pst cfg site busy won seq next cnt want,0,())).bind fun b=>(F36 (pst cfg site busy won seq next cnt want,())).bind fun b_1=>(F37 b).bind fun b_2=>(F33 (s0,QM 4 gI b_1.1 b.1 b_2.1 next 0,())).bind fun b=>(bn x2.1 b.1).bind fun b_4=>some (b_4,(cfg,(site,busy,won,seq,next,cnt,()),want,x2.2.1,x2.2.2.1,x1.2.1,[b.2.1],[s1],[(start,told,0,())],cur,()),()):=by
 have h0:decide ((0:Int)=Int.ofNat 0)=true:=rfl;unfold nP;cases h1:decide (site=1) with
 | false=>simp only[List.isEmpty_cons,List.head?_cons,List.getElem?_cons_zero,Option.bind_some,decide_true,Bool.not_true,cond_false,h0,cond_true,Sum.elim_inl]
 | true=>rw[h1,Bool.true_and] at hk;simp only[List.isEmpty_cons,List.head?_cons,List.getElem?_cons_zero,Option.bind_some,decide_true,Bool.not_true,cond_false,hk,h0,cond_true,Sum.elim_inl]
theorem r13b (start:Int) (told:List TBD) (x1:List bg×List CD×Unit) (x2:List bg×List CD×List CD×Unit) (hk:(decide (site=1) && decide (cnt.1<next))=true):nP ((cfg,(site,busy,won,seq,next,cnt,()),want,[d0],[d1],[lk],[s0],[s1],[(start,told,0,())],cur,()),()) x1 x2 =
  (F35 (pst cfg site busy won seq next cnt want,1,())).bind fun b=>(F36 (pst cfg site busy won seq next cnt want,())).bind fun b_1=>(F37 b).bind fun b_2=>(F33 (s1,QM 4 gI b_1.1 b.1 b_2.1 next 0,())).bind fun b=>(bn x2.1 b.1).bind fun b_4=>some (b_4,(cfg,(site,busy,won,seq,next,cnt,()),want,x2.2.1,x2.2.2.1,x1.2.1,[s0],[b.2.1],[(start,told,0,())],cur,()),()):=by
 have h0:decide ((1:Int)=Int.ofNat 0)=false:=rfl;have h3:decide ((1:Int)=Int.ofNat (0+1))=true:=rfl;rw[Bool.and_eq_true] at hk;obtain⟨h1,h2⟩:=hk;unfold nP;simp only[List.isEmpty_cons,List.head?_cons,List.getElem?_cons_zero,Option.bind_some,decide_true,Bool.not_true,cond_false,h1,h2,h0,h3,cond_true,Sum.elim_inl]
end
section
variable (id:Int) (src dst:List UInt8) (site fr cut:Int) (busy won:Bool) (seq:Int) (want:aT) (e0 e1 lw t0 t1:WD) (wat:Bool) (start next:Int) (told:List TBD) (ended:Int) (cur:Bool)
theorem p14:Nc ((id,src,dst,site,fr,cut,busy,won,seq,want,(e0,e1,()),lw,(t0,t1,()),wat,start,next,told,ended,cur,()),())=bif (won || cur) then(F38 (lw,zL,())).bind fun b=>some (Sum.inl (b.2.1,b.1,())) else some (Sum.inl ([],lw,())):=by
 cases won<;>cases cur<;>rfl
theorem q14 (k:Int) (x1:List bg×WD×Unit) {z:aT×Bool×Unit} (hz:F39 ((id,src,dst,k,fr,cut,busy,won,seq,want,(e0,e1,()),x1.2.1,(t0,t1,()),wat,start,next,told,ended,cur,()),want,k,())=some z) (hk:k=0∨k=1) :
  FC ((id,src,dst,k,fr,cut,busy,won,seq,want,(e0,e1,()),lw,(t0,t1,()),wat,start,next,told,ended,cur,()),()) x1 =
  bif (busy && !won) then(F38 (if k=0 then e0 else e1,quM id seq z.1,())).bind fun b=>(bn [] x1.1).bind fun b_1=>(bn b_1 b.2.1).bind fun b_2=>some (Sum.inl (b_2,(if k=0 then b.1 else e0,if k=0 then e1 else b.1,()),())) else some (Sum.inl (x1.1,(e0,e1,()),())):=by
 obtain⟨⟨rd,rest⟩,ok⟩:=z;rcases hk with rfl|rfl
 all_goals
  cases busy
  ·rfl
  ·cases won
   ·exact aB hz (by cases rd<;>rfl)
   ·rfl
theorem r14n (x1:List bg×WD×Unit) (x2:List bg×cu×Unit):qC ((id,src,dst,site,fr,cut,busy,won,seq,want,(e0,e1,()),lw,(t0,t1,()),false,start,next,told,ended,cur,()),()) x1 x2=some ((id,src,dst,site,fr,cut,busy,won,seq,want,x2.2.1,x1.2.1,(t0,t1,()),false,start,next,told,ended,cur,()),x2.1,()):=rfl
theorem r14e (h:ended≠0) (x1:List bg×WD×Unit) (x2:List bg×cu×Unit):qC ((id,src,dst,site,fr,cut,busy,won,seq,want,(e0,e1,()),lw,(t0,t1,()),true,start,next,told,ended,cur,()),()) x1 x2=some ((id,src,dst,site,fr,cut,busy,won,seq,want,x2.2.1,x1.2.1,(t0,t1,()),true,start,next,told,ended,cur,()),x2.1,()):=by
 unfold qC;simp only[Bool.not_true,cond_false,decide_eq_false h,Bool.not_false,cond_true]
theorem r14a (x1:List bg×WD×Unit) (x2:List bg×cu×Unit) (hk:(decide (site=1) && decide (fr<next))=false) {nm en:List UInt8} (h1:F40 ((id,src,dst,site,fr,cut,busy,won,seq,want,x2.2.1,x1.2.1,(t0,t1,()),true,start,next,told,0,cur,()),0,())=some (nm,())) (h2:F41 (nm,())=some (en,())) :
  qC ((id,src,dst,site,fr,cut,busy,won,seq,want,(e0,e1,()),lw,(t0,t1,()),true,start,next,told,0,cur,()),()) x1 x2 =
  (F38 (t0,QM 4 gI (wrap64 (id+1)) nm en next 0,())).bind fun b=>(bn [] x2.1).bind fun b_6=>(bn b_6 b.2.1).bind fun b'=>some ((id,src,dst,site,fr,cut,busy,won,seq,want,x2.2.1,x1.2.1,(b.1,t1,()),true,start,next,told,0,cur,()),b',()):=by
 unfold qC;cases hs:decide (site=1) with
 | false=>simp only[decide_true,Bool.not_true,cond_false,Option.bind_some,Sum.elim_inl,h1,h2];rfl
 | true=>rw[hs,Bool.true_and] at hk;simp only[decide_true,Bool.not_true,cond_false,cond_true,hk,Option.bind_some,Sum.elim_inl,h1,h2];rfl
theorem r14b (x1:List bg×WD×Unit) (x2:List bg×cu×Unit) (hk:(decide (site=1) && decide (fr<next))=true) {nm en:List UInt8} (h1:F40 ((id,src,dst,site,fr,cut,busy,won,seq,want,x2.2.1,x1.2.1,(t0,t1,()),true,start,next,told,0,cur,()),1,())=some (nm,())) (h2:F41 (nm,())=some (en,())) :
  qC ((id,src,dst,site,fr,cut,busy,won,seq,want,(e0,e1,()),lw,(t0,t1,()),true,start,next,told,0,cur,()),()) x1 x2 =
  (F38 (t1,QM 4 gI (wrap64 (id+1)) nm en next 0,())).bind fun b=>(bn [] x2.1).bind fun b_6=>(bn b_6 b.2.1).bind fun b'=>some ((id,src,dst,site,fr,cut,busy,won,seq,want,x2.2.1,x1.2.1,(t0,b.1,()),true,start,next,told,0,cur,()),b',()):=by
 unfold qC;rw[Bool.and_eq_true] at hk;obtain⟨hs,hk⟩:=hk;simp only[decide_true,Bool.not_true,cond_false,cond_true,hs,hk,Option.bind_some,Sum.elim_inl,h1,h2];rfl
end
def WR (wt:List fD) (wat:Bool) (start:Int) (told:List TBD) (ended:Int):Prop:=(wt=[]∧wat=false∧told=[]∧ended=0)∨(wt=[(start,told,ended,())]∧wat=true)
def jJ (id n0 n1 sf:Int) (src dst:List UInt8) (site fr next start:Int) (told:List TBD) (wat:Bool) (p:bC) (w:bD):Prop:=
 ∃ d0 d1 lk s0 s1 e0 e1 lw t0 t1 busy won seq cut want wt ended cur,
  p=((id,src,dst,(n0,n1,()),()),(site,busy,won,seq,next,(fr,cut,()),()),want,[d0],[d1],[lk],[s0],[s1],wt,cur,())∧
  w=(id,src,dst,site,fr,cut,busy,won,seq,want,(e0,e1,()),lw,(t0,t1,()),wat,start,next,told,ended,cur,())∧
  jG sf 6 0 n0 d0 e0∧jG sf 6 1 n1 d1 e1∧jG sf 6 1 n1 lk lw∧jG sf 6 0 n0 s0 t0∧jG sf 6 1 n1 s1 t1∧
  WR wt wat start told ended∧(site=0∨site=1)∧SzW want∧zu want≤20
theorem mf {α:Type} {a b:List α} (h:a.length≤100) (g:b.length≤100):bn a b=some (a++b):=iP (by have:bT=34359738368:=rfl;omega)
theorem Zq {id n0 n1 sf:Int} {src dst:List UInt8} {site fr next start:Int} {told:List TBD} {wat:Bool} {p:bC} {w:bD} (hn0:1≤n0∧n0≤3) (hn1:1≤n1∧n1≤3) (hs1:St src) (hs2:St dst) (h:jJ id n0 n1 sf src dst site fr next start told wat p w) :
  ∃ out p' w' out',F13 (p,())=some (out,p',())∧F14 (w,())=some (w',out',())∧jJ id n0 n1 sf src dst site fr next start told wat p' w':=by
 obtain⟨d0,d1,lk,s0,s1,e0,e1,lw,t0,t1,busy,won,seq,cut,want,wt,ended,cur,rfl,rfl,k0,k1,kl,m0,m1,hw,hsite,hz,hss⟩:=h;have hp:(1:Int)≤6∧(6:Int)≤100:=by decide
 rw[show F13 _=_ from zcE _,show F14 _=_ from zcD _,p13,p14];obtain⟨o1,o1',lk',lw',a1,a2,kl',la,la'⟩:∃ o1 o1' lk' lw',(bif (won || cur) then(F33 (lk,zL,())).bind fun b=>some (Sum.inl (b.1,[b.2.1],())) else some (Sum.inl ([],[lk],())):Option ((List bg×List CD×Unit)⊕(List bg×bC×Unit)))=some (.inl (o1,[lk'],()))∧
   (bif (won || cur) then(F38 (lw,zL,())).bind fun b=>some (Sum.inl (b.2.1,b.1,())) else some (Sum.inl ([],lw,())):Option ((List bg×WD×Unit)⊕(bD×List bg×Unit)))=some (.inl (o1',lw',()))∧jG sf 6 1 n1 lk' lw'∧o1.length≤1∧o1'.length≤1:=by
  cases won || cur with
  | false=>exact⟨_,_,_,_,rfl,rfl,kl,Nat.zero_le _,Nat.zero_le _⟩
  | true=>obtain⟨c',w',out,out',b1,b2,b3,b4,b5⟩:=yC hp hn1 kl zbq;exact⟨out,out',c',w',by simp only[cond_true,b1,Option.bind_some],by simp only[cond_true,b2,Option.bind_some],b3,b4,b5⟩
 rw[a1,a2];simp only[Option.bind_some,Sum.elim_inl];have hq:=YO id src dst (n0,n1,()) site busy won seq next (fr,cut,()) want hz
 have hgood:rH (quM id seq (iQ src (dS src dst site) want).1):=zck (zbT (Cj hs1 hs2) hz) (Nat.le_trans (zaK _ _ _) hss);have hnam:=Jn id src dst (site,fr,cut,busy,won,seq,want,(e0,e1,()),lw',(t0,t1,()),wat,start,next,told,ended,cur,()) want site hsite hz hs1 hs2;obtain⟨o2,o2',d0',d1',e0',e1',b1,b2,k0',k1',lb,lb'⟩:∃ o2 o2' d0' d1' e0' e1',
   xG (((id,src,dst,(n0,n1,()),()),(site,busy,won,seq,next,(fr,cut,()),()),want,[d0],[d1],[lk],[s0],[s1],wt,cur,()),()) (o1,[lk'],())=some (.inl (o2,[d0'],[d1'],()))∧
   FC ((id,src,dst,site,fr,cut,busy,won,seq,want,(e0,e1,()),lw,(t0,t1,()),wat,start,next,told,ended,cur,()),()) (o1',lw',())=some (.inl (o2',(e0',e1',()),()))∧jG sf 6 0 n0 d0' e0'∧jG sf 6 1 n1 d1' e1'∧o2.length≤2∧o2'.length≤2:=by
  rw[q14 _ _ _ _ _ _ _ _ _ _ _ _ _ _ _ _ _ _ _ _ _ _ hnam hsite];rcases hsite with rfl|rfl
  ·rw[q13a];cases busy && !won with
   | false=>exact⟨_,_,_,_,_,_,rfl,rfl,k0,k1,Nat.le_trans la (by decide),Nat.le_trans la' (by decide)⟩
   | true=>
    obtain⟨c',w',out,out',x1,x2,x3,x4,x5⟩:=yC hp hn0 k0 hgood;refine⟨o1++out,o1'++out',c',d1,w',e1,?_,?_,x3,k1,by rw[List.length_append];omega,by rw[List.length_append];omega⟩
    ·simp only[cond_true,hq,Option.bind_some,x1,mf (show o1.length≤100 by omega) (show out.length≤100 by omega)]
    ·simp only[cond_true,if_true,x2,Option.bind_some,mf (show([]:List bg).length≤100 from Nat.zero_le _) (show o1'.length≤100 by omega),List.nil_append,mf (show o1'.length≤100 by omega) (show out'.length≤100 by omega)]
  ·rw[q13b];cases busy && !won with
   | false=>exact⟨_,_,_,_,_,_,rfl,rfl,k0,k1,Nat.le_trans la (by decide),Nat.le_trans la' (by decide)⟩
   | true=>
    obtain⟨c',w',out,out',x1,x2,x3,x4,x5⟩:=yC hp hn1 k1 hgood;refine⟨o1++out,o1'++out',d0,c',e0,w',?_,?_,k0,x3,by rw[List.length_append];omega,by rw[List.length_append];omega⟩
    ·simp only[cond_true,hq,Option.bind_some,x1,mf (show o1.length≤100 by omega) (show out.length≤100 by omega)]
    ·have h10:¬ (1:Int)=0:=by decide
     simp only[cond_true,if_neg h10,x2,Option.bind_some,mf (show([]:List bg).length≤100 from Nat.zero_le _) (show o1'.length≤100 by omega),List.nil_append,mf (show o1'.length≤100 by omega) (show out'.length≤100 by omega)]
 rw[b1,b2];simp only[Option.bind_some,Sum.elim_inl];rcases hw with⟨rfl,rfl,h3,h4⟩|⟨rfl,rfl⟩
 ·exact⟨_,_,_,_,r13n ..,r14n ..,d0',d1',lk',s0,s1,e0',e1',lw',t0,t1,busy,won,seq,cut,want,[],ended,cur,rfl,rfl,k0',k1',kl',m0,m1,.inl ⟨rfl,rfl,h3,h4⟩,hsite,hz,hss⟩
 by_cases he:ended=0
 case neg=>exact⟨_,_,_,_,r13e _ _ _ _ _ _ _ _ _ _ _ _ _ _ _ _ he _ _,r14e _ _ _ _ _ _ _ _ _ _ _ _ _ _ _ _ _ _ _ _ he _ _,d0',d1',lk',s0,s1,e0',e1',lw',t0,t1,busy,won,seq,cut,want,_,ended,cur,rfl,rfl,k0',k1',kl',m0,m1,.inr ⟨rfl,rfl⟩,hsite,hz,hss⟩
 subst he;cases hk:decide (site=1) && decide (fr<next) with
 | false=>
  have hgp:rH (QM 4 gI (wrap64 (id+1)) src (endOf src) next 0):=DV 4 _ _ _ hs1 (by have:=Iq (s:=src);unfold St at *;omega);obtain⟨c',w',out,out',x1,x2,x3,x4,x5⟩:=yC hp hn0 m0 hgp;refine⟨o2++out,_,_,o2'++out',(r13a _ _ _ _ _ _ _ _ _ _ _ _ _ _ _ _ _ _ hk).trans ?_,(r14a _ _ _ _ _ _ _ _ _ _ _ _ _ _ _ _ _ _ _ _ _ hk (C9 _ _ _ _ 0 (.inl rfl)) (Bo _ hs1)).trans ?_,d0',d1',lk',c',s1,e0',e1',lw',w',t1,busy,won,seq,cut,want,_,0,cur,rfl,rfl,k0',k1',kl',x3,m1,.inr ⟨rfl,rfl⟩,hsite,hz,hss⟩
  ·refine aB (Dc ..) ?_;refine aB (a:=(wrap64 (id+1),())) rfl ?_;refine aB (GR _) ?_;refine aB x1 ?_;simp only[mf (show o2.length≤100 by omega) (show out.length≤100 by omega),Option.bind_some]
  ·refine aB x2 ?_;simp only[mf (show([]:List bg).length≤100 from Nat.zero_le _) (show o2'.length≤100 by omega),Option.bind_some,List.nil_append,mf (show o2'.length≤100 by omega) (show out'.length≤100 by omega)]
 | true=>
  have hgp:rH (QM 4 gI (wrap64 (id+1)) dst (endOf dst) next 0):=DV 4 _ _ _ hs2 (by have:=Iq (s:=dst);unfold St at *;omega);obtain⟨c',w',out,out',x1,x2,x3,x4,x5⟩:=yC hp hn1 m1 hgp;refine⟨o2++out,_,_,o2'++out',(r13b _ _ _ _ _ _ _ _ _ _ _ _ _ _ _ _ _ _ hk).trans ?_,(r14b _ _ _ _ _ _ _ _ _ _ _ _ _ _ _ _ _ _ _ _ _ hk (C9 _ _ _ _ 1 (.inr rfl)) (Bo _ hs2)).trans ?_,d0',d1',lk',s0,c',e0',e1',lw',t0,w',busy,won,seq,cut,want,_,0,cur,rfl,rfl,k0',k1',kl',m0,x3,.inr ⟨rfl,rfl⟩,hsite,hz,hss⟩
  ·refine aB (Dc ..) ?_;refine aB (a:=(wrap64 (id+1),())) rfl ?_;refine aB (GR _) ?_;refine aB x1 ?_;simp only[mf (show o2.length≤100 by omega) (show out.length≤100 by omega),Option.bind_some]
  ·refine aB x2 ?_;simp only[mf (show([]:List bg).length≤100 from Nat.zero_le _) (show o2'.length≤100 by omega),Option.bind_some,List.nil_append,mf (show o2'.length≤100 by omega) (show out'.length≤100 by omega)]
end Go.Proofs.YtlegpimppfabgaaGreat
