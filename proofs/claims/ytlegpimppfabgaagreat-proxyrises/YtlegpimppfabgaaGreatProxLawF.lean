/-
 Prox: a message is heard,by a proxy and by the document's,side by side.
-/
import Derived.Test.YtlegpimppfabgaaGreatProxLawE
namespace Go.Proofs.YtlegpimppfabgaaGreat
open Go.Sx Go Classical
set_option maxRecDepth 10000
theorem Du {T R:Type} {step:T→Option (T⊕R)} {n:Nat} {t t':T} (h:step t=some (.inl t')):iter step (n+1) t=iter step n t':=by simp only[iter,h,Option.bind_some,Sum.elim_inl]
theorem lV {T R:Type} {step:T→Option (T⊕R)} {n:Nat} {t:T} {r:R} (h:step t=some (.inr r)):iter step (n+1) t=some r:=by simp only[iter,h,Option.bind_some,Sum.elim_inr]
theorem zD {self pat k n hf:Int} {c:CD} {w:WD} {m:TMD} (hs:0≤k∧k≤1) (hn:1≤n∧n≤3) (h:jG self pat k n c w) (hB:Bnd m) (zm:SzT m) :
  (∃ c' w',F48 (c,hf,m,())=some (NoT,false,c',())∧F53 (w,hf,m,())=some (w',false,())∧jG self pat k n c' w')∨
  (w.2.2.2.2.2.2.2.1=true∧eX m∧∃ c' w',F48 (c,hf,m,())=some (m,true,c',())∧F53 (w,hf,m,())=some (w',true,())∧jG self pat k n c' w'):=by
 obtain⟨r,o,h⟩:=h;have ho:=(PW h).2;rcases zad (fr:=hf) hs hn h hB zm with⟨c',w',a1,a2,a3⟩|⟨rfl,hR,-,c',w',a1,a2,a3⟩
 ·exact .inl ⟨c',w',a1,a2,r,o,a3⟩
 ·exact .inr ⟨ho,hR,c',w',a1,a2,r,false,a3⟩
theorem l02:decide ((0:Int)<2)=true:=rfl
theorem l12:decide ((1:Int)<2)=true:=rfl
theorem l22:decide ((2:Int)<2)=false:=rfl
theorem q0n:decide ((0:Int)=Int.ofNat 0)=true:=rfl
theorem q1n:decide ((1:Int)=Int.ofNat 0)=false:=rfl
theorem q1m:decide ((1:Int)=Int.ofNat (0+1))=true:=rfl
theorem w01:wrap64 (0+1)=1:=rfl
theorem w11:wrap64 (1+1)=2:=rfl
theorem ix0:ja 2 (0:Int)=some 0:=rfl
theorem ix1:ja 2 (1:Int)=some 1:=rfl
theorem rW:Nat.beq 0 0=true:=rfl
theorem rV:Nat.beq 1 0=false:=rfl
theorem rU:Nat.beq 1 (0+1)=true:=rfl
theorem kV (n:Nat):Int.toNat (Int.ofNat n)=n:=rfl
section
variable (x:bC×Int×TMD×Unit) (hf:Int) (m:TMD) (cfg:eQ) (st:iw) (want:aT) (d0 d1 lk s0 s1 d0' d1' lk' s0' s1':CD) (wt:List fD) (cur:Bool)
abbrev h19 (k:Int) (cfg:eQ) (st:iw) (want:aT) (d0 d1 lk s0 s1:CD) (wt:List fD) (cur:Bool):Int×eQ×iw×aT×List aW×List aW×List aW×List aW×List aW×(List fD×Int)×Bool×dh:=(k,cfg,st,want,[d0],[d1],[lk],[s0],[s1],(wt,Int.ofNat wt.length),cur,0,0,false,0,[],0,0,())
abbrev pOf (cfg:eQ) (st:iw) (want:aT) (d0 d1 lk s0 s1:CD) (wt:List fD) (cur:Bool):bC:=(cfg,st,want,[d0],[d1],[lk],[s0],[s1],wt,cur,())
theorem s19a (hx:x.2=(hf,m,())) (h1:F48 (d0,hf,m,())=some (NoT,false,d0',())) (h2:F48 (s0,hf,m,())=some (NoT,false,s0',())):jf x (h19 0 cfg st want d0 d1 lk s0 s1 wt cur)=some (.inl (h19 1 cfg st want d0' d1 lk s0' s1 wt cur)):=by
 unfold jf;simp only[hx,l02,q0n,cond_true,List.head?_cons,Option.bind_some,h1,h2,cond_false,Sum.elim_inl,kV,w01]
theorem s19b (hx:x.2=(hf,m,())) (h1:F48 (d1,hf,m,())=some (NoT,false,d1',())) (h2:F48 (s1,hf,m,())=some (NoT,false,s1',())):jf x (h19 1 cfg st want d0 d1 lk s0 s1 wt cur)=some (.inl (h19 2 cfg st want d0 d1' lk s0 s1' wt cur)):=by
 unfold jf;simp only[hx,l12,q1n,q1m,cond_true,List.head?_cons,Option.bind_some,h1,h2,cond_false,Sum.elim_inl,kV,w11]
theorem s19c {r:dh} {b:Bool} {p':bC} (hx:x.2=(hf,m,())) (h1:F48 (d0,hf,m,())=some (m,true,d0',())) (h2:F49 (pOf cfg st want d0' d1 lk s0 s1 wt cur,m,())=some (r,b,p',())):jf x (h19 0 cfg st want d0 d1 lk s0 s1 wt cur)=some (.inr (r,b,p',())):=by
 unfold jf;simp only[hx,l02,q0n,cond_true,List.head?_cons,Option.bind_some,h1,kV,decide_true];rw[show F49 (_,m,())=_ from h2];simp only[Option.bind_some,decide_true,cond_true,Option.map_some,Sum.elim_inr]
theorem s19d {r:dh} {b:Bool} {p':bC} (hx:x.2=(hf,m,())) (h1:F48 (d1,hf,m,())=some (m,true,d1',())) (h2:F49 (pOf cfg st want d0 d1' lk s0 s1 wt cur,m,())=some (r,b,p',())):jf x (h19 1 cfg st want d0 d1 lk s0 s1 wt cur)=some (.inr (r,b,p',())):=by
 unfold jf;simp only[hx,l12,q1n,q1m,cond_true,cond_false,List.head?_cons,Option.bind_some,h1,kV,decide_true];rw[show F49 (_,m,())=_ from h2];simp only[Option.bind_some,decide_true,cond_true,Option.map_some,Sum.elim_inr]
theorem s19e {p':bC} (hx:x.2=(hf,m,())) (h1:F48 (d0,hf,m,())=some (NoT,false,d0',())) (h2:F48 (s0,hf,m,())=some (m,true,s0',())) (h3:F50 (pOf cfg st want d0' d1 lk s0' s1 wt cur,0,m,())=some (p',())):jf x (h19 0 cfg st want d0 d1 lk s0 s1 wt cur)=some (.inr (dX,false,p',())):=by
 unfold jf;simp only[hx,l02,q0n,cond_true,List.head?_cons,Option.bind_some,h1,h2,cond_false,Sum.elim_inl,kV,decide_true];rw[show F50 (_,0,m,())=_ from h3];simp only[Option.bind_some,decide_true,cond_true,Option.map_some]
theorem s19f {p':bC} (hx:x.2=(hf,m,())) (h1:F48 (d1,hf,m,())=some (NoT,false,d1',())) (h2:F48 (s1,hf,m,())=some (m,true,s1',())) (h3:F50 (pOf cfg st want d0 d1' lk s0 s1' wt cur,1,m,())=some (p',())):jf x (h19 1 cfg st want d0 d1 lk s0 s1 wt cur)=some (.inr (dX,false,p',())):=by
 unfold jf;simp only[hx,l12,q1n,q1m,cond_true,List.head?_cons,Option.bind_some,h1,h2,cond_false,Sum.elim_inl,kV,decide_true];rw[show F50 (_,1,m,())=_ from h3];simp only[Option.bind_some,decide_true,cond_true,Option.map_some]
theorem s19g (hx:x.2=(hf,m,())) (h1:F48 (lk,hf,m,())=some (NoT,false,lk',())):jf x (h19 2 cfg st want d0 d1 lk s0 s1 wt cur)=some (.inr (dX,false,pOf cfg st want d0 d1 lk' s0 s1 wt cur,())):=by
 unfold jf;simp only[hx,l22,cond_true,List.head?_cons,Option.bind_some,h1,cond_false,kV,decide_true,Option.map_some]
theorem s19h {p':bC} (hx:x.2=(hf,m,())) (h1:F48 (lk,hf,m,())=some (m,true,lk',())) (h2:F51 (pOf cfg st want d0 d1 lk' s0 s1 wt cur,m.2.2.2.2.2.2.2.2.2.2.2.2.2.2.2.2.1,())=some (p',())):jf x (h19 2 cfg st want d0 d1 lk s0 s1 wt cur)=some (.inr (dX,false,p',())):=by
 obtain⟨a1,a2,a3,a4,a5,a6,a7,a8,a9,a10,a11,a12,a13,a14,a15,a16,a17,⟨⟩⟩:=m;unfold jf;simp only[hx,l22,cond_true,List.head?_cons,Option.bind_some,h1,cond_false,kV,decide_true];rw[show F51 (_,a17,())=_ from h2];simp only[Option.bind_some,decide_true,cond_true,Option.map_some]
end
section
variable (hf:Int) (m:TMD) (id:Int) (src dst:List UInt8) (site fr cut:Int) (busy won:Bool) (seq:Int) (want:aT) (D0:cu) (e0 e1 lw t0 t1 e0' e1' lw' t0' t1':WD) (T0:cu) (R:Bool×Int×Int×List TBD×Int×Bool×Unit)
abbrev ZW:ed:=(0,0,0,0,0,0,0,false,false,NoT,())
abbrev h21 (k:Int) (D T:cu):Int×Int×Int×Bool×Int×List aX×Int×Int×Int×List UInt8×List UInt8×Int×Int×Int×Bool×Bool×Int×aT×cu×ed×cu×Bool×Int×Int×List TBD×Int×Bool×cu×cu×Unit:=
 (k,0,0,false,0,[],0,0,0,[],[],0,0,0,false,false,0,(false,fB,[],[],0,0,()),(ZW,ZW,()),ZW,(ZW,ZW,()),false,0,0,[],0,false,D,T,())
abbrev wOf (id:Int) (src dst:List UInt8) (site fr cut:Int) (busy won:Bool) (seq:Int) (want:aT) (D:cu) (lw:WD) (T:cu) (R:Bool×Int×Int×List TBD×Int×Bool×Unit):bD:=(id,src,dst,site,fr,cut,busy,won,seq,want,D,lw,T,R)
theorem s21a (h1:F53 (e0,hf,m,())=some (e0',false,())) (h2:F53 (t0,hf,m,())=some (t0',false,())):je (wOf id src dst site fr cut busy won seq want D0 lw T0 R,hf,m,()) (h21 0 (e0,e1,()) (t0,t1,()))=some (.inl (h21 1 (e0',e1,()) (t0',t1,()))):=by
 unfold je;simp only[l02,ix0,rW,cond_true,Option.bind_some,h1,h2,cond_false,w01]
theorem s21b (h1:F53 (e1,hf,m,())=some (e1',false,())) (h2:F53 (t1,hf,m,())=some (t1',false,())):je (wOf id src dst site fr cut busy won seq want D0 lw T0 R,hf,m,()) (h21 1 (e0,e1,()) (t0,t1,()))=some (.inl (h21 2 (e0,e1',()) (t0,t1',()))):=by
 unfold je;simp only[l12,ix1,rV,rU,cond_true,Option.bind_some,h1,h2,cond_false,w11]
theorem s21c {w':bD} {r:dh} {b:Bool} (h1:F53 (e0,hf,m,())=some (e0',true,())) (h2:F54 (wOf id src dst site fr cut busy won seq want (e0',e1,()) lw (t0,t1,()) R,m,())=some (w',r,b,())):je (wOf id src dst site fr cut busy won seq want D0 lw T0 R,hf,m,()) (h21 0 (e0,e1,()) (t0,t1,()))=some (.inr (w',r,b,())):=by
 unfold je;simp only[l02,ix0,rW,cond_true,Option.bind_some,h1];rw[show F54 (_,m,())=_ from h2];rfl
theorem s21d {w':bD} {r:dh} {b:Bool} (h1:F53 (e1,hf,m,())=some (e1',true,())) (h2:F54 (wOf id src dst site fr cut busy won seq want (e0,e1',()) lw (t0,t1,()) R,m,())=some (w',r,b,())):je (wOf id src dst site fr cut busy won seq want D0 lw T0 R,hf,m,()) (h21 1 (e0,e1,()) (t0,t1,()))=some (.inr (w',r,b,())):=by
 unfold je;simp only[l12,ix1,rV,rU,cond_true,cond_false,Option.bind_some,h1];rw[show F54 (_,m,())=_ from h2];rfl
theorem s21e {w':bD} (h1:F53 (e0,hf,m,())=some (e0',false,())) (h2:F53 (t0,hf,m,())=some (t0',true,())) (h3:F55 (wOf id src dst site fr cut busy won seq want (e0',e1,()) lw (t0',t1,()) R,0,m,())=some (w',())):je (wOf id src dst site fr cut busy won seq want D0 lw T0 R,hf,m,()) (h21 0 (e0,e1,()) (t0,t1,()))=some (.inr (w',dX,false,())):=by
 unfold je;simp only[l02,ix0,rW,cond_true,cond_false,Option.bind_some,h1,h2];rw[show F55 (_,0,m,())=_ from h3];rfl
theorem s21f {w':bD} (h1:F53 (e1,hf,m,())=some (e1',false,())) (h2:F53 (t1,hf,m,())=some (t1',true,())) (h3:F55 (wOf id src dst site fr cut busy won seq want (e0,e1',()) lw (t0,t1',()) R,1,m,())=some (w',())):je (wOf id src dst site fr cut busy won seq want D0 lw T0 R,hf,m,()) (h21 1 (e0,e1,()) (t0,t1,()))=some (.inr (w',dX,false,())):=by
 unfold je;simp only[l12,ix1,rV,rU,cond_true,cond_false,Option.bind_some,h1,h2];rw[show F55 (_,1,m,())=_ from h3];rfl
theorem s21g (h1:F53 (lw,hf,m,())=some (lw',false,())):je (wOf id src dst site fr cut busy won seq want D0 lw T0 R,hf,m,()) (h21 2 (e0,e1,()) (t0,t1,()))=some (.inr (wOf id src dst site fr cut busy won seq want (e0,e1,()) lw' (t0,t1,()) R,dX,false,())):=by
 unfold je;simp only[l22,cond_false,Option.bind_some,h1,Option.map_some]
theorem s21h {w':bD} (h1:F53 (lw,hf,m,())=some (lw',true,())) (h2:F56 (wOf id src dst site fr cut busy won seq want (e0,e1,()) lw' (t0,t1,()) R,m.2.2.2.2.2.2.2.2.2.2.2.2.2.2.2.2.1,())=some (w',())):je (wOf id src dst site fr cut busy won seq want D0 lw T0 R,hf,m,()) (h21 2 (e0,e1,()) (t0,t1,()))=some (.inr (w',dX,false,())):=by
 obtain⟨a1,a2,a3,a4,a5,a6,a7,a8,a9,a10,a11,a12,a13,a14,a15,a16,a17,⟨⟩⟩:=m;unfold je;simp only[l22,cond_false,cond_true,Option.bind_some,h1];rw[show F56 (_,a17,())=_ from h2];rfl
end
theorem zae {id n0 n1 sf:Int} {src dst:List UInt8} {site fr next start:Int} {told:List TBD} {wat:Bool} {p:bC} {w:bD} (hf:Int) {m:TMD} (hn0:1≤n0∧n0≤3) (hn1:1≤n1∧n1≤3) (hs1:St src) (hs2:St dst) (h:jJ id n0 n1 sf src dst site fr next start told wat p w) (hB:Bnd m) (zm:SzT m) (hb:told.length≤1000000) :
  ∃ r b p' w' site' fr' next' told',F19 (p,hf,m,())=some (r,b,p',())∧F21 (w,hf,m,())=some (w',r,b,())∧jJ id n0 n1 sf src dst site' fr' next' start told' wat p' w'∧
   ((site'=site∧fr'=fr∧next'=next∧told'=told)∨
    (∃ k,(k=0∨k=1)∧(k=0→w.2.2.2.2.2.2.2.2.2.2.2.2.1.1.2.2.2.2.2.2.2.1=true)∧eX m∧m.2.2.2.2.2.2.2.2.2.1=0∧site'=site∧fr'=fr∧told'=m.2.2.2.2.2.2.2.2.2.2.2.2.1.foldl (iT (dS src dst k) src next) told∧next'=qf k site fr next m.2.2.2.2.2.2.2.1)∨
    (eX m∧site=0∧m.2.2.2.2.2.2.2.2.2.2.2.2.2.2.2.2.1.1=3∧site'=1∧fr'=m.2.2.2.2.2.2.2.2.2.2.2.2.2.2.2.2.1.2.2.2.2.2.2.2.2.1∧told'=told∧(wat=false→next'=next)∧(wat=true→next'=dM start (dY next (wrap64 (m.2.2.2.2.2.2.2.2.2.2.2.2.2.2.2.2.1.2.2.2.2.2.2.2.2.1+1)))))):=by
 obtain⟨d0,d1,lk,s0,s1,e0,e1,lw,t0,t1,busy,won,seq,cut,want,wt,ended,cur,rfl,rfl,k0,k1,kl,m0,m1,hw,hsite,hz,hss⟩:=h;obtain⟨n,hn⟩:=Vu;rw[show F19 _=_ from zcB _,show F21 _=_ from zcA _,hn];rcases zD (hf:=hf) (by omega) hn0 k0 hB zm with⟨d0',e0',a1,a2,k0'⟩|⟨-,hR,d0',e0',a1,a2,k0'⟩
 case inr=>obtain⟨r,b,p',w',x1,x2,x3⟩:=Qe (m:=m) hs1 hs2 ⟨d0',d1,lk,s0,s1,e0',e1,lw,t0,t1,busy,won,seq,cut,want,wt,ended,cur,rfl,rfl,k0',k1,kl,m0,m1,hw,hsite,hz,hss⟩ hR zm;exact⟨r,b,p',w',site,fr,next,told,lV (s19c _ hf m _ _ _ _ _ _ _ _ _ _ _ rfl a1 x1),lV (s21c hf m _ _ _ _ _ _ _ _ _ _ _ _ _ _ _ _ _ _ _ a2 x2),x3,.inl ⟨rfl,rfl,rfl,rfl⟩⟩
 rcases zD (hf:=hf) (by omega) hn0 m0 hB zm with⟨s0',t0',b1,b2,m0'⟩|⟨ho,hR,s0',t0',b1,b2,m0'⟩
 case inr=>
  obtain⟨p',w',told',next',x1,x2,x3,x4⟩:=NT (m:=m) 0 (.inl rfl) hs1 hs2 ⟨d0',d1,lk,s0',s1,e0',e1,lw,t0',t1,busy,won,seq,cut,want,wt,ended,cur,rfl,rfl,k0',k1,kl,m0',m1,hw,hsite,hz,hss⟩ hR zm hb;refine⟨dX,false,p',w',site,fr,next',told',lV (s19e _ hf m _ _ _ _ _ _ _ _ _ _ _ _ rfl a1 b1 x1),lV (s21e hf m _ _ _ _ _ _ _ _ _ _ _ _ _ _ _ _ _ _ _ _ a2 b2 x2),x3,?_⟩;rcases x4 with⟨rfl,rfl⟩|⟨-,y1,y2,y3⟩
  ·exact .inl ⟨rfl,rfl,rfl,rfl⟩
  ·exact .inr (.inl ⟨0,.inl rfl,fun _=>ho,hR,y1,rfl,rfl,y2,y3⟩)
 rw[show iter _ (n+3) _=_ from Du (s19a _ hf m _ _ _ _ _ _ _ _ _ _ _ _ rfl a1 b1),show iter _ (n+3) _=_ from Du (s21a hf m _ _ _ _ _ _ _ _ _ _ _ _ _ _ _ _ _ _ _ _ a2 b2)];rcases zD (hf:=hf) (by omega) hn1 k1 hB zm with⟨d1',e1',c1,c2,k1'⟩|⟨-,hR,d1',e1',c1,c2,k1'⟩
 case inr=>obtain⟨r,b,p',w',x1,x2,x3⟩:=Qe (m:=m) hs1 hs2 ⟨d0',d1',lk,s0',s1,e0',e1',lw,t0',t1,busy,won,seq,cut,want,wt,ended,cur,rfl,rfl,k0',k1',kl,m0',m1,hw,hsite,hz,hss⟩ hR zm;exact⟨r,b,p',w',site,fr,next,told,lV (s19d _ hf m _ _ _ _ _ _ _ _ _ _ _ rfl c1 x1),lV (s21d hf m _ _ _ _ _ _ _ _ _ _ _ _ _ _ _ _ _ _ _ c2 x2),x3,.inl ⟨rfl,rfl,rfl,rfl⟩⟩
 rcases zD (hf:=hf) (by omega) hn1 m1 hB zm with⟨s1',t1',f1,f2,m1'⟩|⟨ho,hR,s1',t1',f1,f2,m1'⟩
 case inr=>
  obtain⟨p',w',told',next',x1,x2,x3,x4⟩:=NT (m:=m) 1 (.inr rfl) hs1 hs2 ⟨d0',d1',lk,s0',s1',e0',e1',lw,t0',t1',busy,won,seq,cut,want,wt,ended,cur,rfl,rfl,k0',k1',kl,m0',m1',hw,hsite,hz,hss⟩ hR zm hb;refine⟨dX,false,p',w',site,fr,next',told',lV (s19f _ hf m _ _ _ _ _ _ _ _ _ _ _ _ rfl c1 f1 x1),lV (s21f hf m _ _ _ _ _ _ _ _ _ _ _ _ _ _ _ _ _ _ _ _ c2 f2 x2),x3,?_⟩;rcases x4 with⟨rfl,rfl⟩|⟨-,y1,y2,y3⟩
  ·exact .inl ⟨rfl,rfl,rfl,rfl⟩
  ·exact .inr (.inl ⟨1,.inr rfl,fun h=>(by cases h),hR,y1,rfl,rfl,y2,y3⟩)
 rw[show iter _ (n+2) _=_ from Du (s19b _ hf m _ _ _ _ _ _ _ _ _ _ _ _ rfl c1 f1),show iter _ (n+2) _=_ from Du (s21b hf m _ _ _ _ _ _ _ _ _ _ _ _ _ _ _ _ _ _ _ _ c2 f2)];rcases zD (hf:=hf) (by omega) hn1 kl hB zm with⟨lk',lw',g1,g2,kl'⟩|⟨-,hR,lk',lw',g1,g2,kl'⟩
 ·exact⟨dX,false,_,_,site,fr,next,told,lV (s19g _ hf m _ _ _ _ _ _ _ _ _ _ _ rfl g1),lV (s21g hf m _ _ _ _ _ _ _ _ _ _ _ _ _ _ _ _ _ _ _ g2),⟨d0',d1',lk',s0',s1',e0',e1',lw',t0',t1',busy,won,seq,cut,want,wt,ended,cur,rfl,rfl,k0',k1',kl',m0',m1',hw,hsite,hz,hss⟩,.inl ⟨rfl,rfl,rfl,rfl⟩⟩
 ·obtain⟨p',w',site',fr',next',x1,x2,x3,x4⟩:=ZB m.2.2.2.2.2.2.2.2.2.2.2.2.2.2.2.2.1 ⟨d0',d1',lk',s0',s1',e0',e1',lw',t0',t1',busy,won,seq,cut,want,wt,ended,cur,rfl,rfl,k0',k1',kl',m0',m1',hw,hsite,hz,hss⟩;refine⟨dX,false,p',w',site',fr',next',told,lV (s19h _ hf m _ _ _ _ _ _ _ _ _ _ _ rfl g1 x1),lV (s21h hf m _ _ _ _ _ _ _ _ _ _ _ _ _ _ _ _ _ _ _ g2 x2),x3,?_⟩;rcases x4 with⟨rfl,rfl,rfl⟩|⟨y1,y2,y3,y4,y5,y6⟩
  ·exact .inl ⟨rfl,rfl,rfl,rfl⟩
  ·exact .inr (.inr ⟨hR,y1,y2,y3,y4,rfl,y5,y6⟩)
end Go.Proofs.YtlegpimppfabgaaGreat
