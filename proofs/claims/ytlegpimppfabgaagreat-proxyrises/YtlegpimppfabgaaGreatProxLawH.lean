/-
 Prox: what is told rises.
-/
import Derived.Test.YtlegpimppfabgaaGreatProxLawG
namespace Go.Proofs.YtlegpimppfabgaaGreat
open Go.Sx Go Classical
set_option maxRecDepth 10000
structure Rise (since fr next:Int) (told:List TBD):Prop where
 up:told.Pairwise fun a b=>a.1<b.1
 lo:∀ t∈told,since≤t.1∧t.1<next
 nx:since≤next
 fr:0≤fr∧fr≤1099511627776
 few:∀ t∈told,t.2.1.length≤1000000
theorem Jd {q src:List UInt8} {next top since:Int}:∀ {bat told:List TBD},bat.Pairwise (fun a b=>a.1<b.1)→(∀ b∈bat,next≤b.1→b.1<top)→(∀ b∈bat,b.2.1.length≤1000000)→since≤next→
  told.Pairwise (fun a b=>a.1<b.1)→(∀ t∈told,since≤t.1∧t.1<top)→(∀ t∈told,∀ b∈bat,next≤b.1→t.1<b.1)→(∀ t∈told,t.2.1.length≤1000000)→
  (bat.foldl (iT q src next) told).Pairwise (fun a b=>a.1<b.1)∧(∀ t∈bat.foldl (iT q src next) told,since≤t.1∧t.1<top)∧(∀ t∈bat.foldl (iT q src next) told,t.2.1.length≤1000000)∧(bat.foldl (iT q src next) told).length≤told.length+bat.length
 | [],told,_,_,_,_,h1,h2,_,h4=>⟨h1,h2,h4,Nat.le_refl _⟩
 | b::r,told,hp,ht,hl,hs,h1,h2,h3,h4=>by
  rw[List.foldl_cons];obtain⟨p1,p2⟩:=List.pairwise_cons.1 hp;have hr1:∀ b∈r,next≤b.1→b.1<top:=fun c hc=>ht c (List.mem_cons_of_mem _ hc)
  have hr2:∀ b∈r,b.2.1.length≤1000000:=fun c hc=>hl c (List.mem_cons_of_mem _ hc);by_cases c:(b.2.1.all (iOk q src) && decide (next≤b.1))=true
  ·have e:iT q src next told b=told++[(b.1,b.2.1.map (iTo q src),())]:=by unfold iT;rw[c];rfl
   have hn:next≤b.1:=of_decide_eq_true (by rw[Bool.and_eq_true] at c;exact c.2)
   rw[e];have g1:(told++[(b.1,b.2.1.map (iTo q src),())]).Pairwise (fun a b=>a.1<b.1):=by refine List.pairwise_append.2 ⟨h1,List.pairwise_singleton _ _,fun a ha x hx=> ?_⟩;obtain rfl:=List.mem_singleton.1 hx;exact h3 a ha b (by simp) hn
   have g2:∀ t∈told++[(b.1,b.2.1.map (iTo q src),())],since≤t.1∧t.1<top:=by
    intro t ht';rcases List.mem_append.1 ht' with h|h
    ·exact h2 t h
    ·obtain rfl:=List.mem_singleton.1 h;exact⟨Int.le_trans hs hn,ht b (by simp) hn⟩
   have g3:∀ t∈told++[(b.1,b.2.1.map (iTo q src),())],∀ x∈r,next≤x.1→t.1<x.1:=by
    intro t ht' x hx hxn;rcases List.mem_append.1 ht' with h|h
    ·exact h3 t h x (List.mem_cons_of_mem _ hx) hxn
    ·obtain rfl:=List.mem_singleton.1 h;exact p1 x hx
   have g4:∀ t∈told++[(b.1,b.2.1.map (iTo q src),())],t.2.1.length≤1000000:=by
    intro t ht';rcases List.mem_append.1 ht' with h|h
    ·exact h4 t h
    ·obtain rfl:=List.mem_singleton.1 h;show(b.2.1.map (iTo q src)).length≤1000000;rw[List.length_map];exact hl b (by simp)
   obtain⟨q1,q2,q3,q4⟩:=Jd (q:=q) (src:=src) (since:=since) p2 hr1 hr2 hs g1 g2 g3 g4;exact⟨q1,q2,q3,by simp only[List.length_append,List.length_cons,List.length_nil] at q4 ⊢;omega⟩
  ·have e:iT q src next told b=told:=by unfold iT;rw[Bool.not_eq_true] at c;rw[c];rfl
   rw[e];obtain⟨q1,q2,q3,q4⟩:=Jd (q:=q) (src:=src) (since:=since) p2 hr1 hr2 hs h1 h2 (fun t ht' x hx=>h3 t ht' x (List.mem_cons_of_mem _ hx)) h4;exact⟨q1,q2,q3,by simp only[List.length_cons];omega⟩
theorem zbC {bat:List TBD} (h:pF bat):bat.Pairwise (fun a b=>a.1<b.1)∧(∀ b∈bat,b.2.1.length≤1000000)∧∀ v,bat[bat.length-1]? = some v→∀ b∈bat,b.1≤v.1:=by
 have step:∀ (d i:Nat) (a b:TBD),bat[i]? = some a→bat[i+d+1]? = some b→a.1<b.1:=by
  intro d;induction d with
  | zero=>intro i a b ha hb;exact(h.1 (i+1) b hb).2.2 a (Nat.succ_pos _) ha
  | succ d ih=>
   intro i a b ha hb;have hlt:i+(d+1)+1<bat.length:=(List.getElem?_eq_some_iff.1 hb).1;obtain⟨c,hc⟩:∃ c,bat[i+d+1]? = some c:=⟨_,List.getElem?_eq_getElem (by omega)⟩
   have h1:=ih i a c ha hc;have h2:=(h.1 (i+(d+1)+1) b hb).2.2 c (Nat.succ_pos _) hc;omega
 refine⟨List.pairwise_iff_getElem.2 fun i j hi hj hij=> ?_,fun b hb=> ?_,fun v hv b hb=> ?_⟩
 ·exact step (j-i-1) i _ _ (List.getElem?_eq_getElem hi) (by rw[show i+(j-i-1)+1=j by omega];exact List.getElem?_eq_getElem hj)
 ·obtain⟨i,hi,rfl⟩:=List.mem_iff_getElem.1 hb;have:=(h.1 i _ (List.getElem?_eq_getElem hi)).2.1.1;omega
 ·obtain⟨i,hi,rfl⟩:=List.mem_iff_getElem.1 hb;by_cases e:i=bat.length-1
  ·subst e;rw[List.getElem?_eq_getElem hi] at hv;cases hv;exact Int.le_refl _
  ·exact Int.le_of_lt (step (bat.length-1-i-1) i _ _ (List.getElem?_eq_getElem hi) (by rw[show i+(bat.length-1-i-1)+1=bat.length-1 by omega];exact hv))
theorem RQ (a b:Int):a≤dM a b∧b≤dM a b:=by
 unfold dM;by_cases h:a<b
 ·rw[decide_eq_true h];exact⟨Int.le_of_lt h,Int.le_refl _⟩
 ·rw[decide_eq_false h];exact⟨Int.le_refl _,by show b≤a;omega⟩
theorem RU {a b c:Int} (h1:a<b) (h2:a<c):a<dY b c:=by
 unfold dY;by_cases h:c<b
 ·rw[decide_eq_true h];exact h2
 ·rw[decide_eq_false h];exact h1
theorem XH {q src:List UInt8} {k site since fr next:Int} {told:List TBD} {m:TMD} {o:Bool} (hr:Rise since fr next told) (hR:eX m) (he:m.2.2.2.2.2.2.2.2.2.1=0) (hh:Dn m site fr told o) (ho:k=0→o=true) :
  Rise since fr (qf k site fr next m.2.2.2.2.2.2.2.1) (m.2.2.2.2.2.2.2.2.2.2.2.2.1.foldl (iT q src next) told)∧(m.2.2.2.2.2.2.2.2.2.2.2.2.1.foldl (iT q src next) told).length≤told.length+64:=by
 obtain⟨hB,h9⟩:=Pz hR;obtain⟨b1,b2,b3⟩:=zbC hB;obtain⟨up,lo,nx,hfr,few⟩:=hr;have hx:=RQ next (bif decide (k=0) then bif decide (site=1) then dY m.2.2.2.2.2.2.2.1 (wrap64 (fr+1)) else m.2.2.2.2.2.2.2.1 else m.2.2.2.2.2.2.2.1)
 have top:∀ b∈m.2.2.2.2.2.2.2.2.2.2.2.2.1,b.1<qf k site fr next m.2.2.2.2.2.2.2.1:=by
  intro b hb;have hne:m.2.2.2.2.2.2.2.2.2.2.2.2.1≠[]:=fun e=>by rw[e] at hb;simp at hb
  have hk:m.1=9:=Classical.byContradiction fun h=>hne (h9 h);have hpos:0<m.2.2.2.2.2.2.2.2.2.2.2.2.1.length:=List.length_pos_iff.2 hne;obtain⟨v,hv⟩:∃ v,m.2.2.2.2.2.2.2.2.2.2.2.2.1[m.2.2.2.2.2.2.2.2.2.2.2.2.1.length-1]? = some v:=⟨_,List.getElem?_eq_getElem (by omega)⟩
  have l1:=b3 v hv b hb;have l2:=hh.2.2 hk he v hv;refine Int.lt_of_lt_of_le ?_ hx.2;by_cases h0:k=0
  ·rw[decide_eq_true h0];by_cases h1:site=1
   ·have l3:=hh.2.1 hk h1 (ho h0) v hv;rw[decide_eq_true h1,dW (by omega) (by omega)];exact RU (by omega) (by omega)
   ·rw[decide_eq_false h1];show b.1<m.2.2.2.2.2.2.2.1;omega
  ·rw[decide_eq_false h0];show b.1<m.2.2.2.2.2.2.2.1;omega
 obtain⟨q1,q2,q3,q4⟩:=Jd (q:=q) (src:=src) (next:=next) (top:=qf k site fr next m.2.2.2.2.2.2.2.1) (since:=since) b1 (fun b hb _=>top b hb) b2 nx up (fun t ht=>⟨(lo t ht).1,Int.lt_of_lt_of_le (lo t ht).2 hx.1⟩) (fun t ht b hb hn=>by have:=(lo t ht).2;omega) few;exact⟨⟨q1,q2,Int.le_trans nx hx.1,hfr,q3⟩,by have:=hB.2;omega⟩
theorem ZF {since fr next site:Int} {told:List TBD} {m:TMD} {o:Bool} (hr:Rise since fr next told) (hR:eX m) (hs:site=0) (h3:m.2.2.2.2.2.2.2.2.2.2.2.2.2.2.2.2.1.1=3) (hh:Dn m site fr told o) :
  Rise since m.2.2.2.2.2.2.2.2.2.2.2.2.2.2.2.2.1.2.2.2.2.2.2.2.2.1 (dM since (dY next (wrap64 (m.2.2.2.2.2.2.2.2.2.2.2.2.2.2.2.2.1.2.2.2.2.2.2.2.2.1+1)))) told:=by
 obtain⟨h12,hM⟩:=ZH hR h3;have hf:dF m.2.2.2.2.2.2.2.2.2.2.2.2.2.2.2.2.1.2.2.2.2.2.2.2.2.1:=hM.2.2.2.2.2.2.2.2.2.1;obtain⟨f1,f2⟩:=hf;obtain⟨up,lo,nx,hfr,few⟩:=hr;have hx:=RQ since (dY next (wrap64 (m.2.2.2.2.2.2.2.2.2.2.2.2.2.2.2.2.1.2.2.2.2.2.2.2.2.1+1)));refine⟨up,fun t ht=>⟨(lo t ht).1,Int.lt_of_lt_of_le ?_ hx.2⟩,hx.1,⟨f1,f2⟩,few⟩;have hle:=hh.1 h12 h3 hs t ht;rw[dW (by omega) (by omega)];exact RU (lo t ht).2 (by omega)
abbrev zeQ:Type:=Int×Int×List UInt8×List UInt8×Int×Int×Int×Bool×Bool×Int×aT×cu×ed×cu×Bool×Int×Int×List TBD×Int×Bool×eQ×iw×aT×List aW×List aW×List aW×List aW×List aW×(List fD×Int)×Bool×Unit
abbrev mkT (k:Int) (W:bD) (P:bC):zeQ:=(k,W.1,W.2.1,W.2.2.1,W.2.2.2.1,W.2.2.2.2.1,W.2.2.2.2.2.1,W.2.2.2.2.2.2.1,W.2.2.2.2.2.2.2.1,W.2.2.2.2.2.2.2.2.1,W.2.2.2.2.2.2.2.2.2.1,W.2.2.2.2.2.2.2.2.2.2.1,W.2.2.2.2.2.2.2.2.2.2.2.1,W.2.2.2.2.2.2.2.2.2.2.2.2.1,W.2.2.2.2.2.2.2.2.2.2.2.2.2.1,W.2.2.2.2.2.2.2.2.2.2.2.2.2.2.1,W.2.2.2.2.2.2.2.2.2.2.2.2.2.2.2.1,W.2.2.2.2.2.2.2.2.2.2.2.2.2.2.2.2.1,W.2.2.2.2.2.2.2.2.2.2.2.2.2.2.2.2.2.1,W.2.2.2.2.2.2.2.2.2.2.2.2.2.2.2.2.2.2.1,
 P.1,P.2.1,P.2.2.1,P.2.2.2.1,P.2.2.2.2.1,P.2.2.2.2.2.1,P.2.2.2.2.2.2.1,P.2.2.2.2.2.2.2.1,(P.2.2.2.2.2.2.2.2.1,Int.ofNat P.2.2.2.2.2.2.2.2.1.length),P.2.2.2.2.2.2.2.2.2.1,())
section
variable (x:eQ×Int×List jc×Unit) (k:Nat) (W W':bD) (P P':bC) (a:jc)
theorem st0 (hk:x.2.2.1[k]? = some a) (hl:x.2.2.1.length≤1000) (ha:decide (aA a.1=aA (UInt8.ofNat 0))=true) {out out':List PD} (h1:F13 (P,())=some (out,P',())) (h2:F14 (W,())=some (W',out',())):F3s x (mkT (k:Int) W P)=some (.inl (mkT ((k+1:Nat):Int) W' P')):=by
 obtain⟨w1,w2,w3,w4,w5,w6,w7,w8,w9,w10,w11,w12,w13,w14,w15,w16,w17,w18,w19,⟨⟩⟩:=W;obtain⟨p1,p2,p3,p4,p5,p6,p7,p8,p9,p10,⟨⟩⟩:=P;have hi:k<x.2.2.1.length:=(List.getElem?_eq_some_iff.1 hk).1;have wk:wrap64 ((k:Int)+1)=((k+1:Nat):Int):=aP (by omega);unfold F3s;simp only[mkT,ax,hi,decide_true,cond_true,aI,hk,Option.bind_some,ha,kV,h1,h2,wk]
theorem st1 (hk:x.2.2.1[k]? = some a) (hl:x.2.2.1.length≤1000) (ha:decide (aA a.1=aA (UInt8.ofNat 0))=false) (hb:decide (aA a.1=aA (UInt8.ofNat 1))=true) {r:dh} {b:Bool} {e:Int} (h1:F15 (P,a.2.1,())=some (r,b,P',())) (h2:F16 (W,a.2.1,())=some (W',e,())):F3s x (mkT (k:Int) W P)=some (.inl (mkT ((k+1:Nat):Int) W' P')):=by
 obtain⟨w1,w2,w3,w4,w5,w6,w7,w8,w9,w10,w11,w12,w13,w14,w15,w16,w17,w18,w19,⟨⟩⟩:=W;obtain⟨p1,p2,p3,p4,p5,p6,p7,p8,p9,p10,⟨⟩⟩:=P;have hi:k<x.2.2.1.length:=(List.getElem?_eq_some_iff.1 hk).1;have wk:wrap64 ((k:Int)+1)=((k+1:Nat):Int):=aP (by omega);unfold F3s;simp only[mkT,ax,hi,decide_true,cond_true,cond_false,aI,hk,Option.bind_some,ha,hb,kV,h1,h2,wk]
theorem st2 (hk:x.2.2.1[k]? = some a) (hl:x.2.2.1.length≤1000) (ha:decide (aA a.1=aA (UInt8.ofNat 0))=false) (hb:decide (aA a.1=aA (UInt8.ofNat 1))=false) (hc:decide (aA a.1=aA (UInt8.ofNat 4))=false):F3s x (mkT (k:Int) W P)=some (.inl (mkT ((k+1:Nat):Int) W P)):=by
 have hi:k<x.2.2.1.length:=(List.getElem?_eq_some_iff.1 hk).1;have wk:wrap64 ((k:Int)+1)=((k+1:Nat):Int):=aP (by omega);unfold F3s;simp only[mkT,ax,hi,decide_true,cond_true,cond_false,aI,hk,Option.bind_some,ha,hb,hc,kV,wk]
theorem st3 (hk:x.2.2.1[k]? = some a) (hl:x.2.2.1.length≤1000) (ha:decide (aA a.1=aA (UInt8.ofNat 0))=false) (hb:decide (aA a.1=aA (UInt8.ofNat 1))=false) (hc:decide (aA a.1=aA (UInt8.ofNat 4))=true) {a':jc} (h1:F17 (W,a,())=some (a',())) (h2:F18 (a'.2.2.2.2.1,W,())=some (false,())):F3s x (mkT (k:Int) W P)=some (.inl (mkT ((k+1:Nat):Int) W P)):=by
 obtain⟨w1,w2,w3,w4,w5,w6,w7,w8,w9,w10,w11,w12,w13,w14,w15,w16,w17,w18,w19,⟨⟩⟩:=W;have hi:k<x.2.2.1.length:=(List.getElem?_eq_some_iff.1 hk).1;have wk:wrap64 ((k:Int)+1)=((k+1:Nat):Int):=aP (by omega);unfold F3s;simp only[mkT,ax,hi,decide_true,cond_true,cond_false,aI,hk,Option.bind_some,ha,hb,hc,kV,wk,h1,h2,Bool.not_false]
theorem st4 (hk:x.2.2.1[k]? = some a) (hl:x.2.2.1.length≤1000) (ha:decide (aA a.1=aA (UInt8.ofNat 0))=false) (hb:decide (aA a.1=aA (UInt8.ofNat 1))=false) (hc:decide (aA a.1=aA (UInt8.ofNat 4))=true) {kd:UInt8} {wn:aT} {sn hf:Int} {m:TMD} {r:dh} {b:Bool} (h1:F17 (W,a,())=some ((kd,wn,sn,hf,m,()),())) (h2:F18 (m,W,())=some (true,()))
  (h3:F19 (P,hf,m,())=some (r,b,P',())) (h4:F21 (W,hf,m,())=some (W',r,b,())):F3s x (mkT (k:Int) W P)=some (.inl (mkT ((k+1:Nat):Int) W' P')):=by
 obtain⟨w1,w2,w3,w4,w5,w6,w7,w8,w9,w10,w11,w12,w13,w14,w15,w16,w17,w18,w19,⟨⟩⟩:=W;obtain⟨p1,p2,p3,p4,p5,p6,p7,p8,p9,p10,⟨⟩⟩:=P;have hi:k<x.2.2.1.length:=(List.getElem?_eq_some_iff.1 hk).1;have wk:wrap64 ((k:Int)+1)=((k+1:Nat):Int):=aP (by omega);unfold F3s;simp only[mkT,ax,hi,decide_true,cond_true,cond_false,aI,hk,Option.bind_some,ha,hb,hc,kV,wk,h1,h2,Bool.not_true,zcJ,h3,h4]
end
end Go.Proofs.YtlegpimppfabgaaGreat
