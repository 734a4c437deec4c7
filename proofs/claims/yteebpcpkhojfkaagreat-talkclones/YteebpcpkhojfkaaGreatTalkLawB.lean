/-
 Plain laws of what lies below,as this seat reaches them (by a program of the bench: port.py).
-/
import Derived.Test.YteebpcpkhojfkaaGreatTalkLawA
import Derived.Test.YteebpcpkhojfkaaGreatSxS
namespace Go.Proofs.YteebpcpkhojfkaaGreat
open Go.Sx Go Classical
set_option maxRecDepth 10000
def kW (m:TMD):TMD:=
 if m.1=1 then(m.1,0,m.2.2.1,jC,0,[],[],0,0,0,0,gY,[],[],false,dX,jc,())
 else if m.1=2 then(m.1,m.2.1,jB,m.2.2.2.1,0,[],[],0,0,0,0,gY,[],[],false,dX,jc,())
 else if m.1=3 then(m.1,m.2.1,jB,jC,m.2.2.2.2.1,m.2.2.2.2.2.1,m.2.2.2.2.2.2.1,m.2.2.2.2.2.2.2.1,m.2.2.2.2.2.2.2.2.1,0,0,gY,[],[],false,dX,jc,())
 else if m.1=4 then(m.1,m.2.1,jB,jC,m.2.2.2.2.1,m.2.2.2.2.2.1,m.2.2.2.2.2.2.1,m.2.2.2.2.2.2.2.1,0,0,0,gY,[],[],false,dX,jc,())
 else if m.1=5 then(m.1,m.2.1,jB,jC,0,m.2.2.2.2.2.1,m.2.2.2.2.2.2.1,m.2.2.2.2.2.2.2.1,0,0,0,gY,[],[],false,dX,jc,())
 else if m.1=6 then(m.1,m.2.1,jB,jC,0,[],[],m.2.2.2.2.2.2.2.1,0,0,0,gY,[],[],false,dX,jc,())
 else if m.1=7 then(m.1,m.2.1,jB,jC,0,[],[],0,0,0,0,gY,[],[],false,dX,jc,())
 else if m.1=8 then(m.1,m.2.1,jB,jC,0,[],[],0,0,m.2.2.2.2.2.2.2.2.2.1,m.2.2.2.2.2.2.2.2.2.2.1,m.2.2.2.2.2.2.2.2.2.2.2.1,[],[],false,dX,jc,())
 else if m.1=9 then(m.1,m.2.1,jB,jC,0,[],[],m.2.2.2.2.2.2.2.1,0,m.2.2.2.2.2.2.2.2.2.1,0,gY,m.2.2.2.2.2.2.2.2.2.2.2.2.1,[],false,dX,jc,())
 else if m.1=10 then(m.1,m.2.1,jB,jC,0,[],[],0,0,m.2.2.2.2.2.2.2.2.2.1,0,gY,[],m.2.2.2.2.2.2.2.2.2.2.2.2.2.1,m.2.2.2.2.2.2.2.2.2.2.2.2.2.2.1,dX,jc,())
 else if m.1=11 then(m.1,m.2.1,jB,jC,0,[],[],0,0,m.2.2.2.2.2.2.2.2.2.1,0,gY,[],[],false,m.2.2.2.2.2.2.2.2.2.2.2.2.2.2.2.1,jc,())
 else(m.1,m.2.1,jB,jC,0,[],[],m.2.2.2.2.2.2.2.1,0,0,0,gY,[],[],false,dX,m.2.2.2.2.2.2.2.2.2.2.2.2.2.2.2.2.1,())
theorem qy {k:Int} (h1:1≤k) (h2:k≤12):k=1∨k=2∨k=3∨k=4∨k=5∨k=6∨k=7∨k=8∨k=9∨k=10∨k=11∨k=12:=by omega
theorem zcL (m:TMD) (h:1≤m.1∧m.1≤12):F70 (m,())=some (kW m,()):=by
 obtain⟨k,r⟩:=m;rcases qy h.1 h.2 with h|h|h|h|h|h|h|h|h|h|h|h<;>(dsimp only at h;subst h;rfl)
theorem zc0 (m:TMD) (h:1≤m.1∧m.1≤12):F33 (m,())=some (kW m,()):=by
 obtain⟨k,r⟩:=m;rcases qy h.1 h.2 with h|h|h|h|h|h|h|h|h|h|h|h<;>(dsimp only at h;subst h;rfl)
theorem nM {p:Prop} [Decidable p] {a b:TMD} (ha:ShT a) (hb:ShT b):ShT (if p then a else b):=by
 by_cases h:p
 ·rw[if_pos h];exact ha
 ·rw[if_neg h];exact hb
theorem TC {m:TMD} (h:ShT m):ShT (kW m):=by
 have z:∀ {α:Type},Sh ([]:List α):=fun{_}=>by simp[Sh]
 have zB:ShB []:=⟨z,fun b hb=>by simp at hb⟩
 have zH:ShH dX:=⟨⟨z,fun b hb=>by simp at hb⟩,z⟩
 obtain⟨h1,h2,h3,h4,h5,h6⟩:=h;unfold kW;exact nM ⟨h1,lV,z,zB,z,zH⟩ (nM ⟨z,h2,z,zB,z,zH⟩ (nM ⟨z,lV,z,zB,z,zH⟩ (nM ⟨z,lV,z,zB,z,zH⟩ (nM ⟨z,lV,z,zB,z,zH⟩ (nM ⟨z,lV,z,zB,z,zH⟩ (nM ⟨z,lV,z,zB,z,zH⟩ (nM ⟨z,lV,h3,zB,z,zH⟩ (nM ⟨z,lV,z,h4,z,zH⟩ (nM ⟨z,lV,z,zB,h5,zH⟩ (nM ⟨z,lV,z,zB,z,h6⟩ ⟨z,lV,z,zB,z,zH⟩))))))))))
def qE (l:List aO) (m:Int):Prop:=(l.length:Int)≤m∧∀ x∈l,iK x
theorem SA (x:aO):BL (x,())=some (!dec' (iK x),()):=by
 obtain⟨k,v,⟨⟩⟩:=x;have hv:yI ([v],())=some (decide (uX [v]),()):=RF [v] (by simp);have hi:uX [v]↔dU v:=by unfold uX;simp
 unfold BL;simp only[mO,hv,Option.bind_some];unfold iK;by_cases h1:IsKey k
 ·by_cases h2:dU v
  ·rw[decide_eq_true h1,decide_eq_true (hi.2 h2),show dec' (IsKey k∧dU v)=true from bP ⟨h1,h2⟩];rfl
  ·rw[decide_eq_true h1,decide_eq_false (fun h=>h2 (hi.1 h)),show dec' (IsKey k∧dU v)=false from bU (fun h=>h2 h.2)];rfl
 ·rw[decide_eq_false h1,show dec' (IsKey k∧dU v)=false from bU (fun h=>h1 h.1)];rfl
theorem Zw (l:List aO) (hl:Sh l):Fa (l,())=some (!dec' (∀ c∈l,iK c),()):=by
 unfold Fa L8;obtain⟨r,h1,h2⟩:=zK l hl (step:=fun(x_1:Int×Unit)=>bif decide (x_1.fst<Int.ofNat (List.length l)) then Option.bind (idx l x_1.fst) fun b=>Option.bind (BL (b,())) fun b=>bif b.fst then some (Sum.inr x_1) else some (Sum.inl (wrap64 (x_1.fst+1),())) else some (Sum.inr (-1,()))) iK
  (fun i v hi hv hq=>by
   have hi':i<9223372036854775807:=by unfold Sh at hl;omega
   simp only[aB,hi,decide_true,cond_true,aP,hv,Option.bind_some,SA,bP hq,Bool.not_true,cond_false,aT hi'])
  (fun i v hi hv hq=>by simp only[aB,hi,decide_true,cond_true,aP,hv,Option.bind_some,SA,bU hq,Bool.not_false]) (by simp)
 refine aK h1 ?_;simp only[h2]
theorem QJ (l:List aO) (m:Int) (hl:Sh l):wF (l,m,())=some (dec' (qE l m),()):=by
 unfold wF;simp only[Zw l hl,Option.bind_some,Bool.not_not];apply fin
 ·repeat' first|apply cO|apply bW|apply cZ|apply cu
 ·unfold qE;simp only[Int.ofNat_eq_natCast];grind
theorem Qh (l:List aO) (m:Int) (hz:su l):F42 (l,m,())=some (dec' (qE l m),()):=by
 obtain⟨hl,hs⟩:=hz;unfold F42;refine fin (jP l hl (fun _ x=>iK x) ((l.length:Int)≤m) (fun i v hi hv=> ?_) ?_) ?_
 ·have hi':i<9223372036854775807:=by unfold Sh at hl;omega
  have hk:=hs v (List.mem_of_getElem? hv);obtain⟨k,w,⟨⟩⟩:=v;simp only[aB,hi,decide_true,cond_true,aP,hv,Option.bind_some,jM k hk,xu,aT hi'];apply fV
  ·repeat' first|apply fO|apply fJ|apply fU|apply fP|apply fQ
  ·unfold iK;grind
 ·simp only[aB,Nat.lt_irrefl,decide_false,cond_false];exact congrArg (fun z=>some (Sum.inr (z,()))) (iC (p:=(l.length:Int)≤m) (q:=Int.ofNat l.length≤m) Iff.rfl).symm
 ·unfold qE;rw[JV (p:=iK)];exact And.comm
theorem Ie (n a b:Int):F72 (n,a,b,())=some (dec' (a≤n∧n≤b),()):=mD n a b
theorem H6 (n a b:Int):F35 (n,a,b,())=some (dec' (a≤n∧n≤b),()):=mD n a b
def rQ (l:List TBD):Prop:=(∀ (i:Nat) v,l[i]? = some v→bI v.1∧qE v.2.1 48∧∀ w,0<i→l[i-1]? = some w→w.1<v.1)∧l.length≤64
theorem Zz (l:List TBD) (hs:ShB l):GV (l,())=some (dec' (rQ l),()):=by
 obtain⟨hl,hs⟩:=hs;unfold GV;refine fin (jP l hl (fun i v=>bI v.1∧qE v.2.1 48∧∀ w,0<i→l[i-1]? = some w→w.1<v.1) (l.length≤64) (fun i v hi hv=> ?_) ?_) ?_
 ·have hi':i<9223372036854775807:=by unfold Sh at hl;omega
  have hr:wF (v.2.1,48,())=_:=QJ v.2.1 48 (hs v (List.mem_of_getElem? hv));rcases Nat.eq_zero_or_pos i with h0|h0
  ·have e0:decide ((0:Int)<(i:Int))=false:=decide_eq_false (by omega);have hp:(∀ w,0<i→l[i-1]? = some w→w.1<v.1)=True:=propext (oH (l:=l) h0 (fun w=>w.1<v.1));simp only[hp];simp only[aB,hi,decide_true,cond_true,aP,hv,Option.bind_some,aT hi',e0,cond_false,Ie,hr];apply fV
   ·repeat' first|apply fO|apply fJ|apply fU|apply fP|apply fQ
   ·unfold bI;grind
  ·obtain⟨u,hu⟩:∃ u,l[i-1]? = some u:=⟨_,List.getElem?_eq_getElem (show i-1<l.length by omega)⟩
   have e0:decide ((0:Int)<(i:Int))=true:=decide_eq_true (by omega);have hp:(∀ w,0<i→l[i-1]? = some w→w.1<v.1)=(u.1<v.1):=propext (oM h0 hu (fun w=>w.1<v.1));simp only[hp];simp only[aB,hi,decide_true,cond_true,aP,hv,Option.bind_some,aT hi',e0,oQ h0 hi',hu,Ie,hr];apply fV
   ·repeat' first|apply fO|apply fJ|apply fU|apply fP|apply fQ
   ·unfold bI;grind
 ·simp only[aB,Nat.lt_irrefl,decide_false,cond_false];exact congrArg (fun z=>some (Sum.inr (z,()))) (iC (p:=l.length≤64) (q:=Int.ofNat l.length≤64) (by simp only[Int.ofNat_eq_natCast];omega)).symm
 ·unfold rQ;exact Iff.rfl
theorem Zj (l:List TBD) (hl:Sh l) (hs:∀ b∈l,su b.2.1):F41 (l,())=some (dec' (rQ l),()):=by
 unfold F41;refine fin (jP l hl (fun i v=>bI v.1∧qE v.2.1 48∧∀ w,0<i→l[i-1]? = some w→w.1<v.1) (l.length≤64) (fun i v hi hv=> ?_) ?_) ?_
 ·have hi':i<9223372036854775807:=by unfold Sh at hl;omega
  have hr:F42 (v.2.1,48,())=_:=Qh v.2.1 48 (hs v (List.mem_of_getElem? hv));rcases Nat.eq_zero_or_pos i with h0|h0
  ·have e0:decide ((0:Int)<(i:Int))=false:=decide_eq_false (by omega);have hp:(∀ w,0<i→l[i-1]? = some w→w.1<v.1)=True:=propext (oH (l:=l) h0 (fun w=>w.1<v.1));simp only[hp];simp only[aB,hi,decide_true,cond_true,aP,hv,Option.bind_some,aT hi',e0,cond_false,H6,hr];apply fV
   ·repeat' first|apply fO|apply fJ|apply fU|apply fP|apply fQ
   ·unfold bI;grind
  ·obtain⟨u,hu⟩:∃ u,l[i-1]? = some u:=⟨_,List.getElem?_eq_getElem (show i-1<l.length by omega)⟩
   have e0:decide ((0:Int)<(i:Int))=true:=decide_eq_true (by omega);have hp:(∀ w,0<i→l[i-1]? = some w→w.1<v.1)=(u.1<v.1):=propext (oM h0 hu (fun w=>w.1<v.1));simp only[hp];simp only[aB,hi,decide_true,cond_true,aP,hv,Option.bind_some,aT hi',e0,oQ h0 hi',hu,H6,hr];apply fV
   ·repeat' first|apply fO|apply fJ|apply fU|apply fP|apply fQ
   ·unfold bI;grind
 ·simp only[aB,Nat.lt_irrefl,decide_false,cond_false];exact congrArg (fun z=>some (Sum.inr (z,()))) (iC (p:=l.length≤64) (q:=Int.ofNat l.length≤64) (by simp only[Int.ofNat_eq_natCast];omega)).symm
 ·unfold rQ;exact Iff.rfl
theorem zbz (h:dD):yQ (h,())=some (dec' (h=dX),()):=by
 obtain⟨a1,a2,a3,a4,⟨⟩⟩:=h;unfold yQ;apply fin
 ·repeat' first|apply cO|apply bW|apply cZ|apply cu
 ·simp only[Prod.mk.injEq,Int.ofNat_eq_natCast];constructor
  ·intro h;refine⟨?_,?_,?_,?_,trivial⟩<;>(have h3:∀ {α:Type} (l:List α),(l.length:Int)=0→l=[]:=fun l hl=>List.length_eq_zero_iff.1 (by omega))<;>grind
  ·rintro⟨rfl,rfl,rfl,rfl,-⟩;simp
theorem SI (h:dD) (hs:ShH h):F43 (h,())=some (dec' (h=dX),()):=by
 unfold F43;exact aK (Qk h dX hs) rfl
end Go.Proofs.YteebpcpkhojfkaaGreat
