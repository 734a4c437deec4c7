/-
 Plain laws of what lies below,as this seat reaches them (by a program of the bench: port.py).
-/
import Derived.Test.YtlegpimppfabgaaGreatTalkLawA
import Derived.Test.YtlegpimppfabgaaGreatSxS
namespace Go.Proofs.YtlegpimppfabgaaGreat
open Go.Sx Go Classical
set_option maxRecDepth 10000
def kS (m:TMD):TMD:=
 if m.1=1 then(m.1,0,m.2.2.1,gI,0,[],[],0,0,0,0,dX,[],[],false,gZ,jT,())
 else if m.1=2 then(m.1,m.2.1,jW,m.2.2.2.1,0,[],[],0,0,0,0,dX,[],[],false,gZ,jT,())
 else if m.1=3 then(m.1,m.2.1,jW,gI,m.2.2.2.2.1,m.2.2.2.2.2.1,m.2.2.2.2.2.2.1,m.2.2.2.2.2.2.2.1,m.2.2.2.2.2.2.2.2.1,0,0,dX,[],[],false,gZ,jT,())
 else if m.1=4 then(m.1,m.2.1,jW,gI,m.2.2.2.2.1,m.2.2.2.2.2.1,m.2.2.2.2.2.2.1,m.2.2.2.2.2.2.2.1,0,0,0,dX,[],[],false,gZ,jT,())
 else if m.1=5 then(m.1,m.2.1,jW,gI,0,m.2.2.2.2.2.1,m.2.2.2.2.2.2.1,m.2.2.2.2.2.2.2.1,0,0,0,dX,[],[],false,gZ,jT,())
 else if m.1=6 then(m.1,m.2.1,jW,gI,0,[],[],m.2.2.2.2.2.2.2.1,0,0,0,dX,[],[],false,gZ,jT,())
 else if m.1=7 then(m.1,m.2.1,jW,gI,0,[],[],0,0,0,0,dX,[],[],false,gZ,jT,())
 else if m.1=8 then(m.1,m.2.1,jW,gI,0,[],[],0,0,m.2.2.2.2.2.2.2.2.2.1,m.2.2.2.2.2.2.2.2.2.2.1,m.2.2.2.2.2.2.2.2.2.2.2.1,[],[],false,gZ,jT,())
 else if m.1=9 then(m.1,m.2.1,jW,gI,0,[],[],m.2.2.2.2.2.2.2.1,0,m.2.2.2.2.2.2.2.2.2.1,0,dX,m.2.2.2.2.2.2.2.2.2.2.2.2.1,[],false,gZ,jT,())
 else if m.1=10 then(m.1,m.2.1,jW,gI,0,[],[],0,0,m.2.2.2.2.2.2.2.2.2.1,0,dX,[],m.2.2.2.2.2.2.2.2.2.2.2.2.2.1,m.2.2.2.2.2.2.2.2.2.2.2.2.2.2.1,gZ,jT,())
 else if m.1=11 then(m.1,m.2.1,jW,gI,0,[],[],0,0,m.2.2.2.2.2.2.2.2.2.1,0,dX,[],[],false,m.2.2.2.2.2.2.2.2.2.2.2.2.2.2.2.1,jT,())
 else(m.1,m.2.1,jW,gI,0,[],[],m.2.2.2.2.2.2.2.1,0,0,0,dX,[],[],false,gZ,m.2.2.2.2.2.2.2.2.2.2.2.2.2.2.2.2.1,())
theorem oq {k:Int} (h1:1≤k) (h2:k≤12):k=1∨k=2∨k=3∨k=4∨k=5∨k=6∨k=7∨k=8∨k=9∨k=10∨k=11∨k=12:=by omega
theorem zbl (m:TMD) (h:1≤m.1∧m.1≤12):Np (m,())=some (kS m,()):=by
 obtain⟨k,r⟩:=m;rcases oq h.1 h.2 with h|h|h|h|h|h|h|h|h|h|h|h<;>(dsimp only at h;subst h;rfl)
theorem zbD (m:TMD) (h:1≤m.1∧m.1≤12):Nj (m,())=some (kS m,()):=by
 obtain⟨k,r⟩:=m;rcases oq h.1 h.2 with h|h|h|h|h|h|h|h|h|h|h|h<;>(dsimp only at h;subst h;rfl)
theorem mV {p:Prop} [Decidable p] {a b:TMD} (ha:ShT a) (hb:ShT b):ShT (if p then a else b):=by
 by_cases h:p
 ·rw[if_pos h];exact ha
 ·rw[if_neg h];exact hb
theorem QR {m:TMD} (h:ShT m):ShT (kS m):=by
 have z:∀ {α:Type},Sh ([]:List α):=fun{_}=>by simp[Sh]
 have zB:ShB []:=⟨z,fun b hb=>by simp at hb⟩
 have zH:ShH gZ:=⟨⟨z,fun b hb=>by simp at hb⟩,z⟩
 obtain⟨h1,h2,h3,h4,h5,h6⟩:=h;unfold kS;exact mV ⟨h1,nH,z,zB,z,zH⟩ (mV ⟨z,h2,z,zB,z,zH⟩ (mV ⟨z,nH,z,zB,z,zH⟩ (mV ⟨z,nH,z,zB,z,zH⟩ (mV ⟨z,nH,z,zB,z,zH⟩ (mV ⟨z,nH,z,zB,z,zH⟩ (mV ⟨z,nH,z,zB,z,zH⟩ (mV ⟨z,nH,h3,zB,z,zH⟩ (mV ⟨z,nH,z,h4,z,zH⟩ (mV ⟨z,nH,z,zB,h5,zH⟩ (mV ⟨z,nH,z,zB,z,h6⟩ ⟨z,nH,z,zB,z,zH⟩))))))))))
def pM (l:List aX) (m:Int):Prop:=(l.length:Int)≤m∧∀ x∈l,jk x
theorem Qs (x:aX):AC (x,())=some (!dec' (jk x),()):=by
 obtain⟨k,v,⟨⟩⟩:=x;have hv:xx ([v],())=some (decide (uk [v]),()):=P9 [v] (by simp);have hi:uk [v]↔fP v:=by unfold uk;simp
 unfold AC;simp only[jQ,hv,Option.bind_some];unfold jk;by_cases h1:IsKey k
 ·by_cases h2:fP v
  ·rw[decide_eq_true h1,decide_eq_true (hi.2 h2),show dec' (IsKey k∧fP v)=true from bK ⟨h1,h2⟩];rfl
  ·rw[decide_eq_true h1,decide_eq_false (fun h=>h2 (hi.1 h)),show dec' (IsKey k∧fP v)=false from dA (fun h=>h2 h.2)];rfl
 ·rw[decide_eq_false h1,show dec' (IsKey k∧fP v)=false from dA (fun h=>h1 h.1)];rfl
theorem XT (l:List aX) (hl:Sh l):Ec (l,())=some (!dec' (∀ c∈l,jk c),()):=by
 unfold Ec KQ;obtain⟨r,h1,h2⟩:=yK l hl (step:=fun(x_1:Int×Unit)=>bif decide (x_1.fst<Int.ofNat (List.length l)) then Option.bind (idx l x_1.fst) fun b=>Option.bind (AC (b,())) fun b=>bif b.fst then some (Sum.inr x_1) else some (Sum.inl (wrap64 (x_1.fst+1),())) else some (Sum.inr (-1,()))) jk
  (fun i v hi hv hq=>by
   have hi':i<9223372036854775807:=by unfold Sh at hl;omega
   simp only[ax,hi,decide_true,cond_true,aI,hv,Option.bind_some,Qs,bK hq,Bool.not_true,cond_false,aP hi'])
  (fun i v hi hv hq=>by simp only[ax,hi,decide_true,cond_true,aI,hv,Option.bind_some,Qs,dA hq,Bool.not_false]) (by simp)
 refine aB h1 ?_;simp only[h2]
theorem Pe (l:List aX) (m:Int) (hl:Sh l):uQ (l,m,())=some (dec' (pM l m),()):=by
 unfold uQ;simp only[XT l hl,Option.bind_some,Bool.not_not];apply fin
 ·repeat' first|apply bV|apply bP|apply bW|apply bU
 ·unfold pM;simp only[Int.ofNat_eq_natCast];grind
theorem OM (l:List aX) (m:Int) (hz:mG l):uS (l,m,())=some (dec' (pM l m),()):=by
 obtain⟨hl,hs⟩:=hz;unfold uS;refine fin (jM l hl (fun _ x=>jk x) ((l.length:Int)≤m) (fun i v hi hv=> ?_) ?_) ?_
 ·have hi':i<9223372036854775807:=by unfold Sh at hl;omega
  have hk:=hs v (List.mem_of_getElem? hv);obtain⟨k,w,⟨⟩⟩:=v;simp only[ax,hi,decide_true,cond_true,aI,hv,Option.bind_some,jg k hk,CZ,aP hi'];apply gu
  ·repeat' first|apply fV|apply fO|apply gp|apply fZ|apply gm
  ·unfold jk;grind
 ·simp only[ax,Nat.lt_irrefl,decide_false,cond_false];exact congrArg (fun z=>some (Sum.inr (z,()))) (iO (p:=(l.length:Int)≤m) (q:=Int.ofNat l.length≤m) Iff.rfl).symm
 ·unfold pM;rw[Jo (p:=jk)];exact And.comm
theorem GY (n a b:Int):lg (n,a,b,())=some (dec' (a≤n∧n≤b),()):=lS n a b
theorem GH (n a b:Int):kE (n,a,b,())=some (dec' (a≤n∧n≤b),()):=lS n a b
def pF (l:List TBD):Prop:=(∀ (i:Nat) v,l[i]? = some v→bz v.1∧pM v.2.1 48∧∀ w,0<i→l[i-1]? = some w→w.1<v.1)∧l.length≤64
theorem XU (l:List TBD) (hs:ShB l):Fv (l,())=some (dec' (pF l),()):=by
 obtain⟨hl,hs⟩:=hs;unfold Fv;refine fin (jM l hl (fun i v=>bz v.1∧pM v.2.1 48∧∀ w,0<i→l[i-1]? = some w→w.1<v.1) (l.length≤64) (fun i v hi hv=> ?_) ?_) ?_
 ·have hi':i<9223372036854775807:=by unfold Sh at hl;omega
  have hr:uQ (v.2.1,48,())=_:=Pe v.2.1 48 (hs v (List.mem_of_getElem? hv));rcases Nat.eq_zero_or_pos i with h0|h0
  ·have e0:decide ((0:Int)<(i:Int))=false:=decide_eq_false (by omega);have hp:(∀ w,0<i→l[i-1]? = some w→w.1<v.1)=True:=propext (nS (l:=l) h0 (fun w=>w.1<v.1));simp only[hp];simp only[ax,hi,decide_true,cond_true,aI,hv,Option.bind_some,aP hi',e0,cond_false,GY,hr];apply gu
   ·repeat' first|apply fV|apply fO|apply gp|apply fZ|apply gm
   ·unfold bz;grind
  ·obtain⟨u,hu⟩:∃ u,l[i-1]? = some u:=⟨_,List.getElem?_eq_getElem (show i-1<l.length by omega)⟩
   have e0:decide ((0:Int)<(i:Int))=true:=decide_eq_true (by omega);have hp:(∀ w,0<i→l[i-1]? = some w→w.1<v.1)=(u.1<v.1):=propext (nX h0 hu (fun w=>w.1<v.1));simp only[hp];simp only[ax,hi,decide_true,cond_true,aI,hv,Option.bind_some,aP hi',e0,oh h0 hi',hu,GY,hr];apply gu
   ·repeat' first|apply fV|apply fO|apply gp|apply fZ|apply gm
   ·unfold bz;grind
 ·simp only[ax,Nat.lt_irrefl,decide_false,cond_false];exact congrArg (fun z=>some (Sum.inr (z,()))) (iO (p:=l.length≤64) (q:=Int.ofNat l.length≤64) (by simp only[Int.ofNat_eq_natCast];omega)).symm
 ·unfold pF;exact Iff.rfl
theorem XJ (l:List TBD) (hl:Sh l) (hs:∀ b∈l,mG b.2.1):FW (l,())=some (dec' (pF l),()):=by
 unfold FW;refine fin (jM l hl (fun i v=>bz v.1∧pM v.2.1 48∧∀ w,0<i→l[i-1]? = some w→w.1<v.1) (l.length≤64) (fun i v hi hv=> ?_) ?_) ?_
 ·have hi':i<9223372036854775807:=by unfold Sh at hl;omega
  have hr:uS (v.2.1,48,())=_:=OM v.2.1 48 (hs v (List.mem_of_getElem? hv));rcases Nat.eq_zero_or_pos i with h0|h0
  ·have e0:decide ((0:Int)<(i:Int))=false:=decide_eq_false (by omega);have hp:(∀ w,0<i→l[i-1]? = some w→w.1<v.1)=True:=propext (nS (l:=l) h0 (fun w=>w.1<v.1));simp only[hp];simp only[ax,hi,decide_true,cond_true,aI,hv,Option.bind_some,aP hi',e0,cond_false,GH,hr];apply gu
   ·repeat' first|apply fV|apply fO|apply gp|apply fZ|apply gm
   ·unfold bz;grind
  ·obtain⟨u,hu⟩:∃ u,l[i-1]? = some u:=⟨_,List.getElem?_eq_getElem (show i-1<l.length by omega)⟩
   have e0:decide ((0:Int)<(i:Int))=true:=decide_eq_true (by omega);have hp:(∀ w,0<i→l[i-1]? = some w→w.1<v.1)=(u.1<v.1):=propext (nX h0 hu (fun w=>w.1<v.1));simp only[hp];simp only[ax,hi,decide_true,cond_true,aI,hv,Option.bind_some,aP hi',e0,oh h0 hi',hu,GH,hr];apply gu
   ·repeat' first|apply fV|apply fO|apply gp|apply fZ|apply gm
   ·unfold bz;grind
 ·simp only[ax,Nat.lt_irrefl,decide_false,cond_false];exact congrArg (fun z=>some (Sum.inr (z,()))) (iO (p:=l.length≤64) (q:=Int.ofNat l.length≤64) (by simp only[Int.ofNat_eq_natCast];omega)).symm
 ·unfold pF;exact Iff.rfl
theorem ZY (h:gz):Fq (h,())=some (dec' (h=gZ),()):=by
 obtain⟨a1,a2,a3,a4,⟨⟩⟩:=h;unfold Fq;apply fin
 ·repeat' first|apply bV|apply bP|apply bW|apply bU
 ·simp only[Prod.mk.injEq,Int.ofNat_eq_natCast];constructor
  ·intro h;refine⟨?_,?_,?_,?_,trivial⟩<;>(have h3:∀ {α:Type} (l:List α),(l.length:Int)=0→l=[]:=fun l hl=>List.length_eq_zero_iff.1 (by omega))<;>grind
  ·rintro⟨rfl,rfl,rfl,rfl,-⟩;simp
theorem zaR (h:gz) (hs:ShH h):FV (h,())=some (dec' (h=gZ),()):=by
 unfold FV;exact aB (OT h gZ hs) rfl
end Go.Proofs.YtlegpimppfabgaaGreat
