/-
 Plain laws of what lies below,as this seat reaches them (by a program of the bench: port.py).
-/
import Derived.Test.YteebpcpkhojfkaaGreatCmdLawD
import Derived.Test.YteebpcpkhojfkaaGreatSxS
namespace Go.Proofs.YteebpcpkhojfkaaGreat
open Go.Sx Go Classical
set_option maxRecDepth 10000
def sH (top:Prop) (c:bn):Prop:=
 (c.1=1∨c.1=2∨c.1=10∨c.1=12∨c.1=13∨c.2.1=[])∧(c.1=2∨c.1=12∨c.1=13∨c.2.2.1=[])∧(c.1=1∨c.2.2.2.1=[])∧
 (c.1=1∨c.1=5∨c.1=6∨c.1=7∨c.1=9∨c.2.2.2.2.1=0)∧(c.1=5∨c.2.2.2.2.2.1=0)∧(c.1=4∨c.1=12∨c.1=14∨c.1=15∨c.2.2.2.2.2.2.1=0)∧
 (c.1=3∨(c.2.2.2.2.2.2.2.1=[]∧c.2.2.2.2.2.2.2.2.1=[]∧c.2.2.2.2.2.2.2.2.2.1=[]))∧((10≤c.1∧top)∨c.2.2.2.2.2.2.2.2.2.2.1=0)∧
 ((12≤c.1∧c.1≤15)∨c.2.2.2.2.2.2.2.2.2.2.2.1=0)∧(c.1=14∨c.2.2.2.2.2.2.2.2.2.2.2.2.1=0)∧(c.1=13∨c.2.2.2.2.2.2.2.2.2.2.2.2.2.1=false)∧
 (c.1=13∨c.1=14∨c.2.2.2.2.2.2.2.2.2.2.2.2.2.2.1=[])∧(c.1=15∨(c.2.2.2.2.2.2.2.2.2.2.2.2.2.2.2.1=[]∧c.2.2.2.2.2.2.2.2.2.2.2.2.2.2.2.2.1=[]))
theorem kinds (k:Int):k=1∨k=2∨k=3∨k=4∨k=5∨k=6∨k=7∨k=8∨k=9∨k=10∨k=11∨k=12∨k=13∨k=14∨k=15∨k=16∨(k<1∨16<k):=by omega
theorem zdy (c:bn) (hc:ShC c):∃ b,Gw (c,())=some (b,())∧ShC b∧(b=c↔sH (c.1≤16) c):=by
 obtain⟨k,a2,a3,a4,a5,a6,a7,a8,a9,a10,a11,a12,a13,a14,a15,a16,a17,⟨⟩⟩:=c;obtain⟨h8,h9,h10,h15,h16,h17⟩:=hc;simp only at h8 h9 h10 h15 h16 h17;have n96:Sh ([]:List dJ):=by simp[Sh]
 have n48:Sh ([]:List aV):=by simp[Sh]
 have n70:Sh ([]:List aO):=by simp[Sh]
 have n113:Sh ([]:List dm):=by simp[Sh]
 have n94:ShS ([]:List aW):=⟨by simp[Sh],fun s h=>by simp at h⟩
 rcases kinds k with h|h|h|h|h|h|h|h|h|h|h|h|h|h|h|h|h
 iterate 16
  ·subst h;refine⟨_,rfl,⟨by assumption,by assumption,by assumption,by assumption,by assumption,by assumption⟩,?_⟩;simp only[sH,Prod.mk.injEq];grind
 ·have e:∀ n:Int,1≤n→n≤16→decide (k=n)=false:=fun n h1 h2=>decide_eq_false (by omega);refine⟨(k,[],[],[],0,0,0,[],[],[],0,0,0,false,[],[],[],()),?_,⟨n96,n48,n48,n70,n94,n113⟩,?_⟩
  ·unfold Gw Gp;simp only[e 1 (by omega) (by omega),e 2 (by omega) (by omega),e 3 (by omega) (by omega),e 4 (by omega) (by omega),e 5 (by omega) (by omega),e 6 (by omega) (by omega),e 7 (by omega) (by omega),e 9 (by omega) (by omega),e 10 (by omega) (by omega),e 11 (by omega) (by omega),e 12 (by omega) (by omega),e 13 (by omega) (by omega),e 14 (by omega) (by omega),e 15 (by omega) (by omega),e 16 (by omega) (by omega),cond_false,Option.bind_some,Sum.elim_inl,Sum.elim_inr]
  ·have f:∀ n:Int,1≤n→n≤16→(k=n)=False:=fun n h1 h2=>eq_false (by omega);have g1:(10≤k∧k≤16)=False:=eq_false (by omega);have g2:(12≤k∧k≤15)=False:=eq_false (by omega);simp only[sH,Prod.mk.injEq,g1,g2,f 1 (by omega) (by omega),f 2 (by omega) (by omega),f 3 (by omega) (by omega),f 5 (by omega) (by omega),f 4 (by omega) (by omega),f 6 (by omega) (by omega),f 7 (by omega) (by omega),f 9 (by omega) (by omega),f 10 (by omega) (by omega),f 12 (by omega) (by omega),f 13 (by omega) (by omega),f 14 (by omega) (by omega),f 15 (by omega) (by omega),false_or];grind
theorem zb7 {α β:Type} (a:List α) (b:List β) (ha:a.length≤140737488351232) (hb:b.length≤140737488351232):decide (wrap64 (Int.ofNat a.length+Int.ofNat b.length)=0)=dec' (a=[]∧b=[]):=by
 rw[iZ (by simp;omega) (by simp;omega)];refine(iC ?_).symm;rw[←List.length_eq_zero_iff,←List.length_eq_zero_iff];simp only[Int.ofNat_eq_natCast];omega
theorem Z7 {α β γ:Type} (a:List α) (b:List β) (c:List γ) (ha:a.length≤140737488351232) (hb:b.length≤140737488351232) (hc:c.length≤140737488351232):decide (wrap64 (wrap64 (Int.ofNat a.length+Int.ofNat b.length)+Int.ofNat c.length)=0)=dec' (a=[]∧b=[]∧c=[]):=by
 rw[iZ (x:=Int.ofNat a.length+Int.ofNat b.length) (by simp;omega) (by simp;omega),iZ (by simp;omega) (by simp;omega)];refine(iC ?_).symm;rw[←List.length_eq_zero_iff,←List.length_eq_zero_iff,←List.length_eq_zero_iff];simp only[Int.ofNat_eq_natCast];omega
def LnC (c:bn):Prop:=c.2.2.2.2.2.2.2.1.length≤140737488351232∧c.2.2.2.2.2.2.2.2.1.length≤140737488351232∧c.2.2.2.2.2.2.2.2.2.1.length≤140737488351232∧c.2.2.2.2.2.2.2.2.2.2.2.2.2.2.2.1.length≤140737488351232∧c.2.2.2.2.2.2.2.2.2.2.2.2.2.2.2.2.1.length≤140737488351232
def iM (p q:Bool) (r:Option (Bool×Unit)):Option (Bool×Unit):=bif p then r else bif q then r else some (false,())
theorem zcq {p q:Bool} {r:Option (Bool×Unit)} {R:Prop} (h:r=some (dec' R,())):iM p q r=some (dec' ((p=true∨q=true)∧R),()):=by
 unfold iM;cases p
 ·cases q
  ·exact fin bW (by simp)
  ·exact fin h (by simp)
 ·exact fin h (by simp)
theorem tryE (a b q:Bool) (r:Option (Bool×Unit)):(bif a then iM b q r else iM false q r)=iM (a && b) q r:=by cases a<;>rfl
theorem bare_eq (c:bn) (hc:LnC c):BX (c,())=some (dec' (sH True c),()):=by
 obtain⟨k,a2,a3,a4,a5,a6,a7,a8,a9,a10,a11,a12,a13,a14,a15,a16,a17,⟨⟩⟩:=c;obtain⟨h8,h9,h10,h16,h17⟩:=hc;show(iM (decide (k=1) || decide (k=2) || decide (k=10) || decide (k=12) || decide (k=13)) (decide (a2=[])) (iM (decide (k=2) || decide (k=12) || decide (k=13)) (decide (a3=[])) (iM (decide (k=1)) (decide (a4=[])) (iM (decide (k=1) || decide (k=5) || decide (k=6) || decide (k=7) || decide (k=9)) (decide (a5=0)) (iM (decide (k=5)) (decide (a6=0)) (iM (decide (k=4) || decide (k=12) || decide (k=14) || decide (k=15)) (decide (a7=0)) (iM (decide (k=3)) (decide (wrap64 (wrap64 (Int.ofNat (List.length a8)+Int.ofNat (List.length a9))+Int.ofNat (List.length a10))=0)) (iM (decide (10≤k)) (decide (a11=0)) ((fun r=>bif decide (12≤k) then iM (decide (k≤15)) (decide (a12=0)) r else iM false (decide (a12=0)) r) (iM (decide (k=14)) (decide (a13=0)) (iM (decide (k=13)) (!a14) (iM (decide (k=13) || decide (k=14)) (decide (Int.ofNat (List.length a15)=0)) (bif decide (k=15) then some (true,()) else some (decide (wrap64 (Int.ofNat (List.length a16)+Int.ofNat (List.length a17))=0),()))))))))))))))=_;simp only[zb7 a16 a17 h16 h17,Z7 a8 a9 a10 h8 h9 h10,tryE];apply fin
 ·repeat' first|apply zcq|apply cO|apply bW|apply cZ|apply cu
 ·unfold sH;simp only[Bool.or_eq_true,Bool.and_eq_true,decide_eq_true_eq,Bool.not_eq_true',List.length_eq_zero_iff,Int.ofNat_eq_natCast,Int.natCast_eq_zero,and_true,or_assoc];grind (splits:=60)
end Go.Proofs.YteebpcpkhojfkaaGreat
