/-
 Plain laws of what lies below,as this seat reaches them (by a program of the bench: port.py).
-/
import Derived.Test.YteebpcpkhojfkaaGreatEntPlain
import Derived.Test.YteebpcpkhojfkaaGreatSxS
namespace Go.Proofs.YteebpcpkhojfkaaGreat
open Go.Sx Go Classical
set_option maxRecDepth 10000
abbrev Msg:Type:=Int×Int×Int×Int×Int×Int×Int×Int×Bool×List Ent×Ent×Unit
theorem Ud {α:Type} (x:Option α):Option.bind x (fun b=>some b)=x:=by cases x<;>rfl
def ou:List Bool→Option (Bool×Unit)
 | []=>some (true,())
 | [a]=>some (a,())
 | a::b::r=>bif a then ou (b::r) else some (false,())
theorem UN:∀ l:List Bool,ou l=some (l.all id,())
 | []=>rfl
 | [a]=>by simp[ou]
 | a::b::r=>by
  have:=UN (b::r);cases a
  ·rfl
  ·exact this
theorem Jv (a b:Msg) (ha:a.2.2.2.2.2.2.2.2.2.1.length≤9223372036854775806):F75 (a,b,())=some (decide (a=b),()):=by
 obtain⟨a1,a2,a3,a4,a5,a6,a7,a8,a9,aE,⟨s1,s2,s3,⟨⟩⟩,⟨⟩⟩:=a;obtain⟨b1,b2,b3,b4,b5,b6,b7,b8,b9,bE,⟨t1,t2,t3,⟨⟩⟩,⟨⟩⟩:=b;unfold F75 Cf;simp only[same_eq aE bE ha,Option.bind_some,zV];by_cases h1:a1=b1
 case neg=>simp[h1]
 by_cases h2:a2=b2
 case neg=>simp[h1,h2]
 by_cases h3:a3=b3
 case neg=>simp[h1,h2,h3]
 by_cases h4:a4=b4
 case neg=>simp[h1,h2,h3,h4]
 by_cases h5:a5=b5
 case neg=>simp[h1,h2,h3,h4,h5]
 by_cases h6:a6=b6
 case neg=>simp[h1,h2,h3,h4,h5,h6]
 by_cases h7:a7=b7
 case neg=>simp[h1,h2,h3,h4,h5,h6,h7]
 by_cases h8:a8=b8
 case neg=>simp[h1,h2,h3,h4,h5,h6,h7,h8]
 by_cases h9:a9=b9
 case neg=>simp[h1,h2,h3,h4,h5,h6,h7,h8,h9]
 by_cases hE:aE=bE
 case neg=>simp[h1,h2,h3,h4,h5,h6,h7,h8,h9,hE]
 subst h1 h2 h3 h4 h5 h6 h7 h8 h9 hE;by_cases k1:s1=t1<;>by_cases k2:s2=t2<;>by_cases k3:s3=t3<;>simp[k1,k2,k3]
theorem ZG (a b:Msg) (ha:a.2.2.2.2.2.2.2.2.2.1.length≤9223372036854775806):F63 (a,b,())=some (decide (a=b),()):=by
 rw[←Jv a b ha];obtain⟨a1,a2,a3,a4,a5,a6,a7,a8,a9,aE,⟨s1,s2,s3,⟨⟩⟩,⟨⟩⟩:=a;obtain⟨b1,b2,b3,b4,b5,b6,b7,b8,b9,bE,⟨t1,t2,t3,⟨⟩⟩,⟨⟩⟩:=b;unfold F75 F63 Cf Ox;simp only[same_eq aE bE ha,zam aE bE ha,Option.bind_some,Ud]
def jy (m:Msg):Msg:=
 if m.1=1∨m.1=3 then(m.1,m.2.1,m.2.2.1,m.2.2.2.1,m.2.2.2.2.1,m.2.2.2.2.2.1,0,0,false,[],(0,0,[],()),())
 else if m.1=2∨m.1=4 then(m.1,m.2.1,m.2.2.1,m.2.2.2.1,0,0,0,0,m.2.2.2.2.2.2.2.2.1,[],(0,0,[],()),())
 else if m.1=5 then(m.1,m.2.1,m.2.2.1,m.2.2.2.1,m.2.2.2.2.1,m.2.2.2.2.2.1,m.2.2.2.2.2.2.1,m.2.2.2.2.2.2.2.1,false,m.2.2.2.2.2.2.2.2.2.1,(0,0,[],()),())
 else if m.1=6 then(m.1,m.2.1,m.2.2.1,m.2.2.2.1,m.2.2.2.2.1,0,0,m.2.2.2.2.2.2.2.1,m.2.2.2.2.2.2.2.2.1,[],(0,0,[],()),())
 else(m.1,m.2.1,m.2.2.1,m.2.2.2.1,0,0,0,0,false,[],m.2.2.2.2.2.2.2.2.2.2.1,())
theorem Iw {k:Int} (h1:1≤k) (h2:k≤7):k=1∨k=2∨k=3∨k=4∨k=5∨k=6∨k=7:=by omega
theorem zaC (m:Msg) (h:1≤m.1∧m.1≤7):Cj (m,())=some (jy m,true,()):=by
 obtain⟨a1,a2,a3,a4,a5,a6,a7,a8,a9,aE,s,⟨⟩⟩:=m;rcases Iw h.1 h.2 with h|h|h|h|h|h|h<;>(subst h;rfl)
theorem zcJ (m:Msg) (h:¬ (1≤m.1∧m.1≤7)):∃ z,Cj (m,())=some (z,false,()):=by
 obtain⟨a1,a2,a3,a4,a5,a6,a7,a8,a9,aE,s,⟨⟩⟩:=m;have h1:decide (a1=1)=false:=decide_eq_false (fun e=>h (by subst e;exact⟨(by decide:(1:Int)≤1),(by decide:(1:Int)≤7)⟩));have h2:decide (a1=2)=false:=decide_eq_false (fun e=>h (by subst e;exact⟨(by decide:(1:Int)≤2),(by decide:(2:Int)≤7)⟩));have h3:decide (a1=3)=false:=decide_eq_false (fun e=>h (by subst e;exact⟨(by decide:(1:Int)≤3),(by decide:(3:Int)≤7)⟩));have h4:decide (a1=4)=false:=decide_eq_false (fun e=>h (by subst e;exact⟨(by decide:(1:Int)≤4),(by decide:(4:Int)≤7)⟩));have h5:decide (a1=5)=false:=decide_eq_false (fun e=>h (by subst e;exact⟨(by decide:(1:Int)≤5),(by decide:(5:Int)≤7)⟩));have h6:decide (a1=6)=false:=decide_eq_false (fun e=>h (by subst e;exact⟨(by decide:(1:Int)≤6),(by decide:(6:Int)≤7)⟩));have h7:decide (a1=7)=false:=decide_eq_false (fun e=>h (by subst e;exact⟨(by decide:(1:Int)≤7),(by decide:(7:Int)≤7)⟩));unfold Cj;simp only[h1,h2,h3,h4,h5,h6,h7,cond_false,Option.bind_some,Sum.elim_inr];exact⟨_,rfl⟩
theorem zaX (m:Msg) (h:1≤m.1∧m.1≤7):CQ (m,())=some (decide (jy m=m),()):=by
 obtain⟨a1,a2,a3,a4,a5,a6,a7,a8,a9,aE,⟨s1,s2,s3,⟨⟩⟩,⟨⟩⟩:=m;have hz:∀ {α:Type} (l:List α),decide (Int.ofNat l.length=0)=decide (l=[]):=fun l=>by
  rw[decide_eq_decide];cases l
  ·simp
  ·simp;omega
 have hn:∀ l:List Bool,∀ p:Prop,[Decidable p]→(l.all id=true↔p)→ou l=some (decide p,()):=fun l p _ hp=>by rw[UN];congr 2;rw[Bool.eq_iff_iff,hp,decide_eq_true_iff]
 rcases Iw h.1 h.2 with h|h|h|h|h|h|h<;>subst h
 ·show ou [decide (a7=0),decide (Int.ofNat aE.length=0),decide (a8=0),!a9,decide (s1=0),decide (s2=0),decide (Int.ofNat s3.length=0)]=_;apply hn;simp only[hz];rw[show jy (1,a2,a3,a4,a5,a6,a7,a8,a9,aE,(s1,s2,s3,()),())=(1,a2,a3,a4,a5,a6,0,0,false,[],(0,0,[],()),()) from rfl];constructor
  ·intro h;simp at h;obtain⟨rfl,rfl,rfl,rfl,rfl,rfl,rfl⟩:=h;rfl
  ·intro h;cases h;rfl
 ·show ou [decide (a5=0),decide (a6=0),decide (a7=0),decide (Int.ofNat aE.length=0),decide (a8=0),decide (s1=0),decide (s2=0),decide (Int.ofNat s3.length=0)]=_;apply hn;simp only[hz];rw[show jy (2,a2,a3,a4,a5,a6,a7,a8,a9,aE,(s1,s2,s3,()),())=(2,a2,a3,a4,0,0,0,0,a9,[],(0,0,[],()),()) from rfl];constructor
  ·intro h;simp at h;obtain⟨rfl,rfl,rfl,rfl,rfl,rfl,rfl,rfl⟩:=h;rfl
  ·intro h;cases h;rfl
 ·show ou [decide (a7=0),decide (Int.ofNat aE.length=0),decide (a8=0),!a9,decide (s1=0),decide (s2=0),decide (Int.ofNat s3.length=0)]=_;apply hn;simp only[hz];rw[show jy (3,a2,a3,a4,a5,a6,a7,a8,a9,aE,(s1,s2,s3,()),())=(3,a2,a3,a4,a5,a6,0,0,false,[],(0,0,[],()),()) from rfl];constructor
  ·intro h;simp at h;obtain⟨rfl,rfl,rfl,rfl,rfl,rfl,rfl⟩:=h;rfl
  ·intro h;cases h;rfl
 ·show ou [decide (a5=0),decide (a6=0),decide (a7=0),decide (Int.ofNat aE.length=0),decide (a8=0),decide (s1=0),decide (s2=0),decide (Int.ofNat s3.length=0)]=_;apply hn;simp only[hz];rw[show jy (4,a2,a3,a4,a5,a6,a7,a8,a9,aE,(s1,s2,s3,()),())=(4,a2,a3,a4,0,0,0,0,a9,[],(0,0,[],()),()) from rfl];constructor
  ·intro h;simp at h;obtain⟨rfl,rfl,rfl,rfl,rfl,rfl,rfl,rfl⟩:=h;rfl
  ·intro h;cases h;rfl
 ·show ou [!a9,decide (s1=0),decide (s2=0),decide (Int.ofNat s3.length=0)]=_;apply hn;simp only[hz];rw[show jy (5,a2,a3,a4,a5,a6,a7,a8,a9,aE,(s1,s2,s3,()),())=(5,a2,a3,a4,a5,a6,a7,a8,false,aE,(0,0,[],()),()) from rfl];constructor
  ·intro h;simp at h;obtain⟨rfl,rfl,rfl,rfl⟩:=h;rfl
  ·intro h;cases h;rfl
 ·show ou [decide (a6=0),decide (a7=0),decide (Int.ofNat aE.length=0),decide (s1=0),decide (s2=0),decide (Int.ofNat s3.length=0)]=_;apply hn;simp only[hz];rw[show jy (6,a2,a3,a4,a5,a6,a7,a8,a9,aE,(s1,s2,s3,()),())=(6,a2,a3,a4,a5,0,0,a8,a9,[],(0,0,[],()),()) from rfl];constructor
  ·intro h;simp at h;obtain⟨rfl,rfl,rfl,rfl,rfl,rfl⟩:=h;rfl
  ·intro h;cases h;rfl
 ·show ou [decide (a5=0),decide (a6=0),decide (a7=0),decide (Int.ofNat aE.length=0),decide (a8=0),!a9,true]=_;apply hn;simp only[hz];rw[show jy (7,a2,a3,a4,a5,a6,a7,a8,a9,aE,(s1,s2,s3,()),())=(7,a2,a3,a4,0,0,0,0,false,[],(s1,s2,s3,()),()) from rfl];constructor
  ·intro h;simp at h;obtain⟨rfl,rfl,rfl,rfl,rfl,rfl⟩:=h;rfl
  ·intro h;cases h;rfl
end Go.Proofs.YteebpcpkhojfkaaGreat
