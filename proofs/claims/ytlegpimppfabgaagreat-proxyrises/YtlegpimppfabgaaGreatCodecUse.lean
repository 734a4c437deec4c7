/-
 Plain laws of what lies below,as this seat reaches them (by a program of the bench: port.py).
-/
import Derived.Test.YtlegpimppfabgaaGreatCodec
import Derived.Test.YtlegpimppfabgaaGreatSxS
namespace Go.Proofs.YtlegpimppfabgaaGreat
open Go.Sx Go Classical
set_option maxRecDepth 10000
abbrev Sh {α:Type} (l:List α):Prop:=l.length≤9223372036854775806
def Sm (s:In):Prop:=s.1.length≤1000000000
theorem Hf {T R:Type} {step:T→Option (T⊕R)} {mk:Nat→T} {n:Nat} {r:R} (hn:n≤9223372036854775807) (h:∀ i,i<n→step (mk i)=some (.inl (mk (i+1)))) (hK:step (mk n)=some (.inr r)):iter step big (mk 0)=some r:=by
 have:=qM (mk:=mk) (fun _=>true) (rt:=r) (rf:=r) hn (fun i hi=>h i hi) hK;rw[this];cases (List.range n).all (fun _=>true)<;>rfl
theorem Su {α:Type} {l x:List α} (h:l.length+x.length≤2000000000000):oZ l x=some (l++x):=by
 unfold oZ;have:Nat.ble (l.length+x.length) LD=true:=Nat.ble_eq_true_of_le h;rw[this];rfl
theorem tV {α:Type} {l:List α} {i:Nat} (h:i<l.length):fC l (i:Int)=some i:=by
 unfold fC;have:(0:Int)≤(i:Int)∧(i:Int)<(l.length:Int):=⟨by omega,by omega⟩
 simp only[this,and_self,decide_true,cond_true,Int.toNat_natCast]
end Go.Proofs.YtlegpimppfabgaaGreat
