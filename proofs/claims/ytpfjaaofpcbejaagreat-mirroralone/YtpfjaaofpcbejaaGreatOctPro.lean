/-
 Plain laws of what lies below,as this seat reaches them (by a program of the bench: port.py).
-/
import Derived.Test.YtpfjaaofpcbejaaGreatMirrOk
import Derived.Test.YtpfjaaofpcbejaaGreatSxS
namespace Go.Proofs.YtpfjaaofpcbejaaGreat
open Go.Sx Go Classical
set_option maxRecDepth 10000
def zif (a:Int) (b:UInt8):Int:=a*256 % 18446744073709551616+b.toNat
def dec (l:List UInt8):Int:=l.foldl zif 0
abbrev In:Type:=List UInt8×Bool×Unit
def yE (s:In) (n:Nat):List UInt8×In:=
 bif s.2.1 then ([],s) else bif decide (n≤s.1.length) then (s.1.take n,(s.1.drop n,false,())) else ([],([],true,()))
def Fine (s:In):Prop:=s.2.1=true→s.1=[]
theorem Fine.take {s:In} (h:Fine s) (n:Nat):Fine (yE s n).2:=by
 unfold yE
 cases hb:s.2.1 with
 | true=>exact h
 | false=>
  by_cases hn:n≤s.1.length
  ·simp [hn,Fine]
  ·simp [hn,Fine]
def qA (s:In) (n:Nat):Int×In:=(dec (yE s n).1,(yE s n).2)
def TJ:In:=([],true,())
theorem zeJ:Fine TJ:=fun _=>rfl
def Cj (s:In) (most:Int):Int×In:=
 bif decide (0≤most∧(qA s 4).1≤most∧(qA s 4).1≤((qA s 4).2.1.length:Int)) then qA s 4 else (0,TJ)
theorem Fine.num {s:In} (h:Fine s) (n:Nat):Fine (qA s n).2:=h.take n
theorem Fine.count {s:In} (h:Fine s) (m:Int):Fine (Cj s m).2:=by
 unfold Cj
 cases decide (0≤m∧(qA s 4).1≤m∧(qA s 4).1≤((qA s 4).2.1.length:Int)) with
 | true=>exact h.num 4
 | false=>exact zeJ
def zi7 (s:In) (most:Int):List UInt8×In:=yE (Cj s most).2 (Cj s most).1.toNat
theorem Fine.text {s:In} (h:Fine s) (m:Int):Fine (zi7 s m).2:=(h.count m).take _
end Go.Proofs.YtpfjaaofpcbejaaGreat
