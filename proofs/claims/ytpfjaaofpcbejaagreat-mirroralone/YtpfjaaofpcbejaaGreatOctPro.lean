/-
 Plain laws of what lies below,as this seat reaches them (by a program of the bench: port.py).
-/
import Derived.Test.YtpfjaaofpcbejaaGreatMirrOk
import Derived.Test.YtpfjaaofpcbejaaGreatSxS
namespace Go.Proofs.YtpfjaaofpcbejaaGreat
open Go.Sx Go Classical
set_option maxRecDepth 10000
def decStep (a:Int) (b:UInt8):Int:=a*256 % 18446744073709551616+b.toNat
def dec (l:List UInt8):Int:=l.foldl decStep 0
abbrev In:Type:=List UInt8×Bool×Unit
def takeI (s:In) (n:Nat):List UInt8×In:=
 bif s.2.1 then ([],s) else bif decide (n≤s.1.length) then (s.1.take n,(s.1.drop n,false,())) else ([],([],true,()))
def Fine (s:In):Prop:=s.2.1=true→s.1=[]
theorem Fine.take {s:In} (h:Fine s) (n:Nat):Fine (takeI s n).2:=by
 unfold takeI
 cases hb:s.2.1 with
 | true=>exact h
 | false=>
  by_cases hn:n≤s.1.length
  ·simp [hn,Fine]
  ·simp [hn,Fine]
def numI (s:In) (n:Nat):Int×In:=(dec (takeI s n).1,(takeI s n).2)
def badI:In:=([],true,())
theorem badI_fine:Fine badI:=fun _=>rfl
def countI (s:In) (most:Int):Int×In:=
 bif decide (0≤most∧(numI s 4).1≤most∧(numI s 4).1≤((numI s 4).2.1.length:Int)) then numI s 4 else (0,badI)
theorem Fine.num {s:In} (h:Fine s) (n:Nat):Fine (numI s n).2:=h.take n
theorem Fine.count {s:In} (h:Fine s) (m:Int):Fine (countI s m).2:=by
 unfold countI
 cases decide (0≤m∧(numI s 4).1≤m∧(numI s 4).1≤((numI s 4).2.1.length:Int)) with
 | true=>exact h.num 4
 | false=>exact badI_fine
def textI (s:In) (most:Int):List UInt8×In:=takeI (countI s most).2 (countI s most).1.toNat
theorem Fine.text {s:In} (h:Fine s) (m:Int):Fine (textI s m).2:=(h.count m).take _
end Go.Proofs.YtpfjaaofpcbejaaGreat
