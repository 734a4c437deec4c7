/-
 Plain laws of what lies below,as this seat reaches them (by a program of the bench: port.py).
-/
import Derived.Test.YtpfjaaofpcbejaaGreatMirrOk
import Derived.Test.YtpfjaaofpcbejaaGreatSxS
namespace Go.Proofs.YtpfjaaofpcbejaaGreat
open Go.Sx Go Classical
set_option maxRecDepth 10000
def zvM (a:Int) (b:UInt8):Int:=a*256 % 18446744073709551616+b.toNat
def dec (l:List UInt8):Int:=l.foldl zvM 0
abbrev In:Type:=List UInt8×Bool×Unit
def znw (s:In) (n:Nat):List UInt8×In:=
 bif s.2.1 then ([],s) else bif decide (n≤s.1.length) then (s.1.take n,(s.1.drop n,false,())) else ([],([],true,()))
def Fine (s:In):Prop:=s.2.1=true→s.1=[]
theorem Fine.take {s:In} (h:Fine s) (n:Nat):Fine (znw s n).2:=by
 unfold znw
 cases hb:s.2.1 with
 | true=>exact h
 | false=>
  by_cases hn:n≤s.1.length
  ·simp [hn,Fine]
  ·simp [hn,Fine]
def numI (s:In) (n:Nat):Int×In:=(dec (znw s n).1,(znw s n).2)
def badI:In:=([],true,())
theorem zqz:Fine badI:=fun _=>rfl
def zlW (s:In) (most:Int):Int×In:=
 bif decide (0≤most∧(numI s 4).1≤most∧(numI s 4).1≤((numI s 4).2.1.length:Int)) then numI s 4 else (0,badI)
theorem Fine.num {s:In} (h:Fine s) (n:Nat):Fine (numI s n).2:=h.take n
theorem Fine.count {s:In} (h:Fine s) (m:Int):Fine (zlW s m).2:=by
 unfold zlW
 cases decide (0≤m∧(numI s 4).1≤m∧(numI s 4).1≤((numI s 4).2.1.length:Int)) with
 | true=>exact h.num 4
 | false=>exact zqz
def zyn (s:In) (most:Int):List UInt8×In:=znw (zlW s most).2 (zlW s most).1.toNat
theorem Fine.text {s:In} (h:Fine s) (m:Int):Fine (zyn s m).2:=(h.count m).take _
end Go.Proofs.YtpfjaaofpcbejaaGreat
