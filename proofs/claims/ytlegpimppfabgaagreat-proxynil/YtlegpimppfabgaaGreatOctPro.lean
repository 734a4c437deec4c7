/-
 Plain laws of what lies below,as this seat reaches them (by a program of the bench: port.py).
-/
import Derived.Test.YtlegpimppfabgaaGreatProxOk
import Derived.Test.YtlegpimppfabgaaGreatSxS
namespace Go.Proofs.YtlegpimppfabgaaGreat
open Go.Sx Go Classical
set_option maxRecDepth 10000
def zd4 (a:Int) (b:UInt8):Int:=a*256 % 18446744073709551616+b.toNat
def dec (l:List UInt8):Int:=l.foldl zd4 0
abbrev In:Type:=List UInt8×Bool×Unit
def wS (s:In) (n:Nat):List UInt8×In:=
 bif s.2.1 then ([],s) else bif decide (n≤s.1.length) then (s.1.take n,(s.1.drop n,false,())) else ([],([],true,()))
def Fine (s:In):Prop:=s.2.1=true→s.1=[]
theorem Fine.take {s:In} (h:Fine s) (n:Nat):Fine (wS s n).2:=by
 unfold wS
 cases hb:s.2.1 with
 | true=>exact h
 | false=>
  by_cases hn:n≤s.1.length
  ·simp [hn,Fine]
  ·simp [hn,Fine]
def oP (s:In) (n:Nat):Int×In:=(dec (wS s n).1,(wS s n).2)
def QE:In:=([],true,())
theorem zbN:Fine QE:=fun _=>rfl
def zV (s:In) (most:Int):Int×In:=
 bif decide (0≤most∧(oP s 4).1≤most∧(oP s 4).1≤((oP s 4).2.1.length:Int)) then oP s 4 else (0,QE)
theorem Fine.num {s:In} (h:Fine s) (n:Nat):Fine (oP s n).2:=h.take n
theorem Fine.count {s:In} (h:Fine s) (m:Int):Fine (zV s m).2:=by
 unfold zV
 cases decide (0≤m∧(oP s 4).1≤m∧(oP s 4).1≤((oP s 4).2.1.length:Int)) with
 | true=>exact h.num 4
 | false=>exact zbN
def zeY (s:In) (most:Int):List UInt8×In:=wS (zV s most).2 (zV s most).1.toNat
theorem Fine.text {s:In} (h:Fine s) (m:Int):Fine (zeY s m).2:=(h.count m).take _
end Go.Proofs.YtlegpimppfabgaaGreat
