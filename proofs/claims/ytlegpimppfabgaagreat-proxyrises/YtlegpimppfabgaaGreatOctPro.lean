/-
 Plain laws of what lies below,as this seat reaches them (by a program of the bench: port.py).
-/
import Derived.Test.YtlegpimppfabgaaGreatProxOk
import Derived.Test.YtlegpimppfabgaaGreatSxS
namespace Go.Proofs.YtlegpimppfabgaaGreat
open Go.Sx Go Classical
set_option maxRecDepth 10000
def zcp (a:Int) (b:UInt8):Int:=a*256 % 18446744073709551616+b.toNat
def dec (l:List UInt8):Int:=l.foldl zcp 0
abbrev In:Type:=List UInt8×Bool×Unit
def zt (s:In) (n:Nat):List UInt8×In:=
 bif s.2.1 then([],s) else bif decide (n≤s.1.length) then(s.1.take n,(s.1.drop n,false,())) else([],([],true,()))
def Fine (s:In):Prop:=s.2.1=true→s.1=[]
theorem Fine.take {s:In} (h:Fine s) (n:Nat):Fine (zt s n).2:=by
 unfold zt;cases hb:s.2.1 with
 | true=>exact h
 | false=>
  by_cases hn:n≤s.1.length
  ·simp[hn,Fine]
  ·simp[hn,Fine]
def rQ (s:In) (n:Nat):Int×In:=(dec (zt s n).1,(zt s n).2)
def Vw:In:=([],true,())
theorem zat:Fine Vw:=fun _=>rfl
def Dw (s:In) (most:Int):Int×In:=
 bif decide (0≤most∧(rQ s 4).1≤most∧(rQ s 4).1≤((rQ s 4).2.1.length:Int)) then rQ s 4 else(0,Vw)
theorem Fine.num {s:In} (h:Fine s) (n:Nat):Fine (rQ s n).2:=h.take n
theorem Fine.count {s:In} (h:Fine s) (m:Int):Fine (Dw s m).2:=by
 unfold Dw;cases decide (0≤m∧(rQ s 4).1≤m∧(rQ s 4).1≤((rQ s 4).2.1.length:Int)) with
 | true=>exact h.num 4
 | false=>exact zat
def zdt (s:In) (most:Int):List UInt8×In:=zt (Dw s most).2 (Dw s most).1.toNat
theorem Fine.text {s:In} (h:Fine s) (m:Int):Fine (zdt s m).2:=(h.count m).take _
end Go.Proofs.YtlegpimppfabgaaGreat
