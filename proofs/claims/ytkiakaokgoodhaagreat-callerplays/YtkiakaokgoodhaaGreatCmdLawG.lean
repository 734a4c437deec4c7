/-
  Plain laws of what lies below, as this seat reaches them (by a program of the bench: port.py).
-/
import Derived.Test.YtkiakaokgoodhaaGreatCmdLawF
import Derived.Test.YtkiakaokgoodhaaGreatSxR
namespace Go.Proofs.YtkiakaokgoodhaaGreat
open Go.Sx Go Classical
set_option maxRecDepth 10000
abbrev NoV : VerD := (0, 0, 0, 0, [], 0, false, ())
def MayVer (v : VerD) : Prop := v = NoV ∨ VerOk v
def MayItem (x : T70D) : Prop := (x.1 = [] ∨ IsKey x.1) ∧ MayVer x.2.1
abbrev NoReply : T51D := (0, 0, false, 0, [], 0, 0, ())
abbrev NoMove : T53D := (0, 0, 0, [], [], 0, [], 0, 0, 0, ())
abbrev NoHand : T55D := (0, 0, [], [], ())
end Go.Proofs.YtkiakaokgoodhaaGreat
