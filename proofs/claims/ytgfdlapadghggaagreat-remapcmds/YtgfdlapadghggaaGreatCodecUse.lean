/-
  Plain laws of what lies below, as this seat reaches them (by a program of the bench: port.py).
-/
import Derived.Test.YtgfdlapadghggaaGreatCodec
import Derived.Test.YtgfdlapadghggaaGreatSxR
namespace Go.Proofs.YtgfdlapadghggaaGreat
open Go.Sx Go Classical
set_option maxRecDepth 10000
abbrev Sh {α : Type} (l : List α) : Prop := l.length ≤ 9223372036854775806
def Sm (s : In) : Prop := s.1.length ≤ 1000000000
end Go.Proofs.YtgfdlapadghggaaGreat
