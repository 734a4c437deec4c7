/-
  Plain laws of what lies below, as this seat reaches them (by a program of the bench: port.py).
-/
import Derived.Test.YteebpcpkhojfkaaGreatOctPro
import Derived.Test.YteebpcpkhojfkaaGreatSxR
namespace Go.Proofs.YteebpcpkhojfkaaGreat
open Go.Sx Go Classical
set_option maxRecDepth 10000
theorem outBytes_eq (b s : List UInt8) (hb : b.length + 4 + s.length ≤ 140737488355000) : F29 ((b, ()), s, ()) = some ((b ++ textB s, ()), ()) := by
  unfold F29 textB
  simp only [outCount_eq b _ (show b.length + 4 ≤ 140737488355000 by omega), Option.bind_some]
  rw [appU_eq (by simp [wideB_len]; omega)]
  simp
end Go.Proofs.YteebpcpkhojfkaaGreat
