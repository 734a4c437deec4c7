/-
  Plain laws of what lies below, as this seat reaches them (by a program of the bench: port.py).
-/
import Derived.Test.YteebpcpkhojfkaaGreatOctOut
import Derived.Test.YteebpcpkhojfkaaGreatSxR
namespace Go.Proofs.YteebpcpkhojfkaaGreat
open Go.Sx Go Classical
set_option maxRecDepth 10000
theorem inBytes_eq (s : In) (most : Int) (hm : most ≤ 9223372036854775807) (hs : s.1.length ≤ 9223372036854775807) : F129 (s, most, ()) = some ((textI s most).1, (textI s most).2, ()) := by
  unfold F129 textI
  simp only [inCount_eq s most hm hs, Option.bind_some]
  rw [countI_nat, take_eq]
  rfl
end Go.Proofs.YteebpcpkhojfkaaGreat
