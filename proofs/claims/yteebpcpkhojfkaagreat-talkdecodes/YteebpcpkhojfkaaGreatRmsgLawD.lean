/-
  Plain laws of what lies below, as this seat reaches them (by a program of the bench: port.py).
-/
import Derived.Test.YteebpcpkhojfkaaGreatRmsgLawC
import Derived.Test.YteebpcpkhojfkaaGreatSxR
namespace Go.Proofs.YteebpcpkhojfkaaGreat
open Go.Sx Go Classical
set_option maxRecDepth 10000
theorem msgG_len (s : In) : (msgG s).1.2.2.2.2.2.2.2.2.2.1.length ≤ 9223372036854775806 := by
  unfold msgG guardG
  cases (bif (msgR s).2.2.1 then true else !mayM (msgR s).1) with
  | true => simp
  | false =>
    have := listGm_len 4 (by omega) entG (flagG (numG (numG (numG (numG (numG (kindG (kindG (kindG s).2).2).2).2).2).2).2).2).2
    exact Nat.le_trans (m := 4) (Int.ofNat_le.1 this) (by omega)
end Go.Proofs.YteebpcpkhojfkaaGreat
