/-
  Plain laws of what lies below, as this seat reaches them (by a program of the bench: port.py).
-/
import Derived.Test.YteebpcpkhojfkaaGreatCmdLawL
import Derived.Test.YteebpcpkhojfkaaGreatSxR
namespace Go.Proofs.YteebpcpkhojfkaaGreat
open Go.Sx Go Classical
set_option maxRecDepth 10000
theorem shNo : ShC NoCmd := by
  refine ⟨?_, ?_, ?_, ?_, ⟨?_, fun s hs => by simp at hs⟩, ?_⟩ <;> simp [Sh]
end Go.Proofs.YteebpcpkhojfkaaGreat
