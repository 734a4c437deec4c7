/-
  Plain laws of what lies below, as this seat reaches them (by a program of the bench: port.py).
-/
import Derived.Test.YteebpcpkhojfkaaGreatRmsgLawA
import Derived.Test.YteebpcpkhojfkaaGreatSxR
namespace Go.Proofs.YteebpcpkhojfkaaGreat
open Go.Sx Go Classical
set_option maxRecDepth 10000
abbrev NoEnt : Ent := (0, 0, [], ())
abbrev NoMsg : Msg := (0, 0, 0, 0, 0, 0, 0, 0, false, [], NoEnt, ())
noncomputable def mayM (m : Msg) : Bool := (F71 (m, ())).elim false (·.1)
theorem mayM_eq (m : Msg) (hl : m.2.2.2.2.2.2.2.2.2.1.length ≤ 9223372036854775806) : F71 (m, ()) = some (mayM m, ()) ∧ F34 (m, ()) = some (mayM m, ()) := by
  obtain ⟨b, h1, h2⟩ := rightM_ex m hl
  unfold mayM
  rw [h1]
  exact ⟨rfl, h2⟩
end Go.Proofs.YteebpcpkhojfkaaGreat
