/-
  Plain laws of what lies below, as this seat reaches them (by a program of the bench: port.py).
-/
import Derived.Test.YtkiakaokgoodhaaGreatRmsgLawA
import Derived.Test.YtkiakaokgoodhaaGreatSxR
namespace Go.Proofs.YtkiakaokgoodhaaGreat
open Go.Sx Go Classical
set_option maxRecDepth 10000
abbrev NoEnt : Ent := (0, 0, [], ())
noncomputable def snapOk (e : Ent) : Bool := (F67 (e, ())).elim false (·.1)
theorem snapOk_eq (e : Ent) : F67 (e, ()) = some (snapOk e, ()) := by
  obtain ⟨b, h⟩ := snap_ex (e, ())
  unfold snapOk
  rw [h]; rfl
abbrev NoMsg : Msg := (0, 0, 0, 0, 0, 0, 0, 0, false, [], NoEnt, ())
noncomputable def mayM (m : Msg) : Bool := (F77 (m, ())).elim false (·.1)
theorem mayM_eq (m : Msg) (hl : m.2.2.2.2.2.2.2.2.2.1.length ≤ 9223372036854775806) : F77 (m, ()) = some (mayM m, ()) ∧ F31 (m, ()) = some (mayM m, ()) := by
  obtain ⟨b, h1, h2⟩ := rightM_ex m hl
  unfold mayM
  rw [h1]
  exact ⟨rfl, h2⟩
end Go.Proofs.YtkiakaokgoodhaaGreat
