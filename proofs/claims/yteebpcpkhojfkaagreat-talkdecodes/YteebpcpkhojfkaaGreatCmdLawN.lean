/-
  Plain laws of what lies below, as this seat reaches them (by a program of the bench: port.py).
-/
import Derived.Test.YteebpcpkhojfkaaGreatCmdLawM
import Derived.Test.YteebpcpkhojfkaaGreatSxR
namespace Go.Proofs.YteebpcpkhojfkaaGreat
open Go.Sx Go Classical
set_option maxRecDepth 10000
theorem fit_job : FitG T33 jobG := fit_cons fit_num (fit_cons fit_num (fit_cons fit_cmd fit_unit))
end Go.Proofs.YteebpcpkhojfkaaGreat
