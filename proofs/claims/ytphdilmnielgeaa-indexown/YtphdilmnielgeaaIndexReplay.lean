/-
  What a change makes of a list of items: the item of one key is set.
-/
import Derived.Test.YtphdilmnielgeaaIndexLawK
namespace Go.Proofs.Ytphdilmnielgeaa
open Go.Sx Go Classical
set_option maxRecDepth 10000
/-- items by keys -/
def shown (c : Option VerD) (k : List UInt8) : List It :=
  match c with
  | some v => if v.2.2.2.2.2.2.1 = true then [] else [(k, v, ())]
  | none => []
end Go.Proofs.Ytphdilmnielgeaa
