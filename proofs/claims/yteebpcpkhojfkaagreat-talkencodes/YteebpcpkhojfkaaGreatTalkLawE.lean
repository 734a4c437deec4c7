/-
  Talk: a message by itself.
-/
import Derived.Test.YteebpcpkhojfkaaGreatTalkLawD
namespace Go.Proofs.YteebpcpkhojfkaaGreat
open Go.Sx Go Classical
set_option maxRecDepth 10000
end Go.Proofs.YteebpcpkhojfkaaGreat
