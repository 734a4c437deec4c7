/-
  Call: the law of whatever becomes of a caller.
-/
import Derived.Test.YtkiakaokgoodhaaGreatCallLawC
namespace Go.Proofs.YtkiakaokgoodhaaGreat
open Go.Sx Go Classical
set_option maxRecDepth 10000
end Go.Proofs.YtkiakaokgoodhaaGreat
