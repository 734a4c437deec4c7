/-
  Call: the law of answers that are taken once.
-/
import Derived.Test.YtkiakaokgoodhaaGreatCallLawB
namespace Go.Proofs.YtkiakaokgoodhaaGreat
open Go.Sx Go Classical
set_option maxRecDepth 10000
end Go.Proofs.YtkiakaokgoodhaaGreat
