/-
  Call: ticks and what is heard; the laws of turns and of answers.
-/
import Derived.Test.YtkiakaokgoodhaaGreatCallLawA
namespace Go.Proofs.YtkiakaokgoodhaaGreat
open Go.Sx Go Classical
set_option maxRecDepth 10000
end Go.Proofs.YtkiakaokgoodhaaGreat
