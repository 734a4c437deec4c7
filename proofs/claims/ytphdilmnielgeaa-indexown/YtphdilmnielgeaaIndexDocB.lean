/-
  The document's changes, all of them.
-/
import Derived.Test.YtphdilmnielgeaaIndexDoc
namespace Go.Proofs.Ytphdilmnielgeaa
open Go.Sx Go Classical
set_option maxRecDepth 10000
def wantB (p : List UInt8 → Bool) (l : List KX) (since to : Int) (r : Int) : Bool := decide (since ≤ r) && (decide (r ≤ to) && decide (0 < (docItems p l r).length))
def docB (p : List UInt8 → Bool) (l : List KX) (r : Int) : Bt := (r, docItems p l r, ())
end Go.Proofs.Ytphdilmnielgeaa
