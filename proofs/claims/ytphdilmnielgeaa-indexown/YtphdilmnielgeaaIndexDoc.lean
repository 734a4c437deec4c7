/-
  The document's changes.
-/
import Derived.Test.YtphdilmnielgeaaIndexRevs
namespace Go.Proofs.Ytphdilmnielgeaa
open Go.Sx Go Classical
set_option maxRecDepth 10000
def verItems (p : List UInt8 → Bool) (r : Int) (e : KX) : List It := bif p e.1 then (e.2.1.filter (fun v => decide (v.1 = r))).map (fun v => (e.1, v, ())) else []
def docItems (p : List UInt8 → Bool) (l : List KX) (r : Int) : List It := l.flatMap (verItems p r)
end Go.Proofs.Ytphdilmnielgeaa
