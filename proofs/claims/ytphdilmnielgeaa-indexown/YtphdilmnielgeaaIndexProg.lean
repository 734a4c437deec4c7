/-
  The program's changes, once its batches are known; they are what the document tells.
-/
import Derived.Test.YtphdilmnielgeaaIndexDocB
namespace Go.Proofs.Ytphdilmnielgeaa
open Go.Sx Go Classical
set_option maxRecDepth 10000
def inVers (since to : Int) (e : KX) : List It := (e.2.1.filter (inR since to)).map (fun v => (e.1, v, ()))
def inItems (since to : Int) (w : List KX) : List It := w.flatMap (inVers since to)
end Go.Proofs.Ytphdilmnielgeaa
