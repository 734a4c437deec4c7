/-
  No cell of these rows narrows 'for every input' (looked for: loops, veiled, ifaces, maps, wideKeys, modest, calm, conditions, laid).
  DERIVED. THE GIVEN ROWS OF THIS SEAT. 5 by the template 'for every input the law returns true; each argument reads behind the call as it read before'; 0 by the template 'total and deterministic' (their statements: YtchknfdjnkalkaaTotals.lean).
  GIVEN WITH THE SEED: the statements are not yours to turn. If you find one false, say at which input.
  Laid BY PROGRAM, IN A SANDBOX (cutbox-rows.mjs): the forced cells as the released guide's own fill.sh prints them over the translation 271d55f226ef8178… (all of the seat's roots in one cut). By AI agents, Wed Nov 11 2026. No macro, syntax, notation, axiom, sorry.
-/
import Derived.Test.YtchknfdjnkalkaaChecked
import GoSem.Claim
import GoSem.ClaimJoined
import GoSem.ClaimMapViews
import Derived.JoinedTies
import Derived.KernelRfl
namespace Go.Proofs.Ytchknfdjnkalkaa
/- THE CELL 'sum', in the pinned program and in every row, IS THE sha256 OF THE DUMP (.gsa) THAT YtchknfdjnkalkaaProg.lean LOADS. Nothing in Lean hashes anything: it is a label: what it is worth is what the hold of that sum in a sandbox is worth. -/
noncomputable def Try.pinned : Pinned := { name := "ytchknfdjnkalkaa", sum := "271d55f226ef817883e53ae1dca653185a9d7fda058146b3b09377066b52b506", checked := Try.checked }
namespace Rows
def none {H : Type} : Left H := { results := [], args := [] }

/-- 'decamplaw03.OctetsCut': WHATEVER THE INPUT: true; the input reads as it did. -/
def octetsCutSpec : ChangeSpec := { name := "octetsCut", fn := fun _ => fun
  | [d1, d2, d3] => { results := [.lit (.bool true)], args := [d1, d2, d3] }
  | _ => none }
def octetsCutRow : OpenClaim := { program := "ytchknfdjnkalkaa", sum := "271d55f226ef817883e53ae1dca653185a9d7fda058146b3b09377066b52b506", func := "decamp/decamplaw03.OctetsCut", spec := "octetsCut", apart := false }
def OctetsCutSaid : Prop := octetsCutRow.holds Try.pinned (OpenSpec.ofChange octetsCutSpec)

/-- ITS FALSE NEIGHBOUR: 'it returns false'. Refute it at one input. -/
def octetsCutWrong : ChangeSpec := { name := "octetsCut", fn := fun _ => fun
  | [d1, d2, d3] => { results := [.lit (.bool false)], args := [d1, d2, d3] }
  | _ => none }
def OctetsCutWrongFalsely : Prop := octetsCutRow.holds Try.pinned (OpenSpec.ofChange octetsCutWrong)

/-- 'decamplaw03.OctetsTakes': WHATEVER THE INPUT: true; the input reads as it did. -/
def octetsTakesSpec : ChangeSpec := { name := "octetsTakes", fn := fun _ => fun
  | [d1, d2] => { results := [.lit (.bool true)], args := [d1, d2] }
  | _ => none }
def octetsTakesRow : OpenClaim := { program := "ytchknfdjnkalkaa", sum := "271d55f226ef817883e53ae1dca653185a9d7fda058146b3b09377066b52b506", func := "decamp/decamplaw03.OctetsTakes", spec := "octetsTakes", apart := false }
def OctetsTakesSaid : Prop := octetsTakesRow.holds Try.pinned (OpenSpec.ofChange octetsTakesSpec)

/-- ITS FALSE NEIGHBOUR: 'it returns false'. Refute it at one input. -/
def octetsTakesWrong : ChangeSpec := { name := "octetsTakes", fn := fun _ => fun
  | [d1, d2] => { results := [.lit (.bool false)], args := [d1, d2] }
  | _ => none }
def OctetsTakesWrongFalsely : Prop := octetsTakesRow.holds Try.pinned (OpenSpec.ofChange octetsTakesWrong)

/-- 'decamplaw03.OctetsPuts': WHATEVER THE INPUT: true; the input reads as it did. -/
def octetsPutsSpec : ChangeSpec := { name := "octetsPuts", fn := fun _ => fun
  | [d] => { results := [.lit (.bool true)], args := [d] }
  | _ => none }
def octetsPutsRow : OpenClaim := { program := "ytchknfdjnkalkaa", sum := "271d55f226ef817883e53ae1dca653185a9d7fda058146b3b09377066b52b506", func := "decamp/decamplaw03.OctetsPuts", spec := "octetsPuts", apart := false }
def OctetsPutsSaid : Prop := octetsPutsRow.holds Try.pinned (OpenSpec.ofChange octetsPutsSpec)

/-- ITS FALSE NEIGHBOUR: 'it returns false'. Refute it at one input. -/
def octetsPutsWrong : ChangeSpec := { name := "octetsPuts", fn := fun _ => fun
  | [d] => { results := [.lit (.bool false)], args := [d] }
  | _ => none }
def OctetsPutsWrongFalsely : Prop := octetsPutsRow.holds Try.pinned (OpenSpec.ofChange octetsPutsWrong)

/-- 'decamplaw03.OctetsBack': WHATEVER THE INPUT: true; the input reads as it did. -/
def octetsBackSpec : ChangeSpec := { name := "octetsBack", fn := fun _ => fun
  | [d] => { results := [.lit (.bool true)], args := [d] }
  | _ => none }
def octetsBackRow : OpenClaim := { program := "ytchknfdjnkalkaa", sum := "271d55f226ef817883e53ae1dca653185a9d7fda058146b3b09377066b52b506", func := "decamp/decamplaw03.OctetsBack", spec := "octetsBack", apart := false }
def OctetsBackSaid : Prop := octetsBackRow.holds Try.pinned (OpenSpec.ofChange octetsBackSpec)

/-- ITS FALSE NEIGHBOUR: 'it returns false'. Refute it at one input. -/
def octetsBackWrong : ChangeSpec := { name := "octetsBack", fn := fun _ => fun
  | [d] => { results := [.lit (.bool false)], args := [d] }
  | _ => none }
def OctetsBackWrongFalsely : Prop := octetsBackRow.holds Try.pinned (OpenSpec.ofChange octetsBackWrong)

/-- 'decamplaw03.OctetsNil': WHATEVER THE INPUT: true; the input reads as it did. -/
def octetsNilSpec : ChangeSpec := { name := "octetsNil", fn := fun _ => fun
  | [d1, d2, d3] => { results := [.lit (.bool true)], args := [d1, d2, d3] }
  | _ => none }
def octetsNilRow : OpenClaim := { program := "ytchknfdjnkalkaa", sum := "271d55f226ef817883e53ae1dca653185a9d7fda058146b3b09377066b52b506", func := "decamp/decamplaw03.OctetsNil", spec := "octetsNil", apart := false }
def OctetsNilSaid : Prop := octetsNilRow.holds Try.pinned (OpenSpec.ofChange octetsNilSpec)

/-- ITS FALSE NEIGHBOUR: 'it returns false'. Refute it at one input. -/
def octetsNilWrong : ChangeSpec := { name := "octetsNil", fn := fun _ => fun
  | [d1, d2, d3] => { results := [.lit (.bool false)], args := [d1, d2, d3] }
  | _ => none }
def OctetsNilWrongFalsely : Prop := octetsNilRow.holds Try.pinned (OpenSpec.ofChange octetsNilWrong)

/- THE SECOND FORM. 'bulk': how many values and letters a reading holds, each counted each time it is reached (what is shared counts as often as it is met; a slice's spare places count too). A statement '..UptoSaid' is the law's where the arguments, and the package variables that the reading takes, are together of bulk at most 1048576: NARROWER than '..Said'. Prove '..Said' where nothing that the law and all that it calls make is longer than what came in: it says more and counts as full. Else prove '..UptoSaid'. A law counts once. -/
mutual
def uptoBulk {H : Type} : DataW H → Nat
  | .lit (.string bytes) => bytes.length + 1
  | .lit _ => 1
  | .nil => 1
  | .ptr d => uptoBulk d + 1
  | .slice elems spare => uptoBulkAll elems + uptoBulkAll spare + 1
  | .agg parts => uptoBulkAll parts + 1
  | .iface _ d => uptoBulk d + 1
  | .map entries => uptoBulkEntries entries + 1
  | .held _ => 1
def uptoBulkAll {H : Type} : List (DataW H) → Nat
  | [] => 0
  | d :: r => uptoBulk d + uptoBulkAll r
def uptoBulkEntries {H : Type} : List (Lit × DataW H) → Nat
  | [] => 0
  | x :: r => uptoBulkEntry x + uptoBulkEntries r
def uptoBulkEntry {H : Type} : Lit × DataW H → Nat
  | (.string bytes, d) => bytes.length + uptoBulk d + 1
  | (_, d) => uptoBulk d + 1
 end
def uptoSmall : (H : Type) → List (DataW H) → Bool := fun _ ds => decide (uptoBulkAll ds ≤ 1048576)
def OpenSpec.upto (s : _root_.Go.ChangeSpec) : _root_.Go.OpenSpec := { _root_.Go.OpenSpec.ofChange s with cond := some uptoSmall }

/-- 'decamplaw03.OctetsCut', WHERE WHAT IT READS IS OF BULK AT MOST 1048576: true; the input reads as it did. -/
def octetsCutUptoRow : OpenClaim := { program := "ytchknfdjnkalkaa", sum := "271d55f226ef817883e53ae1dca653185a9d7fda058146b3b09377066b52b506", func := "decamp/decamplaw03.OctetsCut", spec := "octetsCut", apart := false, narrowed := true }
def OctetsCutUptoSaid : Prop := octetsCutUptoRow.holds Try.pinned (OpenSpec.upto octetsCutSpec)

/-- 'decamplaw03.OctetsTakes', WHERE WHAT IT READS IS OF BULK AT MOST 1048576: true; the input reads as it did. -/
def octetsTakesUptoRow : OpenClaim := { program := "ytchknfdjnkalkaa", sum := "271d55f226ef817883e53ae1dca653185a9d7fda058146b3b09377066b52b506", func := "decamp/decamplaw03.OctetsTakes", spec := "octetsTakes", apart := false, narrowed := true }
def OctetsTakesUptoSaid : Prop := octetsTakesUptoRow.holds Try.pinned (OpenSpec.upto octetsTakesSpec)

/-- 'decamplaw03.OctetsPuts', WHERE WHAT IT READS IS OF BULK AT MOST 1048576: true; the input reads as it did. -/
def octetsPutsUptoRow : OpenClaim := { program := "ytchknfdjnkalkaa", sum := "271d55f226ef817883e53ae1dca653185a9d7fda058146b3b09377066b52b506", func := "decamp/decamplaw03.OctetsPuts", spec := "octetsPuts", apart := false, narrowed := true }
def OctetsPutsUptoSaid : Prop := octetsPutsUptoRow.holds Try.pinned (OpenSpec.upto octetsPutsSpec)

/-- 'decamplaw03.OctetsBack', WHERE WHAT IT READS IS OF BULK AT MOST 1048576: true; the input reads as it did. -/
def octetsBackUptoRow : OpenClaim := { program := "ytchknfdjnkalkaa", sum := "271d55f226ef817883e53ae1dca653185a9d7fda058146b3b09377066b52b506", func := "decamp/decamplaw03.OctetsBack", spec := "octetsBack", apart := false, narrowed := true }
def OctetsBackUptoSaid : Prop := octetsBackUptoRow.holds Try.pinned (OpenSpec.upto octetsBackSpec)

/-- 'decamplaw03.OctetsNil', WHERE WHAT IT READS IS OF BULK AT MOST 1048576: true; the input reads as it did. -/
def octetsNilUptoRow : OpenClaim := { program := "ytchknfdjnkalkaa", sum := "271d55f226ef817883e53ae1dca653185a9d7fda058146b3b09377066b52b506", func := "decamp/decamplaw03.OctetsNil", spec := "octetsNil", apart := false, narrowed := true }
def OctetsNilUptoSaid : Prop := octetsNilUptoRow.holds Try.pinned (OpenSpec.upto octetsNilSpec)

end Rows
end Go.Proofs.Ytchknfdjnkalkaa
