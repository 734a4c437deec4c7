/-
  No cell of these rows narrows 'for every input' (looked for: loops, veiled, ifaces, maps, wideKeys, modest, calm, conditions, laid).
  DERIVED. THE GIVEN ROWS OF THIS SEAT. 4 by the template 'for every input the law returns true; each argument reads behind the call as it read before'; 0 by the template 'total and deterministic' (their statements: YtkiakaokgoodhaaGreatTotals.lean).
  GIVEN WITH THE SEED: the statements are not yours to turn. If you find one false, say at which input.
  Laid BY PROGRAM, IN A SANDBOX (cutbox-rows.mjs): the forced cells as the released guide's own fill.sh prints them over the translation 659958a54e845a3b… (all of the seat's roots in one cut). By AI agents, Wed Nov 11 2026. No macro, syntax, notation, axiom, sorry.
-/
import Derived.Test.YtkiakaokgoodhaaGreatChecked
import GoSem.Claim
import GoSem.ClaimJoined
import GoSem.ClaimMapViews
import Derived.JoinedTies
import Derived.KernelRfl
namespace Go.Proofs.YtkiakaokgoodhaaGreat
/- THE CELL 'sum', in the pinned program and in every row, IS THE sha256 OF THE DUMP (.gsa) THAT YtkiakaokgoodhaaGreatProg.lean LOADS. Nothing in Lean hashes anything: it is a label: what it is worth is what the hold of that sum in a sandbox is worth. -/
noncomputable def Tryz.pinned : Pinned := { name := "ytkiakaokgoodhaagreat", sum := "659958a54e845a3b3c4a0d694adf72aac64381f0c31aea5456043eaaf6d654dd", checked := Tryz.checked }
namespace Rows
def none {H : Type} : Left H := { results := [], args := [] }

/-- 'decamplaw24.CallerTurns': WHATEVER THE INPUT: true; the input reads as it did. -/
def callerTurnsSpec : ChangeSpec := { name := "callerTurns", fn := fun _ => fun
  | [d1, d2, d3, d4, d5, d6] => { results := [.lit (.bool true)], args := [d1, d2, d3, d4, d5, d6] }
  | _ => none }
def callerTurnsRow : OpenClaim := { program := "ytkiakaokgoodhaagreat", sum := "659958a54e845a3b3c4a0d694adf72aac64381f0c31aea5456043eaaf6d654dd", func := "decamp/decamplaw24.CallerTurns", spec := "callerTurns", unfollowed := true, recurses := true, apart := false }
def CallerTurnsSaid : Prop := callerTurnsRow.holds Tryz.pinned (OpenSpec.ofChange callerTurnsSpec)

/-- ITS FALSE NEIGHBOUR: 'it returns false'. Refute it at one input. -/
def callerTurnsWrong : ChangeSpec := { name := "callerTurns", fn := fun _ => fun
  | [d1, d2, d3, d4, d5, d6] => { results := [.lit (.bool false)], args := [d1, d2, d3, d4, d5, d6] }
  | _ => none }
def CallerTurnsWrongFalsely : Prop := callerTurnsRow.holds Tryz.pinned (OpenSpec.ofChange callerTurnsWrong)

/-- 'decamplaw24.CallerOnce': WHATEVER THE INPUT: true; the input reads as it did. -/
def callerOnceSpec : ChangeSpec := { name := "callerOnce", fn := fun _ => fun
  | [d1, d2] => { results := [.lit (.bool true)], args := [d1, d2] }
  | _ => none }
def callerOnceRow : OpenClaim := { program := "ytkiakaokgoodhaagreat", sum := "659958a54e845a3b3c4a0d694adf72aac64381f0c31aea5456043eaaf6d654dd", func := "decamp/decamplaw24.CallerOnce", spec := "callerOnce", unfollowed := true, recurses := true, apart := false }
def CallerOnceSaid : Prop := callerOnceRow.holds Tryz.pinned (OpenSpec.ofChange callerOnceSpec)

/-- ITS FALSE NEIGHBOUR: 'it returns false'. Refute it at one input. -/
def callerOnceWrong : ChangeSpec := { name := "callerOnce", fn := fun _ => fun
  | [d1, d2] => { results := [.lit (.bool false)], args := [d1, d2] }
  | _ => none }
def CallerOnceWrongFalsely : Prop := callerOnceRow.holds Tryz.pinned (OpenSpec.ofChange callerOnceWrong)

/-- 'decamplaw24.CallerPlays': WHATEVER THE INPUT: true; the input reads as it did. -/
def callerPlaysSpec : ChangeSpec := { name := "callerPlays", fn := fun _ => fun
  | [d1, d2, d3, d4, d5, d6] => { results := [.lit (.bool true)], args := [d1, d2, d3, d4, d5, d6] }
  | _ => none }
def callerPlaysRow : OpenClaim := { program := "ytkiakaokgoodhaagreat", sum := "659958a54e845a3b3c4a0d694adf72aac64381f0c31aea5456043eaaf6d654dd", func := "decamp/decamplaw24.CallerPlays", spec := "callerPlays", unfollowed := true, recurses := true, apart := false }
def CallerPlaysSaid : Prop := callerPlaysRow.holds Tryz.pinned (OpenSpec.ofChange callerPlaysSpec)

/-- ITS FALSE NEIGHBOUR: 'it returns false'. Refute it at one input. -/
def callerPlaysWrong : ChangeSpec := { name := "callerPlays", fn := fun _ => fun
  | [d1, d2, d3, d4, d5, d6] => { results := [.lit (.bool false)], args := [d1, d2, d3, d4, d5, d6] }
  | _ => none }
def CallerPlaysWrongFalsely : Prop := callerPlaysRow.holds Tryz.pinned (OpenSpec.ofChange callerPlaysWrong)

/-- 'decamplaw24.CallerNil': WHATEVER THE INPUT: true; the input reads as it did. -/
def callerNilSpec : ChangeSpec := { name := "callerNil", fn := fun _ => fun
  | [d1, d2] => { results := [.lit (.bool true)], args := [d1, d2] }
  | _ => none }
def callerNilRow : OpenClaim := { program := "ytkiakaokgoodhaagreat", sum := "659958a54e845a3b3c4a0d694adf72aac64381f0c31aea5456043eaaf6d654dd", func := "decamp/decamplaw24.CallerNil", spec := "callerNil", unfollowed := true, recurses := true, apart := false }
def CallerNilSaid : Prop := callerNilRow.holds Tryz.pinned (OpenSpec.ofChange callerNilSpec)

/-- ITS FALSE NEIGHBOUR: 'it returns false'. Refute it at one input. -/
def callerNilWrong : ChangeSpec := { name := "callerNil", fn := fun _ => fun
  | [d1, d2] => { results := [.lit (.bool false)], args := [d1, d2] }
  | _ => none }
def CallerNilWrongFalsely : Prop := callerNilRow.holds Tryz.pinned (OpenSpec.ofChange callerNilWrong)

/- THE SECOND FORM. 'bulk': how many values and letters a reading holds, each counted each time it is reached (what is shared counts as often as it is met; a slice's spare places count too). A statement '..UptoSaid' is the law's where the arguments, and the package variables that the reading takes, are together of bulk at most 1048576: NARROWER than '..Said'. Prove '..Said' where nothing that the law and all that it calls make is longer than what came in: it says more and counts as full. Else prove '..UptoSaid'. A law counts once. -/
mutual
def uptoBulk {H : Type} : DataW H → Nat
  | .lit (.string bytes) => bytes.length + 1
  | .lit _ => 1
  | .nil => 1
  | .ptr d => uptoBulk d + 1
  | .slice elems spare => uptoBulkAll elems + uptoBulkAll spare + 1
  | .agg parts => uptoBulkAll parts + 1
  | .iface _ d => uptoBulk d + 1
  | .map entries => uptoBulkEntries entries + 1
  | .held _ => 1
def uptoBulkAll {H : Type} : List (DataW H) → Nat
  | [] => 0
  | d :: r => uptoBulk d + uptoBulkAll r
def uptoBulkEntries {H : Type} : List (Lit × DataW H) → Nat
  | [] => 0
  | x :: r => uptoBulkEntry x + uptoBulkEntries r
def uptoBulkEntry {H : Type} : Lit × DataW H → Nat
  | (.string bytes, d) => bytes.length + uptoBulk d + 1
  | (_, d) => uptoBulk d + 1
 end
def uptoSmall : (H : Type) → List (DataW H) → Bool := fun _ ds => decide (uptoBulkAll ds ≤ 1048576)
def OpenSpec.upto (s : _root_.Go.ChangeSpec) : _root_.Go.OpenSpec := { _root_.Go.OpenSpec.ofChange s with cond := some uptoSmall }

/-- 'decamplaw24.CallerTurns', WHERE WHAT IT READS IS OF BULK AT MOST 1048576: true; the input reads as it did. -/
def callerTurnsUptoRow : OpenClaim := { program := "ytkiakaokgoodhaagreat", sum := "659958a54e845a3b3c4a0d694adf72aac64381f0c31aea5456043eaaf6d654dd", func := "decamp/decamplaw24.CallerTurns", spec := "callerTurns", unfollowed := true, recurses := true, apart := false, narrowed := true }
def CallerTurnsUptoSaid : Prop := callerTurnsUptoRow.holds Tryz.pinned (OpenSpec.upto callerTurnsSpec)

/-- 'decamplaw24.CallerOnce', WHERE WHAT IT READS IS OF BULK AT MOST 1048576: true; the input reads as it did. -/
def callerOnceUptoRow : OpenClaim := { program := "ytkiakaokgoodhaagreat", sum := "659958a54e845a3b3c4a0d694adf72aac64381f0c31aea5456043eaaf6d654dd", func := "decamp/decamplaw24.CallerOnce", spec := "callerOnce", unfollowed := true, recurses := true, apart := false, narrowed := true }
def CallerOnceUptoSaid : Prop := callerOnceUptoRow.holds Tryz.pinned (OpenSpec.upto callerOnceSpec)

/-- 'decamplaw24.CallerPlays', WHERE WHAT IT READS IS OF BULK AT MOST 1048576: true; the input reads as it did. -/
def callerPlaysUptoRow : OpenClaim := { program := "ytkiakaokgoodhaagreat", sum := "659958a54e845a3b3c4a0d694adf72aac64381f0c31aea5456043eaaf6d654dd", func := "decamp/decamplaw24.CallerPlays", spec := "callerPlays", unfollowed := true, recurses := true, apart := false, narrowed := true }
def CallerPlaysUptoSaid : Prop := callerPlaysUptoRow.holds Tryz.pinned (OpenSpec.upto callerPlaysSpec)

/-- 'decamplaw24.CallerNil', WHERE WHAT IT READS IS OF BULK AT MOST 1048576: true; the input reads as it did. -/
def callerNilUptoRow : OpenClaim := { program := "ytkiakaokgoodhaagreat", sum := "659958a54e845a3b3c4a0d694adf72aac64381f0c31aea5456043eaaf6d654dd", func := "decamp/decamplaw24.CallerNil", spec := "callerNil", unfollowed := true, recurses := true, apart := false, narrowed := true }
def CallerNilUptoSaid : Prop := callerNilUptoRow.holds Tryz.pinned (OpenSpec.upto callerNilSpec)

end Rows
end Go.Proofs.YtkiakaokgoodhaaGreat
