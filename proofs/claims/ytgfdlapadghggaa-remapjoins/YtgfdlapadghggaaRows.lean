/-
  No cell of these rows narrows 'for every input' (looked for: loops, veiled, ifaces, maps, wideKeys, modest, calm, conditions, laid).
  DERIVED. THE GIVEN ROWS OF THIS SEAT. 4 by the template 'for every input the law returns true; each argument reads behind the call as it read before'; 0 by the template 'total and deterministic' (their statements: YtgfdlapadghggaaTotals.lean).
  GIVEN WITH THE SEED: the statements are not yours to turn. If you find one false, say at which input.
  Laid BY PROGRAM, IN A SANDBOX (cutbox-rows.mjs): the forced cells as the released guide's own fill.sh prints them over the translation 50971645c15406dd… (all of the seat's roots in one cut). By AI agents, Wed Nov 11 2026. No macro, syntax, notation, axiom, sorry.
-/
import Derived.Test.YtgfdlapadghggaaChecked
import GoSem.Claim
import GoSem.ClaimJoined
import GoSem.ClaimMapViews
import Derived.JoinedTies
import Derived.KernelRfl
namespace Go.Proofs.Ytgfdlapadghggaa
/- THE CELL 'sum', in the pinned program and in every row, IS THE sha256 OF THE DUMP (.gsa) THAT YtgfdlapadghggaaProg.lean LOADS. Nothing in Lean hashes anything: it is a label: what it is worth is what the hold of that sum in a sandbox is worth. -/
noncomputable def Try.pinned : Pinned := { name := "ytgfdlapadghggaa", sum := "50971645c15406dd1759a3c1a7d9fc2ca6d128946f3c04aba6fd7d67096305c8", checked := Try.checked }
namespace Rows
def none {H : Type} : Left H := { results := [], args := [] }

/-- 'decamplaw18.RemapCounts': WHATEVER THE INPUT: true; the input reads as it did. -/
def remapCountsSpec : ChangeSpec := { name := "remapCounts", fn := fun _ => fun
  | [d1, d2, d3, d4] => { results := [.lit (.bool true)], args := [d1, d2, d3, d4] }
  | _ => none }
def remapCountsRow : OpenClaim := { program := "ytgfdlapadghggaa", sum := "50971645c15406dd1759a3c1a7d9fc2ca6d128946f3c04aba6fd7d67096305c8", func := "decamp/decamplaw18.RemapCounts", spec := "remapCounts", apart := false }
def RemapCountsSaid : Prop := remapCountsRow.holds Try.pinned (OpenSpec.ofChange remapCountsSpec)

/-- ITS FALSE NEIGHBOUR: 'it returns false'. Refute it at one input. -/
def remapCountsWrong : ChangeSpec := { name := "remapCounts", fn := fun _ => fun
  | [d1, d2, d3, d4] => { results := [.lit (.bool false)], args := [d1, d2, d3, d4] }
  | _ => none }
def RemapCountsWrongFalsely : Prop := remapCountsRow.holds Try.pinned (OpenSpec.ofChange remapCountsWrong)

/-- 'decamplaw18.RemapKeys': WHATEVER THE INPUT: true; the input reads as it did. -/
def remapKeysSpec : ChangeSpec := { name := "remapKeys", fn := fun _ => fun
  | [d1, d2, d3, d4] => { results := [.lit (.bool true)], args := [d1, d2, d3, d4] }
  | _ => none }
def remapKeysRow : OpenClaim := { program := "ytgfdlapadghggaa", sum := "50971645c15406dd1759a3c1a7d9fc2ca6d128946f3c04aba6fd7d67096305c8", func := "decamp/decamplaw18.RemapKeys", spec := "remapKeys", apart := false }
def RemapKeysSaid : Prop := remapKeysRow.holds Try.pinned (OpenSpec.ofChange remapKeysSpec)

/-- ITS FALSE NEIGHBOUR: 'it returns false'. Refute it at one input. -/
def remapKeysWrong : ChangeSpec := { name := "remapKeys", fn := fun _ => fun
  | [d1, d2, d3, d4] => { results := [.lit (.bool false)], args := [d1, d2, d3, d4] }
  | _ => none }
def RemapKeysWrongFalsely : Prop := remapKeysRow.holds Try.pinned (OpenSpec.ofChange remapKeysWrong)

/-- 'decamplaw18.RemapBack': WHATEVER THE INPUT: true; the input reads as it did. -/
def remapBackSpec : ChangeSpec := { name := "remapBack", fn := fun _ => fun
  | [d1, d2, d3, d4, d5] => { results := [.lit (.bool true)], args := [d1, d2, d3, d4, d5] }
  | _ => none }
def remapBackRow : OpenClaim := { program := "ytgfdlapadghggaa", sum := "50971645c15406dd1759a3c1a7d9fc2ca6d128946f3c04aba6fd7d67096305c8", func := "decamp/decamplaw18.RemapBack", spec := "remapBack", apart := false }
def RemapBackSaid : Prop := remapBackRow.holds Try.pinned (OpenSpec.ofChange remapBackSpec)

/-- ITS FALSE NEIGHBOUR: 'it returns false'. Refute it at one input. -/
def remapBackWrong : ChangeSpec := { name := "remapBack", fn := fun _ => fun
  | [d1, d2, d3, d4, d5] => { results := [.lit (.bool false)], args := [d1, d2, d3, d4, d5] }
  | _ => none }
def RemapBackWrongFalsely : Prop := remapBackRow.holds Try.pinned (OpenSpec.ofChange remapBackWrong)

/-- 'decamplaw18.RemapJoins': WHATEVER THE INPUT: true; the input reads as it did. -/
def remapJoinsSpec : ChangeSpec := { name := "remapJoins", fn := fun _ => fun
  | [d1, d2, d3, d4, d5] => { results := [.lit (.bool true)], args := [d1, d2, d3, d4, d5] }
  | _ => none }
def remapJoinsRow : OpenClaim := { program := "ytgfdlapadghggaa", sum := "50971645c15406dd1759a3c1a7d9fc2ca6d128946f3c04aba6fd7d67096305c8", func := "decamp/decamplaw18.RemapJoins", spec := "remapJoins", apart := false }
def RemapJoinsSaid : Prop := remapJoinsRow.holds Try.pinned (OpenSpec.ofChange remapJoinsSpec)

/-- ITS FALSE NEIGHBOUR: 'it returns false'. Refute it at one input. -/
def remapJoinsWrong : ChangeSpec := { name := "remapJoins", fn := fun _ => fun
  | [d1, d2, d3, d4, d5] => { results := [.lit (.bool false)], args := [d1, d2, d3, d4, d5] }
  | _ => none }
def RemapJoinsWrongFalsely : Prop := remapJoinsRow.holds Try.pinned (OpenSpec.ofChange remapJoinsWrong)

/- THE SECOND FORM. 'bulk': how many values and letters a reading holds, each counted each time it is reached (what is shared counts as often as it is met; a slice's spare places count too). A statement '..UptoSaid' is the law's where the arguments, and the package variables that the reading takes, are together of bulk at most 1048576: NARROWER than '..Said'. Prove '..Said' where nothing that the law and all that it calls make is longer than what came in: it says more and counts as full. Else prove '..UptoSaid'. A law counts once. -/
mutual
def uptoBulk {H : Type} : DataW H → Nat
  | .lit (.string bytes) => bytes.length + 1
  | .lit _ => 1
  | .nil => 1
  | .ptr d => uptoBulk d + 1
  | .slice elems spare => uptoBulkAll elems + uptoBulkAll spare + 1
  | .agg parts => uptoBulkAll parts + 1
  | .iface _ d => uptoBulk d + 1
  | .map entries => uptoBulkEntries entries + 1
  | .held _ => 1
def uptoBulkAll {H : Type} : List (DataW H) → Nat
  | [] => 0
  | d :: r => uptoBulk d + uptoBulkAll r
def uptoBulkEntries {H : Type} : List (Lit × DataW H) → Nat
  | [] => 0
  | x :: r => uptoBulkEntry x + uptoBulkEntries r
def uptoBulkEntry {H : Type} : Lit × DataW H → Nat
  | (.string bytes, d) => bytes.length + uptoBulk d + 1
  | (_, d) => uptoBulk d + 1
 end
def uptoSmall : (H : Type) → List (DataW H) → Bool := fun _ ds => decide (uptoBulkAll ds ≤ 1048576)
def OpenSpec.upto (s : _root_.Go.ChangeSpec) : _root_.Go.OpenSpec := { _root_.Go.OpenSpec.ofChange s with cond := some uptoSmall }

/-- 'decamplaw18.RemapCounts', WHERE WHAT IT READS IS OF BULK AT MOST 1048576: true; the input reads as it did. -/
def remapCountsUptoRow : OpenClaim := { program := "ytgfdlapadghggaa", sum := "50971645c15406dd1759a3c1a7d9fc2ca6d128946f3c04aba6fd7d67096305c8", func := "decamp/decamplaw18.RemapCounts", spec := "remapCounts", apart := false, narrowed := true }
def RemapCountsUptoSaid : Prop := remapCountsUptoRow.holds Try.pinned (OpenSpec.upto remapCountsSpec)

/-- 'decamplaw18.RemapKeys', WHERE WHAT IT READS IS OF BULK AT MOST 1048576: true; the input reads as it did. -/
def remapKeysUptoRow : OpenClaim := { program := "ytgfdlapadghggaa", sum := "50971645c15406dd1759a3c1a7d9fc2ca6d128946f3c04aba6fd7d67096305c8", func := "decamp/decamplaw18.RemapKeys", spec := "remapKeys", apart := false, narrowed := true }
def RemapKeysUptoSaid : Prop := remapKeysUptoRow.holds Try.pinned (OpenSpec.upto remapKeysSpec)

/-- 'decamplaw18.RemapBack', WHERE WHAT IT READS IS OF BULK AT MOST 1048576: true; the input reads as it did. -/
def remapBackUptoRow : OpenClaim := { program := "ytgfdlapadghggaa", sum := "50971645c15406dd1759a3c1a7d9fc2ca6d128946f3c04aba6fd7d67096305c8", func := "decamp/decamplaw18.RemapBack", spec := "remapBack", apart := false, narrowed := true }
def RemapBackUptoSaid : Prop := remapBackUptoRow.holds Try.pinned (OpenSpec.upto remapBackSpec)

/-- 'decamplaw18.RemapJoins', WHERE WHAT IT READS IS OF BULK AT MOST 1048576: true; the input reads as it did. -/
def remapJoinsUptoRow : OpenClaim := { program := "ytgfdlapadghggaa", sum := "50971645c15406dd1759a3c1a7d9fc2ca6d128946f3c04aba6fd7d67096305c8", func := "decamp/decamplaw18.RemapJoins", spec := "remapJoins", apart := false, narrowed := true }
def RemapJoinsUptoSaid : Prop := remapJoinsUptoRow.holds Try.pinned (OpenSpec.upto remapJoinsSpec)

end Rows
end Go.Proofs.Ytgfdlapadghggaa
