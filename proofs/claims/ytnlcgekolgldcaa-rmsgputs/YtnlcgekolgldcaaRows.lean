/-
  No cell of these rows narrows 'for every input' (looked for: loops, veiled, ifaces, maps, wideKeys, modest, calm, conditions, laid).
  DERIVED. THE GIVEN ROWS OF THIS SEAT. 4 by the template 'for every input the law returns true; each argument reads behind the call as it read before'; 0 by the template 'total and deterministic' (their statements: YtnlcgekolgldcaaTotals.lean).
  GIVEN WITH THE SEED: the statements are not yours to turn. If you find one false, say at which input.
  Laid BY PROGRAM, IN A SANDBOX (cutbox-rows.mjs): the forced cells as the released guide's own fill.sh prints them over the translation 4498f3802a0f19ad… (all of the seat's roots in one cut). By AI agents, Wed Nov 11 2026. No macro, syntax, notation, axiom, sorry.
-/
import Derived.Test.YtnlcgekolgldcaaChecked
import GoSem.Claim
import GoSem.ClaimJoined
import GoSem.ClaimMapViews
import Derived.JoinedTies
import Derived.KernelRfl
namespace Go.Proofs.Ytnlcgekolgldcaa
/- THE CELL 'sum', in the pinned program and in every row, IS THE sha256 OF THE DUMP (.gsa) THAT YtnlcgekolgldcaaProg.lean LOADS. Nothing in Lean hashes anything: it is a label: what it is worth is what the hold of that sum in a sandbox is worth. -/
noncomputable def Try.pinned : Pinned := { name := "ytnlcgekolgldcaa", sum := "4498f3802a0f19ad11cabd33d110089aeef604f000af0ec5253660482a7af030", checked := Try.checked }
namespace Rows
def none {H : Type} : Left H := { results := [], args := [] }

/-- 'decamplaw11.RmsgRight': WHATEVER THE INPUT: true; the input reads as it did. -/
def rmsgRightSpec : ChangeSpec := { name := "rmsgRight", fn := fun _ => fun
  | [d1, d2] => { results := [.lit (.bool true)], args := [d1, d2] }
  | _ => none }
def rmsgRightRow : OpenClaim := { program := "ytnlcgekolgldcaa", sum := "4498f3802a0f19ad11cabd33d110089aeef604f000af0ec5253660482a7af030", func := "decamp/decamplaw11.RmsgRight", spec := "rmsgRight", unfollowed := true, recurses := true, apart := false }
def RmsgRightSaid : Prop := rmsgRightRow.holds Try.pinned (OpenSpec.ofChange rmsgRightSpec)

/-- ITS FALSE NEIGHBOUR: 'it returns false'. Refute it at one input. -/
def rmsgRightWrong : ChangeSpec := { name := "rmsgRight", fn := fun _ => fun
  | [d1, d2] => { results := [.lit (.bool false)], args := [d1, d2] }
  | _ => none }
def RmsgRightWrongFalsely : Prop := rmsgRightRow.holds Try.pinned (OpenSpec.ofChange rmsgRightWrong)

/-- 'decamplaw11.RmsgBare': WHATEVER THE INPUT: true; the input reads as it did. -/
def rmsgBareSpec : ChangeSpec := { name := "rmsgBare", fn := fun _ => fun
  | [d1, d2, d3] => { results := [.lit (.bool true)], args := [d1, d2, d3] }
  | _ => none }
def rmsgBareRow : OpenClaim := { program := "ytnlcgekolgldcaa", sum := "4498f3802a0f19ad11cabd33d110089aeef604f000af0ec5253660482a7af030", func := "decamp/decamplaw11.RmsgBare", spec := "rmsgBare", unfollowed := true, recurses := true, apart := false }
def RmsgBareSaid : Prop := rmsgBareRow.holds Try.pinned (OpenSpec.ofChange rmsgBareSpec)

/-- ITS FALSE NEIGHBOUR: 'it returns false'. Refute it at one input. -/
def rmsgBareWrong : ChangeSpec := { name := "rmsgBare", fn := fun _ => fun
  | [d1, d2, d3] => { results := [.lit (.bool false)], args := [d1, d2, d3] }
  | _ => none }
def RmsgBareWrongFalsely : Prop := rmsgBareRow.holds Try.pinned (OpenSpec.ofChange rmsgBareWrong)

/-- 'decamplaw11.RmsgGets': WHATEVER THE INPUT: true; the input reads as it did. -/
def rmsgGetsSpec : ChangeSpec := { name := "rmsgGets", fn := fun _ => fun
  | [d] => { results := [.lit (.bool true)], args := [d] }
  | _ => none }
def rmsgGetsRow : OpenClaim := { program := "ytnlcgekolgldcaa", sum := "4498f3802a0f19ad11cabd33d110089aeef604f000af0ec5253660482a7af030", func := "decamp/decamplaw11.RmsgGets", spec := "rmsgGets", unfollowed := true, recurses := true, apart := false }
def RmsgGetsSaid : Prop := rmsgGetsRow.holds Try.pinned (OpenSpec.ofChange rmsgGetsSpec)

/-- ITS FALSE NEIGHBOUR: 'it returns false'. Refute it at one input. -/
def rmsgGetsWrong : ChangeSpec := { name := "rmsgGets", fn := fun _ => fun
  | [d] => { results := [.lit (.bool false)], args := [d] }
  | _ => none }
def RmsgGetsWrongFalsely : Prop := rmsgGetsRow.holds Try.pinned (OpenSpec.ofChange rmsgGetsWrong)

/-- 'decamplaw11.RmsgPuts': WHATEVER THE INPUT: true; the input reads as it did. -/
def rmsgPutsSpec : ChangeSpec := { name := "rmsgPuts", fn := fun _ => fun
  | [d] => { results := [.lit (.bool true)], args := [d] }
  | _ => none }
def rmsgPutsRow : OpenClaim := { program := "ytnlcgekolgldcaa", sum := "4498f3802a0f19ad11cabd33d110089aeef604f000af0ec5253660482a7af030", func := "decamp/decamplaw11.RmsgPuts", spec := "rmsgPuts", unfollowed := true, recurses := true, apart := false }
def RmsgPutsSaid : Prop := rmsgPutsRow.holds Try.pinned (OpenSpec.ofChange rmsgPutsSpec)

/-- ITS FALSE NEIGHBOUR: 'it returns false'. Refute it at one input. -/
def rmsgPutsWrong : ChangeSpec := { name := "rmsgPuts", fn := fun _ => fun
  | [d] => { results := [.lit (.bool false)], args := [d] }
  | _ => none }
def RmsgPutsWrongFalsely : Prop := rmsgPutsRow.holds Try.pinned (OpenSpec.ofChange rmsgPutsWrong)

/- THE SECOND FORM. 'bulk': how many values and letters a reading holds, each counted each time it is reached (what is shared counts as often as it is met; a slice's spare places count too). A statement '..UptoSaid' is the law's where the arguments, and the package variables that the reading takes, are together of bulk at most 1048576: NARROWER than '..Said'. Prove '..Said' where nothing that the law and all that it calls make is longer than what came in: it says more and counts as full. Else prove '..UptoSaid'. A law counts once. -/
mutual
def uptoBulk {H : Type} : DataW H → Nat
  | .lit (.string bytes) => bytes.length + 1
  | .lit _ => 1
  | .nil => 1
  | .ptr d => uptoBulk d + 1
  | .slice elems spare => uptoBulkAll elems + uptoBulkAll spare + 1
  | .agg parts => uptoBulkAll parts + 1
  | .iface _ d => uptoBulk d + 1
  | .map entries => uptoBulkEntries entries + 1
  | .held _ => 1
def uptoBulkAll {H : Type} : List (DataW H) → Nat
  | [] => 0
  | d :: r => uptoBulk d + uptoBulkAll r
def uptoBulkEntries {H : Type} : List (Lit × DataW H) → Nat
  | [] => 0
  | x :: r => uptoBulkEntry x + uptoBulkEntries r
def uptoBulkEntry {H : Type} : Lit × DataW H → Nat
  | (.string bytes, d) => bytes.length + uptoBulk d + 1
  | (_, d) => uptoBulk d + 1
 end
def uptoSmall : (H : Type) → List (DataW H) → Bool := fun _ ds => decide (uptoBulkAll ds ≤ 1048576)
def OpenSpec.upto (s : _root_.Go.ChangeSpec) : _root_.Go.OpenSpec := { _root_.Go.OpenSpec.ofChange s with cond := some uptoSmall }

/-- 'decamplaw11.RmsgRight', WHERE WHAT IT READS IS OF BULK AT MOST 1048576: true; the input reads as it did. -/
def rmsgRightUptoRow : OpenClaim := { program := "ytnlcgekolgldcaa", sum := "4498f3802a0f19ad11cabd33d110089aeef604f000af0ec5253660482a7af030", func := "decamp/decamplaw11.RmsgRight", spec := "rmsgRight", unfollowed := true, recurses := true, apart := false, narrowed := true }
def RmsgRightUptoSaid : Prop := rmsgRightUptoRow.holds Try.pinned (OpenSpec.upto rmsgRightSpec)

/-- 'decamplaw11.RmsgBare', WHERE WHAT IT READS IS OF BULK AT MOST 1048576: true; the input reads as it did. -/
def rmsgBareUptoRow : OpenClaim := { program := "ytnlcgekolgldcaa", sum := "4498f3802a0f19ad11cabd33d110089aeef604f000af0ec5253660482a7af030", func := "decamp/decamplaw11.RmsgBare", spec := "rmsgBare", unfollowed := true, recurses := true, apart := false, narrowed := true }
def RmsgBareUptoSaid : Prop := rmsgBareUptoRow.holds Try.pinned (OpenSpec.upto rmsgBareSpec)

/-- 'decamplaw11.RmsgGets', WHERE WHAT IT READS IS OF BULK AT MOST 1048576: true; the input reads as it did. -/
def rmsgGetsUptoRow : OpenClaim := { program := "ytnlcgekolgldcaa", sum := "4498f3802a0f19ad11cabd33d110089aeef604f000af0ec5253660482a7af030", func := "decamp/decamplaw11.RmsgGets", spec := "rmsgGets", unfollowed := true, recurses := true, apart := false, narrowed := true }
def RmsgGetsUptoSaid : Prop := rmsgGetsUptoRow.holds Try.pinned (OpenSpec.upto rmsgGetsSpec)

/-- 'decamplaw11.RmsgPuts', WHERE WHAT IT READS IS OF BULK AT MOST 1048576: true; the input reads as it did. -/
def rmsgPutsUptoRow : OpenClaim := { program := "ytnlcgekolgldcaa", sum := "4498f3802a0f19ad11cabd33d110089aeef604f000af0ec5253660482a7af030", func := "decamp/decamplaw11.RmsgPuts", spec := "rmsgPuts", unfollowed := true, recurses := true, apart := false, narrowed := true }
def RmsgPutsUptoSaid : Prop := rmsgPutsUptoRow.holds Try.pinned (OpenSpec.upto rmsgPutsSpec)

end Rows
end Go.Proofs.Ytnlcgekolgldcaa
