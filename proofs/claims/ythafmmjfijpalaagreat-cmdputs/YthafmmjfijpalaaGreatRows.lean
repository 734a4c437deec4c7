/-
  No cell of these rows narrows 'for every input' (looked for: loops, veiled, ifaces, maps, wideKeys, modest, calm, conditions, laid).
  DERIVED. THE GIVEN ROWS OF THIS SEAT. 7 by the template 'for every input the law returns true; each argument reads behind the call as it read before'; 0 by the template 'total and deterministic' (their statements: YthafmmjfijpalaaGreatTotals.lean).
  GIVEN WITH THE SEED: the statements are not yours to turn. If you find one false, say at which input.
  Laid BY PROGRAM, IN A SANDBOX (cutbox-rows.mjs): the forced cells as the released guide's own fill.sh prints them over the translation 49f53502d9e0bd69… (all of the seat's roots in one cut). By AI agents, Wed Nov 11 2026. No macro, syntax, notation, axiom, sorry.
-/
import Derived.Test.YthafmmjfijpalaaGreatChecked
import GoSem.Claim
import GoSem.ClaimJoined
import GoSem.ClaimMapViews
import Derived.JoinedTies
import Derived.KernelRfl
namespace Go.Proofs.YthafmmjfijpalaaGreat
/- THE CELL 'sum', in the pinned program and in every row, IS THE sha256 OF THE DUMP (.gsa) THAT YthafmmjfijpalaaGreatProg.lean LOADS. Nothing in Lean hashes anything: it is a label: what it is worth is what the hold of that sum in a sandbox is worth. -/
noncomputable def Tryz.pinned : Pinned := { name := "ythafmmjfijpalaagreat", sum := "49f53502d9e0bd6905a824968036b375f4e7a92242c9a40637ea69ee0fe9673e", checked := Tryz.checked }
namespace Rows
def none {H : Type} : Left H := { results := [], args := [] }

/-- 'decamplaw17.CmdRight': WHATEVER THE INPUT: true; the input reads as it did. -/
def cmdRightSpec : ChangeSpec := { name := "cmdRight", fn := fun _ => fun
  | [d1, d2, d3, d4] => { results := [.lit (.bool true)], args := [d1, d2, d3, d4] }
  | _ => none }
def cmdRightRow : OpenClaim := { program := "ythafmmjfijpalaagreat", sum := "49f53502d9e0bd6905a824968036b375f4e7a92242c9a40637ea69ee0fe9673e", func := "decamp/decamplaw17.CmdRight", spec := "cmdRight", unfollowed := true, recurses := true, apart := false }
def CmdRightSaid : Prop := cmdRightRow.holds Tryz.pinned (OpenSpec.ofChange cmdRightSpec)

/-- ITS FALSE NEIGHBOUR: 'it returns false'. Refute it at one input. -/
def cmdRightWrong : ChangeSpec := { name := "cmdRight", fn := fun _ => fun
  | [d1, d2, d3, d4] => { results := [.lit (.bool false)], args := [d1, d2, d3, d4] }
  | _ => none }
def CmdRightWrongFalsely : Prop := cmdRightRow.holds Tryz.pinned (OpenSpec.ofChange cmdRightWrong)

/-- 'decamplaw17.CmdEncodes': WHATEVER THE INPUT: true; the input reads as it did. -/
def cmdEncodesSpec : ChangeSpec := { name := "cmdEncodes", fn := fun _ => fun
  | [d1, d2, d3] => { results := [.lit (.bool true)], args := [d1, d2, d3] }
  | _ => none }
def cmdEncodesRow : OpenClaim := { program := "ythafmmjfijpalaagreat", sum := "49f53502d9e0bd6905a824968036b375f4e7a92242c9a40637ea69ee0fe9673e", func := "decamp/decamplaw17.CmdEncodes", spec := "cmdEncodes", unfollowed := true, recurses := true, apart := false }
def CmdEncodesSaid : Prop := cmdEncodesRow.holds Tryz.pinned (OpenSpec.ofChange cmdEncodesSpec)

/-- ITS FALSE NEIGHBOUR: 'it returns false'. Refute it at one input. -/
def cmdEncodesWrong : ChangeSpec := { name := "cmdEncodes", fn := fun _ => fun
  | [d1, d2, d3] => { results := [.lit (.bool false)], args := [d1, d2, d3] }
  | _ => none }
def CmdEncodesWrongFalsely : Prop := cmdEncodesRow.holds Tryz.pinned (OpenSpec.ofChange cmdEncodesWrong)

/-- 'decamplaw17.CmdDecodes': WHATEVER THE INPUT: true; the input reads as it did. -/
def cmdDecodesSpec : ChangeSpec := { name := "cmdDecodes", fn := fun _ => fun
  | [d] => { results := [.lit (.bool true)], args := [d] }
  | _ => none }
def cmdDecodesRow : OpenClaim := { program := "ythafmmjfijpalaagreat", sum := "49f53502d9e0bd6905a824968036b375f4e7a92242c9a40637ea69ee0fe9673e", func := "decamp/decamplaw17.CmdDecodes", spec := "cmdDecodes", unfollowed := true, recurses := true, apart := false }
def CmdDecodesSaid : Prop := cmdDecodesRow.holds Tryz.pinned (OpenSpec.ofChange cmdDecodesSpec)

/-- ITS FALSE NEIGHBOUR: 'it returns false'. Refute it at one input. -/
def cmdDecodesWrong : ChangeSpec := { name := "cmdDecodes", fn := fun _ => fun
  | [d] => { results := [.lit (.bool false)], args := [d] }
  | _ => none }
def CmdDecodesWrongFalsely : Prop := cmdDecodesRow.holds Tryz.pinned (OpenSpec.ofChange cmdDecodesWrong)

/-- 'decamplaw17.CmdMeets': WHATEVER THE INPUT: true; the input reads as it did. -/
def cmdMeetsSpec : ChangeSpec := { name := "cmdMeets", fn := fun _ => fun
  | [d1, d2, d3] => { results := [.lit (.bool true)], args := [d1, d2, d3] }
  | _ => none }
def cmdMeetsRow : OpenClaim := { program := "ythafmmjfijpalaagreat", sum := "49f53502d9e0bd6905a824968036b375f4e7a92242c9a40637ea69ee0fe9673e", func := "decamp/decamplaw17.CmdMeets", spec := "cmdMeets", unfollowed := true, recurses := true, apart := false }
def CmdMeetsSaid : Prop := cmdMeetsRow.holds Tryz.pinned (OpenSpec.ofChange cmdMeetsSpec)

/-- ITS FALSE NEIGHBOUR: 'it returns false'. Refute it at one input. -/
def cmdMeetsWrong : ChangeSpec := { name := "cmdMeets", fn := fun _ => fun
  | [d1, d2, d3] => { results := [.lit (.bool false)], args := [d1, d2, d3] }
  | _ => none }
def CmdMeetsWrongFalsely : Prop := cmdMeetsRow.holds Tryz.pinned (OpenSpec.ofChange cmdMeetsWrong)

/-- 'decamplaw17.CmdOthers': WHATEVER THE INPUT: true; the input reads as it did. -/
def cmdOthersSpec : ChangeSpec := { name := "cmdOthers", fn := fun _ => fun
  | [d1, d2, d3, d4, d5] => { results := [.lit (.bool true)], args := [d1, d2, d3, d4, d5] }
  | _ => none }
def cmdOthersRow : OpenClaim := { program := "ythafmmjfijpalaagreat", sum := "49f53502d9e0bd6905a824968036b375f4e7a92242c9a40637ea69ee0fe9673e", func := "decamp/decamplaw17.CmdOthers", spec := "cmdOthers", unfollowed := true, recurses := true, apart := false }
def CmdOthersSaid : Prop := cmdOthersRow.holds Tryz.pinned (OpenSpec.ofChange cmdOthersSpec)

/-- ITS FALSE NEIGHBOUR: 'it returns false'. Refute it at one input. -/
def cmdOthersWrong : ChangeSpec := { name := "cmdOthers", fn := fun _ => fun
  | [d1, d2, d3, d4, d5] => { results := [.lit (.bool false)], args := [d1, d2, d3, d4, d5] }
  | _ => none }
def CmdOthersWrongFalsely : Prop := cmdOthersRow.holds Tryz.pinned (OpenSpec.ofChange cmdOthersWrong)

/-- 'decamplaw17.CmdGets': WHATEVER THE INPUT: true; the input reads as it did. -/
def cmdGetsSpec : ChangeSpec := { name := "cmdGets", fn := fun _ => fun
  | [d1, d2] => { results := [.lit (.bool true)], args := [d1, d2] }
  | _ => none }
def cmdGetsRow : OpenClaim := { program := "ythafmmjfijpalaagreat", sum := "49f53502d9e0bd6905a824968036b375f4e7a92242c9a40637ea69ee0fe9673e", func := "decamp/decamplaw17.CmdGets", spec := "cmdGets", unfollowed := true, recurses := true, apart := false }
def CmdGetsSaid : Prop := cmdGetsRow.holds Tryz.pinned (OpenSpec.ofChange cmdGetsSpec)

/-- ITS FALSE NEIGHBOUR: 'it returns false'. Refute it at one input. -/
def cmdGetsWrong : ChangeSpec := { name := "cmdGets", fn := fun _ => fun
  | [d1, d2] => { results := [.lit (.bool false)], args := [d1, d2] }
  | _ => none }
def CmdGetsWrongFalsely : Prop := cmdGetsRow.holds Tryz.pinned (OpenSpec.ofChange cmdGetsWrong)

/-- 'decamplaw17.CmdPuts': WHATEVER THE INPUT: true; the input reads as it did. -/
def cmdPutsSpec : ChangeSpec := { name := "cmdPuts", fn := fun _ => fun
  | [d1, d2, d3, d4] => { results := [.lit (.bool true)], args := [d1, d2, d3, d4] }
  | _ => none }
def cmdPutsRow : OpenClaim := { program := "ythafmmjfijpalaagreat", sum := "49f53502d9e0bd6905a824968036b375f4e7a92242c9a40637ea69ee0fe9673e", func := "decamp/decamplaw17.CmdPuts", spec := "cmdPuts", unfollowed := true, recurses := true, apart := false }
def CmdPutsSaid : Prop := cmdPutsRow.holds Tryz.pinned (OpenSpec.ofChange cmdPutsSpec)

/-- ITS FALSE NEIGHBOUR: 'it returns false'. Refute it at one input. -/
def cmdPutsWrong : ChangeSpec := { name := "cmdPuts", fn := fun _ => fun
  | [d1, d2, d3, d4] => { results := [.lit (.bool false)], args := [d1, d2, d3, d4] }
  | _ => none }
def CmdPutsWrongFalsely : Prop := cmdPutsRow.holds Tryz.pinned (OpenSpec.ofChange cmdPutsWrong)

/- THE SECOND FORM. 'bulk': how many values and letters a reading holds, each counted each time it is reached (what is shared counts as often as it is met; a slice's spare places count too). A statement '..UptoSaid' is the law's where the arguments, and the package variables that the reading takes, are together of bulk at most 1048576: NARROWER than '..Said'. Prove '..Said' where nothing that the law and all that it calls make is longer than what came in: it says more and counts as full. Else prove '..UptoSaid'. A law counts once. -/
mutual
def uptoBulk {H : Type} : DataW H → Nat
  | .lit (.string bytes) => bytes.length + 1
  | .lit _ => 1
  | .nil => 1
  | .ptr d => uptoBulk d + 1
  | .slice elems spare => uptoBulkAll elems + uptoBulkAll spare + 1
  | .agg parts => uptoBulkAll parts + 1
  | .iface _ d => uptoBulk d + 1
  | .map entries => uptoBulkEntries entries + 1
  | .held _ => 1
def uptoBulkAll {H : Type} : List (DataW H) → Nat
  | [] => 0
  | d :: r => uptoBulk d + uptoBulkAll r
def uptoBulkEntries {H : Type} : List (Lit × DataW H) → Nat
  | [] => 0
  | x :: r => uptoBulkEntry x + uptoBulkEntries r
def uptoBulkEntry {H : Type} : Lit × DataW H → Nat
  | (.string bytes, d) => bytes.length + uptoBulk d + 1
  | (_, d) => uptoBulk d + 1
 end
def uptoSmall : (H : Type) → List (DataW H) → Bool := fun _ ds => decide (uptoBulkAll ds ≤ 1048576)
def OpenSpec.upto (s : _root_.Go.ChangeSpec) : _root_.Go.OpenSpec := { _root_.Go.OpenSpec.ofChange s with cond := some uptoSmall }

/-- 'decamplaw17.CmdRight', WHERE WHAT IT READS IS OF BULK AT MOST 1048576: true; the input reads as it did. -/
def cmdRightUptoRow : OpenClaim := { program := "ythafmmjfijpalaagreat", sum := "49f53502d9e0bd6905a824968036b375f4e7a92242c9a40637ea69ee0fe9673e", func := "decamp/decamplaw17.CmdRight", spec := "cmdRight", unfollowed := true, recurses := true, apart := false, narrowed := true }
def CmdRightUptoSaid : Prop := cmdRightUptoRow.holds Tryz.pinned (OpenSpec.upto cmdRightSpec)

/-- 'decamplaw17.CmdEncodes', WHERE WHAT IT READS IS OF BULK AT MOST 1048576: true; the input reads as it did. -/
def cmdEncodesUptoRow : OpenClaim := { program := "ythafmmjfijpalaagreat", sum := "49f53502d9e0bd6905a824968036b375f4e7a92242c9a40637ea69ee0fe9673e", func := "decamp/decamplaw17.CmdEncodes", spec := "cmdEncodes", unfollowed := true, recurses := true, apart := false, narrowed := true }
def CmdEncodesUptoSaid : Prop := cmdEncodesUptoRow.holds Tryz.pinned (OpenSpec.upto cmdEncodesSpec)

/-- 'decamplaw17.CmdDecodes', WHERE WHAT IT READS IS OF BULK AT MOST 1048576: true; the input reads as it did. -/
def cmdDecodesUptoRow : OpenClaim := { program := "ythafmmjfijpalaagreat", sum := "49f53502d9e0bd6905a824968036b375f4e7a92242c9a40637ea69ee0fe9673e", func := "decamp/decamplaw17.CmdDecodes", spec := "cmdDecodes", unfollowed := true, recurses := true, apart := false, narrowed := true }
def CmdDecodesUptoSaid : Prop := cmdDecodesUptoRow.holds Tryz.pinned (OpenSpec.upto cmdDecodesSpec)

/-- 'decamplaw17.CmdMeets', WHERE WHAT IT READS IS OF BULK AT MOST 1048576: true; the input reads as it did. -/
def cmdMeetsUptoRow : OpenClaim := { program := "ythafmmjfijpalaagreat", sum := "49f53502d9e0bd6905a824968036b375f4e7a92242c9a40637ea69ee0fe9673e", func := "decamp/decamplaw17.CmdMeets", spec := "cmdMeets", unfollowed := true, recurses := true, apart := false, narrowed := true }
def CmdMeetsUptoSaid : Prop := cmdMeetsUptoRow.holds Tryz.pinned (OpenSpec.upto cmdMeetsSpec)

/-- 'decamplaw17.CmdOthers', WHERE WHAT IT READS IS OF BULK AT MOST 1048576: true; the input reads as it did. -/
def cmdOthersUptoRow : OpenClaim := { program := "ythafmmjfijpalaagreat", sum := "49f53502d9e0bd6905a824968036b375f4e7a92242c9a40637ea69ee0fe9673e", func := "decamp/decamplaw17.CmdOthers", spec := "cmdOthers", unfollowed := true, recurses := true, apart := false, narrowed := true }
def CmdOthersUptoSaid : Prop := cmdOthersUptoRow.holds Tryz.pinned (OpenSpec.upto cmdOthersSpec)

/-- 'decamplaw17.CmdGets', WHERE WHAT IT READS IS OF BULK AT MOST 1048576: true; the input reads as it did. -/
def cmdGetsUptoRow : OpenClaim := { program := "ythafmmjfijpalaagreat", sum := "49f53502d9e0bd6905a824968036b375f4e7a92242c9a40637ea69ee0fe9673e", func := "decamp/decamplaw17.CmdGets", spec := "cmdGets", unfollowed := true, recurses := true, apart := false, narrowed := true }
def CmdGetsUptoSaid : Prop := cmdGetsUptoRow.holds Tryz.pinned (OpenSpec.upto cmdGetsSpec)

/-- 'decamplaw17.CmdPuts', WHERE WHAT IT READS IS OF BULK AT MOST 1048576: true; the input reads as it did. -/
def cmdPutsUptoRow : OpenClaim := { program := "ythafmmjfijpalaagreat", sum := "49f53502d9e0bd6905a824968036b375f4e7a92242c9a40637ea69ee0fe9673e", func := "decamp/decamplaw17.CmdPuts", spec := "cmdPuts", unfollowed := true, recurses := true, apart := false, narrowed := true }
def CmdPutsUptoSaid : Prop := cmdPutsUptoRow.holds Tryz.pinned (OpenSpec.upto cmdPutsSpec)

end Rows
end Go.Proofs.YthafmmjfijpalaaGreat
