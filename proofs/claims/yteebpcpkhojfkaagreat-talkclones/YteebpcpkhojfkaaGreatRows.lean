/-
  No cell of these rows narrows 'for every input' (looked for: loops, veiled, ifaces, maps, wideKeys, modest, calm, conditions, laid).
  DERIVED. THE GIVEN ROWS OF THIS SEAT. 4 by the template 'for every input the law returns true; each argument reads behind the call as it read before'; 0 by the template 'total and deterministic' (their statements: YteebpcpkhojfkaaGreatTotals.lean).
  GIVEN WITH THE SEED: the statements are not yours to turn. If you find one false, say at which input.
  Laid BY PROGRAM, IN A SANDBOX (cutbox-rows.mjs): the forced cells as the released guide's own fill.sh prints them over the translation e78f6b01f2d3646c… (all of the seat's roots in one cut). By AI agents, Wed Nov 11 2026. No macro, syntax, notation, axiom, sorry.
-/
import Derived.Test.YteebpcpkhojfkaaGreatChecked
import GoSem.Claim
import GoSem.ClaimJoined
import GoSem.ClaimMapViews
import Derived.JoinedTies
import Derived.KernelRfl
namespace Go.Proofs.YteebpcpkhojfkaaGreat
/- THE CELL 'sum', in the pinned program and in every row, IS THE sha256 OF THE DUMP (.gsa) THAT YteebpcpkhojfkaaGreatProg.lean LOADS. Nothing in Lean hashes anything: it is a label: what it is worth is what the hold of that sum in a sandbox is worth. -/
noncomputable def Tryz.pinned : Pinned := { name := "yteebpcpkhojfkaagreat", sum := "e78f6b01f2d3646c911eec1a3f177300dcba37612070220c78364645992b7b63", checked := Tryz.checked }
namespace Rows
def none {H : Type} : Left H := { results := [], args := [] }

/-- 'decamplaw22.TalkEncodes': WHATEVER THE INPUT: true; the input reads as it did. -/
def talkEncodesSpec : ChangeSpec := { name := "talkEncodes", fn := fun _ => fun
  | [d] => { results := [.lit (.bool true)], args := [d] }
  | _ => none }
def talkEncodesRow : OpenClaim := { program := "yteebpcpkhojfkaagreat", sum := "e78f6b01f2d3646c911eec1a3f177300dcba37612070220c78364645992b7b63", func := "decamp/decamplaw22.TalkEncodes", spec := "talkEncodes", unfollowed := true, recurses := true, apart := false }
def TalkEncodesSaid : Prop := talkEncodesRow.holds Tryz.pinned (OpenSpec.ofChange talkEncodesSpec)

/-- ITS FALSE NEIGHBOUR: 'it returns false'. Refute it at one input. -/
def talkEncodesWrong : ChangeSpec := { name := "talkEncodes", fn := fun _ => fun
  | [d] => { results := [.lit (.bool false)], args := [d] }
  | _ => none }
def TalkEncodesWrongFalsely : Prop := talkEncodesRow.holds Tryz.pinned (OpenSpec.ofChange talkEncodesWrong)

/-- 'decamplaw22.TalkDecodes': WHATEVER THE INPUT: true; the input reads as it did. -/
def talkDecodesSpec : ChangeSpec := { name := "talkDecodes", fn := fun _ => fun
  | [d] => { results := [.lit (.bool true)], args := [d] }
  | _ => none }
def talkDecodesRow : OpenClaim := { program := "yteebpcpkhojfkaagreat", sum := "e78f6b01f2d3646c911eec1a3f177300dcba37612070220c78364645992b7b63", func := "decamp/decamplaw22.TalkDecodes", spec := "talkDecodes", unfollowed := true, recurses := true, apart := false }
def TalkDecodesSaid : Prop := talkDecodesRow.holds Tryz.pinned (OpenSpec.ofChange talkDecodesSpec)

/-- ITS FALSE NEIGHBOUR: 'it returns false'. Refute it at one input. -/
def talkDecodesWrong : ChangeSpec := { name := "talkDecodes", fn := fun _ => fun
  | [d] => { results := [.lit (.bool false)], args := [d] }
  | _ => none }
def TalkDecodesWrongFalsely : Prop := talkDecodesRow.holds Tryz.pinned (OpenSpec.ofChange talkDecodesWrong)

/-- 'decamplaw22.TalkRight': WHATEVER THE INPUT: true; the input reads as it did. -/
def talkRightSpec : ChangeSpec := { name := "talkRight", fn := fun _ => fun
  | [d1, d2, d3] => { results := [.lit (.bool true)], args := [d1, d2, d3] }
  | _ => none }
def talkRightRow : OpenClaim := { program := "yteebpcpkhojfkaagreat", sum := "e78f6b01f2d3646c911eec1a3f177300dcba37612070220c78364645992b7b63", func := "decamp/decamplaw22.TalkRight", spec := "talkRight", unfollowed := true, recurses := true, apart := false }
def TalkRightSaid : Prop := talkRightRow.holds Tryz.pinned (OpenSpec.ofChange talkRightSpec)

/-- ITS FALSE NEIGHBOUR: 'it returns false'. Refute it at one input. -/
def talkRightWrong : ChangeSpec := { name := "talkRight", fn := fun _ => fun
  | [d1, d2, d3] => { results := [.lit (.bool false)], args := [d1, d2, d3] }
  | _ => none }
def TalkRightWrongFalsely : Prop := talkRightRow.holds Tryz.pinned (OpenSpec.ofChange talkRightWrong)

/-- 'decamplaw22.TalkClones': WHATEVER THE INPUT: true; the input reads as it did. -/
def talkClonesSpec : ChangeSpec := { name := "talkClones", fn := fun _ => fun
  | [d] => { results := [.lit (.bool true)], args := [d] }
  | _ => none }
def talkClonesRow : OpenClaim := { program := "yteebpcpkhojfkaagreat", sum := "e78f6b01f2d3646c911eec1a3f177300dcba37612070220c78364645992b7b63", func := "decamp/decamplaw22.TalkClones", spec := "talkClones", unfollowed := true, recurses := true, apart := false }
def TalkClonesSaid : Prop := talkClonesRow.holds Tryz.pinned (OpenSpec.ofChange talkClonesSpec)

/-- ITS FALSE NEIGHBOUR: 'it returns false'. Refute it at one input. -/
def talkClonesWrong : ChangeSpec := { name := "talkClones", fn := fun _ => fun
  | [d] => { results := [.lit (.bool false)], args := [d] }
  | _ => none }
def TalkClonesWrongFalsely : Prop := talkClonesRow.holds Tryz.pinned (OpenSpec.ofChange talkClonesWrong)

/- THE SECOND FORM. 'bulk': how many values and letters a reading holds, each counted each time it is reached (what is shared counts as often as it is met; a slice's spare places count too). A statement '..UptoSaid' is the law's where the arguments, and the package variables that the reading takes, are together of bulk at most 1048576: NARROWER than '..Said'. Prove '..Said' where nothing that the law and all that it calls make is longer than what came in: it says more and counts as full. Else prove '..UptoSaid'. A law counts once. -/
mutual
def uptoBulk {H : Type} : DataW H → Nat
  | .lit (.string bytes) => bytes.length + 1
  | .lit _ => 1
  | .nil => 1
  | .ptr d => uptoBulk d + 1
  | .slice elems spare => uptoBulkAll elems + uptoBulkAll spare + 1
  | .agg parts => uptoBulkAll parts + 1
  | .iface _ d => uptoBulk d + 1
  | .map entries => uptoBulkEntries entries + 1
  | .held _ => 1
def uptoBulkAll {H : Type} : List (DataW H) → Nat
  | [] => 0
  | d :: r => uptoBulk d + uptoBulkAll r
def uptoBulkEntries {H : Type} : List (Lit × DataW H) → Nat
  | [] => 0
  | x :: r => uptoBulkEntry x + uptoBulkEntries r
def uptoBulkEntry {H : Type} : Lit × DataW H → Nat
  | (.string bytes, d) => bytes.length + uptoBulk d + 1
  | (_, d) => uptoBulk d + 1
 end
def uptoSmall : (H : Type) → List (DataW H) → Bool := fun _ ds => decide (uptoBulkAll ds ≤ 1048576)
def OpenSpec.upto (s : _root_.Go.ChangeSpec) : _root_.Go.OpenSpec := { _root_.Go.OpenSpec.ofChange s with cond := some uptoSmall }

/-- 'decamplaw22.TalkEncodes', WHERE WHAT IT READS IS OF BULK AT MOST 1048576: true; the input reads as it did. -/
def talkEncodesUptoRow : OpenClaim := { program := "yteebpcpkhojfkaagreat", sum := "e78f6b01f2d3646c911eec1a3f177300dcba37612070220c78364645992b7b63", func := "decamp/decamplaw22.TalkEncodes", spec := "talkEncodes", unfollowed := true, recurses := true, apart := false, narrowed := true }
def TalkEncodesUptoSaid : Prop := talkEncodesUptoRow.holds Tryz.pinned (OpenSpec.upto talkEncodesSpec)

/-- 'decamplaw22.TalkDecodes', WHERE WHAT IT READS IS OF BULK AT MOST 1048576: true; the input reads as it did. -/
def talkDecodesUptoRow : OpenClaim := { program := "yteebpcpkhojfkaagreat", sum := "e78f6b01f2d3646c911eec1a3f177300dcba37612070220c78364645992b7b63", func := "decamp/decamplaw22.TalkDecodes", spec := "talkDecodes", unfollowed := true, recurses := true, apart := false, narrowed := true }
def TalkDecodesUptoSaid : Prop := talkDecodesUptoRow.holds Tryz.pinned (OpenSpec.upto talkDecodesSpec)

/-- 'decamplaw22.TalkRight', WHERE WHAT IT READS IS OF BULK AT MOST 1048576: true; the input reads as it did. -/
def talkRightUptoRow : OpenClaim := { program := "yteebpcpkhojfkaagreat", sum := "e78f6b01f2d3646c911eec1a3f177300dcba37612070220c78364645992b7b63", func := "decamp/decamplaw22.TalkRight", spec := "talkRight", unfollowed := true, recurses := true, apart := false, narrowed := true }
def TalkRightUptoSaid : Prop := talkRightUptoRow.holds Tryz.pinned (OpenSpec.upto talkRightSpec)

/-- 'decamplaw22.TalkClones', WHERE WHAT IT READS IS OF BULK AT MOST 1048576: true; the input reads as it did. -/
def talkClonesUptoRow : OpenClaim := { program := "yteebpcpkhojfkaagreat", sum := "e78f6b01f2d3646c911eec1a3f177300dcba37612070220c78364645992b7b63", func := "decamp/decamplaw22.TalkClones", spec := "talkClones", unfollowed := true, recurses := true, apart := false, narrowed := true }
def TalkClonesUptoSaid : Prop := talkClonesUptoRow.holds Tryz.pinned (OpenSpec.upto talkClonesSpec)

end Rows
end Go.Proofs.YteebpcpkhojfkaaGreat
