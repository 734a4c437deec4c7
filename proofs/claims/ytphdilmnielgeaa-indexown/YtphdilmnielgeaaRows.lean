/-
  No cell of these rows narrows 'for every input' (looked for: loops, veiled, ifaces, maps, wideKeys, modest, calm, conditions, laid).
  DERIVED. THE GIVEN ROWS OF THIS SEAT. 10 by the template 'for every input the law returns true; each argument reads behind the call as it read before'; 0 by the template 'total and deterministic' (their statements: YtphdilmnielgeaaTotals.lean).
  GIVEN WITH THE SEED: the statements are not yours to turn. If you find one false, say at which input.
  Laid BY PROGRAM, IN A SANDBOX (cutbox-rows.mjs): the forced cells as the released guide's own fill.sh prints them over the translation 92a2d4cb7064f7f7… (all of the seat's roots in one cut). By AI agents, Wed Nov 11 2026. No macro, syntax, notation, axiom, sorry.
-/
import Derived.Test.YtphdilmnielgeaaChecked
import GoSem.Claim
import GoSem.ClaimJoined
import GoSem.ClaimMapViews
import Derived.JoinedTies
import Derived.KernelRfl
namespace Go.Proofs.Ytphdilmnielgeaa
/- THE CELL 'sum', in the pinned program and in every row, IS THE sha256 OF THE DUMP (.gsa) THAT YtphdilmnielgeaaProg.lean LOADS. Nothing in Lean hashes anything: it is a label: what it is worth is what the hold of that sum in a sandbox is worth. -/
noncomputable def Try.pinned : Pinned := { name := "ytphdilmnielgeaa", sum := "92a2d4cb7064f7f7d75eeb54ca87c3382ae390b50802dca506bb4edf1b15886f", checked := Try.checked }
namespace Rows
def none {H : Type} : Left H := { results := [], args := [] }

/-- 'decamplaw15.IndexKeys': WHATEVER THE INPUT: true; the input reads as it did. -/
def indexKeysSpec : ChangeSpec := { name := "indexKeys", fn := fun _ => fun
  | [d1, d2, d3] => { results := [.lit (.bool true)], args := [d1, d2, d3] }
  | _ => none }
def indexKeysRow : OpenClaim := { program := "ytphdilmnielgeaa", sum := "92a2d4cb7064f7f7d75eeb54ca87c3382ae390b50802dca506bb4edf1b15886f", func := "decamp/decamplaw15.IndexKeys", spec := "indexKeys", recurses := true, apart := false }
def IndexKeysSaid : Prop := indexKeysRow.holds Try.pinned (OpenSpec.ofChange indexKeysSpec)

/-- ITS FALSE NEIGHBOUR: 'it returns false'. Refute it at one input. -/
def indexKeysWrong : ChangeSpec := { name := "indexKeys", fn := fun _ => fun
  | [d1, d2, d3] => { results := [.lit (.bool false)], args := [d1, d2, d3] }
  | _ => none }
def IndexKeysWrongFalsely : Prop := indexKeysRow.holds Try.pinned (OpenSpec.ofChange indexKeysWrong)

/-- 'decamplaw15.IndexPlays': WHATEVER THE INPUT: true; the input reads as it did. -/
def indexPlaysSpec : ChangeSpec := { name := "indexPlays", fn := fun _ => fun
  | [d] => { results := [.lit (.bool true)], args := [d] }
  | _ => none }
def indexPlaysRow : OpenClaim := { program := "ytphdilmnielgeaa", sum := "92a2d4cb7064f7f7d75eeb54ca87c3382ae390b50802dca506bb4edf1b15886f", func := "decamp/decamplaw15.IndexPlays", spec := "indexPlays", unfollowed := true, recurses := true, apart := false }
def IndexPlaysSaid : Prop := indexPlaysRow.holds Try.pinned (OpenSpec.ofChange indexPlaysSpec)

/-- ITS FALSE NEIGHBOUR: 'it returns false'. Refute it at one input. -/
def indexPlaysWrong : ChangeSpec := { name := "indexPlays", fn := fun _ => fun
  | [d] => { results := [.lit (.bool false)], args := [d] }
  | _ => none }
def IndexPlaysWrongFalsely : Prop := indexPlaysRow.holds Try.pinned (OpenSpec.ofChange indexPlaysWrong)

/-- 'decamplaw15.IndexOwn': WHATEVER THE INPUT: true; the input reads as it did. -/
def indexOwnSpec : ChangeSpec := { name := "indexOwn", fn := fun _ => fun
  | [d1, d2] => { results := [.lit (.bool true)], args := [d1, d2] }
  | _ => none }
def indexOwnRow : OpenClaim := { program := "ytphdilmnielgeaa", sum := "92a2d4cb7064f7f7d75eeb54ca87c3382ae390b50802dca506bb4edf1b15886f", func := "decamp/decamplaw15.IndexOwn", spec := "indexOwn", unfollowed := true, recurses := true, apart := false }
def IndexOwnSaid : Prop := indexOwnRow.holds Try.pinned (OpenSpec.ofChange indexOwnSpec)

/-- ITS FALSE NEIGHBOUR: 'it returns false'. Refute it at one input. -/
def indexOwnWrong : ChangeSpec := { name := "indexOwn", fn := fun _ => fun
  | [d1, d2] => { results := [.lit (.bool false)], args := [d1, d2] }
  | _ => none }
def IndexOwnWrongFalsely : Prop := indexOwnRow.holds Try.pinned (OpenSpec.ofChange indexOwnWrong)

/-- 'decamplaw15.IndexLeased': WHATEVER THE INPUT: true; the input reads as it did. -/
def indexLeasedSpec : ChangeSpec := { name := "indexLeased", fn := fun _ => fun
  | [d1, d2] => { results := [.lit (.bool true)], args := [d1, d2] }
  | _ => none }
def indexLeasedRow : OpenClaim := { program := "ytphdilmnielgeaa", sum := "92a2d4cb7064f7f7d75eeb54ca87c3382ae390b50802dca506bb4edf1b15886f", func := "decamp/decamplaw15.IndexLeased", spec := "indexLeased", unfollowed := true, recurses := true, apart := false }
def IndexLeasedSaid : Prop := indexLeasedRow.holds Try.pinned (OpenSpec.ofChange indexLeasedSpec)

/-- ITS FALSE NEIGHBOUR: 'it returns false'. Refute it at one input. -/
def indexLeasedWrong : ChangeSpec := { name := "indexLeased", fn := fun _ => fun
  | [d1, d2] => { results := [.lit (.bool false)], args := [d1, d2] }
  | _ => none }
def IndexLeasedWrongFalsely : Prop := indexLeasedRow.holds Try.pinned (OpenSpec.ofChange indexLeasedWrong)

/-- 'decamplaw15.IndexPages': WHATEVER THE INPUT: true; the input reads as it did. -/
def indexPagesSpec : ChangeSpec := { name := "indexPages", fn := fun _ => fun
  | [d1, d2, d3, d4] => { results := [.lit (.bool true)], args := [d1, d2, d3, d4] }
  | _ => none }
def indexPagesRow : OpenClaim := { program := "ytphdilmnielgeaa", sum := "92a2d4cb7064f7f7d75eeb54ca87c3382ae390b50802dca506bb4edf1b15886f", func := "decamp/decamplaw15.IndexPages", spec := "indexPages", unfollowed := true, recurses := true, apart := false }
def IndexPagesSaid : Prop := indexPagesRow.holds Try.pinned (OpenSpec.ofChange indexPagesSpec)

/-- ITS FALSE NEIGHBOUR: 'it returns false'. Refute it at one input. -/
def indexPagesWrong : ChangeSpec := { name := "indexPages", fn := fun _ => fun
  | [d1, d2, d3, d4] => { results := [.lit (.bool false)], args := [d1, d2, d3, d4] }
  | _ => none }
def IndexPagesWrongFalsely : Prop := indexPagesRow.holds Try.pinned (OpenSpec.ofChange indexPagesWrong)

/-- 'decamplaw15.IndexReads': WHATEVER THE INPUT: true; the input reads as it did. -/
def indexReadsSpec : ChangeSpec := { name := "indexReads", fn := fun _ => fun
  | [d1, d2] => { results := [.lit (.bool true)], args := [d1, d2] }
  | _ => none }
def indexReadsRow : OpenClaim := { program := "ytphdilmnielgeaa", sum := "92a2d4cb7064f7f7d75eeb54ca87c3382ae390b50802dca506bb4edf1b15886f", func := "decamp/decamplaw15.IndexReads", spec := "indexReads", unfollowed := true, recurses := true, apart := false }
def IndexReadsSaid : Prop := indexReadsRow.holds Try.pinned (OpenSpec.ofChange indexReadsSpec)

/-- ITS FALSE NEIGHBOUR: 'it returns false'. Refute it at one input. -/
def indexReadsWrong : ChangeSpec := { name := "indexReads", fn := fun _ => fun
  | [d1, d2] => { results := [.lit (.bool false)], args := [d1, d2] }
  | _ => none }
def IndexReadsWrongFalsely : Prop := indexReadsRow.holds Try.pinned (OpenSpec.ofChange indexReadsWrong)

/-- 'decamplaw15.IndexTells': WHATEVER THE INPUT: true; the input reads as it did. -/
def indexTellsSpec : ChangeSpec := { name := "indexTells", fn := fun _ => fun
  | [d1, d2] => { results := [.lit (.bool true)], args := [d1, d2] }
  | _ => none }
def indexTellsRow : OpenClaim := { program := "ytphdilmnielgeaa", sum := "92a2d4cb7064f7f7d75eeb54ca87c3382ae390b50802dca506bb4edf1b15886f", func := "decamp/decamplaw15.IndexTells", spec := "indexTells", unfollowed := true, recurses := true, apart := false }
def IndexTellsSaid : Prop := indexTellsRow.holds Try.pinned (OpenSpec.ofChange indexTellsSpec)

/-- ITS FALSE NEIGHBOUR: 'it returns false'. Refute it at one input. -/
def indexTellsWrong : ChangeSpec := { name := "indexTells", fn := fun _ => fun
  | [d1, d2] => { results := [.lit (.bool false)], args := [d1, d2] }
  | _ => none }
def IndexTellsWrongFalsely : Prop := indexTellsRow.holds Try.pinned (OpenSpec.ofChange indexTellsWrong)

/-- 'decamplaw15.IndexReplays': WHATEVER THE INPUT: true; the input reads as it did. -/
def indexReplaysSpec : ChangeSpec := { name := "indexReplays", fn := fun _ => fun
  | [d1, d2, d3, d4] => { results := [.lit (.bool true)], args := [d1, d2, d3, d4] }
  | _ => none }
def indexReplaysRow : OpenClaim := { program := "ytphdilmnielgeaa", sum := "92a2d4cb7064f7f7d75eeb54ca87c3382ae390b50802dca506bb4edf1b15886f", func := "decamp/decamplaw15.IndexReplays", spec := "indexReplays", unfollowed := true, recurses := true, apart := false }
def IndexReplaysSaid : Prop := indexReplaysRow.holds Try.pinned (OpenSpec.ofChange indexReplaysSpec)

/-- ITS FALSE NEIGHBOUR: 'it returns false'. Refute it at one input. -/
def indexReplaysWrong : ChangeSpec := { name := "indexReplays", fn := fun _ => fun
  | [d1, d2, d3, d4] => { results := [.lit (.bool false)], args := [d1, d2, d3, d4] }
  | _ => none }
def IndexReplaysWrongFalsely : Prop := indexReplaysRow.holds Try.pinned (OpenSpec.ofChange indexReplaysWrong)

/-- 'decamplaw15.IndexTrims': WHATEVER THE INPUT: true; the input reads as it did. -/
def indexTrimsSpec : ChangeSpec := { name := "indexTrims", fn := fun _ => fun
  | [d1, d2, d3] => { results := [.lit (.bool true)], args := [d1, d2, d3] }
  | _ => none }
def indexTrimsRow : OpenClaim := { program := "ytphdilmnielgeaa", sum := "92a2d4cb7064f7f7d75eeb54ca87c3382ae390b50802dca506bb4edf1b15886f", func := "decamp/decamplaw15.IndexTrims", spec := "indexTrims", unfollowed := true, recurses := true, apart := false }
def IndexTrimsSaid : Prop := indexTrimsRow.holds Try.pinned (OpenSpec.ofChange indexTrimsSpec)

/-- ITS FALSE NEIGHBOUR: 'it returns false'. Refute it at one input. -/
def indexTrimsWrong : ChangeSpec := { name := "indexTrims", fn := fun _ => fun
  | [d1, d2, d3] => { results := [.lit (.bool false)], args := [d1, d2, d3] }
  | _ => none }
def IndexTrimsWrongFalsely : Prop := indexTrimsRow.holds Try.pinned (OpenSpec.ofChange indexTrimsWrong)

/-- 'decamplaw15.IndexDrops': WHATEVER THE INPUT: true; the input reads as it did. -/
def indexDropsSpec : ChangeSpec := { name := "indexDrops", fn := fun _ => fun
  | [d1, d2, d3, d4] => { results := [.lit (.bool true)], args := [d1, d2, d3, d4] }
  | _ => none }
def indexDropsRow : OpenClaim := { program := "ytphdilmnielgeaa", sum := "92a2d4cb7064f7f7d75eeb54ca87c3382ae390b50802dca506bb4edf1b15886f", func := "decamp/decamplaw15.IndexDrops", spec := "indexDrops", unfollowed := true, recurses := true, apart := false }
def IndexDropsSaid : Prop := indexDropsRow.holds Try.pinned (OpenSpec.ofChange indexDropsSpec)

/-- ITS FALSE NEIGHBOUR: 'it returns false'. Refute it at one input. -/
def indexDropsWrong : ChangeSpec := { name := "indexDrops", fn := fun _ => fun
  | [d1, d2, d3, d4] => { results := [.lit (.bool false)], args := [d1, d2, d3, d4] }
  | _ => none }
def IndexDropsWrongFalsely : Prop := indexDropsRow.holds Try.pinned (OpenSpec.ofChange indexDropsWrong)

/- THE SECOND FORM. 'bulk': how many values and letters a reading holds, each counted each time it is reached (what is shared counts as often as it is met; a slice's spare places count too). A statement '..UptoSaid' is the law's where the arguments, and the package variables that the reading takes, are together of bulk at most 1048576: NARROWER than '..Said'. Prove '..Said' where nothing that the law and all that it calls make is longer than what came in: it says more and counts as full. Else prove '..UptoSaid'. A law counts once. -/
mutual
def uptoBulk {H : Type} : DataW H → Nat
  | .lit (.string bytes) => bytes.length + 1
  | .lit _ => 1
  | .nil => 1
  | .ptr d => uptoBulk d + 1
  | .slice elems spare => uptoBulkAll elems + uptoBulkAll spare + 1
  | .agg parts => uptoBulkAll parts + 1
  | .iface _ d => uptoBulk d + 1
  | .map entries => uptoBulkEntries entries + 1
  | .held _ => 1
def uptoBulkAll {H : Type} : List (DataW H) → Nat
  | [] => 0
  | d :: r => uptoBulk d + uptoBulkAll r
def uptoBulkEntries {H : Type} : List (Lit × DataW H) → Nat
  | [] => 0
  | x :: r => uptoBulkEntry x + uptoBulkEntries r
def uptoBulkEntry {H : Type} : Lit × DataW H → Nat
  | (.string bytes, d) => bytes.length + uptoBulk d + 1
  | (_, d) => uptoBulk d + 1
 end
def uptoSmall : (H : Type) → List (DataW H) → Bool := fun _ ds => decide (uptoBulkAll ds ≤ 1048576)
def OpenSpec.upto (s : _root_.Go.ChangeSpec) : _root_.Go.OpenSpec := { _root_.Go.OpenSpec.ofChange s with cond := some uptoSmall }

/-- 'decamplaw15.IndexKeys', WHERE WHAT IT READS IS OF BULK AT MOST 1048576: true; the input reads as it did. -/
def indexKeysUptoRow : OpenClaim := { program := "ytphdilmnielgeaa", sum := "92a2d4cb7064f7f7d75eeb54ca87c3382ae390b50802dca506bb4edf1b15886f", func := "decamp/decamplaw15.IndexKeys", spec := "indexKeys", recurses := true, apart := false, narrowed := true }
def IndexKeysUptoSaid : Prop := indexKeysUptoRow.holds Try.pinned (OpenSpec.upto indexKeysSpec)

/-- 'decamplaw15.IndexPlays', WHERE WHAT IT READS IS OF BULK AT MOST 1048576: true; the input reads as it did. -/
def indexPlaysUptoRow : OpenClaim := { program := "ytphdilmnielgeaa", sum := "92a2d4cb7064f7f7d75eeb54ca87c3382ae390b50802dca506bb4edf1b15886f", func := "decamp/decamplaw15.IndexPlays", spec := "indexPlays", unfollowed := true, recurses := true, apart := false, narrowed := true }
def IndexPlaysUptoSaid : Prop := indexPlaysUptoRow.holds Try.pinned (OpenSpec.upto indexPlaysSpec)

/-- 'decamplaw15.IndexOwn', WHERE WHAT IT READS IS OF BULK AT MOST 1048576: true; the input reads as it did. -/
def indexOwnUptoRow : OpenClaim := { program := "ytphdilmnielgeaa", sum := "92a2d4cb7064f7f7d75eeb54ca87c3382ae390b50802dca506bb4edf1b15886f", func := "decamp/decamplaw15.IndexOwn", spec := "indexOwn", unfollowed := true, recurses := true, apart := false, narrowed := true }
def IndexOwnUptoSaid : Prop := indexOwnUptoRow.holds Try.pinned (OpenSpec.upto indexOwnSpec)

/-- 'decamplaw15.IndexLeased', WHERE WHAT IT READS IS OF BULK AT MOST 1048576: true; the input reads as it did. -/
def indexLeasedUptoRow : OpenClaim := { program := "ytphdilmnielgeaa", sum := "92a2d4cb7064f7f7d75eeb54ca87c3382ae390b50802dca506bb4edf1b15886f", func := "decamp/decamplaw15.IndexLeased", spec := "indexLeased", unfollowed := true, recurses := true, apart := false, narrowed := true }
def IndexLeasedUptoSaid : Prop := indexLeasedUptoRow.holds Try.pinned (OpenSpec.upto indexLeasedSpec)

/-- 'decamplaw15.IndexPages', WHERE WHAT IT READS IS OF BULK AT MOST 1048576: true; the input reads as it did. -/
def indexPagesUptoRow : OpenClaim := { program := "ytphdilmnielgeaa", sum := "92a2d4cb7064f7f7d75eeb54ca87c3382ae390b50802dca506bb4edf1b15886f", func := "decamp/decamplaw15.IndexPages", spec := "indexPages", unfollowed := true, recurses := true, apart := false, narrowed := true }
def IndexPagesUptoSaid : Prop := indexPagesUptoRow.holds Try.pinned (OpenSpec.upto indexPagesSpec)

/-- 'decamplaw15.IndexReads', WHERE WHAT IT READS IS OF BULK AT MOST 1048576: true; the input reads as it did. -/
def indexReadsUptoRow : OpenClaim := { program := "ytphdilmnielgeaa", sum := "92a2d4cb7064f7f7d75eeb54ca87c3382ae390b50802dca506bb4edf1b15886f", func := "decamp/decamplaw15.IndexReads", spec := "indexReads", unfollowed := true, recurses := true, apart := false, narrowed := true }
def IndexReadsUptoSaid : Prop := indexReadsUptoRow.holds Try.pinned (OpenSpec.upto indexReadsSpec)

/-- 'decamplaw15.IndexTells', WHERE WHAT IT READS IS OF BULK AT MOST 1048576: true; the input reads as it did. -/
def indexTellsUptoRow : OpenClaim := { program := "ytphdilmnielgeaa", sum := "92a2d4cb7064f7f7d75eeb54ca87c3382ae390b50802dca506bb4edf1b15886f", func := "decamp/decamplaw15.IndexTells", spec := "indexTells", unfollowed := true, recurses := true, apart := false, narrowed := true }
def IndexTellsUptoSaid : Prop := indexTellsUptoRow.holds Try.pinned (OpenSpec.upto indexTellsSpec)

/-- 'decamplaw15.IndexReplays', WHERE WHAT IT READS IS OF BULK AT MOST 1048576: true; the input reads as it did. -/
def indexReplaysUptoRow : OpenClaim := { program := "ytphdilmnielgeaa", sum := "92a2d4cb7064f7f7d75eeb54ca87c3382ae390b50802dca506bb4edf1b15886f", func := "decamp/decamplaw15.IndexReplays", spec := "indexReplays", unfollowed := true, recurses := true, apart := false, narrowed := true }
def IndexReplaysUptoSaid : Prop := indexReplaysUptoRow.holds Try.pinned (OpenSpec.upto indexReplaysSpec)

/-- 'decamplaw15.IndexTrims', WHERE WHAT IT READS IS OF BULK AT MOST 1048576: true; the input reads as it did. -/
def indexTrimsUptoRow : OpenClaim := { program := "ytphdilmnielgeaa", sum := "92a2d4cb7064f7f7d75eeb54ca87c3382ae390b50802dca506bb4edf1b15886f", func := "decamp/decamplaw15.IndexTrims", spec := "indexTrims", unfollowed := true, recurses := true, apart := false, narrowed := true }
def IndexTrimsUptoSaid : Prop := indexTrimsUptoRow.holds Try.pinned (OpenSpec.upto indexTrimsSpec)

/-- 'decamplaw15.IndexDrops', WHERE WHAT IT READS IS OF BULK AT MOST 1048576: true; the input reads as it did. -/
def indexDropsUptoRow : OpenClaim := { program := "ytphdilmnielgeaa", sum := "92a2d4cb7064f7f7d75eeb54ca87c3382ae390b50802dca506bb4edf1b15886f", func := "decamp/decamplaw15.IndexDrops", spec := "indexDrops", unfollowed := true, recurses := true, apart := false, narrowed := true }
def IndexDropsUptoSaid : Prop := indexDropsUptoRow.holds Try.pinned (OpenSpec.upto indexDropsSpec)

end Rows
end Go.Proofs.Ytphdilmnielgeaa
