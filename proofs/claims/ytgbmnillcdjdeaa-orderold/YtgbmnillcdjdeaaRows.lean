/-
  No cell of these rows narrows 'for every input' (looked for: loops, veiled, ifaces, maps, wideKeys, modest, calm, conditions, laid).
  DERIVED. THE GIVEN ROWS OF THIS SEAT. 6 by the template 'for every input the law returns true; each argument reads behind the call as it read before'; 0 by the template 'total and deterministic' (their statements: YtgbmnillcdjdeaaTotals.lean).
  GIVEN WITH THE SEED: the statements are not yours to turn. If you find one false, say at which input.
  Laid BY PROGRAM, IN A SANDBOX (cutbox-rows.mjs): the forced cells as the released guide's own fill.sh prints them over the translation 2c222bed4a579f7c… (all of the seat's roots in one cut). By AI agents, Wed Nov 11 2026. No macro, syntax, notation, axiom, sorry.
-/
import Derived.Test.YtgbmnillcdjdeaaChecked
import GoSem.Claim
import GoSem.ClaimJoined
import GoSem.ClaimMapViews
import Derived.JoinedTies
import Derived.KernelRfl
namespace Go.Proofs.Ytgbmnillcdjdeaa
/- THE CELL 'sum', in the pinned program and in every row, IS THE sha256 OF THE DUMP (.gsa) THAT YtgbmnillcdjdeaaProg.lean LOADS. Nothing in Lean hashes anything: it is a label: what it is worth is what the hold of that sum in a sandbox is worth. -/
noncomputable def Try.pinned : Pinned := { name := "ytgbmnillcdjdeaa", sum := "2c222bed4a579f7cc113ce6e5a756b226fc3c2cda86c0c73be75182825583be9", checked := Try.checked }
namespace Rows
def none {H : Type} : Left H := { results := [], args := [] }

/-- 'decamplaw01.OrderSame': WHATEVER THE INPUT: true; the input reads as it did. -/
def orderSameSpec : ChangeSpec := { name := "orderSame", fn := fun _ => fun
  | [d1, d2] => { results := [.lit (.bool true)], args := [d1, d2] }
  | _ => none }
def orderSameRow : OpenClaim := { program := "ytgbmnillcdjdeaa", sum := "2c222bed4a579f7cc113ce6e5a756b226fc3c2cda86c0c73be75182825583be9", func := "decamp/decamplaw01.OrderSame", spec := "orderSame", unfollowed := true, recurses := true, apart := false }
def OrderSameSaid : Prop := orderSameRow.holds Try.pinned (OpenSpec.ofChange orderSameSpec)

/-- ITS FALSE NEIGHBOUR: 'it returns false'. Refute it at one input. -/
def orderSameWrong : ChangeSpec := { name := "orderSame", fn := fun _ => fun
  | [d1, d2] => { results := [.lit (.bool false)], args := [d1, d2] }
  | _ => none }
def OrderSameWrongFalsely : Prop := orderSameRow.holds Try.pinned (OpenSpec.ofChange orderSameWrong)

/-- 'decamplaw01.OrderDeep': WHATEVER THE INPUT: true; the input reads as it did. -/
def orderDeepSpec : ChangeSpec := { name := "orderDeep", fn := fun _ => fun
  | [d1, d2, d3] => { results := [.lit (.bool true)], args := [d1, d2, d3] }
  | _ => none }
def orderDeepRow : OpenClaim := { program := "ytgbmnillcdjdeaa", sum := "2c222bed4a579f7cc113ce6e5a756b226fc3c2cda86c0c73be75182825583be9", func := "decamp/decamplaw01.OrderDeep", spec := "orderDeep", recurses := true, apart := false }
def OrderDeepSaid : Prop := orderDeepRow.holds Try.pinned (OpenSpec.ofChange orderDeepSpec)

/-- ITS FALSE NEIGHBOUR: 'it returns false'. Refute it at one input. -/
def orderDeepWrong : ChangeSpec := { name := "orderDeep", fn := fun _ => fun
  | [d1, d2, d3] => { results := [.lit (.bool false)], args := [d1, d2, d3] }
  | _ => none }
def OrderDeepWrongFalsely : Prop := orderDeepRow.holds Try.pinned (OpenSpec.ofChange orderDeepWrong)

/-- 'decamplaw01.OrderOld': WHATEVER THE INPUT: true; the input reads as it did. -/
def orderOldSpec : ChangeSpec := { name := "orderOld", fn := fun _ => fun
  | [d1, d2] => { results := [.lit (.bool true)], args := [d1, d2] }
  | _ => none }
def orderOldRow : OpenClaim := { program := "ytgbmnillcdjdeaa", sum := "2c222bed4a579f7cc113ce6e5a756b226fc3c2cda86c0c73be75182825583be9", func := "decamp/decamplaw01.OrderOld", spec := "orderOld", unfollowed := true, recurses := true, apart := false }
def OrderOldSaid : Prop := orderOldRow.holds Try.pinned (OpenSpec.ofChange orderOldSpec)

/-- ITS FALSE NEIGHBOUR: 'it returns false'. Refute it at one input. -/
def orderOldWrong : ChangeSpec := { name := "orderOld", fn := fun _ => fun
  | [d1, d2] => { results := [.lit (.bool false)], args := [d1, d2] }
  | _ => none }
def OrderOldWrongFalsely : Prop := orderOldRow.holds Try.pinned (OpenSpec.ofChange orderOldWrong)

/-- 'decamplaw01.OrderRanks': WHATEVER THE INPUT: true; the input reads as it did. -/
def orderRanksSpec : ChangeSpec := { name := "orderRanks", fn := fun _ => fun
  | [d1, d2, d3] => { results := [.lit (.bool true)], args := [d1, d2, d3] }
  | _ => none }
def orderRanksRow : OpenClaim := { program := "ytgbmnillcdjdeaa", sum := "2c222bed4a579f7cc113ce6e5a756b226fc3c2cda86c0c73be75182825583be9", func := "decamp/decamplaw01.OrderRanks", spec := "orderRanks", unfollowed := true, recurses := true, apart := false }
def OrderRanksSaid : Prop := orderRanksRow.holds Try.pinned (OpenSpec.ofChange orderRanksSpec)

/-- ITS FALSE NEIGHBOUR: 'it returns false'. Refute it at one input. -/
def orderRanksWrong : ChangeSpec := { name := "orderRanks", fn := fun _ => fun
  | [d1, d2, d3] => { results := [.lit (.bool false)], args := [d1, d2, d3] }
  | _ => none }
def OrderRanksWrongFalsely : Prop := orderRanksRow.holds Try.pinned (OpenSpec.ofChange orderRanksWrong)

/-- 'decamplaw01.OrderNumbers': WHATEVER THE INPUT: true; the input reads as it did. -/
def orderNumbersSpec : ChangeSpec := { name := "orderNumbers", fn := fun _ => fun
  | [d1, d2] => { results := [.lit (.bool true)], args := [d1, d2] }
  | _ => none }
def orderNumbersRow : OpenClaim := { program := "ytgbmnillcdjdeaa", sum := "2c222bed4a579f7cc113ce6e5a756b226fc3c2cda86c0c73be75182825583be9", func := "decamp/decamplaw01.OrderNumbers", spec := "orderNumbers", unfollowed := true, recurses := true, apart := false }
def OrderNumbersSaid : Prop := orderNumbersRow.holds Try.pinned (OpenSpec.ofChange orderNumbersSpec)

/-- ITS FALSE NEIGHBOUR: 'it returns false'. Refute it at one input. -/
def orderNumbersWrong : ChangeSpec := { name := "orderNumbers", fn := fun _ => fun
  | [d1, d2] => { results := [.lit (.bool false)], args := [d1, d2] }
  | _ => none }
def OrderNumbersWrongFalsely : Prop := orderNumbersRow.holds Try.pinned (OpenSpec.ofChange orderNumbersWrong)

/-- 'decamplaw01.OrderPlays': WHATEVER THE INPUT: true; the input reads as it did. -/
def orderPlaysSpec : ChangeSpec := { name := "orderPlays", fn := fun _ => fun
  | [d1, d2, d3, d4] => { results := [.lit (.bool true)], args := [d1, d2, d3, d4] }
  | _ => none }
def orderPlaysRow : OpenClaim := { program := "ytgbmnillcdjdeaa", sum := "2c222bed4a579f7cc113ce6e5a756b226fc3c2cda86c0c73be75182825583be9", func := "decamp/decamplaw01.OrderPlays", spec := "orderPlays", unfollowed := true, recurses := true, apart := false }
def OrderPlaysSaid : Prop := orderPlaysRow.holds Try.pinned (OpenSpec.ofChange orderPlaysSpec)

/-- ITS FALSE NEIGHBOUR: 'it returns false'. Refute it at one input. -/
def orderPlaysWrong : ChangeSpec := { name := "orderPlays", fn := fun _ => fun
  | [d1, d2, d3, d4] => { results := [.lit (.bool false)], args := [d1, d2, d3, d4] }
  | _ => none }
def OrderPlaysWrongFalsely : Prop := orderPlaysRow.holds Try.pinned (OpenSpec.ofChange orderPlaysWrong)

/- THE SECOND FORM. 'bulk': how many values and letters a reading holds, each counted each time it is reached (what is shared counts as often as it is met; a slice's spare places count too). A statement '..UptoSaid' is the law's where the arguments, and the package variables that the reading takes, are together of bulk at most 1048576: NARROWER than '..Said'. Prove '..Said' where nothing that the law and all that it calls make is longer than what came in: it says more and counts as full. Else prove '..UptoSaid'. A law counts once. -/
mutual
def uptoBulk {H : Type} : DataW H → Nat
  | .lit (.string bytes) => bytes.length + 1
  | .lit _ => 1
  | .nil => 1
  | .ptr d => uptoBulk d + 1
  | .slice elems spare => uptoBulkAll elems + uptoBulkAll spare + 1
  | .agg parts => uptoBulkAll parts + 1
  | .iface _ d => uptoBulk d + 1
  | .map entries => uptoBulkEntries entries + 1
  | .held _ => 1
def uptoBulkAll {H : Type} : List (DataW H) → Nat
  | [] => 0
  | d :: r => uptoBulk d + uptoBulkAll r
def uptoBulkEntries {H : Type} : List (Lit × DataW H) → Nat
  | [] => 0
  | x :: r => uptoBulkEntry x + uptoBulkEntries r
def uptoBulkEntry {H : Type} : Lit × DataW H → Nat
  | (.string bytes, d) => bytes.length + uptoBulk d + 1
  | (_, d) => uptoBulk d + 1
 end
def uptoSmall : (H : Type) → List (DataW H) → Bool := fun _ ds => decide (uptoBulkAll ds ≤ 1048576)
def OpenSpec.upto (s : _root_.Go.ChangeSpec) : _root_.Go.OpenSpec := { _root_.Go.OpenSpec.ofChange s with cond := some uptoSmall }

/-- 'decamplaw01.OrderSame', WHERE WHAT IT READS IS OF BULK AT MOST 1048576: true; the input reads as it did. -/
def orderSameUptoRow : OpenClaim := { program := "ytgbmnillcdjdeaa", sum := "2c222bed4a579f7cc113ce6e5a756b226fc3c2cda86c0c73be75182825583be9", func := "decamp/decamplaw01.OrderSame", spec := "orderSame", unfollowed := true, recurses := true, apart := false, narrowed := true }
def OrderSameUptoSaid : Prop := orderSameUptoRow.holds Try.pinned (OpenSpec.upto orderSameSpec)

/-- 'decamplaw01.OrderDeep', WHERE WHAT IT READS IS OF BULK AT MOST 1048576: true; the input reads as it did. -/
def orderDeepUptoRow : OpenClaim := { program := "ytgbmnillcdjdeaa", sum := "2c222bed4a579f7cc113ce6e5a756b226fc3c2cda86c0c73be75182825583be9", func := "decamp/decamplaw01.OrderDeep", spec := "orderDeep", recurses := true, apart := false, narrowed := true }
def OrderDeepUptoSaid : Prop := orderDeepUptoRow.holds Try.pinned (OpenSpec.upto orderDeepSpec)

/-- 'decamplaw01.OrderOld', WHERE WHAT IT READS IS OF BULK AT MOST 1048576: true; the input reads as it did. -/
def orderOldUptoRow : OpenClaim := { program := "ytgbmnillcdjdeaa", sum := "2c222bed4a579f7cc113ce6e5a756b226fc3c2cda86c0c73be75182825583be9", func := "decamp/decamplaw01.OrderOld", spec := "orderOld", unfollowed := true, recurses := true, apart := false, narrowed := true }
def OrderOldUptoSaid : Prop := orderOldUptoRow.holds Try.pinned (OpenSpec.upto orderOldSpec)

/-- 'decamplaw01.OrderRanks', WHERE WHAT IT READS IS OF BULK AT MOST 1048576: true; the input reads as it did. -/
def orderRanksUptoRow : OpenClaim := { program := "ytgbmnillcdjdeaa", sum := "2c222bed4a579f7cc113ce6e5a756b226fc3c2cda86c0c73be75182825583be9", func := "decamp/decamplaw01.OrderRanks", spec := "orderRanks", unfollowed := true, recurses := true, apart := false, narrowed := true }
def OrderRanksUptoSaid : Prop := orderRanksUptoRow.holds Try.pinned (OpenSpec.upto orderRanksSpec)

/-- 'decamplaw01.OrderNumbers', WHERE WHAT IT READS IS OF BULK AT MOST 1048576: true; the input reads as it did. -/
def orderNumbersUptoRow : OpenClaim := { program := "ytgbmnillcdjdeaa", sum := "2c222bed4a579f7cc113ce6e5a756b226fc3c2cda86c0c73be75182825583be9", func := "decamp/decamplaw01.OrderNumbers", spec := "orderNumbers", unfollowed := true, recurses := true, apart := false, narrowed := true }
def OrderNumbersUptoSaid : Prop := orderNumbersUptoRow.holds Try.pinned (OpenSpec.upto orderNumbersSpec)

/-- 'decamplaw01.OrderPlays', WHERE WHAT IT READS IS OF BULK AT MOST 1048576: true; the input reads as it did. -/
def orderPlaysUptoRow : OpenClaim := { program := "ytgbmnillcdjdeaa", sum := "2c222bed4a579f7cc113ce6e5a756b226fc3c2cda86c0c73be75182825583be9", func := "decamp/decamplaw01.OrderPlays", spec := "orderPlays", unfollowed := true, recurses := true, apart := false, narrowed := true }
def OrderPlaysUptoSaid : Prop := orderPlaysUptoRow.holds Try.pinned (OpenSpec.upto orderPlaysSpec)

end Rows
end Go.Proofs.Ytgbmnillcdjdeaa
