/-
  No cell of these rows narrows 'for every input' (looked for: loops, veiled, ifaces, maps, wideKeys, modest, calm, conditions, laid).
  DERIVED. THE GIVEN ROWS OF THIS SEAT. 4 by the template 'for every input the law returns true; each argument reads behind the call as it read before'; 0 by the template 'total and deterministic' (their statements: YtmgniagajmfhaaaTotals.lean).
  GIVEN WITH THE SEED: the statements are not yours to turn. If you find one false, say at which input.
  Laid BY PROGRAM, IN A SANDBOX (cutbox-rows.mjs): the forced cells as the released guide's own fill.sh prints them over the translation 7b0ef7f4500a1c18… (all of the seat's roots in one cut). By AI agents, Wed Nov 11 2026. No macro, syntax, notation, axiom, sorry.
-/
import Derived.Test.YtmgniagajmfhaaaChecked
import GoSem.Claim
import GoSem.ClaimJoined
import GoSem.ClaimMapViews
import Derived.JoinedTies
import Derived.KernelRfl
namespace Go.Proofs.Ytmgniagajmfhaaa
/- THE CELL 'sum', in the pinned program and in every row, IS THE sha256 OF THE DUMP (.gsa) THAT YtmgniagajmfhaaaProg.lean LOADS. Nothing in Lean hashes anything: it is a label: what it is worth is what the hold of that sum in a sandbox is worth. -/
noncomputable def Try.pinned : Pinned := { name := "ytmgniagajmfhaaa", sum := "7b0ef7f4500a1c18ccfaeb055c70626965482939cf72f1997511c44ea0b258d6", checked := Try.checked }
namespace Rows
def none {H : Type} : Left H := { results := [], args := [] }

/-- 'decamplaw16.LeaseLives': WHATEVER THE INPUT: true; the input reads as it did. -/
def leaseLivesSpec : ChangeSpec := { name := "leaseLives", fn := fun _ => fun
  | [d1, d2, d3, d4, d5] => { results := [.lit (.bool true)], args := [d1, d2, d3, d4, d5] }
  | _ => none }
def leaseLivesRow : OpenClaim := { program := "ytmgniagajmfhaaa", sum := "7b0ef7f4500a1c18ccfaeb055c70626965482939cf72f1997511c44ea0b258d6", func := "decamp/decamplaw16.LeaseLives", spec := "leaseLives", unfollowed := true, recurses := true, apart := false }
def LeaseLivesSaid : Prop := leaseLivesRow.holds Try.pinned (OpenSpec.ofChange leaseLivesSpec)

/-- ITS FALSE NEIGHBOUR: 'it returns false'. Refute it at one input. -/
def leaseLivesWrong : ChangeSpec := { name := "leaseLives", fn := fun _ => fun
  | [d1, d2, d3, d4, d5] => { results := [.lit (.bool false)], args := [d1, d2, d3, d4, d5] }
  | _ => none }
def LeaseLivesWrongFalsely : Prop := leaseLivesRow.holds Try.pinned (OpenSpec.ofChange leaseLivesWrong)

/-- 'decamplaw16.LeasePlays': WHATEVER THE INPUT: true; the input reads as it did. -/
def leasePlaysSpec : ChangeSpec := { name := "leasePlays", fn := fun _ => fun
  | [d1, d2] => { results := [.lit (.bool true)], args := [d1, d2] }
  | _ => none }
def leasePlaysRow : OpenClaim := { program := "ytmgniagajmfhaaa", sum := "7b0ef7f4500a1c18ccfaeb055c70626965482939cf72f1997511c44ea0b258d6", func := "decamp/decamplaw16.LeasePlays", spec := "leasePlays", unfollowed := true, recurses := true, apart := false }
def LeasePlaysSaid : Prop := leasePlaysRow.holds Try.pinned (OpenSpec.ofChange leasePlaysSpec)

/-- ITS FALSE NEIGHBOUR: 'it returns false'. Refute it at one input. -/
def leasePlaysWrong : ChangeSpec := { name := "leasePlays", fn := fun _ => fun
  | [d1, d2] => { results := [.lit (.bool false)], args := [d1, d2] }
  | _ => none }
def LeasePlaysWrongFalsely : Prop := leasePlaysRow.holds Try.pinned (OpenSpec.ofChange leasePlaysWrong)

/-- 'decamplaw16.LeaseHolds': WHATEVER THE INPUT: true; the input reads as it did. -/
def leaseHoldsSpec : ChangeSpec := { name := "leaseHolds", fn := fun _ => fun
  | [d1, d2, d3] => { results := [.lit (.bool true)], args := [d1, d2, d3] }
  | _ => none }
def leaseHoldsRow : OpenClaim := { program := "ytmgniagajmfhaaa", sum := "7b0ef7f4500a1c18ccfaeb055c70626965482939cf72f1997511c44ea0b258d6", func := "decamp/decamplaw16.LeaseHolds", spec := "leaseHolds", unfollowed := true, recurses := true, apart := false }
def LeaseHoldsSaid : Prop := leaseHoldsRow.holds Try.pinned (OpenSpec.ofChange leaseHoldsSpec)

/-- ITS FALSE NEIGHBOUR: 'it returns false'. Refute it at one input. -/
def leaseHoldsWrong : ChangeSpec := { name := "leaseHolds", fn := fun _ => fun
  | [d1, d2, d3] => { results := [.lit (.bool false)], args := [d1, d2, d3] }
  | _ => none }
def LeaseHoldsWrongFalsely : Prop := leaseHoldsRow.holds Try.pinned (OpenSpec.ofChange leaseHoldsWrong)

/-- 'decamplaw16.LeaseOwn': WHATEVER THE INPUT: true; the input reads as it did. -/
def leaseOwnSpec : ChangeSpec := { name := "leaseOwn", fn := fun _ => fun
  | [d1, d2, d3] => { results := [.lit (.bool true)], args := [d1, d2, d3] }
  | _ => none }
def leaseOwnRow : OpenClaim := { program := "ytmgniagajmfhaaa", sum := "7b0ef7f4500a1c18ccfaeb055c70626965482939cf72f1997511c44ea0b258d6", func := "decamp/decamplaw16.LeaseOwn", spec := "leaseOwn", unfollowed := true, recurses := true, apart := false }
def LeaseOwnSaid : Prop := leaseOwnRow.holds Try.pinned (OpenSpec.ofChange leaseOwnSpec)

/-- ITS FALSE NEIGHBOUR: 'it returns false'. Refute it at one input. -/
def leaseOwnWrong : ChangeSpec := { name := "leaseOwn", fn := fun _ => fun
  | [d1, d2, d3] => { results := [.lit (.bool false)], args := [d1, d2, d3] }
  | _ => none }
def LeaseOwnWrongFalsely : Prop := leaseOwnRow.holds Try.pinned (OpenSpec.ofChange leaseOwnWrong)

/- THE SECOND FORM. 'bulk': how many values and letters a reading holds, each counted each time it is reached (what is shared counts as often as it is met; a slice's spare places count too). A statement '..UptoSaid' is the law's where the arguments, and the package variables that the reading takes, are together of bulk at most 1048576: NARROWER than '..Said'. Prove '..Said' where nothing that the law and all that it calls make is longer than what came in: it says more and counts as full. Else prove '..UptoSaid'. A law counts once. -/
mutual
def uptoBulk {H : Type} : DataW H → Nat
  | .lit (.string bytes) => bytes.length + 1
  | .lit _ => 1
  | .nil => 1
  | .ptr d => uptoBulk d + 1
  | .slice elems spare => uptoBulkAll elems + uptoBulkAll spare + 1
  | .agg parts => uptoBulkAll parts + 1
  | .iface _ d => uptoBulk d + 1
  | .map entries => uptoBulkEntries entries + 1
  | .held _ => 1
def uptoBulkAll {H : Type} : List (DataW H) → Nat
  | [] => 0
  | d :: r => uptoBulk d + uptoBulkAll r
def uptoBulkEntries {H : Type} : List (Lit × DataW H) → Nat
  | [] => 0
  | x :: r => uptoBulkEntry x + uptoBulkEntries r
def uptoBulkEntry {H : Type} : Lit × DataW H → Nat
  | (.string bytes, d) => bytes.length + uptoBulk d + 1
  | (_, d) => uptoBulk d + 1
 end
def uptoSmall : (H : Type) → List (DataW H) → Bool := fun _ ds => decide (uptoBulkAll ds ≤ 1048576)
def OpenSpec.upto (s : _root_.Go.ChangeSpec) : _root_.Go.OpenSpec := { _root_.Go.OpenSpec.ofChange s with cond := some uptoSmall }

/-- 'decamplaw16.LeaseLives', WHERE WHAT IT READS IS OF BULK AT MOST 1048576: true; the input reads as it did. -/
def leaseLivesUptoRow : OpenClaim := { program := "ytmgniagajmfhaaa", sum := "7b0ef7f4500a1c18ccfaeb055c70626965482939cf72f1997511c44ea0b258d6", func := "decamp/decamplaw16.LeaseLives", spec := "leaseLives", unfollowed := true, recurses := true, apart := false, narrowed := true }
def LeaseLivesUptoSaid : Prop := leaseLivesUptoRow.holds Try.pinned (OpenSpec.upto leaseLivesSpec)

/-- 'decamplaw16.LeasePlays', WHERE WHAT IT READS IS OF BULK AT MOST 1048576: true; the input reads as it did. -/
def leasePlaysUptoRow : OpenClaim := { program := "ytmgniagajmfhaaa", sum := "7b0ef7f4500a1c18ccfaeb055c70626965482939cf72f1997511c44ea0b258d6", func := "decamp/decamplaw16.LeasePlays", spec := "leasePlays", unfollowed := true, recurses := true, apart := false, narrowed := true }
def LeasePlaysUptoSaid : Prop := leasePlaysUptoRow.holds Try.pinned (OpenSpec.upto leasePlaysSpec)

/-- 'decamplaw16.LeaseHolds', WHERE WHAT IT READS IS OF BULK AT MOST 1048576: true; the input reads as it did. -/
def leaseHoldsUptoRow : OpenClaim := { program := "ytmgniagajmfhaaa", sum := "7b0ef7f4500a1c18ccfaeb055c70626965482939cf72f1997511c44ea0b258d6", func := "decamp/decamplaw16.LeaseHolds", spec := "leaseHolds", unfollowed := true, recurses := true, apart := false, narrowed := true }
def LeaseHoldsUptoSaid : Prop := leaseHoldsUptoRow.holds Try.pinned (OpenSpec.upto leaseHoldsSpec)

/-- 'decamplaw16.LeaseOwn', WHERE WHAT IT READS IS OF BULK AT MOST 1048576: true; the input reads as it did. -/
def leaseOwnUptoRow : OpenClaim := { program := "ytmgniagajmfhaaa", sum := "7b0ef7f4500a1c18ccfaeb055c70626965482939cf72f1997511c44ea0b258d6", func := "decamp/decamplaw16.LeaseOwn", spec := "leaseOwn", unfollowed := true, recurses := true, apart := false, narrowed := true }
def LeaseOwnUptoSaid : Prop := leaseOwnUptoRow.holds Try.pinned (OpenSpec.upto leaseOwnSpec)

end Rows
end Go.Proofs.Ytmgniagajmfhaaa
